/- Contracts of functions, for every argument that fits. -/
import Derived.Test.YtcmfnmceomhgcaaGreatC3
set_option linter.unusedSimpArgs false
set_option linter.unusedVariables false
open Go.Ab.AS renaming start→P',put→ZAm
open Go.IntKind renaming i64→Q_
open Int renaming reduceEq→zU,gcd→ZAd,lt_trichotomy→ZBn,lt_or_eq_of_le→ZB2,toNat_of_nonneg→ZB5,sub_self→ZCQ,ediv_eq_zero_of_lt→ZDj,mul_comm→ZEE
open List renaming replicate→ZAJ,drop_length→ZDA
open Nat renaming le_of_eq→ZCA,dvd_mul_right→ZCG,div_le_self→ZDU,Coprime→ZD1
open Rat renaming divInt→O_,num_divInt_den→ZCy,divInt_mul_divInt→ZDw
namespace Go.Ab.N
open Go Go.RowKit Go.Proofs
theorem ZAW:type_of%@Rat.not_lt:=@Rat.not_lt
theorem ZA2:type_of%@Bool.not_eq_true:=@Bool.not_eq_true
noncomputable section
set_option maxRecDepth 10000
set_option maxHeartbeats 2000000
open Classical
theorem qN (a b:Rat):ZAd ((O_ a.num b.den).num*(O_ b.num a.den).num) ((O_ a.num b.den).den*(O_ b.num a.den).den:Nat)=1 ∧
  O_ ((O_ a.num b.den).num*(O_ b.num a.den).num) ((O_ a.num b.den).den*(O_ b.num a.den).den:Nat)=a*b:=by
 have hda:(a.den:Int)≠0:=by have:=a.den_nz;omega
 have hdb:(b.den:Int)≠0:=by have:=b.den_nz;omega
 obtain⟨m,m0,m1,m2⟩:=DL a.num b.den hdb;obtain⟨n,n0,n1,n2⟩:=DL b.num a.den hda;have hx:=(O_ a.num b.den).reduced;have hy:=(O_ b.num a.den).reduced;have exy:O_ a.num b.den*O_ b.num a.den=a*b:=by
  rw[ZDw,Rat.mul_def',ZP];congr 1
  push_cast
  exact ZEE _ _
 obtain⟨x,ex⟩:∃x,x=O_ a.num b.den:=⟨_,rfl⟩
 obtain⟨y,ey⟩:∃y,y=O_ b.num a.den:=⟨_,rfl⟩
 rw[←ex]at hx m1 m2 exy ⊢;rw[←ey]at hy n1 n2 exy ⊢;have d1:x.num.natAbs∣a.num.natAbs:=by rw[m1,ZBg];exact ZCG _ _
 have d2:x.den∣b.den:=by
  have:(b.den:Int).natAbs=x.den*m.natAbs:=by rw[m2,ZBg,ZAb]
  rw[ZAb]at this;rw[this];exact ZCG _ _
 have d3:y.num.natAbs∣b.num.natAbs:=by rw[n1,ZBg];exact ZCG _ _
 have d4:y.den∣a.den:=by
  have:(a.den:Int).natAbs=y.den*n.natAbs:=by rw[n2,ZBg,ZAb]
  rw[ZAb]at this;rw[this];exact ZCG _ _
 have k1:ZD1 x.num.natAbs y.den:=(a.reduced.coprime_dvd_left d1).coprime_dvd_right d4;have k2:ZD1 y.num.natAbs x.den:=(b.reduced.coprime_dvd_left d3).coprime_dvd_right d2;refine⟨?_,?_⟩
 ·unfold ZAd
  rw[ZBg,ZAb];exact(hx.mul_right k1).mul_left (k2.mul_right hy)
 ·rw[←exy]
  conv=>rhs;rw[←ZCy x,←ZCy y]
  rw[ZDw]
  push_cast;rfl
theorem B5 (a b:Rat)(ha:qb a≤rm)(hb:qb b≤rm):Fn Tryz.prog 34 [qA a,qA b] (qA (a*b)):=by
 unfold rm at ha hb;have a1:=K0 a;have a2:=K8 a;have b1:=K0 b;have b2:=K8 b;obtain⟨R,hR⟩:∃R,R=qA (a*b):=⟨_,rfl⟩
 have sR:A_ R:=hR▸Xa _;have la:=Lz a;have lb:=Lz b;have na:=EH a;have nb:=EH b;have z0:a=0∨b=0→R=.agg [.bool false,X8 [],.bool false,X8 []]:=by
  intro h;rw[hR,←Ro];rcases h with rfl |rfl
  ·rw[Rat.zero_mul]
  ·rw[Rat.mul_zero]
 rw[←hR];by_cases ha0:a=0
 ·have g1:(a=0)=True:=K_ ha0
  refine Fq Tryz.call34 Tryz.func34 7 [] [5,60000002,60000003] [] (by simp[KJ,Xa,Xj]) (Xk ?_);simp(maxSteps:=999999)only[P',↓X6,wA,seval,zA,qA,qC,wN];simp only[la,lb,na,nb,g1,↓X6,wA,seval,zA,qA,qC,wN];exact Ql rfl XY rfl rfl rfl (z0 (.inl ha0)) sR ⟨X' _,QG _ _,X' _,QG _ _,trivial⟩
 have g1:(a=0)=False:=Q' ha0;by_cases hb0:b=0
 ·have g2:(b=0)=True:=K_ hb0
  refine Fq Tryz.call34 Tryz.func34 7 [] [5,60000002,60000003] [] (by simp[KJ,Xa,Xj]) (Xk ?_);simp(maxSteps:=999999)only[P',↓X6,wA,seval,zA,qA,qC,wN];simp only[la,lb,na,nb,g1,g2,↓X6,wA,seval,zA,qA,qC,wN];exact Ql rfl XY rfl rfl rfl (z0 (.inr hb0)) sR ⟨X' _,QG _ _,X' _,QG _ _,trivial⟩
 have g2:(b=0)=False:=Q' hb0;by_cases hi:a.den=1∧b.den=1
 ·have f1:(a.den=1)=True:=K_ hi.1
  have f2:(b.den=1)=True:=K_ hi.2;obtain⟨e1,e2⟩:=qM hi.1 hi.2;have hR':=hR.trans (N5 e2);rw[e1]at hR';refine Fq Tryz.call34 Tryz.func34 7 [] [5,60000002,60000003] [] (by simp[KJ,Xa,Xj]) (Xk ?_);simp(maxSteps:=999999)only[P',↓X6,wA,seval,zA,qA,qC,wN];simp only[la,lb,na,nb,g1,g2,f1,f2,↓X6,wA,seval,zA,qA,qC,wN];refine X2 (EG a.num b.num (by unfold room;omega) (by unfold room;omega)) rfl ?_;simp only[↓X6,wA,seval,zA,qA,qC,wN];exact Ql rfl XY rfl rfl rfl hR' sR ⟨X' _,X' _,X' _,QG _ _,trivial⟩
 obtain⟨e1,e2⟩:=qN a b;have q1:=Zk a.num b.den 100000000 (by omega) (by omega) (by omega);have q2:=Zk b.num a.den 100000000 (by omega) (by omega) (by omega);have cA:=DJ a;have cB:=DJ b;have c1:=Lt a.num b.den (by omega) (by omega);have c2:=Lt b.num a.den (by omega) (by omega);obtain⟨x,ex⟩:∃x,x=O_ a.num b.den:=⟨_,rfl⟩
 obtain⟨y,ey⟩:∃y,y=O_ b.num a.den:=⟨_,rfl⟩
 rw[←ex]at c1 q1 e1 e2;rw[←ey]at c2 q2 e1 e2;have x1:=K0 x;have x2:=K8 x;have y1:=K0 y;have y2:=K8 y;have c3:=EG x.num y.num (by unfold room;omega) (by unfold room;omega);have c4:=EG x.den y.den (by unfold room;omega) (by unfold room;omega);have hnn:(x.den:Int)*y.den≠0:=Int.mul_ne_zero (by have:=x.den_nz;omega) (by have:=y.den_nz;omega)
 push_cast at e1 e2
 have c5:=Fr (x.num*y.num) (x.den*y.den) hnn e1;rw[e2,←hR]at c5;have cX:=DJ x;have cY:=DJ y;by_cases f:a.den=1
 ·have f1:(a.den=1)=True:=K_ f
  have f2:(b.den=1)=False:=Q' fun e=>hi ⟨f,e⟩
  refine Fq Tryz.call34 Tryz.func34 7 [] [5,60000002,60000003] [] (by simp[KJ,Xa,Xj]) (Xk ?_);simp(maxSteps:=999999)only[P',↓X6,wA,seval,zA,qA,qC,wN];simp only[la,lb,na,nb,f1,f2,g1,g2,↓X6,wA,seval,zA,qA,qC,wN];refine X2 cB rfl ?_;simp only[↓X6,wA,seval,zA,qA,qC,wN];refine X2 c1 rfl ?_;simp only[↓X6,wA,seval,zA,qA,qC,wN];refine X2 cA rfl ?_;simp only[↓X6,wA,seval,zA,qA,qC,wN];refine X2 c2 rfl ?_;simp only[↓X6,wA,seval,zA,qA,qC,wN];refine X2 c3 rfl ?_;simp only[↓X6,wA,seval,zA,qA,qC,wN];refine X2 cX rfl ?_;simp only[↓X6,wA,seval,zA,qA,qC,wN];refine X2 cY rfl ?_;simp only[↓X6,wA,seval,zA,qA,qC,wN];refine X2 c4 rfl ?_;simp only[↓X6,wA,seval,zA,qA,qC,wN];refine X2 c5 rfl ?_;simp only[hR,↓X6,wA,seval,zA,qA,qC,wN];exact Jh rfl XY rfl rfl rfl sR (hR.trans rfl)
 ·have f1:(a.den=1)=False:=Q' f
  have f2:True=True:=rfl;refine Fq Tryz.call34 Tryz.func34 7 [] [5,60000002,60000003] [] (by simp[KJ,Xa,Xj]) (Xk ?_);simp(maxSteps:=999999)only[P',↓X6,wA,seval,zA,qA,qC,wN];simp only[la,lb,na,nb,f1,f2,g1,g2,↓X6,wA,seval,zA,qA,qC,wN];refine X2 cB rfl ?_;simp only[↓X6,wA,seval,zA,qA,qC,wN];refine X2 c1 rfl ?_;simp only[↓X6,wA,seval,zA,qA,qC,wN];refine X2 cA rfl ?_;simp only[↓X6,wA,seval,zA,qA,qC,wN];refine X2 c2 rfl ?_;simp only[↓X6,wA,seval,zA,qA,qC,wN];refine X2 c3 rfl ?_;simp only[↓X6,wA,seval,zA,qA,qC,wN];refine X2 cX rfl ?_;simp only[↓X6,wA,seval,zA,qA,qC,wN];refine X2 cY rfl ?_;simp only[↓X6,wA,seval,zA,qA,qC,wN];refine X2 c4 rfl ?_;simp only[↓X6,wA,seval,zA,qA,qC,wN];refine X2 c5 rfl ?_;simp only[hR,↓X6,wA,seval,zA,qA,qC,wN];exact Jh rfl XY rfl rfl rfl sR (hR.trans rfl)
theorem FC (a b:Rat)(ha:qb a≤rm)(hb:qb b≤rm):Fn Tryz.prog 147 [qA a,qA b] (qA (a-b)):=by
 obtain⟨R,hR⟩:∃R,R=qA (a-b):=⟨_,rfl⟩
 have sR:A_ R:=hR▸Xa _;have c:=C5 a (-b) ha (by rw[Cs];exact hb);rw[←Rat.sub_eq_add_neg,←hR]at c;rw[←hR];refine Fq Tryz.call147 Tryz.func147 5 [] [] [] (by simp[KJ,Xa,Xj]) (Xk ?_);simp(maxSteps:=999999)only[P',↓X6,wA,seval,zA,qA,qC,wN];refine X2 (Z6 b) rfl ?_;simp only[↓X6,wA,seval,zA,qA,qC,wN];refine X2 c rfl ?_;simp only[hR,↓X6,wA,seval,zA,qA,qC,wN];exact Jh rfl XY rfl rfl rfl sR (hR.trans rfl)
def AJ (a b:Rat):Int:=(a.num*b.den-b.num*a.den).sign
theorem U4 (n:Int)(d:Nat)(h:d≠0):(n*d).sign=n.sign:=by
 rw[Int.sign_mul,u_ (show(0:Int)<d by omega),Int.mul_one]
theorem VZ (a b:Rat)(h:a.num.sign≠b.num.sign∨a.num.sign=0):(a.num.sign-b.num.sign).sign=AJ a b:=by
 unfold AJ;have h1:=U4 a.num b.den b.den_nz;have h2:=U4 b.num a.den a.den_nz;generalize a.num*(b.den:Int)=x at *;generalize b.num*(a.den:Int)=y at *;rw[←h1,←h2]at h ⊢;rcases ZBn x 0 with hx |hx |hx <;> rcases ZBn y 0 with hy |hy |hy
 all_goals
  first
   |rw[n_ hx]at h ⊢
   |rw[u_ hx]at h ⊢
   |subst hx
  first
   |rw[n_ hy]at h ⊢
   |rw[u_ hy]at h ⊢
   |subst hy
 all_goals first
  | (exfalso;revert h;decide)
  |rfl
  | (symm;exact n_ (by omega))
  | (symm;exact u_ (by omega))
theorem CP (a b:Rat):AJ a b<0↔a<b:=by unfold AJ;rw[ZBI,Rat.lt_iff];omega
theorem Ap (a b:Rat):0<AJ a b↔b<a:=by unfold AJ;rw[Int.sign_pos_iff,Rat.lt_iff];omega
theorem KL (a b:Rat):AJ a b≤0↔a≤b:=by rw[←ZAW,←Ap];omega
theorem Hl (a b:Rat):0≤AJ a b↔b≤a:=by rw[←ZAW,←CP];omega
theorem J6 (a b:Rat)(ha:qb a≤rm)(hb:qb b≤rm):Fn Tryz.prog 41 [qA a,qA b] (I (AJ a b)):=by
 unfold rm at ha hb;have a1:=K0 a;have a2:=K8 a;have b1:=K0 b;have b2:=K8 b;have m1:=K5 a.num b.den;have m2:=K5 b.num a.den;have i64:∀n:Int,ZO n.sign:=fun n=>by
  rcases ZBn n 0 with h |h |h
  ·rw[n_ h];exact⟨by omega,by omega⟩
  ·rw[h];exact⟨by decide,by decide⟩
  ·rw[u_ h];exact⟨by omega,by omega⟩
 have bs:∀n:Int,bl n.sign<1000000000:=fun n=>by have:=ZZ (i64 n);omega
 obtain⟨V,hV⟩:∃V,V=AJ a b:=⟨_,rfl⟩
 rw[←hV];by_cases h:a.num.sign≠b.num.sign∨a.num.sign=0
 ·have c0:=IE a.num.sign b.num.sign (bs _) (bs _)
  rw[VZ a b h,←hV]at c0;by_cases h1:a.num.sign=b.num.sign
  ·have f1:(a.num.sign=b.num.sign)=True:=K_ h1
   have f2:(a.num.sign=0)=True:=K_ (h.resolve_left fun e=>e h1);have f2':(b.num.sign=0)=True:=K_ (h1▸of_eq_true f2);refine Fq Tryz.call41 Tryz.func41 7 [] [] [] (by simp[KJ,Xa,Xj]) (Xk ?_);simp(maxSteps:=999999)only[P',↓X6,wA,seval,zA,qA,qC,wN];refine X2 (Qv a) rfl ?_;simp only[↓X6,wA,seval,zA,qA,qC,wN];refine X2 (Qv b) rfl ?_;simp only[f1,f2,f2',↓X6,wA,seval,zA,qA,qC,wN];refine X2 (Gp _ (i64 a.num)) rfl ?_;simp only[↓X6,wA,seval,zA,qA,qC,wN];refine X2 (Gp _ (i64 b.num)) rfl ?_;simp only[↓X6,wA,seval,zA,qA,qC,wN];refine X2 c0 rfl ?_;simp only[↓X6,wA,seval,zA,qA,qC,wN];exact Xp rfl rfl (X9 _) rfl
  ·have f1:(a.num.sign=b.num.sign)=False:=Q' h1
   refine Fq Tryz.call41 Tryz.func41 7 [] [] [] (by simp[KJ,Xa,Xj]) (Xk ?_);simp(maxSteps:=999999)only[P',↓X6,wA,seval,zA,qA,qC,wN];refine X2 (Qv a) rfl ?_;simp only[↓X6,wA,seval,zA,qA,qC,wN];refine X2 (Qv b) rfl ?_;simp only[f1,↓X6,wA,seval,zA,qA,qC,wN];refine X2 (Gp _ (i64 a.num)) rfl ?_;simp only[↓X6,wA,seval,zA,qA,qC,wN];refine X2 (Gp _ (i64 b.num)) rfl ?_;simp only[↓X6,wA,seval,zA,qA,qC,wN];refine X2 c0 rfl ?_;simp only[↓X6,wA,seval,zA,qA,qC,wN];exact Xp rfl rfl (X9 _) rfl
 ·have h1:a.num.sign=b.num.sign:=X_ fun e=>h (.inl e)
  have h2:¬a.num.sign=0:=fun e=>h (.inr e)
  have f1:(a.num.sign=b.num.sign)=True:=K_ h1;have f2:(a.num.sign=0)=False:=Q' h2;have c0:=IE (a.num*b.den) (b.num*a.den) (by omega) (by omega);rw[show(a.num*b.den-b.num*a.den).sign=V from hV.symm]at c0;refine Fq Tryz.call41 Tryz.func41 7 [] [] [] (by simp[KJ,Xa,Xj]) (Xk ?_);simp(maxSteps:=999999)only[P',↓X6,wA,seval,zA,qA,qC,wN];refine X2 (Qv a) rfl ?_;simp only[↓X6,wA,seval,zA,qA,qC,wN];refine X2 (Qv b) rfl ?_;simp only[f1,f2,↓X6,wA,seval,zA,qA,qC,wN];refine X2 (DJ b) rfl ?_;simp only[↓X6,wA,seval,zA,qA,qC,wN];refine X2 (EG a.num b.den (by unfold room;omega) (by unfold room;omega)) rfl ?_;simp only[↓X6,wA,seval,zA,qA,qC,wN];refine X2 (DJ a) rfl ?_;simp only[↓X6,wA,seval,zA,qA,qC,wN];refine X2 (EG b.num a.den (by unfold room;omega) (by unfold room;omega)) rfl ?_;simp only[↓X6,wA,seval,zA,qA,qC,wN];refine X2 c0 rfl ?_;simp only[↓X6,wA,seval,zA,qA,qC,wN];exact Xp rfl rfl (X9 _) rfl
theorem cN (a b:List Int)(la:a.length<4611686018427387904)(lb:b.length<4611686018427387904):Fn Tryz.prog 108 [X8 a,X8 b] (.bool (decide (a=b))):=by
 obtain⟨V,hV⟩:∃V,V=decide (a=b):=⟨_,rfl⟩
 rw[←hV];refine Fq Tryz.call108 Tryz.func108 6 [11,12,13] [] [] (by simp[Xc]) (Xk ?_);by_cases hl:a.length=b.length
 ·have f1:((a.length:Int)=b.length)=True:=K_ (by omega)
  have f1':(a.length=b.length)=True:=K_ hl;simp only[P',f1,f1',↓X6,wA,seval,zA,qA,qC,wN];refine Xi (fun j:Nat=>⟨6,[11,12,13],[X8 a,X8 b,.any,.any,.any,.any],[(11,X8 a),(12,I a.length),(13,I j)],[]⟩) (fun j=>j≤a.length∧∀i,i<j→a.getD i 0=b.getD i 0) (fun j=>a.length-j) 0 ⟨by omega,by omega⟩
   (Xh rfl (by simp[Xm,X8,QE,I,hl]) (by simp[Xu,XJ,X8,QE,I,hl]) rfl) ?_
  rintro j ⟨hj,hno⟩ next
  have w1:=wj j (by omega);by_cases hj2:j<a.length
  ·have f2:((j:Int)<a.length)=True:=K_ (by omega)
   have f3:(j<a.length)=True:=K_ hj2;have f4:(j<b.length)=True:=K_ (by omega);refine Xk ?_;simp only[w1,f2,f3,f4,↓X6,wA,seval,zA,qA,qC,wN];refine⟨fun h=>Xp (v:=.bool false) rfl rfl (X5 _) ?_,fun h=>next (j+1) _ ⟨by omega,fun i hi=>?_⟩ (by omega) (Xh rfl (by simp[Xm,X8,QE,I]) (by simp[Xu,XJ,X8,QE,I]) rfl)⟩
   ·rw[hV,Y_ fun e=>h (by rw[e])]
   ·by_cases e:i=j
    ·rw[e];exact h
    ·exact hno i (by omega)
  ·have f2:((j:Int)<a.length)=False:=Q' (by omega)
   have f3:(j<a.length)=False:=Q' hj2;refine Xk ?_;simp only[w1,f2,f3,↓X6,wA,seval,zA,qA,qC,wN];refine Xp (v:=.bool true) rfl rfl (X5 _) ?_;rw[hV,Y'];refine ZBe hl fun i h1 h2=>?_
   have:=hno i (by omega);rw[K',U_ h1,K',U_ h2]at this;exact this
 ·have f1:((a.length:Int)=b.length)=False:=Q' (by omega)
  have f1':(a.length=b.length)=False:=Q' hl;simp only[P',f1,f1',↓X6,wA,seval,zA,qA,qC,wN];refine Xp (v:=.bool false) rfl rfl (X5 _) ?_;rw[hV,Y_ fun e=>hl (by rw[e])]
structure RQ where
 pn:Bool
 pd:List Int
 qn:Bool
 qd:List Int
def RQ.L (x:RQ):List AV:=[.bool x.pn,X8 x.pd,.bool x.qn,X8 x.qd]
def RQ.A (x:RQ):AV:=.agg x.L
theorem Cy (x:RQ):A_ x.A:=QD (by simp[RQ.L,Xc,X5])
def RQ.of (r:Rat):RQ:=⟨decide (r.num<0),Xb r.num.natAbs,false,Xb (Ab.N.qd r)⟩
def RQ.sz (x:RQ):Nat:=max x.pd.length x.qd.length
theorem RQ.TBV (r:Rat):(RQ.of r).sz≤qb r:=by
 unfold RQ.sz RQ.of qb;simp only;have h1:bl r.num=(Xb r.num.natAbs).length:=rfl;have h2:(Xb (Ab.N.qd r)).length≤bl r.den:=by
  unfold Ab.N.qd;by_cases h:r.den=1
  ·rw[N_ h,Qu];simp
  ·rw[M_ h,KC];exact N' _
 omega
theorem GM {m n:Nat}(h:Xb m=Xb n):m=n:=by
 have h1:=XG m;rw[h,XG]at h1;omega
theorem RQ.TCh {a b:Rat}(h:RQ.of a=RQ.of b):a=b:=by
 unfold RQ.of at h
 injection h with h1 h2 h3 h4
 have h2:=GM h2;have h4:=GM h4;refine Rat.ext ?_ ?_
 ·have:(a.num<0)↔(b.num<0):=decide_eq_decide.1 h1
  omega
 ·unfold Ab.N.qd at h4
  have:=a.den_nz;have:=b.den_nz
  split at h4 <;> split at h4 <;> omega
theorem TR (n1 n2:Bool)(d1 d2:List Int)(l1:d1.length<4611686018427387904)(l2:d2.length<4611686018427387904):Fn Tryz.prog 107 [zR n1 d1,zR n2 d2] (.bool (decide (n1=n2) && decide (d1=d2))):=by
 have c:=cN d1 d2 l1 l2;obtain⟨V,hV⟩:∃V,V=(decide (n1=n2) && decide (d1=d2)):=⟨_,rfl⟩
 rw[←hV];refine Fq Tryz.call107 Tryz.func107 5 [] [] [] (by simp[Xj]) (Xk ?_);simp only[P',zR,↓X6,wA,seval,zA,qA,qC,wN];refine Qs (fun h=>?_) (fun h=>Xp (v:=.bool false) rfl rfl (X5 _) ?_)
 ·refine X2 c rfl ?_
  simp only[↓X6,wA,seval,zA,qA,qC,wN];refine Xp (v:=.bool (decide (d1=d2))) rfl rfl (X5 _) ?_;rw[hV,Y' (show n1=n2 by simpa using h),ZBF]
 ·rw[hV,Y_ (show ¬n1=n2 by simpa using h),Bool.false_and]
theorem RQ.eq_iff (x y:RQ):x=y↔(x.pn=y.pn∧x.pd=y.pd)∧x.qn=y.qn∧x.qd=y.qd:=by
 cases x;cases y;simp[and_assoc]
theorem mu (x y:RQ)(hx:x.sz<4611686018427387904)(hy:y.sz<4611686018427387904):Fn Tryz.prog 39 [x.A,y.A] (.bool (decide (x=y))):=by
 have c1:=TR x.pn y.pn x.pd y.pd (by unfold RQ.sz at hx;omega) (by unfold RQ.sz at hy;omega);have c2:=TR x.qn y.qn x.qd y.qd (by unfold RQ.sz at hx;omega) (by unfold RQ.sz at hy;omega);obtain⟨V,hV⟩:∃V,V=decide (x=y):=⟨_,rfl⟩
 rw[←hV];have e:=RQ.eq_iff x y;obtain⟨B1,hB1⟩:∃B,B=(decide (x.pn=y.pn) && decide (x.pd=y.pd)):=⟨_,rfl⟩
 obtain⟨B2,hB2⟩:∃B,B=(decide (x.qn=y.qn) && decide (x.qd=y.qd)):=⟨_,rfl⟩
 rw[←hB1]at c1;rw[←hB2]at c2;have hVB:V=(B1 && B2):=by
  rw[hV,hB1,hB2];simp only[e,Bool.decide_and]
 refine Fq Tryz.call39 Tryz.func39 6 [] [] [] (by simp[Cy]) (Xk ?_);simp only[P',RQ.A,RQ.L,↓X6,wA,seval,zA,qA,qC,wN];refine X2 c1 rfl ?_;cases B1
 ·simp only[↓X6,wA,seval,zA,qA,qC,wN]
  exact Xp (v:=.bool false) rfl rfl (X5 _) (by rw[hVB];rfl)
 ·simp only[↓X6,wA,seval,zA,qA,qC,wN]
  refine X2 c2 rfl ?_;simp only[↓X6,wA,seval,zA,qA,qC,wN];exact Xp (v:=.bool B2) rfl rfl (X5 _) (by rw[hVB];rfl)
def RQ.ok (x:RQ):Prop:=∃r:Rat,x=RQ.of r
theorem RQ.TCB (x:RQ)(p q:Int)(hp:x.pn=decide (p<0)) (hpd:x.pd=Xb p.natAbs) (hq:x.qn=decide (q<0)) (hqd:x.qd=Xb q.natAbs):x.ok↔¬q<0∧¬q=1∧(q=0∨ZAd p q=1):=by
 constructor
 ·rintro⟨r,rfl⟩
  unfold RQ.of at hp hpd hq hqd;simp only at hp hpd hq hqd;have h1:r.num.natAbs=p.natAbs:=GM hpd;have h2:=GM hqd;have h3:r.num<0↔p<0:=decide_eq_decide.1 hp;have hpr:p=r.num:=by omega
  have hq0:¬q<0:=by simpa using hq.symm
  have hd:=r.den_nz;unfold Ab.N.qd at h2;by_cases h:r.den=1
  ·rw[N_ h]at h2
   exact⟨hq0,by omega,.inl (by omega)⟩
  ·rw[M_ h]at h2
   refine⟨hq0,by omega,.inr ?_⟩;have:q=(r.den:Int):=by omega
   rw[hpr,this];exact r.reduced
 ·rintro⟨h1,h2,h3⟩
  by_cases h0:q=0
  ·refine⟨(p:Rat),?_⟩
   cases x;unfold RQ.of Ab.N.qd;simp only at hp hpd hq hqd;rw[hp,hpd,hq,hqd,h0];simp;exact decide_eq_decide.2 ZCj
  ·have hg:=h3.resolve_left h0
   have hn:ZD1 p.natAbs q.natAbs:=hg;refine⟨⟨p,q.natAbs,by omega,hn⟩,?_⟩;cases x;unfold RQ.of Ab.N.qd;simp only at hp hpd hq hqd ⊢;rw[M_ (by omega),hp,hpd,hq,hqd,Y_ h1]
theorem FE (x:RQ)(hx:x.sz<1000000000):Fn Tryz.prog 141 [x.A] (.bool (decide x.ok)):=by
 unfold RQ.sz at hx;obtain⟨V,hV⟩:∃V,V=decide x.ok:=⟨_,rfl⟩
 have c1:=OK x.pn x.pd (by omega);have c2:=OK x.qn x.qd (by omega);have c3:=au x.qn x.qd;have TEB:KQ x.pn x.pd=false→V=false:=fun h=>by
  rw[hV];refine Y_ ?_;rintro⟨r,rfl⟩;have:KQ (RQ.of r).pn (RQ.of r).pd=true:=(ZI _ _).2 ⟨r.num,rfl,rfl⟩;rw[this]at h;cases h
 have TEC:KQ x.qn x.qd=false→V=false:=fun h=>by
  rw[hV];refine Y_ ?_;rintro⟨r,rfl⟩;have:KQ (RQ.of r).qn (RQ.of r).qd=true:=(ZI _ _).2 ⟨(Ab.N.qd r:Int),by unfold RQ.of;simp,by unfold RQ.of;simp⟩;rw[this]at h;cases h
 have fin:∀ {s:AS} {v:Bool},s.get 2=.bool v→v=V→TAC (JK Tryz.prog Tryz.f141 [] [] (.bool V)) s:=fun h e=>Xp rfl h (X5 _) (by rw[e])
 rw[←hV];refine Fq Tryz.call141 Tryz.func141 3 [] [] [] (by simp[Cy]) (Xk ?_);simp only[P',RQ.A,RQ.L,↓X6,wA,seval,zA,qA,qC,wN];refine X2 c1 rfl ?_;by_cases v1:KQ x.pn x.pd=true
 rotate_left
 ·rw[ZA2]at v1
  rw[v1];simp only[↓X6,wA,seval,zA,qA,qC,wN];exact fin rfl (TEB v1).symm
 rw[v1];simp only[↓X6,wA,seval,zA,qA,qC,wN];refine X2 c2 rfl ?_;by_cases v2:KQ x.qn x.qd=true
 rotate_left
 ·rw[ZA2]at v2
  rw[v2];simp only[↓X6,wA,seval,zA,qA,qC,wN];exact fin rfl (TEC v2).symm
 rw[v2];obtain⟨p,p1,p2⟩:=(ZI _ _).1 v1;obtain⟨q,q1,q2⟩:=(ZI _ _).1 v2;have hok:=RQ.TCB x p q p1 p2 q1 q2;have lp:bl p<1000000000:=by unfold bl;rw[←p2];omega
 have lq:bl q<1000000000:=by unfold bl;rw[←q2];omega
 rw[q1,q2,RA]at c3;have cg:=kw p q lp lq;have cu:=HH (ZAd p q);rw[p1,p2,q1,q2];have hl:((Xb q.natAbs).length=0)=(q=0):=propext (TAA.trans (by omega));have hlN:(Xb q.natAbs).length=0↔q=0:=TAA.trans (by omega);have hlI:(((Xb q.natAbs).length:Int)=0)=(q=0):=propext (by omega);by_cases h1:q<0
 ·have f1:(q<0)=True:=K_ h1
  simp only[f1,↓X6,wA,seval,zA,qA,qC,wN];exact fin rfl (by rw[hV,Y_ (by rw[hok];exact fun h=>h.1 h1)])
 have f1:(q<0)=False:=Q' h1;simp only[f1,↓X6,wA,seval,zA,qA,qC,wN];have c3':=c3;rw[Y_ h1]at c3';refine X2 c3' rfl ?_;by_cases h2:q=1
 ·have f2:(q=1)=True:=K_ h2
  simp only[f1,f2,↓X6,wA,seval,zA,qA,qC,wN];exact fin rfl (by rw[hV,Y_ (by rw[hok];exact fun h=>h.2.1 h2)])
 have f2:(q=1)=False:=Q' h2;by_cases h0:q=0
 ·have f3:(q=0)=True:=K_ h0
  simp only[f1,f2,f3,hl,hlI,↓X6,wA,seval,zA,qA,qC,wN];exact fin rfl (by rw[hV,Y' (hok.2 ⟨h1,h2,.inl h0⟩)])
 have f3:(q=0)=False:=Q' h0;simp only[f1,f2,f3,hl,hlI,↓X6,wA,seval,zA,qA,qC,wN];rw[az h1]at cg;refine X2 cg rfl ?_;simp only[↓X6,wA,seval,zA,qA,qC,wN];refine X2 cu rfl ?_;simp only[↓X6,wA,seval,zA,qA,qC,wN];refine fin rfl ?_;rw[hV,decide_eq_decide,hok];constructor
 ·intro h;exact⟨h1,h2,.inr (by omega)⟩
 ·rintro⟨_,_,h |h⟩
  ·exact absurd h h0
  ·rw[h];rfl
theorem dX (neg:Bool)(d:List Int)(hl:d.length<4611686018427387904):Fn Tryz.prog 156 [.bool neg,X8 d] (lF neg d):=by
 refine Fq Tryz.call156 Tryz.func156 6 [] [] [] (by simp[KJ,Xa,Xj]) (Xk ?_);simp(maxSteps:=999999)only[P',↓X6,wA,seval,zA,qA,qC,wN];refine Xi (fun n:Nat=>⟨6,[],[.bool neg,X8 d,.any,.any,.ref 0 0 0,I n],[],[.row 0 2 (Xf [.bool false,.sl 0 0 (fun _=>.any) true])]⟩) (fun n=>n≤d.length∧Ba d d.length=Ba d n) (fun n=>n) d.length ⟨by omega,rfl⟩
  (ZS (by simp[zA,qA,qC,wN,Xm,X8,Dm,CH,QE,I]) rfl) ?_
 rintro n ⟨hn,ht⟩ next
 cases n with
 |zero =>
  refine Xk ?_;simp only[ZAE,↓X6,wA,seval,zA,qA,qC,wN];refine Hr (v:=.agg [.bool false,.sl 0 0 (fun _=>.any) false]) rfl (by simp[AS.get,Qx,Q8,rd,QJ,Xf,EJ]) ?_;have e:lF neg d=.agg [.bool false,X8 []]:=by unfold lF;rw[ht];simp[Ba]
  rw[e];exact Du ⟨XU (X5 _) rfl,Xw (Xc _) (QG _ _),trivial⟩
 |succ n =>
  have e0:(0<((n+1:Nat):Int))=True:=K_ (by omega);have e1:(((n+1:Nat):Int)=0)=False:=Q' (by omega);have w1:Q_.wrap (((n+1:Nat):Int)-1)=(n:Int):=by rw[M'];omega
  have w2:((n:Int)<0)=False:=Q' (by omega);have e2:(n<d.length)=True:=K_ (by omega);refine Xk ?_;simp only[e0,e1,e2,w1,w2,↓X6,wA,seval,zA,qA,qC,wN];refine⟨fun h0=>next n _ ⟨by omega,by rw[ht];simp only[Ba];rw[N_ h0]⟩ (by omega) (ZS (by simp[zA,qA,qC,wN,Xm,X8,Dm,CH,QE,I]) rfl),fun h0=>⟨by omega,?_⟩⟩;have ht2:Ba d d.length=n+1:=by rw[ht];simp only[Ba];rw[M_ h0]
  have e:lF neg d=.agg [.bool neg,X8 (d.take (n+1))]:=by unfold lF;rw[ht2];simp
  have hlen:(d.take (n+1)).length=n+1:=by rw[o_];omega
  rw[e];refine Ql rfl Q8 rfl rfl rfl rfl (QD (by simp[Xc,X5])) ⟨X' _,HL _ ?_ ?_ fun j hj=>?_,trivial⟩
  ·rw[hlen];omega
  ·rw[hlen];omega
  ·rw[hlen]at hj
   rw[Ca d 0 j (n+1) hj];rfl
theorem Ku (neg:Bool)(L:List Int)(h:JG L)(hl:L.length<4611686018427387904):Fn Tryz.prog 156 [.bool neg,X8 L] (zA (Z9 neg (val L))):=by
 rw[tz h];exact dX neg L hl
theorem Ex (d:List Int)(i:Nat):Fn Tryz.prog 219 [X8 d,I i] (I (dg d i)):=by
 by_cases h:i<d.length
 ·have f1:((i:Int)<d.length)=True:=K_ (by omega)
  have f2:(i<d.length)=True:=K_ h;refine Fq Tryz.call219 Tryz.func219 5 [] [] [] (by simp[KJ,Xa,Xj]) (Xk ?_);simp(maxSteps:=999999)only[P',↓X6,wA,seval,zA,qA,qC,wN];simp only[f1,f2,↓X6,wA,seval,zA,qA,qC,wN];exact Xp rfl rfl (X9 _) rfl
 ·have f1:((i:Int)<d.length)=False:=Q' (by omega)
  have f2:(i<d.length)=False:=Q' h;refine Fq Tryz.call219 Tryz.func219 5 [] [] [] (by simp[KJ,Xa,Xj]) (Xk ?_);simp(maxSteps:=999999)only[P',↓X6,wA,seval,zA,qA,qC,wN];simp only[f1,f2,↓X6,wA,seval,zA,qA,qC,wN];exact Xp rfl rfl (X9 _) (by rw[I2 (by omega)];rfl)
theorem BE (a b:List Int)(ha:AM a)(hb:AM b)(la:a.length<4611686018427387904):Fn Tryz.prog 162 [X8 a,X8 b] (I (val a-val b).sign):=by
 obtain⟨V,hV⟩:∃V,V=(val a-val b).sign:=⟨_,rfl⟩
 rw[←hV];have fin:∀ {s:AS} {v:Int},s.get 4=I v→v=V→TAC (JK Tryz.prog Tryz.f162 [] [] (I V)) s:=fun h e=>Xp rfl h (X9 _) (by rw[e])
 rcases Nat.lt_trichotomy a.length b.length with h |h |h
 ·have:=Eu ha hb h
  have f1:((a.length:Int)<b.length)=True:=K_ (by omega);have f2:(a.length<b.length)=True:=K_ h;refine Fq Tryz.call162 Tryz.func162 6 [] [] [] (by simp[KJ,Xa,Xj]) (Xk ?_);simp(maxSteps:=999999)only[P',↓X6,wA,seval,zA,qA,qC,wN];simp only[f1,f2,↓X6,wA,seval,zA,qA,qC,wN];exact fin rfl (by rw[hV,n_ (by omega)])
 rotate_left
 ·have:=Eu hb ha h
  have f1:((a.length:Int)<b.length)=False:=Q' (by omega);have f2:(a.length<b.length)=False:=Q' (by omega);have f3:((b.length:Int)<a.length)=True:=K_ (by omega);have f4:(b.length<a.length)=True:=K_ h;refine Fq Tryz.call162 Tryz.func162 6 [] [] [] (by simp[KJ,Xa,Xj]) (Xk ?_);simp(maxSteps:=999999)only[P',↓X6,wA,seval,zA,qA,qC,wN];simp only[f1,f2,f3,f4,↓X6,wA,seval,zA,qA,qC,wN];exact fin rfl (by rw[hV,u_ (by omega)])
 have f1:((a.length:Int)<b.length)=False:=Q' (by omega);have f2:(a.length<b.length)=False:=Q' (by omega);have f3:((b.length:Int)<a.length)=False:=Q' (by omega);have f4:(b.length<a.length)=False:=Q' (by omega);refine Fq Tryz.call162 Tryz.func162 6 [] [] [] (by simp[KJ,Xa,Xj]) (Xk ?_);simp(maxSteps:=999999)only[P',↓X6,wA,seval,zA,qA,qC,wN];simp only[f1,f2,f3,f4,↓X6,wA,seval,zA,qA,qC,wN];refine Xi (fun k:Nat=>⟨6,[],[X8 a,X8 b,.any,.any,I 0,I ((k:Int)-1)],[],[]⟩) (fun k=>k≤a.length∧a.drop k=b.drop k) (fun k=>k) a.length ⟨by omega,by rw[ZDA,h,ZDA]⟩
  ?_ ?_
 ·have w0:Q_.wrap ((a.length:Int)-1)=(a.length:Int)-1:=by rw[M'];omega
  rw[w0];exact(ZS (by simp[zA,qA,qC,wN,Xm,X8,Dm,CH,QE,I]) rfl)
 rintro k ⟨hk,he⟩ next
 cases k with
 |zero =>
  refine Xk ?_;have e1:((0:Int)≤0-1)=False:=Q' (by omega);simp only[e1,↓X6,wA,seval,zA,qA,qC,wN];refine fin rfl ?_;rw[ZBf,ZBf]at he;rw[hV,he,ZCQ];rfl
 |succ k =>
  have e1:((k+1:Nat):Int)-1=(k:Int):=by omega
  have w1:Q_.wrap ((k:Int)-1)=(k:Int)-1:=by rw[M'];omega
  have e3:(k<a.length)=True:=K_ (by omega);have e4:(k<b.length)=True:=K_ (by omega);have hcm:a.getD k 0≠b.getD k 0→(a.getD k 0-b.getD k 0).sign=V:=fun hne=>by
   rw[hV,je ha.1 hb.1 h (by omega) he hne]
  refine Xk ?_;simp only[e1,w1,e3,e4,↓X6,wA,seval,zA,qA,qC,wN];refine⟨fun h1=>fin rfl ?_,fun h1=>⟨fun h2=>fin rfl ?_,fun h2=>next k _ ⟨by omega,GP h (by omega) he (by omega)⟩ (by omega) (ZS (by simp[zA,qA,qC,wN,Xm,X8,Dm,CH,QE,I]) rfl)⟩⟩
  ·rw[←hcm (by omega),n_ (by omega)]
  ·rw[←hcm (by omega),u_ (by omega)]
theorem DY (n:Int)(hn:ZO n):Fn Tryz.prog 82 [I n] (zA n):=by
 unfold ZO at hn;obtain⟨R,hR⟩:∃R,R=zA n:=⟨_,rfl⟩
 have sR:A_ R:=hR▸XT _;rw[←hR];obtain⟨neg,TA9⟩:∃neg,neg=decide (n<0):=⟨_,rfl⟩
 have en:n=Z9 neg n.natAbs:=by rw[TA9,Hw]
 refine Fq Tryz.call82 Tryz.func82 6 [] [] [] (by simp[KJ,Xa,Xj]) (Xk ?_);simp(maxSteps:=999999)only[P',↓X6,wA,seval,zA,qA,qC,wN];rw[←TA9];refine Xi (fun p:List Int×Nat=>⟨6,[],[I (Z9 neg p.2),.any,.ref 0 0 0,.osl 1 p.1.length 1 0 p.1.length,.bool neg,.any],[],[.row 0 2 (Xf [.bool false,.sl 0 0 (fun _=>.any) true]),.row p.1.length p.1.length (J0 I 0 p.1)]⟩)
  (fun p=>JG p.1∧val p.1+pw p.1.length*p.2=n.natAbs∧p.2≤n.natAbs∧p.1.length≤3) (fun p=>p.2) ([],n.natAbs) ⟨CJ,by simp[val,pw],N' _,by simp⟩ ?_ ?_
 ·refine(JM 3 1 (J0 I 0 []) rfl).trans (Xh rfl ?_ ?_ ?_)
  ·simp[ZAm,Xm,I,←en]
  ·simp[ZAm,Xu]
  ·simp[ZAm]
 rintro⟨l,M⟩ ⟨h1,h2,h3,h4⟩ next
 simp only at h1 h2 h3 h4;by_cases hM:M=0
 ·subst hM
  have f1:(Z9 neg 0=0)=True:=K_ (by unfold Z9;split <;> simp);have c:=Ku neg l h1 (by omega);rw[show val l=(n.natAbs:Int)by simpa using h2,←en,←hR]at c;refine e_ ?_ (E8 1 3 rfl rfl (by simp));refine Xk ?_;simp only[f1,↓X6,wA,seval,zA,qA,qC,wN];refine X2 c rfl ?_;simp only[hR,↓X6,wA,seval,zA,qA,qC,wN];exact Jh rfl Q8 rfl rfl rfl sR (hR.trans rfl)
 ·have hl:l.length≤2:=by
   apply X_;intro hh;have q1:=CO (show 3≤l.length by omega);have q2:=Qe h1;have q3:pw l.length*1≤pw l.length*M:=W_ (by omega) (by have:=JI l.length;omega);have q4:(n.natAbs:Int)≤9223372036854775808:=by omega
   have q5:pw 3=1000000000000000000000000000:=by simp[pw]
   omega
  obtain⟨m,hm⟩:∃m,m=Z9 neg (M:Int):=⟨_,rfl⟩
  have hma:(neg=true∧m = -(M:Int))∨(neg=false∧m=(M:Int)):=by rw[hm];unfold Z9;cases neg <;> simp
  rw[←hm];have f1:(m=0)=False:=Q' (by omega);have hap:=PI l ((M%1000000000:Nat):Int);have e3:Q_.wrap (m.tdiv 1000000000)=Z9 neg ((M/1000000000:Nat):Int):=by
   unfold Z9;rcases hma with⟨e,e2⟩ | ⟨e,e2⟩
   ·rw[e,e2,N_ rfl,Int.neg_tdiv,q_ (by omega),M'];omega
   ·rw[e,e2,M_ (by simp),q_ (by omega),M'];omega
  have inv:JG (l ++ [((M%1000000000:Nat):Int)])∧val (l ++ [((M%1000000000:Nat):Int)])+pw (l ++ [((M%1000000000:Nat):Int)]).length*((M/1000000000:Nat):Int)=n.natAbs∧M/1000000000≤n.natAbs∧(l ++ [((M%1000000000:Nat):Int)]).length≤3:=by
   refine⟨Lo.2 ⟨h1,Zw.2 ⟨⟨by omega,by omega⟩,CJ⟩⟩,?_,by omega,by simp;omega⟩;rw[EZ];simp only[f_,ZAF,ZAc,x_,pw];have e:(M:Int)=((M%1000000000:Nat):Int)+1000000000*((M/1000000000:Nat):Int):=by omega
   have h2':=h2;rw[e]at h2';rw[ZDS]at h2';have e2:1000000000*pw l.length*((M/1000000000:Nat):Int)=pw l.length*(1000000000*((M/1000000000:Nat):Int)):=by
    rw[ZEE 1000000000 (pw l.length),Int.mul_assoc]
   rw[e2];omega
  rcases hma with⟨e1,e2⟩ | ⟨e1,e2⟩
  ·have g1:Q_.wrap (0-m.tmod 1000000000)=((M%1000000000:Nat):Int):=by
    rw[e2,Int.neg_tmod,ZAA (by omega),M'];omega
   by_cases hz:m.tmod 1000000000<0
   ·have g2:(m.tmod 1000000000<0)=True:=K_ hz
    refine Xk ?_;simp only[f1,g1,g2,e3,hap,zU,↓X6,wA,seval,zA,qA,qC,wN];exact⟨⟨by omega,by omega⟩,next (l ++ [((M%1000000000:Nat):Int)],M/1000000000) _ inv (by simp only;omega) (ZS (by simp[Xm,I]) (by simp))⟩
   ·have g2:(((M%1000000000:Nat):Int)<0)=False:=Q' (by omega)
    have g3:m.tmod 1000000000=((M%1000000000:Nat):Int):=by
     rw[e2,Int.neg_tmod,ZAA (by omega)]at hz ⊢;omega
    refine Xk ?_;simp only[f1,g2,g3,e3,hap,zU,↓X6,wA,seval,zA,qA,qC,wN];exact⟨⟨by omega,by omega⟩,next (l ++ [((M%1000000000:Nat):Int)],M/1000000000) _ inv (by simp only;omega) (ZS (by simp[Xm,I]) (by simp))⟩
  ·have g3:m.tmod 1000000000=((M%1000000000:Nat):Int):=by
    rw[e2,ZAA (by omega)];omega
   have g2:(((M%1000000000:Nat):Int)<0)=False:=Q' (by omega);refine Xk ?_;simp only[f1,g2,g3,e3,hap,zU,↓X6,wA,seval,zA,qA,qC,wN];exact⟨⟨by omega,by omega⟩,next (l ++ [((M%1000000000:Nat):Int)],M/1000000000) _ inv (by simp only;omega) (ZS (by simp[Xm,I]) (by simp))⟩
theorem Wz (a b:Nat→Int)(i:Nat):0≤Qt a b i∧Qt a b i≤1:=by have:=Ep a b i;omega
theorem mr (a b:List Int)(ha:JG a)(hb:JG b)(la:a.length<1000000000000)(lb:b.length<1000000000000) :
  ∃L,JG L∧val L=val a+val b∧L.length≤max a.length b.length+1∧Fn Tryz.prog 161 [X8 a,X8 b] (X8 L):=by
 obtain⟨n,hn⟩:∃n,n=max a.length b.length:=⟨_,rfl⟩
 obtain⟨e,he⟩:∃e,e=if Qt (dg a) (dg b) n=0 then n else n+1:=⟨_,rfl⟩
 have hz:∀i,n≤i→dg a i=0∧dg b i=0:=fun i hi=>⟨I2 (by omega),I2 (by omega)⟩
 have hce:Qt (dg a) (dg b) e=0:=by
  rw[he]
  split
  ·assumption
  ·have h1:=Wz (dg a) (dg b) n
   obtain⟨z1,z2⟩:=hz n (N' _);simp only[Qt,z1,z2];rw[M_ (by omega)]
 have hne:n≤e∧e≤n+1:=by rw[he];split <;> omega
 refine⟨BD (Bg (dg a) (dg b)) e,DK fun i _=>RS (Qn ha i) (Qn hb i),?_,by rw[Qp];omega,?_⟩
 ·have:=PA (dg a) (dg b) e
  rw[hce,Int.mul_zero,Int.add_zero]at this;rw[HK,this,EV a e (by omega),EV b e (by omega)]
 obtain⟨R,hR⟩:∃R,R=X8 (BD (Bg (dg a) (dg b)) e):=⟨_,rfl⟩
 have sR:A_ R:=hR▸Xc _;rw[←hR];refine Fq Tryz.call161 Tryz.func161 9 [] [] [] (by simp[KJ,Xa,Xj]) (Xk ?_);simp(maxSteps:=999999)only[P',↓X6,wA,seval,zA,qA,qC,wN];refine Xi (fun i:Nat=>⟨9,[],[X8 a,X8 b,.any,.any,.any,.osl 0 i 1 0 i,I (Qt (dg a) (dg b) i),I i,.any],[],[.row i i (J0 I 0 (BD (Bg (dg a) (dg b)) i))]⟩)
  (fun i=>i≤e) (fun i=>e-i) 0 (by omega) ((JM 5 1 (J0 I 0 []) rfl).trans (Xh rfl (by simp[ZAm,Xm,X8,QE,I,Qt]) (by simp[ZAm,Xu]) (by simp[ZAm,BD]))) ?_
 intro i hi next
 have cb:=Wz (dg a) (dg b) i;have w1:=wj i (by omega);by_cases hgo:i<e
 ·have da:=Qn ha i
  have db:=Qn hb i;unfold Qk at da db;have k1:Q_.wrap (dg a i+dg b i)=dg a i+dg b i:=by rw[M'];omega
  have k2:Q_.wrap (dg a i+dg b i+Qt (dg a) (dg b) i)=dg a i+dg b i+Qt (dg a) (dg b) i:=by rw[M'];omega
  have k3:(dg a i+dg b i+Qt (dg a) (dg b) i).tmod 1000000000=Bg (dg a) (dg b) i:=by
   rw[ZAA (by omega)];unfold Bg;split <;> omega
  have k4:Q_.wrap ((dg a i+dg b i+Qt (dg a) (dg b) i).tdiv 1000000000)=Qt (dg a) (dg b) (i+1):=by
   rw[q_ (by omega),M'];simp only[Qt];split <;> omega
  have hap:=PI (BD (Bg (dg a) (dg b)) i) (Bg (dg a) (dg b) i);rw[Qp,←EX]at hap;have ca:=Ex a i;have cb':=Ex b i;have TFr:n≤i→0<Qt (dg a) (dg b) i:=fun h=>by
   have:i=n:=by omega
   subst this;have:Qt (dg a) (dg b) i≠0:=fun h0=>by rw[N_ h0]at he;omega
   omega
  have fin:∀s':AS,Sub 0 s' ⟨9,[],[X8 a,X8 b,.any,.any,.any,.osl 0 (i+1) 1 0 (i+1),I (Qt (dg a) (dg b) (i+1)),I ((i+1:Nat):Int),.any],[],[.row (i+1) (i+1) (J0 I 0 (BD (Bg (dg a) (dg b)) (i+1)))]⟩→Run _ _ s':=fun s' h=>next (i+1) s' (by omega) (by omega) h
  by_cases h1:i<a.length
  ·have f1:((i:Int)<a.length)=True:=K_ (by omega)
   have f1':(i<a.length)=True:=K_ h1;refine Xk ?_;simp only[f1,f1',w1,↓X6,wA,seval,zA,qA,qC,wN];refine X2 ca rfl ?_;simp only[f1,f1',w1,↓X6,wA,seval,zA,qA,qC,wN];refine X2 cb' rfl ?_;simp only[f1,f1',k1,k2,k3,k4,hap,w1,zU,↓X6,wA,seval,zA,qA,qC,wN];exact⟨⟨by omega,by omega⟩,fin _ (ZS (by simp[Xm,X8,QE,I]) rfl)⟩
  have f1:((i:Int)<a.length)=False:=Q' (by omega);have f1':(i<a.length)=False:=Q' h1;by_cases h2:i<b.length
  ·have f2:((i:Int)<b.length)=True:=K_ (by omega)
   have f2':(i<b.length)=True:=K_ h2;refine Xk ?_;simp only[f1,f1',f2,f2',w1,↓X6,wA,seval,zA,qA,qC,wN];refine X2 ca rfl ?_;simp only[f1,f1',f2,f2',w1,↓X6,wA,seval,zA,qA,qC,wN];refine X2 cb' rfl ?_;simp only[f1,f1',f2,f2',k1,k2,k3,k4,hap,w1,zU,↓X6,wA,seval,zA,qA,qC,wN];exact⟨⟨by omega,by omega⟩,fin _ (ZS (by simp[Xm,X8,QE,I]) rfl)⟩
  ·have f2:((i:Int)<b.length)=False:=Q' (by omega)
   have f2':(i<b.length)=False:=Q' h2;have f3:(0<Qt (dg a) (dg b) i)=True:=K_ (TFr (by omega));refine Xk ?_;simp only[f1,f1',f2,f2',f3,w1,↓X6,wA,seval,zA,qA,qC,wN];refine X2 ca rfl ?_;simp only[f1,f1',f2,f2',f3,w1,↓X6,wA,seval,zA,qA,qC,wN];refine X2 cb' rfl ?_;simp only[f1,f1',f2,f2',f3,k1,k2,k3,k4,hap,w1,zU,↓X6,wA,seval,zA,qA,qC,wN];exact⟨⟨by omega,by omega⟩,fin _ (ZS (by simp[Xm,X8,QE,I]) rfl)⟩
 ·obtain rfl:i=e:=by omega
  have f1:((i:Int)<a.length)=False:=Q' (by omega);have f1':(i<a.length)=False:=Q' (by omega);have f2:((i:Int)<b.length)=False:=Q' (by omega);have f2':(i<b.length)=False:=Q' (by omega);refine Xk ?_;simp only[f1,f1',f2,f2',hce,ZAE,↓X6,wA,seval,zA,qA,qC,wN];refine A9 rfl ?_;rw[hR];exact Bp X9 rfl rfl (Qp _ _).symm rfl (ZCA (Qp _ _))
theorem FB (a b:List Int)(ha:JG a)(hb:JG b)(la:a.length<1000000000000)(hl:b.length≤a.length)(h:val b≤val a):Fn Tryz.prog 163 [X8 a,X8 b] (X8 (A6 a b)):=by
 obtain⟨R,hR⟩:∃R,R=X8 (A6 a b):=⟨_,rfl⟩
 have sR:A_ R:=hR▸Xc _;rw[←hR];refine Fq Tryz.call163 Tryz.func163 9 [] [] [] (by simp[KJ,Xa,Xj]) (Xk ?_);simp(maxSteps:=999999)only[P',↓X6,wA,seval,zA,qA,qC,wN];refine Xi (fun i:Nat=>⟨9,[],[X8 a,X8 b,.any,.any,.any,.osl 0 i 1 0 i,I (Kk (dg a) (dg b) i),I i,.any],[],[.row i i (J0 I 0 (BD (BT (dg a) (dg b)) i))]⟩)
  (fun i=>i≤a.length) (fun i=>a.length-i) 0 (by omega) ((JM 5 1 (J0 I 0 []) rfl).trans (Xh rfl (by simp[ZAm,Xm,X8,QE,I,Kk]) (by simp[ZAm,Xu]) (by simp[ZAm,BD]))) ?_
 intro i hi next
 have cb:=HC (dg a) (dg b) i;have w1:=wj i (by omega);by_cases hgo:i<a.length
 ·have da:=Qn ha i
  have db:=Qn hb i;unfold Qk at da db;have eA:a.getD i 0=dg a i:=rfl;have f1:((i:Int)<a.length)=True:=K_ (by omega);have f1':(i<a.length)=True:=K_ hgo;have k1:Q_.wrap (dg a i-dg b i)=dg a i-dg b i:=by rw[M'];omega
  have k2:Q_.wrap (dg a i-dg b i-Kk (dg a) (dg b) i)=dg a i-dg b i-Kk (dg a) (dg b) i:=by rw[M'];omega
  have hap:=PI (BD (BT (dg a) (dg b)) i) (BT (dg a) (dg b) i);rw[Qp,←EX]at hap;have ca:=Ex b i;by_cases hv:dg a i-dg b i-Kk (dg a) (dg b) i<0
  ·have f3:(dg a i-dg b i-Kk (dg a) (dg b) i<0)=True:=K_ hv
   have k3:Q_.wrap (dg a i-dg b i-Kk (dg a) (dg b) i+1000000000)=BT (dg a) (dg b) i:=by
    unfold BT;rw[N_ hv,M'];omega
   have k4:Kk (dg a) (dg b) (i+1)=1:=by simp only[Kk];rw[N_ hv]
   refine Xk ?_;simp only[f1,f1',eA,w1,↓X6,wA,seval,zA,qA,qC,wN];refine X2 ca rfl ?_;simp only[k1,k2,k3,f3,hap,w1,↓X6,wA,seval,zA,qA,qC,wN];exact⟨⟨by omega,by omega⟩,next (i+1) _ (by omega) (by omega) (ZS (by simp[Xm,X8,QE,I,k4]) rfl)⟩
  ·have f3:(dg a i-dg b i-Kk (dg a) (dg b) i<0)=False:=Q' hv
   have k3:dg a i-dg b i-Kk (dg a) (dg b) i=BT (dg a) (dg b) i:=by unfold BT;rw[M_ hv]
   have k4:Kk (dg a) (dg b) (i+1)=0:=by simp only[Kk];rw[M_ hv]
   have f3':(BT (dg a) (dg b) i<0)=False:=by rw[←k3];exact f3
   refine Xk ?_;simp only[f1,f1',eA,w1,↓X6,wA,seval,zA,qA,qC,wN];refine X2 ca rfl ?_;simp only[k1,k2.trans k3,f3',hap,w1,↓X6,wA,seval,zA,qA,qC,wN];exact⟨⟨by omega,by omega⟩,next (i+1) _ (by omega) (by omega) (ZS (by simp[Xm,X8,QE,I,k4]) rfl)⟩
 ·obtain rfl:i=a.length:=by omega
  refine Xk ?_;simp only[ZAE,zZ,↓X6,wA,seval,zA,qA,qC,wN];refine A9 rfl ?_;rw[hR];exact Bp X9 rfl rfl (Qp _ _).symm rfl (ZCA (Qp _ _))
def DX (sx sy:Bool)(a b:List Int)(p:List Int×Nat):AS :=
 ⟨10,[],[.any,.any,.ref 0 0 0,.ref 1 0 0,.ref 2 0 0,.osl 3 0 1 0 (a.length+b.length),I p.2,.any,.any,.any],[],
  [.row 0 2 (Xf [.bool sx,X8 a]),.row 0 2 (Xf [.bool sy,X8 b]),.row 0 2 (Xf [.bool false,.sl 0 0 (fun _=>.any) true]),.row 0 (a.length+b.length) (J0 I 0 p.1)]⟩
def CR (sx sy:Bool)(a b:List Int)(i:Nat)(p:List Int×Int×Nat):AS :=
 ⟨10,[],[.any,.any,.ref 0 0 0,.ref 1 0 0,.ref 2 0 0,.osl 3 0 1 0 (a.length+b.length),I i,I p.2.1,I p.2.2,.any],[],
  [.row 0 2 (Xf [.bool sx,X8 a]),.row 0 2 (Xf [.bool sy,X8 b]),.row 0 2 (Xf [.bool false,.sl 0 0 (fun _=>.any) true]),.row 0 (a.length+b.length) (J0 I 0 p.1)]⟩
theorem f9 (sx sy:Bool)(a b:List Int)(ha:JG a)(hb:JG b)(la:a.length<room)(lb:b.length<room) :
  Fn Tryz.prog 78 [zR sx a,zR sy b] (zA (Z9 (sx != sy) (val a*val b))):=by
 obtain⟨R,hR⟩:∃R,R=zA (Z9 (sx != sy) (val a*val b)):=⟨_,rfl⟩
 have sR:A_ R:=hR▸XT _;unfold room at la lb;rw[←hR];have w0:Q_.wrap ((a.length:Int)+b.length)=((a.length+b.length:Nat):Int):=by rw[M'];omega
 refine Fq Tryz.call78 Tryz.func78 10 [] [] [] (by simp[Xj]) (Xk ?_);simp(maxSteps:=999999)only[P',zR,w0,T_,↓X6,wA,seval,zA,qA,qC,wN];refine⟨⟨by omega,by omega⟩,?_⟩;refine Xi (DX sx sy a b) (ls a b) (fun p=>a.length-p.2) (ZAJ (a.length+b.length) 0,0) ?_ ?_ ?_
 ·refine⟨p_ _,by simp,fun d hd=>?_,fun j _=>?_,?_⟩
  ·rw[(List.mem_replicate.1 hd).2];exact⟨by omega,by omega⟩
  ·simp[K',ZAs]
   split <;> rfl
  ·simp only[List.take_zero];rw[FH];simp[val]
 ·refine(Zh 3 (a.length+b.length) (J0 I 0 (ZAJ (a.length+b.length) 0)) rfl (N' _) ?_).trans (Xh rfl ?_ ?_ ?_)
  ·intro j hj
   rw[Bq];simp[K',ZAs,hj,I]
  ·simp[DX,Xm,X8,QE,I]
  ·simp[DX,Xu]
  ·rfl
 rintro⟨O,i⟩ hO next
 obtain⟨g1,g2,g3,g4,g5⟩:=id hO;simp only at g1 g2 g3 g4 g5;have w1:=wj i (by omega);by_cases hi:i<a.length
 ·have e1:((i:Int)<a.length)=True:=K_ (by omega)
  have e2:(i<a.length)=True:=K_ hi;have eA:a.getD i 0=dg a i:=rfl;refine Xk ?_;simp(maxSteps:=999999)only[DX,w1,e1,e2,eA,↓X6,wA,seval,zA,qA,qC,wN];refine Xi (CR sx sy a b i) (lu a b O i) (fun p=>b.length-p.2.2) (O,0,0) ⟨p_ _,g2,g3,⟨by simp,by simp⟩,g4,by simp[val]⟩ (Xh rfl (by simp[CR,Xm,X8,QE,I]) (by simp[CR,Xu]) (by simp[CR,X8,QE])) ?_;rintro⟨O',c,k⟩ hJ TAS;obtain⟨j1,j2,j3,j4,j5,j6⟩:=id hJ;simp only at j1 j2 j3 j4 j5 j6;have w2:=wj k (by omega);by_cases hk:k<b.length
  ·obtain⟨v0,v1,hst⟩:=OS (a:=a) (b:=b) (O:=O) (i:=i) (O':=O') (c:=c) (k:=k) ha hb hi hk hJ rfl
   have o1:=JR j3 (i+k);have m1:=Ci (Qn ha i) (Qn hb k);have eB:b.getD k 0=dg b k:=rfl;have f1:((k:Int)<b.length)=True:=K_ (by omega);have f2:(k<b.length)=True:=K_ hk;have f3:Q_.wrap ((i:Int)+k)=((i+k:Nat):Int):=by rw[M'];omega
   have f4:(i+k<a.length+b.length)=True:=K_ (by omega);have f5:(i+k+1≤a.length+b.length)=True:=K_ (by omega);unfold Qk at o1 j4;have hU:∀x:Int,Ek (J0 I 0 O') (i+k) (.int .i64 x)=J0 I 0 (O'.set (i+k) x):=fun x=>ZY _ _ _ (by omega)
   have q1:Q_.wrap (dg a i*dg b k)=dg a i*dg b k:=by rw[M'];omega
   have q2:Q_.wrap (O'.getD (i+k) 0+dg a i*dg b k)=O'.getD (i+k) 0+dg a i*dg b k:=by rw[M'];omega
   generalize hv:O'.getD (i+k) 0+dg a i*dg b k+c=v at *;have q3:Q_.wrap v=v:=by rw[M'];omega
   have q4:v.tmod 1000000000=v-v/1000000000*1000000000:=by rw[ZAA v0];omega
   have q5:Q_.wrap (v.tdiv 1000000000)=v/1000000000:=by rw[q_ v0,M'];omega
   refine Xk ?_;simp(maxSteps:=999999)only[CR,w2,e2,eA,eB,f1,f2,f3,f4,f5,q1,q2,hv,q3,q4,q5,hU,T_,zU,↓X6,wA,seval,zA,qA,qC,wN];exact TAS _ _ hst (by simp only;omega) (Xh rfl (by simp[CR,Xm,X8,QE,I]) (by simp[CR,Xu]) rfl)
  ·obtain rfl:k=b.length:=by omega
   have hst:=OR (a:=a) (b:=b) (O:=O) (i:=i) (O':=O') (c:=c) hi hO hJ;have f3:Q_.wrap ((i:Int)+b.length)=((i+b.length:Nat):Int):=by rw[M'];omega
   have f4:(i+b.length<a.length+b.length)=True:=K_ (by omega);have f5:(i+b.length+1≤a.length+b.length)=True:=K_ (by omega);have hU:∀x:Int,Ek (J0 I 0 O') (i+b.length) (.int .i64 x)=J0 I 0 (O'.set (i+b.length) x):=fun x=>ZY _ _ _ (by omega)
   refine Xk ?_;simp(maxSteps:=999999)only[CR,w1,e1,e2,f3,f4,f5,hU,ZAE,zZ,T_,↓X6,wA,seval,zA,qA,qC,wN];exact next _ _ hst (by simp only;omega) (Xh rfl (by simp[DX,Xm,X8,QE,I]) (by simp[DX,Xu]) rfl)
 ·obtain rfl:i=a.length:=by omega
  have TBA:val O=val a*val b:=by rw[g5,ZAQ]
  have c:=Ku (sx != sy) O g3 (by omega);rw[TBA,←hR]at c;have e5:(!(sx == sy))=(sx != sy):=by cases sx <;> cases sy <;> rfl
  have hfr:=E8 (m:=0) (s:=DX sx sy a b (O,a.length)) 3 5 (ver:=0) (l:=O) (by show some _=some _;rw[g2]) (by show AV.osl 3 0 1 0 _=_;rw[g2]) (by simp[DX]);refine e_ ?_ hfr;refine Xk ?_;simp(maxSteps:=999999)only[DX,ZAE,zZ,e5,↓X6,wA,seval,zA,qA,qC,wN];refine X2 c rfl ?_;simp only[hR,↓X6,wA,seval,zA,qA,qC,wN];exact Jh rfl Q8 rfl rfl rfl sR (hR.trans rfl)
theorem Am (x y:Int)(hx:bl x<room)(hy:bl y<room):Fn Tryz.prog 78 [zA x,zA y] (zA (x*y)):=by
 have h:=f9 (decide (x<0)) (decide (y<0)) _ _ (XZ x.natAbs) (XZ y.natAbs) hx hy;have e:Z9 (decide (x<0) != decide (y<0)) (val (Xb x.natAbs)*val (Xb y.natAbs))=x*y:=by
  rw[XG,XG];have hx':=Hw x;have hy':=Hw y
  conv=>rhs;rw[←hx',←hy']
  generalize (x.natAbs:Int)=p;generalize (y.natAbs:Int)=q;unfold Z9;by_cases h1:x<0 <;> by_cases h2:y<0 <;> simp[h1,h2,Int.neg_mul,Int.mul_neg]
 rw[e]at h;exact h
theorem rY {d:List Int}(h:d.length≤2):dg d 1*1000000000+dg d 0=val d:=by
 match d,h with
 | [],_=>rfl
 | [x],_=>simp[dg,val]
 | [x,y],_=>simp[dg,val];try omega
 |_ :: _ :: _ :: _,h=>simp at h
theorem LH (d:List Int)(h:JG d)(hl:d.length≤2):Fn Tryz.prog 217 [X8 d] (I (val d)):=by
 have d0:=Qn h 0;have d1:=Qn h 1;unfold Qk at d0 d1;have w1:Q_.wrap (dg d 1*1000000000)=dg d 1*1000000000:=by rw[M'];omega
 have w2:Q_.wrap (dg d 1*1000000000+dg d 0)=val d:=by rw[←rY hl,M'];omega
 refine Fq Tryz.call217 Tryz.func217 3 [] [] [] (by simp[KJ,Xa,Xj]) (Xk ?_);simp(maxSteps:=999999)only[P',↓X6,wA,seval,zA,qA,qC,wN];refine X2 (Ex d 1) rfl ?_;simp only[w1,↓X6,wA,seval,zA,qA,qC,wN];refine X2 (Ex d 0) rfl ?_;simp only[w1,w2,↓X6,wA,seval,zA,qA,qC,wN];exact Xp rfl rfl (X9 _) rfl
theorem mT (a:List Int)(k:Int)(ha:AM a)(hk:Qk k)(la:a.length<100000000000):Fn Tryz.prog 237 [X8 a,I k] (X8 (Xb (val a*k).toNat)):=by
 have v0:=Qe ha.1;unfold Qk at hk;have ea:X8 a=X8 (Xb (val a).toNat):=by rw[Bv ha]
 have eva:((val a).toNat:Int)=val a:=rX ha.1;have c1:=Ku false a ha.1 (by omega);rw[show Z9 false (val a)=((val a).toNat:Int)from eva.symm]at c1;have bla:bl ((val a).toNat:Int)<room:=by rw[KC,Bv ha];unfold room;omega
 have c2:=DY k ⟨by omega,by omega⟩;have c3:=Am ((val a).toNat:Int) k bla (by have:=ZZ (n:=k) ⟨by omega,by omega⟩;unfold room;omega);have m0:0≤val a*k:=ZBO v0 hk.1;rw[eva]at c3;have hz:zA (val a*k)=.agg [.bool false,X8 (Xb (val a*k).toNat)]:=by
  rw[←Ja,ZB5 m0]
 rw[hz,show zA (val a)=zA ((val a).toNat:Int)by rw[eva]]at c3;obtain⟨R,hR⟩:∃R,R=X8 (Xb (val a*k).toNat):=⟨_,rfl⟩
 have sR:A_ R:=hR▸Xc _;rw[←hR];refine Fq Tryz.call237 Tryz.func237 6 [] [] [] (by simp[KJ,Xa,Xj]) (Xk ?_);simp(maxSteps:=999999)only[P',↓X6,wA,seval,zA,qA,qC,wN];refine X2 c1 rfl ?_;simp only[↓X6,wA,seval,zA,qA,qC,wN];refine X2 c2 rfl ?_;simp only[↓X6,wA,seval,zA,qA,qC,wN];refine X2 c3 rfl ?_;simp only[↓X6,wA,seval,zA,qA,qC,wN];exact Xp rfl rfl sR hR.symm
theorem Nh (z:Int)(hz:bl z<room):Fn Tryz.prog 159 [zA z] (zA (-z)):=by
 unfold bl room at hz;obtain⟨R,hR⟩:∃R,R=zA (-z):=⟨_,rfl⟩
 have sR:A_ R:=hR▸XT _;rw[←hR];have c:=Ku (!decide (z<0)) (Xb z.natAbs) (XZ _) (by omega);have e:Z9 (!decide (z<0)) (val (Xb z.natAbs)) = -z:=by
  rw[XG];unfold Z9;by_cases h:z<0
  ·simp[h];omega
  ·simp[h];omega
 rw[e,←hR]at c;refine Fq Tryz.call159 Tryz.func159 3 [] [] [] (by simp[KJ,Xa,Xj]) (Xk ?_);simp(maxSteps:=999999)only[P',↓X6,wA,seval,zA,qA,qC,wN];refine X2 c rfl ?_;simp only[hR,↓X6,wA,seval,zA,qA,qC,wN];exact Jh rfl Q8 rfl rfl rfl sR (hR.trans rfl)
theorem Tr (x y:Int)(hx:bl x<room)(hy:bl y<room):Fn Tryz.prog 81 [zA x,zA y] (zA (x+y)):=by
 obtain⟨R,hR⟩:∃R,R=zA (x+y):=⟨_,rfl⟩
 have sR:A_ R:=hR▸XT _;unfold bl room at hx hy;have dx:=XZ x.natAbs;have dy:=XZ y.natAbs;have vx:=XG x.natAbs;have vy:=XG y.natAbs;have cmp:=BE _ _ (Q6 x.natAbs) (Q6 y.natAbs) (by omega);rw[vx,vy]at cmp;rw[←hR];by_cases h:(x<0↔y<0)
 ·obtain⟨L,l1,l2,l3,l4⟩:=mr _ _ dx dy (by omega) (by omega)
  have e:Z9 (decide (x<0)) (val L)=x+y:=by
   rw[l2,vx,vy];unfold Z9;by_cases h2:x<0
   ·rw[N_ (Y' h2)];omega
   ·rw[M_ (by simpa using h2)];omega
  have c:=Ku (decide (x<0)) L l1 (by omega);rw[e,←hR]at c;have fB:(decide (x<0) == decide (y<0))=true:=by simp[decide_eq_decide.2 h]
  refine Fq Tryz.call81 Tryz.func81 5 [] [] [] (by simp[KJ,Xa,Xj]) (Xk ?_);simp(maxSteps:=999999)only[P',↓X6,wA,seval,zA,qA,qC,wN];simp only[fB,↓X6,wA,seval,zA,qA,qC,wN];refine X2 l4 rfl ?_;simp only[↓X6,wA,seval,zA,qA,qC,wN];refine X2 c rfl ?_;simp only[hR,↓X6,wA,seval,zA,qA,qC,wN];exact Jh rfl Q8 rfl rfl rfl sR (hR.trans rfl)
 have fB:(decide (x<0) == decide (y<0))=false:=by
  rw[beq_eq_false_iff_ne];intro e;exact h (decide_eq_decide.1 e)
 by_cases hc:((x.natAbs:Int)-y.natAbs).sign<0
 ·have hlt:(x.natAbs:Int)-y.natAbs<0:=ZBI.1 hc
  have hl:(Xb x.natAbs).length≤(Xb y.natAbs).length:=Jd (show x.natAbs≤y.natAbs by omega);have cm:=FB _ _ dy dx (by omega) hl (by omega);have vm:=Cm dy dx hl (by omega);have e:Z9 (decide (y<0)) (val (A6 (Xb y.natAbs) (Xb x.natAbs)))=x+y:=by
   rw[vm,vx,vy];unfold Z9;by_cases h2:y<0
   ·rw[N_ (Y' h2)];omega
   ·rw[M_ (by simpa using h2)];omega
  have c:=Ku (decide (y<0)) _ (Cl dy dx) (by unfold A6;rw[Qp];omega);rw[e,←hR]at c;have fC:(((x.natAbs:Int)-y.natAbs).sign<0)=True:=K_ hc;refine Fq Tryz.call81 Tryz.func81 5 [] [] [] (by simp[KJ,Xa,Xj]) (Xk ?_);simp(maxSteps:=999999)only[P',↓X6,wA,seval,zA,qA,qC,wN];simp only[fB,↓X6,wA,seval,zA,qA,qC,wN];refine X2 cmp rfl ?_;simp only[fC,↓X6,wA,seval,zA,qA,qC,wN];refine X2 cm rfl ?_;simp only[↓X6,wA,seval,zA,qA,qC,wN];refine X2 c rfl ?_;simp only[hR,↓X6,wA,seval,zA,qA,qC,wN];exact Jh rfl Q8 rfl rfl rfl sR (hR.trans rfl)
 ·have hlt:¬ (x.natAbs:Int)-y.natAbs<0:=fun h=>hc (ZBI.2 h)
  have hl:(Xb y.natAbs).length≤(Xb x.natAbs).length:=Jd (show y.natAbs≤x.natAbs by omega);have cm:=FB _ _ dx dy (by omega) hl (by omega);have vm:=Cm dx dy hl (by omega);have e:Z9 (decide (x<0)) (val (A6 (Xb x.natAbs) (Xb y.natAbs)))=x+y:=by
   rw[vm,vx,vy];unfold Z9;by_cases h2:x<0
   ·rw[N_ (Y' h2)];omega
   ·rw[M_ (by simpa using h2)];omega
  have c:=Ku (decide (x<0)) _ (Cl dx dy) (by unfold A6;rw[Qp];omega);rw[e,←hR]at c;have fC:(((x.natAbs:Int)-y.natAbs).sign<0)=False:=Q' hc;refine Fq Tryz.call81 Tryz.func81 5 [] [] [] (by simp[KJ,Xa,Xj]) (Xk ?_);simp(maxSteps:=999999)only[P',↓X6,wA,seval,zA,qA,qC,wN];simp only[fB,↓X6,wA,seval,zA,qA,qC,wN];refine X2 cmp rfl ?_;simp only[fC,↓X6,wA,seval,zA,qA,qC,wN];refine X2 cm rfl ?_;simp only[↓X6,wA,seval,zA,qA,qC,wN];refine X2 c rfl ?_;simp only[hR,↓X6,wA,seval,zA,qA,qC,wN];exact Jh rfl Q8 rfl rfl rfl sR (hR.trans rfl)
theorem VL (neg:Bool)(Q:List Int)(m0 n:Nat)(f:Nat→AV)(x:Int)(hf:f (n-1)=.int .i64 x) (hx:x≠0) (hne:n≠0) (hl:n<4611686018427387904) (hb:∀j,j<n→J9 2 (f j)) :
  G' Tryz.prog 156 [.bool neg,.osl 1 0 1 0 n] [.row 0 m0 (J0 I 0 Q),.row 0 n f] (.agg [.bool neg,.osl 1 0 1 0 n]) [.row 0 m0 (J0 I 0 Q),.row 0 n f]:=by
 have hbO:XX 2 (.row 0 n f)=True:=K_ hb;refine G'.TAo (fn:=Tryz.f156) Tryz.call156 Tryz.func156 rfl mixed 6 [] [] [] (by kernel_rfl) (L' rfl) (by simp[XK]) (by simp[XK,hbO]) (Xk ?_);simp only[P',↓X6,wA,seval,zA,qA,qC,wN];refine Xi (fun _:Unit=>⟨6,[],[.bool neg,.osl 1 0 1 0 n,.any,.any,.ref 2 0 0,I n],[],[.row 0 m0 (J0 I 0 Q),.row 0 n f,.row 0 2 (Xf [.bool false,.sl 0 0 (fun _=>.any) true])]⟩) (fun _=>True) (fun _=>0) () trivial (ZS (by simp[zA,qA,qC,wN,Xm,X8,Dm,CH,QE,I]) rfl) ?_;rintro⟨⟩ _ _;have e0:(0<(n:Int))=True:=K_ (by omega);have e1:((n:Int)=0)=False:=Q' (by omega);have e1':(n=0)=False:=Q' (by omega);have w1:Q_.wrap ((n:Int)-1)=((n-1:Nat):Int):=by rw[M'];omega
 have w2:(((n-1:Nat):Int)<0)=False:=Q' (by omega);have e2:(n-1<n)=True:=K_ (by omega);have e3:(x=0)=False:=Q' hx;refine Xk ?_;simp only[e0,e1,e1',e2,e3,w1,w2,hf,Int.sub_zero,T_,↓X6,wA,seval,zA,qA,qC,wN];exact YQ (v:=.agg [.bool neg,.osl 1 0 1 0 n]) rfl (by simp[AS.get,Qx,Q8,rd,QJ,Xf,EJ]) rfl rfl
def Km (a b:List Int)(B:Nat)(p:Nat):AS :=
 ⟨16,[],[X8 a,X8 b,.any,.any,.any,.any,.any,.any,.osl 0 0 1 0 a.length,X8 (Xb (Kw a B p).toNat),I ((p:Int)-1),.any,.any,.any,.any,.any],[],[.row 0 a.length (J0 I 0 (DU a B p))]⟩
def Q2 (a b:List Int)(B i:Nat)(R:Nat)(p:Int×Int):AS :=
 ⟨16,[],[X8 a,X8 b,.any,.any,.any,.any,.any,.any,.osl 0 0 1 0 a.length,X8 (Xb R),I i,.any,I p.1,I p.2,.any,.any],[],[.row 0 a.length (J0 I 0 (DU a B (i+1)))]⟩
theorem Vj (A B:Nat)(hA:(Xb A).length<1000000000) (hB:(Xb B).length<1000000000) (hB0:B≠0) :
  ∃q:List Int,JG q∧val q=((A/B:Nat):Int)∧q.length<1000000000∧Fn Tryz.prog 218 [X8 (Xb A),X8 (Xb B)] (.tup [X8 q,X8 (Xb (A%B))]):=by
 have dA:=XZ A;have dB:=XZ B;have vA:=XG A;have vB:=XG B;by_cases hs:(Xb A).length≤2∧(Xb B).length≤2
 ·refine⟨Xb (A/B),XZ _,XG _,?_,?_⟩
  ·have:=Jd (y:=((A/B:Nat):Int)) (z:=(A:Int)) (by have:=ZDU A B;generalize A/B=q at *;omega)
   rw[KC,KC]at this;omega
  have l1:=Ax hs.1;have l2:=Ax hs.2;have c1:=LH _ dA hs.1;have c2:=LH _ dB hs.2;rw[vA]at c1;rw[vB]at c2;have l3:A/B≤A:=ZDU A B;have l4:A%B≤A:=Nat.mod_le A B;have c3:=DY ((A/B:Nat):Int) (by unfold ZO;generalize A/B=q at *;omega);have c4:=DY ((A%B:Nat):Int) (by unfold ZO;generalize A%B=q at *;omega);rw[Ja]at c3 c4;have e1:Q_.wrap ((A:Int).tdiv B)=((A/B:Nat):Int):=by
   rw[show(A:Int).tdiv B=((A/B:Nat):Int)from rfl];generalize A/B=q at *;rw[M'];omega
  have e2:(A:Int).tmod B=((A%B:Nat):Int):=rfl;have f1:(((Xb A).length:Int)≤2)=True:=K_ (by omega);have f2:(((Xb B).length:Int)≤2)=True:=K_ (by omega);have f3:((B:Int)=0)=False:=Q' (by omega);refine Fq Tryz.call218 Tryz.func218 16 [] [] [] (by simp[KJ,Xa,Xj]) (Xk ?_);simp(maxSteps:=999999)only[P',↓X6,wA,seval,zA,qA,qC,wN];simp only[f1,f2,hs.1,hs.2,↓X6,wA,seval,zA,qA,qC,wN];refine X2 c1 rfl ?_;simp only[↓X6,wA,seval,zA,qA,qC,wN];refine X2 c2 rfl ?_;simp only[f3,e1,↓X6,wA,seval,zA,qA,qC,wN];refine X2 c3 rfl ?_;simp only[↓X6,wA,seval,zA,qA,qC,wN];refine X2 c1 rfl ?_;simp only[↓X6,wA,seval,zA,qA,qC,wN];refine X2 c2 rfl ?_;simp only[f3,e2,↓X6,wA,seval,zA,qA,qC,wN];refine X2 c4 rfl ?_;simp only[↓X6,wA,seval,zA,qA,qC,wN];exact mg rfl rfl rfl (Xc _) (Xc _) rfl rfl
 have hb:(0:Int)<B:=by omega
 obtain⟨a,ha⟩:∃a,a=Xb A:=⟨_,rfl⟩
 have hqa:=Rp (a:=Xb A) (b:=(B:Int)) hb;have hr0:Kw (Xb A) B 0=((A%B:Nat):Int):=by unfold Kw;rw[ZBf,vA];rfl
 have TBA:val (BD (AX (Xb A) B) (Xb A).length)=((A/B:Nat):Int):=by
  rw[vA,hr0]at hqa;have h3:=Nat.mod_add_div A B;have h3':((A%B:Nat):Int)+B*((A/B:Nat):Int)=A:=by exact_mod_cast h3
  have h4:(B:Int)*val (BD (AX (Xb A) B) (Xb A).length)=B*((A/B:Nat):Int):=by omega
  exact Int.eq_of_mul_eq_mul_left (by omega) h4
 refine⟨BD (AX (Xb A) B) (Xb A).length,DK fun i _=>EL dA hb i,TBA,by rw[Qp];exact hA,?_⟩;obtain⟨QQ,hQQ⟩:∃r,r=X8 (BD (AX (Xb A) B) (Xb A).length):=⟨_,rfl⟩
 have sQQ:A_ QQ:=hQQ▸Xc _;rw[←hQQ];have w00:Q_.wrap ((Xb A).length:Int)=((Xb A).length:Int):=by rw[M'];omega
 have w0:Q_.wrap (((Xb A).length:Int)-1)=((Xb A).length:Int)-1:=by rw[M'];omega
 refine Fq Tryz.call218 Tryz.func218 16 [] [] [] (by simp[Xc]) (Xk ?_);have hsI:¬ (((Xb A).length:Int)≤2∧((Xb B).length:Int)≤2):=fun h=>hs ⟨by omega,by omega⟩
 simp(maxSteps:=999999)only[P',w0,T_,↓X6,wA,seval,zA,qA,qC,wN];refine(fun key=>⟨fun a=>⟨fun b=>absurd ⟨a,b⟩ hsI,fun _=>⟨⟨by omega,by omega⟩,key⟩⟩,fun _=>⟨⟨by omega,by omega⟩,key⟩⟩) ?r;refine Xi (Km (Xb A) (Xb B) B) (fun p=>p≤(Xb A).length) (fun p=>p) (Xb A).length (N' _) ?_ ?_
 ·refine(Zh 0 (Xb A).length (J0 I 0 (DU (Xb A) B (Xb A).length)) rfl (N' _) ?_).trans ?_
  ·intro j hj
   have:(DU (Xb A) B (Xb A).length).getD j 0=0:=by unfold DU;rw[D5 _ _ _ hj,M_ (by omega)]
   rw[Bq,this];rfl
  refine(Ud 9 (X8 []) (by simp) ?_).trans (Xh rfl ?_ ?_ ?_)
  ·exact QG _ _
  ·simp[Km,Xm,X8,QE,I,Nc,Qu]
  ·simp[Km,Xu]
  ·rfl
 intro p hp next
 cases p with
 |zero =>
  have e1:((0:Int)≤0-1)=False:=Q' (by omega);refine Xk ?_;simp(maxSteps:=999999)only[Km,e1,↓X6,wA,seval,zA,qA,qC,wN];refine rj rfl (Dv ⟨?_,XU (Xc _) ?_,trivial⟩)
  ·rw[hQQ]
   exact Bp X9 rfl rfl (Qp _ _).symm (by rw[P8]) (ZCA (Qp _ _))
  ·rw[hr0,T_];rfl
 |succ i =>
  obtain⟨r,hr⟩:∃r,r=(Kw (Xb A) B (i+1)).toNat:=⟨_,rfl⟩
  have r0:0≤Kw (Xb A) B (i+1):=ZBr _ (by omega);have r1:Kw (Xb A) B (i+1)<B:=ZBN _ hb;have er:Kw (Xb A) B (i+1)=r:=by omega
  have da:=Qn dA i;unfold Qk at da;have eA:(Xb A).getD i 0=dg (Xb A) i:=rfl;obtain⟨x,hx⟩:∃x:Nat,dg (Xb A) i=x:=⟨(dg (Xb A) i).toNat,by omega⟩
  rw[hx]at da eA;obtain⟨R,hR⟩:∃R,R=r*1000000000+x:=⟨_,rfl⟩
  obtain⟨Q,hQ⟩:∃Q,Q=AX (Xb A) B i:=⟨_,rfl⟩
  have hRc:(R:Int)=(r:Int)*1000000000+x:=by omega
  have hQd:Q=(R:Int)/B:=by rw[hQ,AX,er,eA,hRc]
  have hrn:Kw (Xb A) B i=(R:Int)%B:=by rw[Il (Xb A) B i (by omega),er,eA,hRc]
  have dQ:=EL dA hb i;rw[←hQ]at dQ;unfold Qk at dQ;have q0:=dQ.1;have hdm:=Int.emod_add_mul_ediv (R:Int) B;rw[←hQd,←hrn]at hdm;have n0:0≤Kw (Xb A) B i:=ZBr _ (by omega);have n1:Kw (Xb A) B i<B:=ZBN _ hb;have hmq:(B:Int)*(Q+1)=B*Q+B:=by rw[ZDS,Int.mul_one]
  have lR:(Xb R).length≤(Xb B).length+1:=by
   have h1:((R:Int)).natAbs≤((B:Int)*1000000000).natAbs:=by omega
   have h2:=Jd h1;have h3:=K5 (B:Int) 1000000000;have h4:bl (1000000000:Int)≤2:=GE (by simp[pw]);rw[KC]at h2 h3;have h5:(R:Int)<pw ((Xb B).length+1):=by
    have g1:=PZ B;have g2:=JI (Xb B).length;simp only[pw];omega
   exact Ey h5
  have XJ:∀mid:Int,0≤mid→mid<1000000000→Fn Tryz.prog 237 [X8 (Xb B),I mid] (X8 (Xb ((B:Int)*mid).toNat))∧Fn Tryz.prog 162 [X8 (Xb ((B:Int)*mid).toNat),X8 (Xb R)] (I ((B:Int)*mid-R).sign):=by
   intro mid g0 g1;have c1:=mT (Xb B) mid (Q6 B) ⟨g0,g1⟩ (by omega);rw[vB]at c1;have m0:0≤(B:Int)*mid:=ZBO (by omega) g0;have m1:(Xb ((B:Int)*mid).toNat).length≤(Xb B).length+3:=by
    have h2:=K5 (B:Int) mid;have h3:bl mid≤3:=ZZ ⟨by omega,by omega⟩;have h4:bl ((B:Int)*mid)=(Xb ((B:Int)*mid).toNat).length:=by show(Xb ((B:Int)*mid).natAbs).length=_;rw[show((B:Int)*mid).natAbs=((B:Int)*mid).toNat by omega]
    rw[KC]at h2;omega
   have c2:=BE (Xb ((B:Int)*mid).toNat) (Xb R) (Q6 _) (Q6 _) (by omega);rw[XG,XG,ZB5 m0]at c2;exact⟨c1,c2⟩
  obtain⟨T,hT⟩:∃T:Nat,(T:Int)=B*Q:=⟨((B:Int)*Q).toNat,ZB5 (ZBO (by omega) q0)⟩
  have hTR:T≤R:=by omega
  have lT:(Xb T).length≤(Xb R).length:=by
   have:=Jd (y:=(T:Int)) (z:=(R:Int)) (by omega);rw[KC,KC]at this;exact this
  have cm:=FB (Xb R) (Xb T) (XZ _) (XZ _) (by omega) lT (by rw[XG,XG];omega);have vm:=Cm (XZ R) (XZ T) lT (by rw[XG,XG];omega);rw[XG,XG]at vm;have cn:=Ku false (A6 (Xb R) (Xb T)) (Cl (XZ _) (XZ _)) (by unfold A6;rw[Qp];omega);obtain⟨r',hr'⟩:∃r':Nat,(r':Int)=Kw (Xb A) B i:=⟨(Kw (Xb A) B i).toNat,by omega⟩
  rw[vm,show Z9 false ((R:Int)-T)=(r':Int)by unfold Z9;simp;omega,Ja]at cn;have eT:((B:Int)*Q).toNat=T:=by omega
  have TAp:(Kw (Xb A) B i).toNat=r':=by omega
  rw[←eT]at cm cn;have hU:Ek (J0 I 0 (DU (Xb A) B (i+1))) i (.int .i64 Q)=J0 I 0 (DU (Xb A) B i):=by
   rw[ZY _ _ _ (by rw[Tp];omega),Tq (Xb A) B i (by omega) hQ]
  have e1:((i+1:Nat):Int)-1=(i:Int):=by omega
  have w1:Q_.wrap ((i:Int)-1)=(i:Int)-1:=by rw[M'];omega
  have f3:(i<(Xb A).length)=True:=K_ (by omega);have f3':(i+1≤(Xb A).length)=True:=K_ (by omega);have e0:((0:Int)≤(i:Int))=True:=K_ (by omega);have cc0:=BE (Xb R) (Xb B) (Q6 _) (Q6 _) (by omega);rw[XG,vB]at cc0;by_cases hrz:r=0
  ·
   have TED:(Kw (Xb A) B (i+1)).toNat=0:=by omega
   have hRx:R=x:=by omega
   have cn1:=Ku false [(x:Int)] (Zw.2 ⟨⟨by omega,by omega⟩,CJ⟩) (by simp);rw[show Z9 false (val [(x:Int)])=(R:Int)by unfold Z9;simp[val];omega,Ja]at cn1;refine Xk ?_;simp(maxSteps:=999999)only[Km,e1,e0,eA,f3,TED,Qu,T_,↓X6,wA,seval,zA,qA,qC,wN];refine X0 cn1 ⟨X' _,Ce rfl rfl,trivial⟩ ?_;simp(maxSteps:=999999)only[↓X6,wA,seval,zA,qA,qC,wN];refine X2 cc0 rfl ?_;by_cases hlt:((R:Int)-B).sign<0
   ·have g1:(((R:Int)-B).sign<0)=True:=K_ hlt
    have hQ0:Q=0:=by
     have:=ZBI.1 hlt;rw[hQd];exact ZDj (by omega) (by omega)
    simp(maxSteps:=999999)only[g1,↓X6,wA,seval,zA,qA,qC,wN];refine Xi (Q2 (Xb A) (Xb B) B i R) (fun p=>0≤p.1∧p.1≤Q∧Q≤p.2∧p.2<1000000000) (fun p=>(p.2-p.1).toNat) (0,0) ⟨ZB0 0,q0,by simp only;omega,by simp only;omega⟩ ?_ ?_
    ·exact(XD (m:=1) (p_ _) rfl (by simp[zA,qA,qC,wN,Q2,Xm,X8,QE,I]) (by simp[zA,qA,qC,wN,Q2,Xu]) (by simp[zA,qA,qC,wN,Q2,X8,QE,I]) (by simp[zA,qA,qC,wN,Q2,XK]) (by simp[zA,qA,qC,wN,Q2,XK]) (by simp[zA,qA,qC,wN,Q2,XK]))
    rintro⟨lo,hi⟩ ⟨h1,h2,h3,h4⟩ TAS;simp only at h1 h2 h3 h4;by_cases hlh:lo<hi
    ·obtain⟨mid,TBO⟩:∃mid,mid=(lo+hi+1)/2:=⟨_,rfl⟩
     have k1:Q_.wrap (lo+hi)=lo+hi:=by rw[M'];omega
     have k2:Q_.wrap (lo+hi+1)=lo+hi+1:=by rw[M'];omega
     have k3:Q_.wrap ((lo+hi+1).tdiv 2)=mid:=by rw[q_ (by omega),←TBO,M'];omega
     have k4:Q_.wrap (mid-1)=mid-1:=by rw[M'];omega
     have j1:(lo<hi)=True:=K_ hlh;obtain⟨ct,cc⟩:=XJ mid (by omega) (by omega);by_cases hm:(B:Int)*mid≤R
     ·have j2:(((B:Int)*mid-R).sign≤0)=True:=K_ (by
       rcases ZB2 hm with h |h
       ·rw[n_ (by omega)];omega
       ·rw[h,ZCQ];simp)
      have hq:mid≤Q:=by
       apply X_;intro hh;have:(B:Int)*(Q+1)≤B*mid:=W_ (by omega) (by omega);omega
      refine Xk ?_;simp(maxSteps:=999999)only[Q2,j1,k1,k2,k3,zU,↓X6,wA,seval,zA,qA,qC,wN];refine X2 ct rfl ?_;simp(maxSteps:=999999)only[k1,k2,k3,↓X6,wA,seval,zA,qA,qC,wN];refine X2 cc rfl ?_;simp(maxSteps:=999999)only[j2,↓X6,wA,seval,zA,qA,qC,wN];exact TAS (mid,hi) _ ⟨by simp only;omega,hq,h3,h4⟩ (by simp only;omega) (Xh rfl (by simp[Q2,Xm,X8,QE,I]) (by simp[Q2,Xu]) rfl)
     ·have j2:(((B:Int)*mid-R).sign≤0)=False:=Q' (by
       rw[u_ (by omega)];omega)
      have hq:Q≤mid-1:=by
       apply X_;intro hh;have:(B:Int)*mid≤B*Q:=W_ (by omega) (by omega);omega
      refine Xk ?_;simp(maxSteps:=999999)only[Q2,j1,k1,k2,k3,zU,↓X6,wA,seval,zA,qA,qC,wN];refine X2 ct rfl ?_;simp(maxSteps:=999999)only[k1,k2,k3,↓X6,wA,seval,zA,qA,qC,wN];refine X2 cc rfl ?_;simp(maxSteps:=999999)only[j2,k4,↓X6,wA,seval,zA,qA,qC,wN];exact TAS (lo,mid-1) _ ⟨h1,h2,hq,by simp only;omega⟩ (by simp only;omega) (Xh rfl (by simp[Q2,Xm,X8,QE,I]) (by simp[Q2,Xu]) rfl)
    ·obtain rfl:lo=Q:=by omega
     have j1:(lo<hi)=False:=Q' hlh;obtain⟨ct,_⟩:=XJ lo (by omega) (by omega);refine Xk ?_;simp(maxSteps:=999999)only[Q2,j1,↓X6,wA,seval,zA,qA,qC,wN];refine X2 ct rfl ?_;simp(maxSteps:=999999)only[↓X6,wA,seval,zA,qA,qC,wN];refine X2 cm rfl ?_;simp(maxSteps:=999999)only[↓X6,wA,seval,zA,qA,qC,wN];refine X2 cn rfl ?_;simp(maxSteps:=999999)only[f3,f3',hU,w1,T_,↓X6,wA,seval,zA,qA,qC,wN];exact next i _ (by omega) (by omega) (XD (m:=1) (p_ _) rfl (by simp[zA,qA,qC,wN,Km,TAp,Xm,X8,QE,I]) (by simp[zA,qA,qC,wN,Km,TAp,Xu]) (by simp[zA,qA,qC,wN,Km,TAp,X8,QE,I]) (by simp[zA,qA,qC,wN,Km,TAp,XK]) (by simp[zA,qA,qC,wN,Km,TAp,XK]) (by simp[zA,qA,qC,wN,Km,TAp,XK]))
   ·have g1:(((R:Int)-B).sign<0)=False:=Q' hlt
    simp(maxSteps:=999999)only[g1,↓X6,wA,seval,zA,qA,qC,wN];refine Xi (Q2 (Xb A) (Xb B) B i R) (fun p=>0≤p.1∧p.1≤Q∧Q≤p.2∧p.2<1000000000) (fun p=>(p.2-p.1).toNat) (0,999999999) ⟨ZB0 0,q0,by simp only;omega,by simp only;omega⟩ ?_ ?_
    ·exact(XD (m:=1) (p_ _) rfl (by simp[zA,qA,qC,wN,Q2,Xm,X8,QE,I]) (by simp[zA,qA,qC,wN,Q2,Xu]) (by simp[zA,qA,qC,wN,Q2,X8,QE,I]) (by simp[zA,qA,qC,wN,Q2,XK]) (by simp[zA,qA,qC,wN,Q2,XK]) (by simp[zA,qA,qC,wN,Q2,XK]))
    rintro⟨lo,hi⟩ ⟨h1,h2,h3,h4⟩ TAS;simp only at h1 h2 h3 h4;by_cases hlh:lo<hi
    ·obtain⟨mid,TBO⟩:∃mid,mid=(lo+hi+1)/2:=⟨_,rfl⟩
     have k1:Q_.wrap (lo+hi)=lo+hi:=by rw[M'];omega
     have k2:Q_.wrap (lo+hi+1)=lo+hi+1:=by rw[M'];omega
     have k3:Q_.wrap ((lo+hi+1).tdiv 2)=mid:=by rw[q_ (by omega),←TBO,M'];omega
     have k4:Q_.wrap (mid-1)=mid-1:=by rw[M'];omega
     have j1:(lo<hi)=True:=K_ hlh;obtain⟨ct,cc⟩:=XJ mid (by omega) (by omega);by_cases hm:(B:Int)*mid≤R
     ·have j2:(((B:Int)*mid-R).sign≤0)=True:=K_ (by
       rcases ZB2 hm with h |h
       ·rw[n_ (by omega)];omega
       ·rw[h,ZCQ];simp)
      have hq:mid≤Q:=by
       apply X_;intro hh;have:(B:Int)*(Q+1)≤B*mid:=W_ (by omega) (by omega);omega
      refine Xk ?_;simp(maxSteps:=999999)only[Q2,j1,k1,k2,k3,zU,↓X6,wA,seval,zA,qA,qC,wN];refine X2 ct rfl ?_;simp(maxSteps:=999999)only[k1,k2,k3,↓X6,wA,seval,zA,qA,qC,wN];refine X2 cc rfl ?_;simp(maxSteps:=999999)only[j2,↓X6,wA,seval,zA,qA,qC,wN];exact TAS (mid,hi) _ ⟨by simp only;omega,hq,h3,h4⟩ (by simp only;omega) (Xh rfl (by simp[Q2,Xm,X8,QE,I]) (by simp[Q2,Xu]) rfl)
     ·have j2:(((B:Int)*mid-R).sign≤0)=False:=Q' (by
       rw[u_ (by omega)];omega)
      have hq:Q≤mid-1:=by
       apply X_;intro hh;have:(B:Int)*mid≤B*Q:=W_ (by omega) (by omega);omega
      refine Xk ?_;simp(maxSteps:=999999)only[Q2,j1,k1,k2,k3,zU,↓X6,wA,seval,zA,qA,qC,wN];refine X2 ct rfl ?_;simp(maxSteps:=999999)only[k1,k2,k3,↓X6,wA,seval,zA,qA,qC,wN];refine X2 cc rfl ?_;simp(maxSteps:=999999)only[j2,k4,↓X6,wA,seval,zA,qA,qC,wN];exact TAS (lo,mid-1) _ ⟨h1,h2,hq,by simp only;omega⟩ (by simp only;omega) (Xh rfl (by simp[Q2,Xm,X8,QE,I]) (by simp[Q2,Xu]) rfl)
    ·obtain rfl:lo=Q:=by omega
     have j1:(lo<hi)=False:=Q' hlh;obtain⟨ct,_⟩:=XJ lo (by omega) (by omega);refine Xk ?_;simp(maxSteps:=999999)only[Q2,j1,↓X6,wA,seval,zA,qA,qC,wN];refine X2 ct rfl ?_;simp(maxSteps:=999999)only[↓X6,wA,seval,zA,qA,qC,wN];refine X2 cm rfl ?_;simp(maxSteps:=999999)only[↓X6,wA,seval,zA,qA,qC,wN];refine X2 cn rfl ?_;simp(maxSteps:=999999)only[f3,f3',hU,w1,T_,↓X6,wA,seval,zA,qA,qC,wN];exact next i _ (by omega) (by omega) (XD (m:=1) (p_ _) rfl (by simp[zA,qA,qC,wN,Km,TAp,Xm,X8,QE,I]) (by simp[zA,qA,qC,wN,Km,TAp,Xu]) (by simp[zA,qA,qC,wN,Km,TAp,X8,QE,I]) (by simp[zA,qA,qC,wN,Km,TAp,XK]) (by simp[zA,qA,qC,wN,Km,TAp,XK]) (by simp[zA,qA,qC,wN,Km,TAp,XK]))
  ·
   obtain⟨m,hm⟩:∃m,m=(Xb r).length:=⟨_,rfl⟩
   have hm0:m≠0:=fun h=>hrz (TAA.1 (by omega))
   have dR:Xb R=(x:Int) :: Xb r:=by
    rw[BF (by omega),show R%1000000000=x by omega,show R/1000000000=r by omega]
   have hlR:1+m=(Xb R).length:=by rw[dR];simp;omega
   have hfj:∀j,j<1+m→Q1 1 (Xf [.int .i64 (x:Int)]) m (J0 I 0 (Xb r)) j=I ((Xb R).getD j 0):=by
    intro j hj;rw[dR];cases j with
    |zero=>simp[Q1,Xf,I]
    |succ j =>
     unfold Q1;rw[M_ (by omega),N_ hj,show j+1-1=j by omega,Bq];rfl
   have hnz:(Xb R).getD m 0≠0:=by
    have:=(Q6 R).2 (by rw[dR];simp);rwa[←hlR,show 1+m-1=m by omega]at this
   have hfl:Q1 1 (Xf [.int .i64 (x:Int)]) m (J0 I 0 (Xb r)) (1+m-1)=.int .i64 ((Xb R).getD m 0):=by
    rw[show 1+m-1=m by omega,hfj m (by omega)];rfl
   have cno:=VL false (DU (Xb A) B (i+1)) (Xb A).length (1+m) _ _ hfl hnz (by omega) (by omega) (fun j hj=>by rw[hfj j hj];exact xL _ _);have hw:∀H:List AO,H[1]?=some (.con 0 (1+m) (Q1 1 (Xf [.int .i64 (x:Int)]) m (J0 I 0 (Xb r))))→Ko H (.osl 1 0 1 0 (1+m)) (X8 (Xb R)):=by
    intro H ho;show Ko H _ (.sl (Xb R).length (Xb R).length (J0 I 0 (Xb R)) false);rw[←hlR];exact Kh ho (N' _) (fun h=>by omega) fun j hj=>by rw[hfj j hj];exact XC _ _
   have f5:(m=0)=False:=Q' hm0;have TED:(Kw (Xb A) B (i+1)).toNat=r:=by omega
   refine Xk ?_;simp(maxSteps:=999999)only[Km,e1,e0,eA,f3,TED,←hm,f5,T_,↓X6,wA,seval,zA,qA,qC,wN];refine⟨⟨by omega,by omega,by omega⟩,Xz rfl cno (fun _ _ _ _=>ZCj) (fun id=>?_) ⟨X' _,X' _,trivial⟩ ?_⟩
   ·match id with
    |0=>simp
    |1=>simp
    |id+2=>simp
   simp(maxSteps:=999999)only[↓X6,wA,seval,zA,qA,qC,wN];refine Oq cc0 rfl ⟨Wb rfl rfl hlR (by omega) (fun j hj=>hfj j (by omega)),XU (Xc _) rfl,trivial⟩ (jP _ _) ?_;by_cases hlt:((R:Int)-B).sign<0
   ·have g1:(((R:Int)-B).sign<0)=True:=K_ hlt
    have hQ0:Q=0:=by
     have:=ZBI.1 hlt;rw[hQd];exact ZDj (by omega) (by omega)
    simp(maxSteps:=999999)only[g1,↓X6,wA,seval,zA,qA,qC,wN];refine Xi (Q2 (Xb A) (Xb B) B i R) (fun p=>0≤p.1∧p.1≤Q∧Q≤p.2∧p.2<1000000000) (fun p=>(p.2-p.1).toNat) (0,0) ⟨ZB0 0,q0,by simp only;omega,by simp only;omega⟩ ?_ ?_
    ·refine(XB 1 rfl).trans ((Au 9 (X8 (Xb R)) (by simp) (hw _ rfl)).trans (XD (m:=1) (p_ _) rfl (by simp[zA,qA,qC,wN,Q2,Xm,X8,QE,I]) (by simp[zA,qA,qC,wN,Q2,Xu]) (by simp[zA,qA,qC,wN,Q2,X8,QE,I]) (by simp[zA,qA,qC,wN,Q2,XK]) (by simp[zA,qA,qC,wN,Q2,XK]) (by simp[zA,qA,qC,wN,Q2,XK])))
    rintro⟨lo,hi⟩ ⟨h1,h2,h3,h4⟩ TAS;simp only at h1 h2 h3 h4;by_cases hlh:lo<hi
    ·obtain⟨mid,TBO⟩:∃mid,mid=(lo+hi+1)/2:=⟨_,rfl⟩
     have k1:Q_.wrap (lo+hi)=lo+hi:=by rw[M'];omega
     have k2:Q_.wrap (lo+hi+1)=lo+hi+1:=by rw[M'];omega
     have k3:Q_.wrap ((lo+hi+1).tdiv 2)=mid:=by rw[q_ (by omega),←TBO,M'];omega
     have k4:Q_.wrap (mid-1)=mid-1:=by rw[M'];omega
     have j1:(lo<hi)=True:=K_ hlh;obtain⟨ct,cc⟩:=XJ mid (by omega) (by omega);by_cases hm:(B:Int)*mid≤R
     ·have j2:(((B:Int)*mid-R).sign≤0)=True:=K_ (by
       rcases ZB2 hm with h |h
       ·rw[n_ (by omega)];omega
       ·rw[h,ZCQ];simp)
      have hq:mid≤Q:=by
       apply X_;intro hh;have:(B:Int)*(Q+1)≤B*mid:=W_ (by omega) (by omega);omega
      refine Xk ?_;simp(maxSteps:=999999)only[Q2,j1,k1,k2,k3,zU,↓X6,wA,seval,zA,qA,qC,wN];refine X2 ct rfl ?_;simp(maxSteps:=999999)only[k1,k2,k3,↓X6,wA,seval,zA,qA,qC,wN];refine X2 cc rfl ?_;simp(maxSteps:=999999)only[j2,↓X6,wA,seval,zA,qA,qC,wN];exact TAS (mid,hi) _ ⟨by simp only;omega,hq,h3,h4⟩ (by simp only;omega) (Xh rfl (by simp[Q2,Xm,X8,QE,I]) (by simp[Q2,Xu]) rfl)
     ·have j2:(((B:Int)*mid-R).sign≤0)=False:=Q' (by
       rw[u_ (by omega)];omega)
      have hq:Q≤mid-1:=by
       apply X_;intro hh;have:(B:Int)*mid≤B*Q:=W_ (by omega) (by omega);omega
      refine Xk ?_;simp(maxSteps:=999999)only[Q2,j1,k1,k2,k3,zU,↓X6,wA,seval,zA,qA,qC,wN];refine X2 ct rfl ?_;simp(maxSteps:=999999)only[k1,k2,k3,↓X6,wA,seval,zA,qA,qC,wN];refine X2 cc rfl ?_;simp(maxSteps:=999999)only[j2,k4,↓X6,wA,seval,zA,qA,qC,wN];exact TAS (lo,mid-1) _ ⟨h1,h2,hq,by simp only;omega⟩ (by simp only;omega) (Xh rfl (by simp[Q2,Xm,X8,QE,I]) (by simp[Q2,Xu]) rfl)
    ·obtain rfl:lo=Q:=by omega
     have j1:(lo<hi)=False:=Q' hlh;obtain⟨ct,_⟩:=XJ lo (by omega) (by omega);refine Xk ?_;simp(maxSteps:=999999)only[Q2,j1,↓X6,wA,seval,zA,qA,qC,wN];refine X2 ct rfl ?_;simp(maxSteps:=999999)only[↓X6,wA,seval,zA,qA,qC,wN];refine X2 cm rfl ?_;simp(maxSteps:=999999)only[↓X6,wA,seval,zA,qA,qC,wN];refine X2 cn rfl ?_;simp(maxSteps:=999999)only[f3,f3',hU,w1,T_,↓X6,wA,seval,zA,qA,qC,wN];exact next i _ (by omega) (by omega) (XD (m:=1) (p_ _) rfl (by simp[zA,qA,qC,wN,Km,TAp,Xm,X8,QE,I]) (by simp[zA,qA,qC,wN,Km,TAp,Xu]) (by simp[zA,qA,qC,wN,Km,TAp,X8,QE,I]) (by simp[zA,qA,qC,wN,Km,TAp,XK]) (by simp[zA,qA,qC,wN,Km,TAp,XK]) (by simp[zA,qA,qC,wN,Km,TAp,XK]))
   ·have g1:(((R:Int)-B).sign<0)=False:=Q' hlt
    simp(maxSteps:=999999)only[g1,↓X6,wA,seval,zA,qA,qC,wN];refine Xi (Q2 (Xb A) (Xb B) B i R) (fun p=>0≤p.1∧p.1≤Q∧Q≤p.2∧p.2<1000000000) (fun p=>(p.2-p.1).toNat) (0,999999999) ⟨ZB0 0,q0,by simp only;omega,by simp only;omega⟩ ?_ ?_
    ·refine(XB 1 rfl).trans ((Au 9 (X8 (Xb R)) (by simp) (hw _ rfl)).trans (XD (m:=1) (p_ _) rfl (by simp[zA,qA,qC,wN,Q2,Xm,X8,QE,I]) (by simp[zA,qA,qC,wN,Q2,Xu]) (by simp[zA,qA,qC,wN,Q2,X8,QE,I]) (by simp[zA,qA,qC,wN,Q2,XK]) (by simp[zA,qA,qC,wN,Q2,XK]) (by simp[zA,qA,qC,wN,Q2,XK])))
    rintro⟨lo,hi⟩ ⟨h1,h2,h3,h4⟩ TAS;simp only at h1 h2 h3 h4;by_cases hlh:lo<hi
    ·obtain⟨mid,TBO⟩:∃mid,mid=(lo+hi+1)/2:=⟨_,rfl⟩
     have k1:Q_.wrap (lo+hi)=lo+hi:=by rw[M'];omega
     have k2:Q_.wrap (lo+hi+1)=lo+hi+1:=by rw[M'];omega
     have k3:Q_.wrap ((lo+hi+1).tdiv 2)=mid:=by rw[q_ (by omega),←TBO,M'];omega
     have k4:Q_.wrap (mid-1)=mid-1:=by rw[M'];omega
     have j1:(lo<hi)=True:=K_ hlh;obtain⟨ct,cc⟩:=XJ mid (by omega) (by omega);by_cases hm:(B:Int)*mid≤R
     ·have j2:(((B:Int)*mid-R).sign≤0)=True:=K_ (by
       rcases ZB2 hm with h |h
       ·rw[n_ (by omega)];omega
       ·rw[h,ZCQ];simp)
      have hq:mid≤Q:=by
       apply X_;intro hh;have:(B:Int)*(Q+1)≤B*mid:=W_ (by omega) (by omega);omega
      refine Xk ?_;simp(maxSteps:=999999)only[Q2,j1,k1,k2,k3,zU,↓X6,wA,seval,zA,qA,qC,wN];refine X2 ct rfl ?_;simp(maxSteps:=999999)only[k1,k2,k3,↓X6,wA,seval,zA,qA,qC,wN];refine X2 cc rfl ?_;simp(maxSteps:=999999)only[j2,↓X6,wA,seval,zA,qA,qC,wN];exact TAS (mid,hi) _ ⟨by simp only;omega,hq,h3,h4⟩ (by simp only;omega) (Xh rfl (by simp[Q2,Xm,X8,QE,I]) (by simp[Q2,Xu]) rfl)
     ·have j2:(((B:Int)*mid-R).sign≤0)=False:=Q' (by
       rw[u_ (by omega)];omega)
      have hq:Q≤mid-1:=by
       apply X_;intro hh;have:(B:Int)*mid≤B*Q:=W_ (by omega) (by omega);omega
      refine Xk ?_;simp(maxSteps:=999999)only[Q2,j1,k1,k2,k3,zU,↓X6,wA,seval,zA,qA,qC,wN];refine X2 ct rfl ?_;simp(maxSteps:=999999)only[k1,k2,k3,↓X6,wA,seval,zA,qA,qC,wN];refine X2 cc rfl ?_;simp(maxSteps:=999999)only[j2,k4,↓X6,wA,seval,zA,qA,qC,wN];exact TAS (lo,mid-1) _ ⟨h1,h2,hq,by simp only;omega⟩ (by simp only;omega) (Xh rfl (by simp[Q2,Xm,X8,QE,I]) (by simp[Q2,Xu]) rfl)
    ·obtain rfl:lo=Q:=by omega
     have j1:(lo<hi)=False:=Q' hlh;obtain⟨ct,_⟩:=XJ lo (by omega) (by omega);refine Xk ?_;simp(maxSteps:=999999)only[Q2,j1,↓X6,wA,seval,zA,qA,qC,wN];refine X2 ct rfl ?_;simp(maxSteps:=999999)only[↓X6,wA,seval,zA,qA,qC,wN];refine X2 cm rfl ?_;simp(maxSteps:=999999)only[↓X6,wA,seval,zA,qA,qC,wN];refine X2 cn rfl ?_;simp(maxSteps:=999999)only[f3,f3',hU,w1,T_,↓X6,wA,seval,zA,qA,qC,wN];exact next i _ (by omega) (by omega) (XD (m:=1) (p_ _) rfl (by simp[zA,qA,qC,wN,Km,TAp,Xm,X8,QE,I]) (by simp[zA,qA,qC,wN,Km,TAp,Xu]) (by simp[zA,qA,qC,wN,Km,TAp,X8,QE,I]) (by simp[zA,qA,qC,wN,Km,TAp,XK]) (by simp[zA,qA,qC,wN,Km,TAp,XK]) (by simp[zA,qA,qC,wN,Km,TAp,XK]))
end
end Go.Ab.N
