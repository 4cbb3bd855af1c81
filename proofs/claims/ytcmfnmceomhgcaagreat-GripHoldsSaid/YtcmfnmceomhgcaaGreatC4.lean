/- Contracts of functions, for every argument that fits. -/
import Derived.Test.YtcmfnmceomhgcaaGreatC3
set_option linter.unusedSimpArgs false
set_option linter.unusedVariables false
open Go.Ab.AS renaming start→O_,put→ZAt
open Go.IntKind renaming i64→Q_
open Int renaming reduceEq→ZAC,gcd→ZAn,lt_trichotomy→ZBo,natAbs_mul→ZB4,lt_or_eq_of_le→ZB5,toNat_of_nonneg→ZB8,sub_self→ZCW,ediv_eq_zero_of_lt→ZDn,mul_comm→ZEG
open List renaming replicate→ZAP,drop_length→ZDF
open Nat renaming le_of_eq→ZCE,dvd_mul_right→ZCK,div_le_self→ZDa,Coprime→ZD3
open Rat renaming divInt→P',num_divInt_den→ZC5,divInt_mul_divInt→ZDy
namespace Go.Ab.N
open Go Go.RowKit Go.Proofs
theorem ZAf:type_of%@Rat.not_lt:=@Rat.not_lt
theorem ZA7:type_of%@Bool.not_eq_true:=@Bool.not_eq_true
noncomputable section
set_option maxRecDepth 10000
set_option maxHeartbeats 2000000
open Classical
theorem rc (a b:Rat):ZAn ((P' a.num b.den).num*(P' b.num a.den).num) ((P' a.num b.den).den*(P' b.num a.den).den:Nat)=1 ∧
  P' ((P' a.num b.den).num*(P' b.num a.den).num) ((P' a.num b.den).den*(P' b.num a.den).den:Nat)=a*b:=by
 have hda:(a.den:Int)≠0:=by have:=a.den_nz;omega
 have hdb:(b.den:Int)≠0:=by have:=b.den_nz;omega
 obtain⟨m,m0,m1,m2⟩:=DX a.num b.den hdb;obtain⟨n,n0,n1,n2⟩:=DX b.num a.den hda;have hx:=(P' a.num b.den).reduced;have hy:=(P' b.num a.den).reduced;have exy:P' a.num b.den*P' b.num a.den=a*b:=by
  rw[ZDy,Rat.mul_def',Z8];congr 1
  push_cast
  exact ZEG _ _
 obtain⟨x,ex⟩:∃x,x=P' a.num b.den:=⟨_,rfl⟩
 obtain⟨y,ey⟩:∃y,y=P' b.num a.den:=⟨_,rfl⟩
 rw[←ex]at hx m1 m2 exy ⊢;rw[←ey]at hy n1 n2 exy ⊢;have d1:x.num.natAbs∣a.num.natAbs:=by rw[m1,ZB4];exact ZCK _ _
 have d2:x.den∣b.den:=by
  have:(b.den:Int).natAbs=x.den*m.natAbs:=by rw[m2,ZB4,ZAl]
  rw[ZAl]at this;rw[this];exact ZCK _ _
 have d3:y.num.natAbs∣b.num.natAbs:=by rw[n1,ZB4];exact ZCK _ _
 have d4:y.den∣a.den:=by
  have:(a.den:Int).natAbs=y.den*n.natAbs:=by rw[n2,ZB4,ZAl]
  rw[ZAl]at this;rw[this];exact ZCK _ _
 have k1:ZD3 x.num.natAbs y.den:=(a.reduced.coprime_dvd_left d1).coprime_dvd_right d4;have k2:ZD3 y.num.natAbs x.den:=(b.reduced.coprime_dvd_left d3).coprime_dvd_right d2;refine⟨?_,?_⟩
 ·unfold ZAn
  rw[ZB4,ZAl];exact(hx.mul_right k1).mul_left (k2.mul_right hy)
 ·rw[←exy]
  conv=>rhs;rw[←ZC5 x,←ZC5 y]
  rw[ZDy]
  push_cast;rfl
theorem B5 (a b:Rat)(ha:qb a≤rm)(hb:qb b≤rm):Fn Tryz.prog 34 [qA a,qA b] (qA (a*b)):=by
 unfold rm at ha hb;have a1:=Jy a;have a2:=JZ a;have b1:=Jy b;have b2:=JZ b;obtain⟨R,hR⟩:∃R,R=qA (a*b):=⟨_,rfl⟩
 have sR:A_ R:=hR▸Xb _;have la:=LO a;have lb:=LO b;have na:=EU a;have nb:=EU b;have z0:a=0∨b=0→R=.agg [.bool false,X9 [],.bool false,X9 []]:=by
  intro h;rw[hR,←Rx];rcases h with rfl |rfl
  ·rw[Rat.zero_mul]
  ·rw[Rat.mul_zero]
 rw[←hR];by_cases ha0:a=0
 ·have g1:(a=0)=True:=L' ha0
  refine Fq Tryz.call34 Tryz.func34 7 [] [5,60000002,60000003] [] (by simp[KM,Xb,Xi]) (Xk ?_);simp(maxSteps:=999999)only[O_,↓X6,wA,seval,zA,qA,qC,wN];simp only[la,lb,na,nb,g1,↓X6,wA,seval,zA,qA,qC,wN];exact Ql rfl XT rfl rfl rfl (z0 (.inl ha0)) sR ⟨U_ _,QI _ _,U_ _,QI _ _,trivial⟩
 have g1:(a=0)=False:=R_ ha0;by_cases hb0:b=0
 ·have g2:(b=0)=True:=L' hb0
  refine Fq Tryz.call34 Tryz.func34 7 [] [5,60000002,60000003] [] (by simp[KM,Xb,Xi]) (Xk ?_);simp(maxSteps:=999999)only[O_,↓X6,wA,seval,zA,qA,qC,wN];simp only[la,lb,na,nb,g1,g2,↓X6,wA,seval,zA,qA,qC,wN];exact Ql rfl XT rfl rfl rfl (z0 (.inr hb0)) sR ⟨U_ _,QI _ _,U_ _,QI _ _,trivial⟩
 have g2:(b=0)=False:=R_ hb0;by_cases hi:a.den=1∧b.den=1
 ·have f1:(a.den=1)=True:=L' hi.1
  have f2:(b.den=1)=True:=L' hi.2;obtain⟨e1,e2⟩:=r9 hi.1 hi.2;have hR':=hR.trans (Nb e2);rw[e1]at hR';refine Fq Tryz.call34 Tryz.func34 7 [] [5,60000002,60000003] [] (by simp[KM,Xb,Xi]) (Xk ?_);simp(maxSteps:=999999)only[O_,↓X6,wA,seval,zA,qA,qC,wN];simp only[la,lb,na,nb,g1,g2,f1,f2,↓X6,wA,seval,zA,qA,qC,wN];refine X2 (ET a.num b.num) rfl ?_;simp only[↓X6,wA,seval,zA,qA,qC,wN];exact Ql rfl XT rfl rfl rfl hR' sR ⟨U_ _,U_ _,U_ _,QI _ _,trivial⟩
 obtain⟨e1,e2⟩:=rc a b;have q1:=Zq a.num b.den 100000000;have q2:=Zq b.num a.den 100000000;have cA:=DV a;have cB:=DV b;have c1:=LG a.num b.den;have c2:=LG b.num a.den;obtain⟨x,ex⟩:∃x,x=P' a.num b.den:=⟨_,rfl⟩
 obtain⟨y,ey⟩:∃y,y=P' b.num a.den:=⟨_,rfl⟩
 rw[←ex]at c1 q1 e1 e2;rw[←ey]at c2 q2 e1 e2;have x1:=Jy x;have x2:=JZ x;have y1:=Jy y;have y2:=JZ y;have c3:=ET x.num y.num;have c4:=ET x.den y.den;have hnn:(x.den:Int)*y.den≠0:=Int.mul_ne_zero (by have:=x.den_nz;omega) (by have:=y.den_nz;omega)
 push_cast at e1 e2
 have c5:=FD (x.num*y.num) (x.den*y.den) hnn e1;rw[e2,←hR]at c5;have cX:=DV x;have cY:=DV y;by_cases f:a.den=1
 ·have f1:(a.den=1)=True:=L' f
  have f2:(b.den=1)=False:=R_ fun e=>hi ⟨f,e⟩
  refine Fq Tryz.call34 Tryz.func34 7 [] [5,60000002,60000003] [] (by simp[KM,Xb,Xi]) (Xk ?_);simp(maxSteps:=999999)only[O_,↓X6,wA,seval,zA,qA,qC,wN];simp only[la,lb,na,nb,f1,f2,g1,g2,↓X6,wA,seval,zA,qA,qC,wN];refine X2 cB rfl ?_;simp only[↓X6,wA,seval,zA,qA,qC,wN];refine X2 c1 rfl ?_;simp only[↓X6,wA,seval,zA,qA,qC,wN];refine X2 cA rfl ?_;simp only[↓X6,wA,seval,zA,qA,qC,wN];refine X2 c2 rfl ?_;simp only[↓X6,wA,seval,zA,qA,qC,wN];refine X2 c3 rfl ?_;simp only[↓X6,wA,seval,zA,qA,qC,wN];refine X2 cX rfl ?_;simp only[↓X6,wA,seval,zA,qA,qC,wN];refine X2 cY rfl ?_;simp only[↓X6,wA,seval,zA,qA,qC,wN];refine X2 c4 rfl ?_;simp only[↓X6,wA,seval,zA,qA,qC,wN];refine X2 c5 rfl ?_;simp only[hR,↓X6,wA,seval,zA,qA,qC,wN];exact Jf rfl XT rfl rfl rfl sR (hR.trans rfl)
 ·have f1:(a.den=1)=False:=R_ f
  have f2:True=True:=rfl;refine Fq Tryz.call34 Tryz.func34 7 [] [5,60000002,60000003] [] (by simp[KM,Xb,Xi]) (Xk ?_);simp(maxSteps:=999999)only[O_,↓X6,wA,seval,zA,qA,qC,wN];simp only[la,lb,na,nb,f1,f2,g1,g2,↓X6,wA,seval,zA,qA,qC,wN];refine X2 cB rfl ?_;simp only[↓X6,wA,seval,zA,qA,qC,wN];refine X2 c1 rfl ?_;simp only[↓X6,wA,seval,zA,qA,qC,wN];refine X2 cA rfl ?_;simp only[↓X6,wA,seval,zA,qA,qC,wN];refine X2 c2 rfl ?_;simp only[↓X6,wA,seval,zA,qA,qC,wN];refine X2 c3 rfl ?_;simp only[↓X6,wA,seval,zA,qA,qC,wN];refine X2 cX rfl ?_;simp only[↓X6,wA,seval,zA,qA,qC,wN];refine X2 cY rfl ?_;simp only[↓X6,wA,seval,zA,qA,qC,wN];refine X2 c4 rfl ?_;simp only[↓X6,wA,seval,zA,qA,qC,wN];refine X2 c5 rfl ?_;simp only[hR,↓X6,wA,seval,zA,qA,qC,wN];exact Jf rfl XT rfl rfl rfl sR (hR.trans rfl)
theorem FM (a b:Rat)(ha:qb a≤rm:=by unfold rm;omega)(hb:qb b≤rm:=by unfold rm;omega):Fn Tryz.prog 147 [qA a,qA b] (qA (a-b)):=by
 obtain⟨R,hR⟩:∃R,R=qA (a-b):=⟨_,rfl⟩
 have sR:A_ R:=hR▸Xb _;have c:=Cf a (-b) ha (by rw[Bj];exact hb);rw[←Rat.sub_eq_add_neg,←hR]at c;rw[←hR];refine Fq Tryz.call147 Tryz.func147 5 [] [] [] (by simp[KM,Xb,Xi]) (Xk ?_);simp(maxSteps:=999999)only[O_,↓X6,wA,seval,zA,qA,qC,wN];refine X2 (Zd b) rfl ?_;simp only[↓X6,wA,seval,zA,qA,qC,wN];refine X2 c rfl ?_;simp only[hR,↓X6,wA,seval,zA,qA,qC,wN];exact Jf rfl XT rfl rfl rfl sR (hR.trans rfl)
def Bk (a b:Rat):Int:=(a.num*b.den-b.num*a.den).sign
theorem Ul (n:Int)(d:Nat)(h:d≠0):(n*d).sign=n.sign:=by
 rw[Int.sign_mul,u_ (show(0:Int)<d by omega),Int.mul_one]
theorem Wi (a b:Rat)(h:a.num.sign≠b.num.sign∨a.num.sign=0):(a.num.sign-b.num.sign).sign=Bk a b:=by
 unfold Bk;have h1:=Ul a.num b.den b.den_nz;have h2:=Ul b.num a.den a.den_nz;generalize a.num*(b.den:Int)=x at *;generalize b.num*(a.den:Int)=y at *;rw[←h1,←h2]at h ⊢;rcases ZBo x 0 with hx |hx |hx <;> rcases ZBo y 0 with hy |hy |hy
 all_goals
  first
   |rw[o_ hx]at h ⊢
   |rw[u_ hx]at h ⊢
   |subst hx
  first
   |rw[o_ hy]at h ⊢
   |rw[u_ hy]at h ⊢
   |subst hy
 all_goals first
  | (exfalso;revert h;decide)
  |rfl
  | (symm;exact o_ (by omega))
  | (symm;exact u_ (by omega))
theorem CV (a b:Rat):Bk a b<0↔a<b:=by unfold Bk;rw[ZA6,Rat.lt_iff];omega
theorem Zy (a b:Rat):0<Bk a b↔b<a:=by unfold Bk;rw[Int.sign_pos_iff,Rat.lt_iff];omega
theorem Kt (a b:Rat):Bk a b≤0↔a≤b:=by rw[←ZAf,←Zy];omega
theorem Hv (a b:Rat):0≤Bk a b↔b≤a:=by rw[←ZAf,←CV];omega
theorem Ju (a b:Rat)(ha:qb a≤rm:=by unfold rm;omega)(hb:qb b≤rm:=by unfold rm;omega):Fn Tryz.prog 41 [qA a,qA b] (I (Bk a b)):=by
 unfold rm at ha hb;have a1:=Jy a;have a2:=JZ a;have b1:=Jy b;have b2:=JZ b;have m1:=JV a.num b.den;have m2:=JV b.num a.den;have i64:∀n:Int,Ap n.sign:=fun n=>by
  rcases ZBo n 0 with h |h |h
  ·rw[o_ h];exact⟨by omega,by omega⟩
  ·rw[h];exact⟨by decide,by decide⟩
  ·rw[u_ h];exact⟨by omega,by omega⟩
 have bs:∀n:Int,bl n.sign<1000000000:=fun n=>by have:=Aa (i64 n);omega
 obtain⟨V,hV⟩:∃V,V=Bk a b:=⟨_,rfl⟩
 rw[←hV];by_cases h:a.num.sign≠b.num.sign∨a.num.sign=0
 ·have c0:=IR a.num.sign b.num.sign (bs _) (bs _)
  rw[Wi a b h,←hV]at c0;by_cases h1:a.num.sign=b.num.sign
  ·have f1:(a.num.sign=b.num.sign)=True:=L' h1
   have f2:(a.num.sign=0)=True:=L' (h.resolve_left fun e=>e h1);have f2':(b.num.sign=0)=True:=L' (h1▸of_eq_true f2);refine Fq Tryz.call41 Tryz.func41 7 [] [] [] (by simp[KM,Xb,Xi]) (Xk ?_);simp(maxSteps:=999999)only[O_,↓X6,wA,seval,zA,qA,qC,wN];refine X2 (Qv a) rfl ?_;simp only[↓X6,wA,seval,zA,qA,qC,wN];refine X2 (Qv b) rfl ?_;simp only[f1,f2,f2',↓X6,wA,seval,zA,qA,qC,wN];refine X2 (Gr _ (i64 a.num)) rfl ?_;simp only[↓X6,wA,seval,zA,qA,qC,wN];refine X2 (Gr _ (i64 b.num)) rfl ?_;simp only[↓X6,wA,seval,zA,qA,qC,wN];refine X2 c0 rfl ?_;simp only[↓X6,wA,seval,zA,qA,qC,wN];exact Xn rfl rfl (X8 _) rfl
  ·have f1:(a.num.sign=b.num.sign)=False:=R_ h1
   refine Fq Tryz.call41 Tryz.func41 7 [] [] [] (by simp[KM,Xb,Xi]) (Xk ?_);simp(maxSteps:=999999)only[O_,↓X6,wA,seval,zA,qA,qC,wN];refine X2 (Qv a) rfl ?_;simp only[↓X6,wA,seval,zA,qA,qC,wN];refine X2 (Qv b) rfl ?_;simp only[f1,↓X6,wA,seval,zA,qA,qC,wN];refine X2 (Gr _ (i64 a.num)) rfl ?_;simp only[↓X6,wA,seval,zA,qA,qC,wN];refine X2 (Gr _ (i64 b.num)) rfl ?_;simp only[↓X6,wA,seval,zA,qA,qC,wN];refine X2 c0 rfl ?_;simp only[↓X6,wA,seval,zA,qA,qC,wN];exact Xn rfl rfl (X8 _) rfl
 ·have h1:a.num.sign=b.num.sign:=Y' fun e=>h (.inl e)
  have h2:¬a.num.sign=0:=fun e=>h (.inr e)
  have f1:(a.num.sign=b.num.sign)=True:=L' h1;have f2:(a.num.sign=0)=False:=R_ h2;have c0:=IR (a.num*b.den) (b.num*a.den) (by omega) (by omega);rw[show(a.num*b.den-b.num*a.den).sign=V from hV.symm]at c0;refine Fq Tryz.call41 Tryz.func41 7 [] [] [] (by simp[KM,Xb,Xi]) (Xk ?_);simp(maxSteps:=999999)only[O_,↓X6,wA,seval,zA,qA,qC,wN];refine X2 (Qv a) rfl ?_;simp only[↓X6,wA,seval,zA,qA,qC,wN];refine X2 (Qv b) rfl ?_;simp only[f1,f2,↓X6,wA,seval,zA,qA,qC,wN];refine X2 (DV b) rfl ?_;simp only[↓X6,wA,seval,zA,qA,qC,wN];refine X2 (ET a.num b.den) rfl ?_;simp only[↓X6,wA,seval,zA,qA,qC,wN];refine X2 (DV a) rfl ?_;simp only[↓X6,wA,seval,zA,qA,qC,wN];refine X2 (ET b.num a.den) rfl ?_;simp only[↓X6,wA,seval,zA,qA,qC,wN];refine X2 c0 rfl ?_;simp only[↓X6,wA,seval,zA,qA,qC,wN];exact Xn rfl rfl (X8 _) rfl
theorem dF (a b:List Int)(la:a.length<4611686018427387904)(lb:b.length<4611686018427387904):Fn Tryz.prog 108 [X9 a,X9 b] (.bool (decide (a=b))):=by
 obtain⟨V,hV⟩:∃V,V=decide (a=b):=⟨_,rfl⟩
 rw[←hV];refine Fq Tryz.call108 Tryz.func108 6 [11,12,13] [] [] (by simp[Xd]) (Xk ?_);by_cases hl:a.length=b.length
 ·have f1:((a.length:Int)=b.length)=True:=L' (by omega)
  have f1':(a.length=b.length)=True:=L' hl;simp only[O_,f1,f1',↓X6,wA,seval,zA,qA,qC,wN];refine Xj (fun j:Nat=>⟨6,[11,12,13],[X9 a,X9 b,.any,.any,.any,.any],[(11,X9 a),(12,I a.length),(13,I j)],[]⟩) (fun j=>j≤a.length∧∀i,i<j→a.getD i 0=b.getD i 0) (fun j=>a.length-j) 0 ⟨by omega,by omega⟩
   (Xh rfl (by simp[Xo,X9,QG,I,hl]) (by simp[Xx,XM,X9,QG,I,hl]) rfl) ?_
  rintro j ⟨hj,hno⟩ next
  have w1:=wj j;by_cases hj2:j<a.length
  ·have f2:((j:Int)<a.length)=True:=L' (by omega)
   have f3:(j<a.length)=True:=L' hj2;have f4:(j<b.length)=True:=L' (by omega);refine Xk ?_;simp only[w1,f2,f3,f4,↓X6,wA,seval,zA,qA,qC,wN];refine⟨fun h=>Xn (v:=.bool false) rfl rfl (X5 _) ?_,fun h=>next (j+1) _ ⟨by omega,fun i hi=>?_⟩ (by omega) (Xh rfl (by simp[Xo,X9,QG,I]) (by simp[Xx,XM,X9,QG,I]) rfl)⟩
   ·rw[hV,Z_ fun e=>h (by rw[e])]
   ·by_cases e:i=j
    ·rw[e];exact h
    ·exact hno i (by omega)
  ·have f2:((j:Int)<a.length)=False:=R_ (by omega)
   have f3:(j<a.length)=False:=R_ hj2;refine Xk ?_;simp only[w1,f2,f3,↓X6,wA,seval,zA,qA,qC,wN];refine Xn (v:=.bool true) rfl rfl (X5 _) ?_;rw[hV,c_];refine ZBf hl fun i h1 h2=>?_
   have:=hno i (by omega);rw[K',V' h1,K',V' h2]at this;exact this
 ·have f1:((a.length:Int)=b.length)=False:=R_ (by omega)
  have f1':(a.length=b.length)=False:=R_ hl;simp only[O_,f1,f1',↓X6,wA,seval,zA,qA,qC,wN];refine Xn (v:=.bool false) rfl rfl (X5 _) ?_;rw[hV,Z_ fun e=>hl (by rw[e])]
structure RQ where
 pn:Bool
 pd:List Int
 qn:Bool
 qd:List Int
def RQ.L (x:RQ):List AV:=[.bool x.pn,X9 x.pd,.bool x.qn,X9 x.qd]
def RQ.A (x:RQ):AV:=.agg x.L
theorem CI (x:RQ):A_ x.A:=XE (by simp[RQ.L,Xd,X5])
def RQ.of (r:Rat):RQ:=⟨decide (r.num<0),Xa r.num.natAbs,false,Xa (Ab.N.qd r)⟩
def RQ.sz (x:RQ):Nat:=max x.pd.length x.qd.length
theorem RQ.TBv (r:Rat):(RQ.of r).sz≤qb r:=by
 unfold RQ.sz RQ.of qb;simp only;have h1:bl r.num=(Xa r.num.natAbs).length:=rfl;have h2:(Xa (Ab.N.qd r)).length≤bl r.den:=by
  unfold Ab.N.qd;by_cases h:r.den=1
  ·rw[N_ h,Qu];simp
  ·rw[M_ h,KC];exact N' _
 omega
theorem GU {m n:Nat}(h:Xa m=Xa n):m=n:=by
 have h1:=XJ m;rw[h,XJ]at h1;omega
theorem RQ.TCi {a b:Rat}(h:RQ.of a=RQ.of b):a=b:=by
 unfold RQ.of at h
 injection h with h1 h2 h3 h4
 have h2:=GU h2;have h4:=GU h4;refine Rat.ext ?_ ?_
 ·have:(a.num<0)↔(b.num<0):=decide_eq_decide.1 h1
  omega
 ·unfold Ab.N.qd at h4
  have:=a.den_nz;have:=b.den_nz
  split at h4 <;> split at h4 <;> omega
theorem U8 (n1 n2:Bool)(d1 d2:List Int)(l1:d1.length<4611686018427387904)(l2:d2.length<4611686018427387904):Fn Tryz.prog 107 [zR n1 d1,zR n2 d2] (.bool (decide (n1=n2) && decide (d1=d2))):=by
 have c:=dF d1 d2 l1 l2;obtain⟨V,hV⟩:∃V,V=(decide (n1=n2) && decide (d1=d2)):=⟨_,rfl⟩
 rw[←hV];refine Fq Tryz.call107 Tryz.func107 5 [] [] [] (by simp[Xi]) (Xk ?_);simp only[O_,zR,↓X6,wA,seval,zA,qA,qC,wN];refine Qs (fun h=>?_) (fun h=>Xn (v:=.bool false) rfl rfl (X5 _) ?_)
 ·refine X2 c rfl ?_
  simp only[↓X6,wA,seval,zA,qA,qC,wN];refine Xn (v:=.bool (decide (d1=d2))) rfl rfl (X5 _) ?_;rw[hV,c_ (show n1=n2 by simpa using h),ZBt]
 ·rw[hV,Z_ (show ¬n1=n2 by simpa using h),Bool.false_and]
theorem RQ.eq_iff (x y:RQ):x=y↔(x.pn=y.pn∧x.pd=y.pd)∧x.qn=y.qn∧x.qd=y.qd:=by
 cases x;cases y;simp[and_assoc]
theorem mN (x y:RQ)(hx:x.sz<4611686018427387904)(hy:y.sz<4611686018427387904):Fn Tryz.prog 39 [x.A,y.A] (.bool (decide (x=y))):=by
 have c1:=U8 x.pn y.pn x.pd y.pd (by unfold RQ.sz at hx;omega) (by unfold RQ.sz at hy;omega);have c2:=U8 x.qn y.qn x.qd y.qd (by unfold RQ.sz at hx;omega) (by unfold RQ.sz at hy;omega);obtain⟨V,hV⟩:∃V,V=decide (x=y):=⟨_,rfl⟩
 rw[←hV];have e:=RQ.eq_iff x y;obtain⟨B1,hB1⟩:∃B,B=(decide (x.pn=y.pn) && decide (x.pd=y.pd)):=⟨_,rfl⟩
 obtain⟨B2,hB2⟩:∃B,B=(decide (x.qn=y.qn) && decide (x.qd=y.qd)):=⟨_,rfl⟩
 rw[←hB1]at c1;rw[←hB2]at c2;have hVB:V=(B1 && B2):=by
  rw[hV,hB1,hB2];simp only[e,Bool.decide_and]
 refine Fq Tryz.call39 Tryz.func39 6 [] [] [] (by simp[CI]) (Xk ?_);simp only[O_,RQ.A,RQ.L,↓X6,wA,seval,zA,qA,qC,wN];refine X2 c1 rfl ?_;cases B1
 ·simp only[↓X6,wA,seval,zA,qA,qC,wN]
  exact Xn (v:=.bool false) rfl rfl (X5 _) (by rw[hVB];rfl)
 ·simp only[↓X6,wA,seval,zA,qA,qC,wN]
  refine X2 c2 rfl ?_;simp only[↓X6,wA,seval,zA,qA,qC,wN];exact Xn (v:=.bool B2) rfl rfl (X5 _) (by rw[hVB];rfl)
def RQ.ok (x:RQ):Prop:=∃r:Rat,x=RQ.of r
theorem RQ.TBP (x:RQ)(p q:Int)(hp:x.pn=decide (p<0)) (hpd:x.pd=Xa p.natAbs) (hq:x.qn=decide (q<0)) (hqd:x.qd=Xa q.natAbs):x.ok↔¬q<0∧¬q=1∧(q=0∨ZAn p q=1):=by
 constructor
 ·rintro⟨r,rfl⟩
  unfold RQ.of at hp hpd hq hqd;simp only at hp hpd hq hqd;have h1:r.num.natAbs=p.natAbs:=GU hpd;have h2:=GU hqd;have h3:r.num<0↔p<0:=decide_eq_decide.1 hp;have hpr:p=r.num:=by omega
  have hq0:¬q<0:=by simpa using hq.symm
  have hd:=r.den_nz;unfold Ab.N.qd at h2;by_cases h:r.den=1
  ·rw[N_ h]at h2
   exact⟨hq0,by omega,.inl (by omega)⟩
  ·rw[M_ h]at h2
   refine⟨hq0,by omega,.inr ?_⟩;have:q=(r.den:Int):=by omega
   rw[hpr,this];exact r.reduced
 ·rintro⟨h1,h2,h3⟩
  by_cases h0:q=0
  ·refine⟨(p:Rat),?_⟩
   cases x;unfold RQ.of Ab.N.qd;simp only at hp hpd hq hqd;rw[hp,hpd,hq,hqd,h0];simp;exact decide_eq_decide.2 ZCo
  ·have hg:=h3.resolve_left h0
   have hn:ZD3 p.natAbs q.natAbs:=hg;refine⟨⟨p,q.natAbs,by omega,hn⟩,?_⟩;cases x;unfold RQ.of Ab.N.qd;simp only at hp hpd hq hqd ⊢;rw[M_ (by omega),hp,hpd,hq,hqd,Z_ h1]
theorem Po (x:RQ)(hx:x.sz<1000000000):Fn Tryz.prog 141 [x.A] (.bool (decide x.ok)):=by
 unfold RQ.sz at hx;obtain⟨V,hV⟩:∃V,V=decide x.ok:=⟨_,rfl⟩
 have c1:=OK x.pn x.pd (by omega);have c2:=OK x.qn x.qd (by omega);have c3:=aT x.qn x.qd;have TCg:KV x.pn x.pd=false→V=false:=fun h=>by
  rw[hV];refine Z_ ?_;rintro⟨r,rfl⟩;have:KV (RQ.of r).pn (RQ.of r).pd=true:=(ZR _ _).2 ⟨r.num,rfl,rfl⟩;rw[this]at h;cases h
 have TCh:KV x.qn x.qd=false→V=false:=fun h=>by
  rw[hV];refine Z_ ?_;rintro⟨r,rfl⟩;have:KV (RQ.of r).qn (RQ.of r).qd=true:=(ZR _ _).2 ⟨(Ab.N.qd r:Int),by unfold RQ.of;simp,by unfold RQ.of;simp⟩;rw[this]at h;cases h
 have fin:∀ {s:AS} {v:Bool},s.get 2=.bool v→v=V→TAC (JK Tryz.prog Tryz.f141 [] [] (.bool V)) s:=fun h e=>Xn rfl h (X5 _) (by rw[e])
 rw[←hV];refine Fq Tryz.call141 Tryz.func141 3 [] [] [] (by simp[CI]) (Xk ?_);simp only[O_,RQ.A,RQ.L,↓X6,wA,seval,zA,qA,qC,wN];refine X2 c1 rfl ?_;by_cases v1:KV x.pn x.pd=true
 rotate_left
 ·rw[ZA7]at v1
  rw[v1];simp only[↓X6,wA,seval,zA,qA,qC,wN];exact fin rfl (TCg v1).symm
 rw[v1];simp only[↓X6,wA,seval,zA,qA,qC,wN];refine X2 c2 rfl ?_;by_cases v2:KV x.qn x.qd=true
 rotate_left
 ·rw[ZA7]at v2
  rw[v2];simp only[↓X6,wA,seval,zA,qA,qC,wN];exact fin rfl (TCh v2).symm
 rw[v2];obtain⟨p,p1,p2⟩:=(ZR _ _).1 v1;obtain⟨q,q1,q2⟩:=(ZR _ _).1 v2;have hok:=RQ.TBP x p q p1 p2 q1 q2;have lp:bl p<1000000000:=by unfold bl;rw[←p2];omega
 have lq:bl q<1000000000:=by unfold bl;rw[←q2];omega
 rw[q1,q2,RP]at c3;have cg:=kT p q lp lq;have cu:=HU (ZAn p q);rw[p1,p2,q1,q2];have hl:((Xa q.natAbs).length=0)=(q=0):=propext (TAA.trans (by omega));have hlN:(Xa q.natAbs).length=0↔q=0:=TAA.trans (by omega);have hlI:(((Xa q.natAbs).length:Int)=0)=(q=0):=propext (by omega);by_cases h1:q<0
 ·have f1:(q<0)=True:=L' h1
  simp only[f1,↓X6,wA,seval,zA,qA,qC,wN];exact fin rfl (by rw[hV,Z_ (by rw[hok];exact fun h=>h.1 h1)])
 have f1:(q<0)=False:=R_ h1;simp only[f1,↓X6,wA,seval,zA,qA,qC,wN];have c3':=c3;rw[Z_ h1]at c3';refine X2 c3' rfl ?_;by_cases h2:q=1
 ·have f2:(q=1)=True:=L' h2
  simp only[f1,f2,↓X6,wA,seval,zA,qA,qC,wN];exact fin rfl (by rw[hV,Z_ (by rw[hok];exact fun h=>h.2.1 h2)])
 have f2:(q=1)=False:=R_ h2;by_cases h0:q=0
 ·have f3:(q=0)=True:=L' h0
  simp only[f1,f2,f3,hl,hlI,↓X6,wA,seval,zA,qA,qC,wN];exact fin rfl (by rw[hV,c_ (hok.2 ⟨h1,h2,.inl h0⟩)])
 have f3:(q=0)=False:=R_ h0;simp only[f1,f2,f3,hl,hlI,↓X6,wA,seval,zA,qA,qC,wN];rw[aX h1]at cg;refine X2 cg rfl ?_;simp only[↓X6,wA,seval,zA,qA,qC,wN];refine X2 cu rfl ?_;simp only[↓X6,wA,seval,zA,qA,qC,wN];refine fin rfl ?_;rw[hV,decide_eq_decide,hok];constructor
 ·intro h;exact⟨h1,h2,.inr (by omega)⟩
 ·rintro⟨_,_,h |h⟩
  ·exact absurd h h0
  ·rw[h];rfl
theorem fe (neg:Bool)(d:List Int)(hl:d.length<4611686018427387904):Fn Tryz.prog 156 [.bool neg,X9 d] (ma neg d):=by
 refine Fq Tryz.call156 Tryz.func156 6 [] [] [] (by simp[KM,Xb,Xi]) (Xk ?_);simp(maxSteps:=999999)only[O_,↓X6,wA,seval,zA,qA,qC,wN];refine Xj (fun n:Nat=>⟨6,[],[.bool neg,X9 d,.any,.any,.ref 0 0 0,I n],[],[.row 0 2 (Xf [.bool false,.sl 0 0 (fun _=>.any) true])]⟩) (fun n=>n≤d.length∧B9 d d.length=B9 d n) (fun n=>n) d.length ⟨by omega,rfl⟩
  (ZZ (by simp[zA,qA,qC,wN,Xo,X9,Dq,CN,QG,I]) rfl) ?_
 rintro n ⟨hn,ht⟩ next
 cases n with
 |zero =>
  refine Xk ?_;simp only[ZAM,↓X6,wA,seval,zA,qA,qC,wN];refine HB (v:=.agg [.bool false,.sl 0 0 (fun _=>.any) false]) rfl (by simp[AS.get,Qy,Q5,rd,QL,Xf,EW]) ?_;have e:ma neg d=.agg [.bool false,X9 []]:=by unfold ma;rw[ht];simp[B9]
  rw[e];exact Dz ⟨XY (X5 _) rfl,Xp (Xd _) (QI _ _),trivial⟩
 |succ n =>
  have e0:(0<((n+1:Nat):Int))=True:=L' (by omega);have e1:(((n+1:Nat):Int)=0)=False:=R_ (by omega);have w1:Q_.wrap (((n+1:Nat):Int)-1)=(n:Int):=by rw[M'];omega
  have w2:((n:Int)<0)=False:=R_ (by omega);have e2:(n<d.length)=True:=L' (by omega);refine Xk ?_;simp only[e0,e1,e2,w1,w2,↓X6,wA,seval,zA,qA,qC,wN];refine⟨fun h0=>next n _ ⟨by omega,by rw[ht];simp only[B9];rw[N_ h0]⟩ (by omega) (ZZ (by simp[zA,qA,qC,wN,Xo,X9,Dq,CN,QG,I]) rfl),fun h0=>⟨by omega,?_⟩⟩;have ht2:B9 d d.length=n+1:=by rw[ht];simp only[B9];rw[M_ h0]
  have e:ma neg d=.agg [.bool neg,X9 (d.take (n+1))]:=by unfold ma;rw[ht2];simp
  have hlen:(d.take (n+1)).length=n+1:=by rw[v_];omega
  rw[e];refine Ql rfl Q5 rfl rfl rfl rfl (XE (by simp[Xd,X5])) ⟨U_ _,HY _ ?_ ?_ fun j hj=>?_,trivial⟩
  ·rw[hlen];omega
  ·rw[hlen];omega
  ·rw[hlen]at hj
   rw[Cm d 0 j (n+1) hj];rfl
theorem Ks (neg:Bool)(L:List Int)(h:JO L)(hl:L.length<4611686018427387904:=by omega):Fn Tryz.prog 156 [.bool neg,X9 L] (zA (Zg neg (val L))):=by
 rw[tU h];exact fe neg L hl
theorem EJ (d:List Int)(i:Nat):Fn Tryz.prog 219 [X9 d,I i] (I (dg d i)):=by
 by_cases h:i<d.length
 ·have f1:((i:Int)<d.length)=True:=L' (by omega)
  have f2:(i<d.length)=True:=L' h;refine Fq Tryz.call219 Tryz.func219 5 [] [] [] (by simp[KM,Xb,Xi]) (Xk ?_);simp(maxSteps:=999999)only[O_,↓X6,wA,seval,zA,qA,qC,wN];simp only[f1,f2,↓X6,wA,seval,zA,qA,qC,wN];exact Xn rfl rfl (X8 _) rfl
 ·have f1:((i:Int)<d.length)=False:=R_ (by omega)
  have f2:(i<d.length)=False:=R_ h;refine Fq Tryz.call219 Tryz.func219 5 [] [] [] (by simp[KM,Xb,Xi]) (Xk ?_);simp(maxSteps:=999999)only[O_,↓X6,wA,seval,zA,qA,qC,wN];simp only[f1,f2,↓X6,wA,seval,zA,qA,qC,wN];exact Xn rfl rfl (X8 _) (by rw[Ib];rfl)
theorem BJ (a b:List Int)(ha:AP a)(hb:AP b)(la:a.length<4611686018427387904):Fn Tryz.prog 162 [X9 a,X9 b] (I (val a-val b).sign):=by
 obtain⟨V,hV⟩:∃V,V=(val a-val b).sign:=⟨_,rfl⟩
 rw[←hV];have fin:∀ {s:AS} {v:Int},s.get 4=I v→v=V→TAC (JK Tryz.prog Tryz.f162 [] [] (I V)) s:=fun h e=>Xn rfl h (X8 _) (by rw[e])
 rcases Nat.lt_trichotomy a.length b.length with h |h |h
 ·have:=EG ha hb h
  have f1:((a.length:Int)<b.length)=True:=L' (by omega);have f2:(a.length<b.length)=True:=L' h;refine Fq Tryz.call162 Tryz.func162 6 [] [] [] (by simp[KM,Xb,Xi]) (Xk ?_);simp(maxSteps:=999999)only[O_,↓X6,wA,seval,zA,qA,qC,wN];simp only[f1,f2,↓X6,wA,seval,zA,qA,qC,wN];exact fin rfl (by rw[hV,o_ (by omega)])
 rotate_left
 ·have:=EG hb ha h
  have f1:((a.length:Int)<b.length)=False:=R_ (by omega);have f2:(a.length<b.length)=False:=R_ (by omega);have f3:((b.length:Int)<a.length)=True:=L' (by omega);have f4:(b.length<a.length)=True:=L' h;refine Fq Tryz.call162 Tryz.func162 6 [] [] [] (by simp[KM,Xb,Xi]) (Xk ?_);simp(maxSteps:=999999)only[O_,↓X6,wA,seval,zA,qA,qC,wN];simp only[f1,f2,f3,f4,↓X6,wA,seval,zA,qA,qC,wN];exact fin rfl (by rw[hV,u_ (by omega)])
 have f1:((a.length:Int)<b.length)=False:=R_ (by omega);have f2:(a.length<b.length)=False:=R_ (by omega);have f3:((b.length:Int)<a.length)=False:=R_ (by omega);have f4:(b.length<a.length)=False:=R_ (by omega);refine Fq Tryz.call162 Tryz.func162 6 [] [] [] (by simp[KM,Xb,Xi]) (Xk ?_);simp(maxSteps:=999999)only[O_,↓X6,wA,seval,zA,qA,qC,wN];simp only[f1,f2,f3,f4,↓X6,wA,seval,zA,qA,qC,wN];refine Xj (fun k:Nat=>⟨6,[],[X9 a,X9 b,.any,.any,I 0,I ((k:Int)-1)],[],[]⟩) (fun k=>k≤a.length∧a.drop k=b.drop k) (fun k=>k) a.length ⟨by omega,by rw[ZDF,h,ZDF]⟩
  ?_ ?_
 ·have w0:Q_.wrap ((a.length:Int)-1)=(a.length:Int)-1:=by rw[M'];omega
  rw[w0];exact(ZZ (by simp[zA,qA,qC,wN,Xo,X9,Dq,CN,QG,I]) rfl)
 rintro k ⟨hk,he⟩ next
 cases k with
 |zero =>
  refine Xk ?_;have e1:((0:Int)≤0-1)=False:=R_ (by omega);simp only[e1,↓X6,wA,seval,zA,qA,qC,wN];refine fin rfl ?_;rw[ZBg,ZBg]at he;rw[hV,he,ZCW];rfl
 |succ k =>
  have e1:((k+1:Nat):Int)-1=(k:Int):=by omega
  have w1:Q_.wrap ((k:Int)-1)=(k:Int)-1:=by rw[M'];omega
  have e3:(k<a.length)=True:=L' (by omega);have e4:(k<b.length)=True:=L' (by omega);have hcm:a.getD k 0≠b.getD k 0→(a.getD k 0-b.getD k 0).sign=V:=fun hne=>by
   rw[hV,jz ha.1 hb.1 h (by omega) he hne]
  refine Xk ?_;simp only[e1,w1,e3,e4,↓X6,wA,seval,zA,qA,qC,wN];refine⟨fun h1=>fin rfl ?_,fun h1=>⟨fun h2=>fin rfl ?_,fun h2=>next k _ ⟨by omega,GX h (by omega) he (by omega)⟩ (by omega) (ZZ (by simp[zA,qA,qC,wN,Xo,X9,Dq,CN,QG,I]) rfl)⟩⟩
  ·rw[←hcm (by omega),o_ (by omega)]
  ·rw[←hcm (by omega),u_ (by omega)]
theorem Eb (n:Int)(hn:Ap n):Fn Tryz.prog 82 [I n] (zA n):=by
 unfold Ap at hn;obtain⟨R,hR⟩:∃R,R=zA n:=⟨_,rfl⟩
 have sR:A_ R:=hR▸XS _;rw[←hR];obtain⟨neg,TBE⟩:∃neg,neg=decide (n<0):=⟨_,rfl⟩
 have en:n=Zg neg n.natAbs:=by rw[TBE,HI]
 refine Fq Tryz.call82 Tryz.func82 6 [] [] [] (by simp[KM,Xb,Xi]) (Xk ?_);simp(maxSteps:=999999)only[O_,↓X6,wA,seval,zA,qA,qC,wN];rw[←TBE];refine Xj (fun p:List Int×Nat=>⟨6,[],[I (Zg neg p.2),.any,.ref 0 0 0,.osl 1 p.1.length 1 0 p.1.length,.bool neg,.any],[],[.row 0 2 (Xf [.bool false,.sl 0 0 (fun _=>.any) true]),.row p.1.length p.1.length (J8 I 0 p.1)]⟩)
  (fun p=>JO p.1∧val p.1+pw p.1.length*p.2=n.natAbs∧p.2≤n.natAbs∧p.1.length≤3) (fun p=>p.2) ([],n.natAbs) ⟨CP,by simp[val,pw],N' _,by simp⟩ ?_ ?_
 ·refine(JS 3 1 (J8 I 0 []) rfl).trans (Xh rfl ?_ ?_ ?_)
  ·simp[ZAt,Xo,I,←en]
  ·simp[ZAt,Xx]
  ·simp[ZAt]
 rintro⟨l,M⟩ ⟨h1,h2,h3,h4⟩ next
 simp only at h1 h2 h3 h4;by_cases hM:M=0
 ·subst hM
  have f1:(Zg neg 0=0)=True:=L' (by unfold Zg;split <;> simp);have c:=Ks neg l h1;rw[show val l=(n.natAbs:Int)by simpa using h2,←en,←hR]at c;refine d_ ?_ (El 1 3 rfl rfl (by simp));refine Xk ?_;simp only[f1,↓X6,wA,seval,zA,qA,qC,wN];refine X2 c rfl ?_;simp only[hR,↓X6,wA,seval,zA,qA,qC,wN];exact Jf rfl Q5 rfl rfl rfl sR (hR.trans rfl)
 ·have hl:l.length≤2:=by
   apply Y';intro hh;have q1:=CU (show 3≤l.length by omega);have q2:=Qc h1;have q3:pw l.length*1≤pw l.length*M:=X' (by omega) (by have:=JP l.length;omega);have q4:(n.natAbs:Int)≤9223372036854775808:=by omega
   have q5:pw 3=1000000000000000000000000000:=by simp[pw]
   omega
  obtain⟨m,hm⟩:∃m,m=Zg neg (M:Int):=⟨_,rfl⟩
  have hma:(neg=true∧m = -(M:Int))∨(neg=false∧m=(M:Int)):=by rw[hm];unfold Zg;cases neg <;> simp
  rw[←hm];have f1:(m=0)=False:=R_ (by omega);have hap:=PQ l ((M%1000000000:Nat):Int);have e3:Q_.wrap (m.tdiv 1000000000)=Zg neg ((M/1000000000:Nat):Int):=by
   unfold Zg;rcases hma with⟨e,e2⟩ | ⟨e,e2⟩
   ·rw[e,e2,N_ rfl,Int.neg_tdiv,r_ (by omega),M'];omega
   ·rw[e,e2,M_ (by simp),r_ (by omega),M'];omega
  have inv:JO (l ++ [((M%1000000000:Nat):Int)])∧val (l ++ [((M%1000000000:Nat):Int)])+pw (l ++ [((M%1000000000:Nat):Int)]).length*((M/1000000000:Nat):Int)=n.natAbs∧M/1000000000≤n.natAbs∧(l ++ [((M%1000000000:Nat):Int)]).length≤3:=by
   refine⟨LA.2 ⟨h1,ZD.2 ⟨⟨by omega,by omega⟩,CP⟩⟩,?_,by omega,by simp;omega⟩;rw[Fl];simp only[j_,ZAA,ZAN,z_,pw];have e:(M:Int)=((M%1000000000:Nat):Int)+1000000000*((M/1000000000:Nat):Int):=by omega
   have h2':=h2;rw[e]at h2';rw[ZDY]at h2';have e2:1000000000*pw l.length*((M/1000000000:Nat):Int)=pw l.length*(1000000000*((M/1000000000:Nat):Int)):=by
    rw[ZEG 1000000000 (pw l.length),Int.mul_assoc]
   rw[e2];omega
  rcases hma with⟨e1,e2⟩ | ⟨e1,e2⟩
  ·have g1:Q_.wrap (0-m.tmod 1000000000)=((M%1000000000:Nat):Int):=by
    rw[e2,Int.neg_tmod,ZAH (by omega),M'];omega
   by_cases hz:m.tmod 1000000000<0
   ·have g2:(m.tmod 1000000000<0)=True:=L' hz
    refine Xk ?_;simp only[f1,g1,g2,e3,hap,ZAC,↓X6,wA,seval,zA,qA,qC,wN];exact⟨⟨by omega,by omega⟩,next (l ++ [((M%1000000000:Nat):Int)],M/1000000000) _ inv (by simp only;omega) (ZZ (by simp[Xo,I]) (by simp))⟩
   ·have g2:(((M%1000000000:Nat):Int)<0)=False:=R_ (by omega)
    have g3:m.tmod 1000000000=((M%1000000000:Nat):Int):=by
     rw[e2,Int.neg_tmod,ZAH (by omega)]at hz ⊢;omega
    refine Xk ?_;simp only[f1,g2,g3,e3,hap,ZAC,↓X6,wA,seval,zA,qA,qC,wN];exact⟨⟨by omega,by omega⟩,next (l ++ [((M%1000000000:Nat):Int)],M/1000000000) _ inv (by simp only;omega) (ZZ (by simp[Xo,I]) (by simp))⟩
  ·have g3:m.tmod 1000000000=((M%1000000000:Nat):Int):=by
    rw[e2,ZAH (by omega)];omega
   have g2:(((M%1000000000:Nat):Int)<0)=False:=R_ (by omega);refine Xk ?_;simp only[f1,g2,g3,e3,hap,ZAC,↓X6,wA,seval,zA,qA,qC,wN];exact⟨⟨by omega,by omega⟩,next (l ++ [((M%1000000000:Nat):Int)],M/1000000000) _ inv (by simp only;omega) (ZZ (by simp[Xo,I]) (by simp))⟩
theorem WY (a b:Nat→Int)(i:Nat):0≤Qt a b i∧Qt a b i≤1:=by have:=ED a b i;omega
theorem mL (a b:List Int)(ha:JO a)(hb:JO b)(la:a.length<1000000000000)(lb:b.length<1000000000000) :
  ∃L,JO L∧val L=val a+val b∧L.length≤max a.length b.length+1∧Fn Tryz.prog 161 [X9 a,X9 b] (X9 L):=by
 obtain⟨n,hn⟩:∃n,n=max a.length b.length:=⟨_,rfl⟩
 obtain⟨e,he⟩:∃e,e=if Qt (dg a) (dg b) n=0 then n else n+1:=⟨_,rfl⟩
 have hz:∀i,n≤i→dg a i=0∧dg b i=0:=fun i hi=>⟨Ib,Ib⟩
 have hce:Qt (dg a) (dg b) e=0:=by
  rw[he]
  split
  ·assumption
  ·have h1:=WY (dg a) (dg b) n
   obtain⟨z1,z2⟩:=hz n (N' _);simp only[Qt,z1,z2];rw[M_ (by omega)]
 have hne:n≤e∧e≤n+1:=by rw[he];split <;> omega
 refine⟨BH (Be (dg a) (dg b)) e,DW fun i _=>Sg (Qo ha i) (Qo hb i),?_,by rw[Qq];omega,?_⟩
 ·have:=PI (dg a) (dg b) e
  rw[hce,Int.mul_zero,Int.add_zero]at this;rw[HX,this,Fh a e (by omega),Fh b e (by omega)]
 obtain⟨R,hR⟩:∃R,R=X9 (BH (Be (dg a) (dg b)) e):=⟨_,rfl⟩
 have sR:A_ R:=hR▸Xd _;rw[←hR];refine Fq Tryz.call161 Tryz.func161 9 [] [] [] (by simp[KM,Xb,Xi]) (Xk ?_);simp(maxSteps:=999999)only[O_,↓X6,wA,seval,zA,qA,qC,wN];refine Xj (fun i:Nat=>⟨9,[],[X9 a,X9 b,.any,.any,.any,.osl 0 i 1 0 i,I (Qt (dg a) (dg b) i),I i,.any],[],[.row i i (J8 I 0 (BH (Be (dg a) (dg b)) i))]⟩)
  (fun i=>i≤e) (fun i=>e-i) 0 (by omega) ((JS 5 1 (J8 I 0 []) rfl).trans (Xh rfl (by simp[ZAt,Xo,X9,QG,I,Qt]) (by simp[ZAt,Xx]) (by simp[ZAt,BH]))) ?_
 intro i hi next
 have cb:=WY (dg a) (dg b) i;have w1:=wj i;by_cases hgo:i<e
 ·have da:=Qo ha i
  have db:=Qo hb i;unfold Qi at da db;have k1:Q_.wrap (dg a i+dg b i)=dg a i+dg b i:=by rw[M'];omega
  have k2:Q_.wrap (dg a i+dg b i+Qt (dg a) (dg b) i)=dg a i+dg b i+Qt (dg a) (dg b) i:=by rw[M'];omega
  have k3:(dg a i+dg b i+Qt (dg a) (dg b) i).tmod 1000000000=Be (dg a) (dg b) i:=by
   rw[ZAH (by omega)];unfold Be;split <;> omega
  have k4:Q_.wrap ((dg a i+dg b i+Qt (dg a) (dg b) i).tdiv 1000000000)=Qt (dg a) (dg b) (i+1):=by
   rw[r_ (by omega),M'];simp only[Qt];split <;> omega
  have hap:=PQ (BH (Be (dg a) (dg b)) i) (Be (dg a) (dg b) i);rw[Qq,←Fj]at hap;have ca:=EJ a i;have cb':=EJ b i;have TFr:n≤i→0<Qt (dg a) (dg b) i:=fun h=>by
   have:i=n:=by omega
   subst this;have:Qt (dg a) (dg b) i≠0:=fun h0=>by rw[N_ h0]at he;omega
   omega
  have fin:∀s':AS,Sub 0 s' ⟨9,[],[X9 a,X9 b,.any,.any,.any,.osl 0 (i+1) 1 0 (i+1),I (Qt (dg a) (dg b) (i+1)),I ((i+1:Nat):Int),.any],[],[.row (i+1) (i+1) (J8 I 0 (BH (Be (dg a) (dg b)) (i+1)))]⟩→Run _ _ s':=fun s' h=>next (i+1) s' (by omega) (by omega) h
  by_cases h1:i<a.length
  ·have f1:((i:Int)<a.length)=True:=L' (by omega)
   have f1':(i<a.length)=True:=L' h1;refine Xk ?_;simp only[f1,f1',w1,↓X6,wA,seval,zA,qA,qC,wN];refine X2 ca rfl ?_;simp only[f1,f1',w1,↓X6,wA,seval,zA,qA,qC,wN];refine X2 cb' rfl ?_;simp only[f1,f1',k1,k2,k3,k4,hap,w1,ZAC,↓X6,wA,seval,zA,qA,qC,wN];exact⟨⟨by omega,by omega⟩,fin _ (ZZ (by simp[Xo,X9,QG,I]) rfl)⟩
  have f1:((i:Int)<a.length)=False:=R_ (by omega);have f1':(i<a.length)=False:=R_ h1;by_cases h2:i<b.length
  ·have f2:((i:Int)<b.length)=True:=L' (by omega)
   have f2':(i<b.length)=True:=L' h2;refine Xk ?_;simp only[f1,f1',f2,f2',w1,↓X6,wA,seval,zA,qA,qC,wN];refine X2 ca rfl ?_;simp only[f1,f1',f2,f2',w1,↓X6,wA,seval,zA,qA,qC,wN];refine X2 cb' rfl ?_;simp only[f1,f1',f2,f2',k1,k2,k3,k4,hap,w1,ZAC,↓X6,wA,seval,zA,qA,qC,wN];exact⟨⟨by omega,by omega⟩,fin _ (ZZ (by simp[Xo,X9,QG,I]) rfl)⟩
  ·have f2:((i:Int)<b.length)=False:=R_ (by omega)
   have f2':(i<b.length)=False:=R_ h2;have f3:(0<Qt (dg a) (dg b) i)=True:=L' (TFr (by omega));refine Xk ?_;simp only[f1,f1',f2,f2',f3,w1,↓X6,wA,seval,zA,qA,qC,wN];refine X2 ca rfl ?_;simp only[f1,f1',f2,f2',f3,w1,↓X6,wA,seval,zA,qA,qC,wN];refine X2 cb' rfl ?_;simp only[f1,f1',f2,f2',f3,k1,k2,k3,k4,hap,w1,ZAC,↓X6,wA,seval,zA,qA,qC,wN];exact⟨⟨by omega,by omega⟩,fin _ (ZZ (by simp[Xo,X9,QG,I]) rfl)⟩
 ·obtain rfl:i=e:=by omega
  have f1:((i:Int)<a.length)=False:=R_ (by omega);have f1':(i<a.length)=False:=R_ (by omega);have f2:((i:Int)<b.length)=False:=R_ (by omega);have f2':(i<b.length)=False:=R_ (by omega);refine Xk ?_;simp only[f1,f1',f2,f2',hce,ZAM,↓X6,wA,seval,zA,qA,qC,wN];refine C4 rfl ?_;rw[hR];exact Bq X8 rfl rfl (Qq _ _).symm rfl (ZCE (Qq _ _))
theorem FL (a b:List Int)(ha:JO a)(hb:JO b)(la:a.length<1000000000000)(hl:b.length≤a.length)(h:val b≤val a):Fn Tryz.prog 163 [X9 a,X9 b] (X9 (Ae a b)):=by
 obtain⟨R,hR⟩:∃R,R=X9 (Ae a b):=⟨_,rfl⟩
 have sR:A_ R:=hR▸Xd _;rw[←hR];refine Fq Tryz.call163 Tryz.func163 9 [] [] [] (by simp[KM,Xb,Xi]) (Xk ?_);simp(maxSteps:=999999)only[O_,↓X6,wA,seval,zA,qA,qC,wN];refine Xj (fun i:Nat=>⟨9,[],[X9 a,X9 b,.any,.any,.any,.osl 0 i 1 0 i,I (Kl (dg a) (dg b) i),I i,.any],[],[.row i i (J8 I 0 (BH (C5 (dg a) (dg b)) i))]⟩)
  (fun i=>i≤a.length) (fun i=>a.length-i) 0 (by omega) ((JS 5 1 (J8 I 0 []) rfl).trans (Xh rfl (by simp[ZAt,Xo,X9,QG,I,Kl]) (by simp[ZAt,Xx]) (by simp[ZAt,BH]))) ?_
 intro i hi next
 have cb:=HN (dg a) (dg b) i;have w1:=wj i;by_cases hgo:i<a.length
 ·have da:=Qo ha i
  have db:=Qo hb i;unfold Qi at da db;have eA:a.getD i 0=dg a i:=rfl;have f1:((i:Int)<a.length)=True:=L' (by omega);have f1':(i<a.length)=True:=L' hgo;have k1:Q_.wrap (dg a i-dg b i)=dg a i-dg b i:=by rw[M'];omega
  have k2:Q_.wrap (dg a i-dg b i-Kl (dg a) (dg b) i)=dg a i-dg b i-Kl (dg a) (dg b) i:=by rw[M'];omega
  have hap:=PQ (BH (C5 (dg a) (dg b)) i) (C5 (dg a) (dg b) i);rw[Qq,←Fj]at hap;have ca:=EJ b i;by_cases hv:dg a i-dg b i-Kl (dg a) (dg b) i<0
  ·have f3:(dg a i-dg b i-Kl (dg a) (dg b) i<0)=True:=L' hv
   have k3:Q_.wrap (dg a i-dg b i-Kl (dg a) (dg b) i+1000000000)=C5 (dg a) (dg b) i:=by
    unfold C5;rw[N_ hv,M'];omega
   have k4:Kl (dg a) (dg b) (i+1)=1:=by simp only[Kl];rw[N_ hv]
   refine Xk ?_;simp only[f1,f1',eA,w1,↓X6,wA,seval,zA,qA,qC,wN];refine X2 ca rfl ?_;simp only[k1,k2,k3,f3,hap,w1,↓X6,wA,seval,zA,qA,qC,wN];exact⟨⟨by omega,by omega⟩,next (i+1) _ (by omega) (by omega) (ZZ (by simp[Xo,X9,QG,I,k4]) rfl)⟩
  ·have f3:(dg a i-dg b i-Kl (dg a) (dg b) i<0)=False:=R_ hv
   have k3:dg a i-dg b i-Kl (dg a) (dg b) i=C5 (dg a) (dg b) i:=by unfold C5;rw[M_ hv]
   have k4:Kl (dg a) (dg b) (i+1)=0:=by simp only[Kl];rw[M_ hv]
   have f3':(C5 (dg a) (dg b) i<0)=False:=by rw[←k3];exact f3
   refine Xk ?_;simp only[f1,f1',eA,w1,↓X6,wA,seval,zA,qA,qC,wN];refine X2 ca rfl ?_;simp only[k1,k2.trans k3,f3',hap,w1,↓X6,wA,seval,zA,qA,qC,wN];exact⟨⟨by omega,by omega⟩,next (i+1) _ (by omega) (by omega) (ZZ (by simp[Xo,X9,QG,I,k4]) rfl)⟩
 ·obtain rfl:i=a.length:=by omega
  refine Xk ?_;simp only[ZAM,ZAG,↓X6,wA,seval,zA,qA,qC,wN];refine C4 rfl ?_;rw[hR];exact Bq X8 rfl rfl (Qq _ _).symm rfl (ZCE (Qq _ _))
def Ea (sx sy:Bool)(a b:List Int)(p:List Int×Nat):AS :=
 ⟨10,[],[.any,.any,.ref 0 0 0,.ref 1 0 0,.ref 2 0 0,.osl 3 0 1 0 (a.length+b.length),I p.2,.any,.any,.any],[],
  [.row 0 2 (Xf [.bool sx,X9 a]),.row 0 2 (Xf [.bool sy,X9 b]),.row 0 2 (Xf [.bool false,.sl 0 0 (fun _=>.any) true]),.row 0 (a.length+b.length) (J8 I 0 p.1)]⟩
def CX (sx sy:Bool)(a b:List Int)(i:Nat)(p:List Int×Int×Nat):AS :=
 ⟨10,[],[.any,.any,.ref 0 0 0,.ref 1 0 0,.ref 2 0 0,.osl 3 0 1 0 (a.length+b.length),I i,I p.2.1,I p.2.2,.any],[],
  [.row 0 2 (Xf [.bool sx,X9 a]),.row 0 2 (Xf [.bool sy,X9 b]),.row 0 2 (Xf [.bool false,.sl 0 0 (fun _=>.any) true]),.row 0 (a.length+b.length) (J8 I 0 p.1)]⟩
theorem fL (sx sy:Bool)(a b:List Int)(ha:JO a)(hb:JO b)(la:a.length<room)(lb:b.length<room) :
  Fn Tryz.prog 78 [zR sx a,zR sy b] (zA (Zg (sx != sy) (val a*val b))):=by
 obtain⟨R,hR⟩:∃R,R=zA (Zg (sx != sy) (val a*val b)):=⟨_,rfl⟩
 have sR:A_ R:=hR▸XS _;unfold room at la lb;rw[←hR];have w0:Q_.wrap ((a.length:Int)+b.length)=((a.length+b.length:Nat):Int):=by rw[M'];omega
 refine Fq Tryz.call78 Tryz.func78 10 [] [] [] (by simp[Xi]) (Xk ?_);simp(maxSteps:=999999)only[O_,zR,w0,U',↓X6,wA,seval,zA,qA,qC,wN];refine⟨⟨by omega,by omega⟩,?_⟩;refine Xj (Ea sx sy a b) (lX a b) (fun p=>a.length-p.2) (ZAP (a.length+b.length) 0,0) ?_ ?_ ?_
 ·refine⟨p_ _,by simp,fun d hd=>?_,fun j _=>?_,?_⟩
  ·rw[(List.mem_replicate.1 hd).2];exact⟨by omega,by omega⟩
  ·simp[K',ZAx]
   split <;> rfl
  ·simp only[List.take_zero];rw[FR];simp[val]
 ·refine(Zm 3 (a.length+b.length) (J8 I 0 (ZAP (a.length+b.length) 0)) rfl (N' _) ?_).trans (Xh rfl ?_ ?_ ?_)
  ·intro j hj
   rw[Bs];simp[K',ZAx,hj,I]
  ·simp[Ea,Xo,X9,QG,I]
  ·simp[Ea,Xx]
  ·rfl
 rintro⟨O,i⟩ hO next
 obtain⟨g1,g2,g3,g4,g5⟩:=id hO;simp only at g1 g2 g3 g4 g5;have w1:=wj i;by_cases hi:i<a.length
 ·have e1:((i:Int)<a.length)=True:=L' (by omega)
  have e2:(i<a.length)=True:=L' hi;have eA:a.getD i 0=dg a i:=rfl;refine Xk ?_;simp(maxSteps:=999999)only[Ea,w1,e1,e2,eA,↓X6,wA,seval,zA,qA,qC,wN];refine Xj (CX sx sy a b i) (lY a b O i) (fun p=>b.length-p.2.2) (O,0,0) ⟨p_ _,g2,g3,⟨by simp,by simp⟩,g4,by simp[val]⟩ (Xh rfl (by simp[CX,Xo,X9,QG,I]) (by simp[CX,Xx]) (by simp[CX,X9,QG])) ?_;rintro⟨O',c,k⟩ hJ TAT;obtain⟨j1,j2,j3,j4,j5,j6⟩:=id hJ;simp only at j1 j2 j3 j4 j5 j6;have w2:=wj k;by_cases hk:k<b.length
  ·obtain⟨v0,v1,hst⟩:=OR (a:=a) (b:=b) (O:=O) (i:=i) (O':=O') (c:=c) (k:=k) ha hb hi hk hJ rfl
   have o1:=JW j3 (i+k);have m1:=Cv (Qo ha i) (Qo hb k);have eB:b.getD k 0=dg b k:=rfl;have f1:((k:Int)<b.length)=True:=L' (by omega);have f2:(k<b.length)=True:=L' hk;have f3:Q_.wrap ((i:Int)+k)=((i+k:Nat):Int):=by rw[M'];omega
   have f4:(i+k<a.length+b.length)=True:=L' (by omega);have f5:(i+k+1≤a.length+b.length)=True:=L' (by omega);unfold Qi at o1 j4;have hU:∀x:Int,De (J8 I 0 O') (i+k) (.int .i64 x)=J8 I 0 (O'.set (i+k) x):=fun x=>A9 _ _ _
   have q1:Q_.wrap (dg a i*dg b k)=dg a i*dg b k:=by rw[M'];omega
   have q2:Q_.wrap (O'.getD (i+k) 0+dg a i*dg b k)=O'.getD (i+k) 0+dg a i*dg b k:=by rw[M'];omega
   generalize hv:O'.getD (i+k) 0+dg a i*dg b k+c=v at *;have q3:Q_.wrap v=v:=by rw[M'];omega
   have q4:v.tmod 1000000000=v-v/1000000000*1000000000:=by rw[ZAH v0];omega
   have q5:Q_.wrap (v.tdiv 1000000000)=v/1000000000:=by rw[r_ v0,M'];omega
   refine Xk ?_;simp(maxSteps:=999999)only[CX,w2,e2,eA,eB,f1,f2,f3,f4,f5,q1,q2,hv,q3,q4,q5,hU,U',ZAC,↓X6,wA,seval,zA,qA,qC,wN];exact TAT _ _ hst (by simp only;omega) (Xh rfl (by simp[CX,Xo,X9,QG,I]) (by simp[CX,Xx]) rfl)
  ·obtain rfl:k=b.length:=by omega
   have hst:=OQ (a:=a) (b:=b) (O:=O) (i:=i) (O':=O') (c:=c) hi hO hJ;have f3:Q_.wrap ((i:Int)+b.length)=((i+b.length:Nat):Int):=by rw[M'];omega
   have f4:(i+b.length<a.length+b.length)=True:=L' (by omega);have f5:(i+b.length+1≤a.length+b.length)=True:=L' (by omega);have hU:∀x:Int,De (J8 I 0 O') (i+b.length) (.int .i64 x)=J8 I 0 (O'.set (i+b.length) x):=fun x=>A9 _ _ _
   refine Xk ?_;simp(maxSteps:=999999)only[CX,w1,e1,e2,f3,f4,f5,hU,ZAM,ZAG,U',↓X6,wA,seval,zA,qA,qC,wN];exact next _ _ hst (by simp only;omega) (Xh rfl (by simp[Ea,Xo,X9,QG,I]) (by simp[Ea,Xx]) rfl)
 ·obtain rfl:i=a.length:=by omega
  have TBG:val O=val a*val b:=by rw[g5,ZAW]
  have c:=Ks (sx != sy) O g3;rw[TBG,←hR]at c;have e5:(!(sx == sy))=(sx != sy):=by cases sx <;> cases sy <;> rfl
  have hfr:=El (m:=0) (s:=Ea sx sy a b (O,a.length)) 3 5 (ver:=0) (l:=O) (by show some _=some _;rw[g2]) (by show AV.osl 3 0 1 0 _=_;rw[g2]) (by simp[Ea]);refine d_ ?_ hfr;refine Xk ?_;simp(maxSteps:=999999)only[Ea,ZAM,ZAG,e5,↓X6,wA,seval,zA,qA,qC,wN];refine X2 c rfl ?_;simp only[hR,↓X6,wA,seval,zA,qA,qC,wN];exact Jf rfl Q5 rfl rfl rfl sR (hR.trans rfl)
theorem Zl (x y:Int)(hx:bl x<room:=by unfold room;omega)(hy:bl y<room:=by unfold room;omega):Fn Tryz.prog 78 [zA x,zA y] (zA (x*y)):=by
 have h:=fL (decide (x<0)) (decide (y<0)) _ _ (XW x.natAbs) (XW y.natAbs) hx hy;have e:Zg (decide (x<0) != decide (y<0)) (val (Xa x.natAbs)*val (Xa y.natAbs))=x*y:=by
  rw[XJ,XJ];have hx':=HI x;have hy':=HI y
  conv=>rhs;rw[←hx',←hy']
  generalize (x.natAbs:Int)=p;generalize (y.natAbs:Int)=q;unfold Zg;by_cases h1:x<0 <;> by_cases h2:y<0 <;> simp[h1,h2,Int.neg_mul,Int.mul_neg]
 rw[e]at h;exact h
theorem sJ {d:List Int}(h:d.length≤2):dg d 1*1000000000+dg d 0=val d:=by
 match d,h with
 | [],_=>rfl
 | [x],_=>simp[dg,val]
 | [x,y],_=>simp[dg,val];try omega
 |_ :: _ :: _ :: _,h=>simp at h
theorem LU (d:List Int)(h:JO d)(hl:d.length≤2):Fn Tryz.prog 217 [X9 d] (I (val d)):=by
 have d0:=Qo h 0;have d1:=Qo h 1;unfold Qi at d0 d1;have w1:Q_.wrap (dg d 1*1000000000)=dg d 1*1000000000:=by rw[M'];omega
 have w2:Q_.wrap (dg d 1*1000000000+dg d 0)=val d:=by rw[←sJ hl,M'];omega
 refine Fq Tryz.call217 Tryz.func217 3 [] [] [] (by simp[KM,Xb,Xi]) (Xk ?_);simp(maxSteps:=999999)only[O_,↓X6,wA,seval,zA,qA,qC,wN];refine X2 (EJ d 1) rfl ?_;simp only[w1,↓X6,wA,seval,zA,qA,qC,wN];refine X2 (EJ d 0) rfl ?_;simp only[w1,w2,↓X6,wA,seval,zA,qA,qC,wN];exact Xn rfl rfl (X8 _) rfl
theorem nr (a:List Int)(k:Int)(ha:AP a)(hk:Qi k)(la:a.length<100000000000):Fn Tryz.prog 237 [X9 a,I k] (X9 (Xa (val a*k).toNat)):=by
 have v0:=Qc ha.1;unfold Qi at hk;have ea:X9 a=X9 (Xa (val a).toNat):=by rw[BC ha]
 have eva:((val a).toNat:Int)=val a:=sI ha.1;have c1:=Ks false a ha.1;rw[show Zg false (val a)=((val a).toNat:Int)from eva.symm]at c1;have bla:bl ((val a).toNat:Int)<room:=by rw[KC,BC ha];unfold room;omega
 have c2:=Eb k ⟨by omega,by omega⟩;have c3:=Zl ((val a).toNat:Int) k bla (by have:=Aa (n:=k) ⟨by omega,by omega⟩;unfold room;omega);have m0:0≤val a*k:=ZBP v0 hk.1;rw[eva]at c3;have hz:zA (val a*k)=.agg [.bool false,X9 (Xa (val a*k).toNat)]:=by
  rw[←Jb,ZB8 m0]
 rw[hz,show zA (val a)=zA ((val a).toNat:Int)by rw[eva]]at c3;obtain⟨R,hR⟩:∃R,R=X9 (Xa (val a*k).toNat):=⟨_,rfl⟩
 have sR:A_ R:=hR▸Xd _;rw[←hR];refine Fq Tryz.call237 Tryz.func237 6 [] [] [] (by simp[KM,Xb,Xi]) (Xk ?_);simp(maxSteps:=999999)only[O_,↓X6,wA,seval,zA,qA,qC,wN];refine X2 c1 rfl ?_;simp only[↓X6,wA,seval,zA,qA,qC,wN];refine X2 c2 rfl ?_;simp only[↓X6,wA,seval,zA,qA,qC,wN];refine X2 c3 rfl ?_;simp only[↓X6,wA,seval,zA,qA,qC,wN];exact Xn rfl rfl sR hR.symm
theorem HC (z:Int)(hz:bl z<room:=by unfold room;omega):Fn Tryz.prog 159 [zA z] (zA (-z)):=by
 unfold bl room at hz;obtain⟨R,hR⟩:∃R,R=zA (-z):=⟨_,rfl⟩
 have sR:A_ R:=hR▸XS _;rw[←hR];have c:=Ks (!decide (z<0)) (Xa z.natAbs) (XW _);have e:Zg (!decide (z<0)) (val (Xa z.natAbs)) = -z:=by
  rw[XJ];unfold Zg;by_cases h:z<0
  ·simp[h];omega
  ·simp[h];omega
 rw[e,←hR]at c;refine Fq Tryz.call159 Tryz.func159 3 [] [] [] (by simp[KM,Xb,Xi]) (Xk ?_);simp(maxSteps:=999999)only[O_,↓X6,wA,seval,zA,qA,qC,wN];refine X2 c rfl ?_;simp only[hR,↓X6,wA,seval,zA,qA,qC,wN];exact Jf rfl Q5 rfl rfl rfl sR (hR.trans rfl)
theorem TI (x y:Int)(hx:bl x<room)(hy:bl y<room):Fn Tryz.prog 81 [zA x,zA y] (zA (x+y)):=by
 obtain⟨R,hR⟩:∃R,R=zA (x+y):=⟨_,rfl⟩
 have sR:A_ R:=hR▸XS _;unfold bl room at hx hy;have dx:=XW x.natAbs;have dy:=XW y.natAbs;have vx:=XJ x.natAbs;have vy:=XJ y.natAbs;have cmp:=BJ _ _ (Q4 x.natAbs) (Q4 y.natAbs) (by omega);rw[vx,vy]at cmp;rw[←hR];by_cases h:(x<0↔y<0)
 ·obtain⟨L,l1,l2,l3,l4⟩:=mL _ _ dx dy (by omega) (by omega)
  have e:Zg (decide (x<0)) (val L)=x+y:=by
   rw[l2,vx,vy];unfold Zg;by_cases h2:x<0
   ·rw[N_ (c_ h2)];omega
   ·rw[M_ (by simpa using h2)];omega
  have c:=Ks (decide (x<0)) L l1;rw[e,←hR]at c;have fB:(decide (x<0) == decide (y<0))=true:=by simp[decide_eq_decide.2 h]
  refine Fq Tryz.call81 Tryz.func81 5 [] [] [] (by simp[KM,Xb,Xi]) (Xk ?_);simp(maxSteps:=999999)only[O_,↓X6,wA,seval,zA,qA,qC,wN];simp only[fB,↓X6,wA,seval,zA,qA,qC,wN];refine X2 l4 rfl ?_;simp only[↓X6,wA,seval,zA,qA,qC,wN];refine X2 c rfl ?_;simp only[hR,↓X6,wA,seval,zA,qA,qC,wN];exact Jf rfl Q5 rfl rfl rfl sR (hR.trans rfl)
 have fB:(decide (x<0) == decide (y<0))=false:=by
  rw[beq_eq_false_iff_ne];intro e;exact h (decide_eq_decide.1 e)
 by_cases hc:((x.natAbs:Int)-y.natAbs).sign<0
 ·have hlt:(x.natAbs:Int)-y.natAbs<0:=ZA6.1 hc
  have hl:(Xa x.natAbs).length≤(Xa y.natAbs).length:=Jm (show x.natAbs≤y.natAbs by omega);have cm:=FL _ _ dy dx (by omega) hl (by omega);have vm:=CA dy dx hl (by omega);have e:Zg (decide (y<0)) (val (Ae (Xa y.natAbs) (Xa x.natAbs)))=x+y:=by
   rw[vm,vx,vy];unfold Zg;by_cases h2:y<0
   ·rw[N_ (c_ h2)];omega
   ·rw[M_ (by simpa using h2)];omega
  have c:=Ks (decide (y<0)) _ (Cz dy dx) (by unfold Ae;rw[Qq];omega);rw[e,←hR]at c;have fC:(((x.natAbs:Int)-y.natAbs).sign<0)=True:=L' hc;refine Fq Tryz.call81 Tryz.func81 5 [] [] [] (by simp[KM,Xb,Xi]) (Xk ?_);simp(maxSteps:=999999)only[O_,↓X6,wA,seval,zA,qA,qC,wN];simp only[fB,↓X6,wA,seval,zA,qA,qC,wN];refine X2 cmp rfl ?_;simp only[fC,↓X6,wA,seval,zA,qA,qC,wN];refine X2 cm rfl ?_;simp only[↓X6,wA,seval,zA,qA,qC,wN];refine X2 c rfl ?_;simp only[hR,↓X6,wA,seval,zA,qA,qC,wN];exact Jf rfl Q5 rfl rfl rfl sR (hR.trans rfl)
 ·have hlt:¬ (x.natAbs:Int)-y.natAbs<0:=fun h=>hc (ZA6.2 h)
  have hl:(Xa y.natAbs).length≤(Xa x.natAbs).length:=Jm (show y.natAbs≤x.natAbs by omega);have cm:=FL _ _ dx dy (by omega) hl (by omega);have vm:=CA dx dy hl (by omega);have e:Zg (decide (x<0)) (val (Ae (Xa x.natAbs) (Xa y.natAbs)))=x+y:=by
   rw[vm,vx,vy];unfold Zg;by_cases h2:x<0
   ·rw[N_ (c_ h2)];omega
   ·rw[M_ (by simpa using h2)];omega
  have c:=Ks (decide (x<0)) _ (Cz dx dy) (by unfold Ae;rw[Qq];omega);rw[e,←hR]at c;have fC:(((x.natAbs:Int)-y.natAbs).sign<0)=False:=R_ hc;refine Fq Tryz.call81 Tryz.func81 5 [] [] [] (by simp[KM,Xb,Xi]) (Xk ?_);simp(maxSteps:=999999)only[O_,↓X6,wA,seval,zA,qA,qC,wN];simp only[fB,↓X6,wA,seval,zA,qA,qC,wN];refine X2 cmp rfl ?_;simp only[fC,↓X6,wA,seval,zA,qA,qC,wN];refine X2 cm rfl ?_;simp only[↓X6,wA,seval,zA,qA,qC,wN];refine X2 c rfl ?_;simp only[hR,↓X6,wA,seval,zA,qA,qC,wN];exact Jf rfl Q5 rfl rfl rfl sR (hR.trans rfl)
theorem W6 (neg:Bool)(Q:List Int)(m0 n:Nat)(f:Nat→AV)(x:Int)(hf:f (n-1)=.int .i64 x) (hx:x≠0) (hne:n≠0) (hl:n<4611686018427387904) (hb:∀j,j<n→Jl 2 (f j)) :
  G' Tryz.prog 156 [.bool neg,.osl 1 0 1 0 n] [.row 0 m0 (J8 I 0 Q),.row 0 n f] (.agg [.bool neg,.osl 1 0 1 0 n]) [.row 0 m0 (J8 I 0 Q),.row 0 n f]:=by
 have hbO:Q0 2 (.row 0 n f)=True:=L' hb;refine G'.TAp (fn:=Tryz.f156) Tryz.call156 Tryz.func156 rfl mixed 6 [] [] [] (by kernel_rfl) (K_ rfl) (by simp[XP]) (by simp[XP,hbO]) (Xk ?_);simp only[O_,↓X6,wA,seval,zA,qA,qC,wN];refine Xj (fun _:Unit=>⟨6,[],[.bool neg,.osl 1 0 1 0 n,.any,.any,.ref 2 0 0,I n],[],[.row 0 m0 (J8 I 0 Q),.row 0 n f,.row 0 2 (Xf [.bool false,.sl 0 0 (fun _=>.any) true])]⟩) (fun _=>True) (fun _=>0) () trivial (ZZ (by simp[zA,qA,qC,wN,Xo,X9,Dq,CN,QG,I]) rfl) ?_;rintro⟨⟩ _ _;have e0:(0<(n:Int))=True:=L' (by omega);have e1:((n:Int)=0)=False:=R_ (by omega);have e1':(n=0)=False:=R_ (by omega);have w1:Q_.wrap ((n:Int)-1)=((n-1:Nat):Int):=by rw[M'];omega
 have w2:(((n-1:Nat):Int)<0)=False:=R_ (by omega);have e2:(n-1<n)=True:=L' (by omega);have e3:(x=0)=False:=R_ hx;refine Xk ?_;simp only[e0,e1,e1',e2,e3,w1,w2,hf,Int.sub_zero,U',↓X6,wA,seval,zA,qA,qC,wN];exact av (v:=.agg [.bool neg,.osl 1 0 1 0 n]) rfl (by simp[AS.get,Qy,Q5,rd,QL,Xf,EW]) rfl rfl
def Kn (a b:List Int)(B:Nat)(p:Nat):AS :=
 ⟨16,[],[X9 a,X9 b,.any,.any,.any,.any,.any,.any,.osl 0 0 1 0 a.length,X9 (Xa (Ku a B p).toNat),I ((p:Int)-1),.any,.any,.any,.any,.any],[],[.row 0 a.length (J8 I 0 (E7 a B p))]⟩
def Q1 (a b:List Int)(B i:Nat)(R:Nat)(p:Int×Int):AS :=
 ⟨16,[],[X9 a,X9 b,.any,.any,.any,.any,.any,.any,.osl 0 0 1 0 a.length,X9 (Xa R),I i,.any,I p.1,I p.2,.any,.any],[],[.row 0 a.length (J8 I 0 (E7 a B (i+1)))]⟩
theorem VA (A B:Nat)(hA:(Xa A).length<1000000000) (hB:(Xa B).length<1000000000) (hB0:B≠0) :
  ∃q:List Int,JO q∧val q=((A/B:Nat):Int)∧q.length<1000000000∧Fn Tryz.prog 218 [X9 (Xa A),X9 (Xa B)] (.tup [X9 q,X9 (Xa (A%B))]):=by
 have dA:=XW A;have dB:=XW B;have vA:=XJ A;have vB:=XJ B;by_cases hs:(Xa A).length≤2∧(Xa B).length≤2
 ·refine⟨Xa (A/B),XW _,XJ _,?_,?_⟩
  ·have:=Jm (y:=((A/B:Nat):Int)) (z:=(A:Int)) (by have:=ZDa A B;generalize A/B=q at *;omega)
   rw[KC,KC]at this;omega
  have l1:=AD hs.1;have l2:=AD hs.2;have c1:=LU _ dA hs.1;have c2:=LU _ dB hs.2;rw[vA]at c1;rw[vB]at c2;have l3:A/B≤A:=ZDa A B;have l4:A%B≤A:=Nat.mod_le A B;have c3:=Eb ((A/B:Nat):Int) (by unfold Ap;generalize A/B=q at *;omega);have c4:=Eb ((A%B:Nat):Int) (by unfold Ap;generalize A%B=q at *;omega);rw[Jb]at c3 c4;have e1:Q_.wrap ((A:Int).tdiv B)=((A/B:Nat):Int):=by
   rw[show(A:Int).tdiv B=((A/B:Nat):Int)from rfl];generalize A/B=q at *;rw[M'];omega
  have e2:(A:Int).tmod B=((A%B:Nat):Int):=rfl;have f1:(((Xa A).length:Int)≤2)=True:=L' (by omega);have f2:(((Xa B).length:Int)≤2)=True:=L' (by omega);have f3:((B:Int)=0)=False:=R_ (by omega);refine Fq Tryz.call218 Tryz.func218 16 [] [] [] (by simp[KM,Xb,Xi]) (Xk ?_);simp(maxSteps:=999999)only[O_,↓X6,wA,seval,zA,qA,qC,wN];simp only[f1,f2,hs.1,hs.2,↓X6,wA,seval,zA,qA,qC,wN];refine X2 c1 rfl ?_;simp only[↓X6,wA,seval,zA,qA,qC,wN];refine X2 c2 rfl ?_;simp only[f3,e1,↓X6,wA,seval,zA,qA,qC,wN];refine X2 c3 rfl ?_;simp only[↓X6,wA,seval,zA,qA,qC,wN];refine X2 c1 rfl ?_;simp only[↓X6,wA,seval,zA,qA,qC,wN];refine X2 c2 rfl ?_;simp only[f3,e2,↓X6,wA,seval,zA,qA,qC,wN];refine X2 c4 rfl ?_;simp only[↓X6,wA,seval,zA,qA,qC,wN];exact mF rfl rfl rfl (Xd _) (Xd _) rfl rfl
 have hb:(0:Int)<B:=by omega
 obtain⟨a,ha⟩:∃a,a=Xa A:=⟨_,rfl⟩
 have hqa:=Rz (a:=Xa A) (b:=(B:Int)) hb;have hr0:Ku (Xa A) B 0=((A%B:Nat):Int):=by unfold Ku;rw[ZBg,vA];rfl
 have TBG:val (BH (AY (Xa A) B) (Xa A).length)=((A/B:Nat):Int):=by
  rw[vA,hr0]at hqa;have h3:=Nat.mod_add_div A B;have h3':((A%B:Nat):Int)+B*((A/B:Nat):Int)=A:=by exact_mod_cast h3
  have h4:(B:Int)*val (BH (AY (Xa A) B) (Xa A).length)=B*((A/B:Nat):Int):=by omega
  exact Int.eq_of_mul_eq_mul_left (by omega) h4
 refine⟨BH (AY (Xa A) B) (Xa A).length,DW fun i _=>EY dA hb i,TBG,by rw[Qq];exact hA,?_⟩;obtain⟨QQ,hQQ⟩:∃r,r=X9 (BH (AY (Xa A) B) (Xa A).length):=⟨_,rfl⟩
 have sQQ:A_ QQ:=hQQ▸Xd _;rw[←hQQ];have w00:Q_.wrap ((Xa A).length:Int)=((Xa A).length:Int):=by rw[M'];omega
 have w0:Q_.wrap (((Xa A).length:Int)-1)=((Xa A).length:Int)-1:=by rw[M'];omega
 refine Fq Tryz.call218 Tryz.func218 16 [] [] [] (by simp[Xd]) (Xk ?_);have hsI:¬ (((Xa A).length:Int)≤2∧((Xa B).length:Int)≤2):=fun h=>hs ⟨by omega,by omega⟩
 simp(maxSteps:=999999)only[O_,w0,U',↓X6,wA,seval,zA,qA,qC,wN];refine(fun key=>⟨fun a=>⟨fun b=>absurd ⟨a,b⟩ hsI,fun _=>⟨⟨by omega,by omega⟩,key⟩⟩,fun _=>⟨⟨by omega,by omega⟩,key⟩⟩) ?r;refine Xj (Kn (Xa A) (Xa B) B) (fun p=>p≤(Xa A).length) (fun p=>p) (Xa A).length (N' _) ?_ ?_
 ·refine(Zm 0 (Xa A).length (J8 I 0 (E7 (Xa A) B (Xa A).length)) rfl (N' _) ?_).trans ?_
  ·intro j hj
   have:(E7 (Xa A) B (Xa A).length).getD j 0=0:=by unfold E7;rw[Da _ _ _ hj,M_ (by omega)]
   rw[Bs,this];rfl
  refine(DC 9 (X9 []) (by simp) ?_).trans (Xh rfl ?_ ?_ ?_)
  ·exact QI _ _
  ·simp[Kn,Xo,X9,QG,I,Nj,Qu]
  ·simp[Kn,Xx]
  ·rfl
 intro p hp next
 cases p with
 |zero =>
  have e1:((0:Int)≤0-1)=False:=R_ (by omega);refine Xk ?_;simp(maxSteps:=999999)only[Kn,e1,↓X6,wA,seval,zA,qA,qC,wN];refine rE rfl (DA ⟨?_,XY (Xd _) ?_,trivial⟩)
  ·rw[hQQ]
   exact Bq X8 rfl rfl (Qq _ _).symm (by rw[P9]) (ZCE (Qq _ _))
  ·rw[hr0,U'];rfl
 |succ i =>
  obtain⟨r,hr⟩:∃r,r=(Ku (Xa A) B (i+1)).toNat:=⟨_,rfl⟩
  have r0:0≤Ku (Xa A) B (i+1):=ZBr _ (by omega);have r1:Ku (Xa A) B (i+1)<B:=ZBO _ hb;have er:Ku (Xa A) B (i+1)=r:=by omega
  have da:=Qo dA i;unfold Qi at da;have eA:(Xa A).getD i 0=dg (Xa A) i:=rfl;obtain⟨x,hx⟩:∃x:Nat,dg (Xa A) i=x:=⟨(dg (Xa A) i).toNat,by omega⟩
  rw[hx]at da eA;obtain⟨R,hR⟩:∃R,R=r*1000000000+x:=⟨_,rfl⟩
  obtain⟨Q,hQ⟩:∃Q,Q=AY (Xa A) B i:=⟨_,rfl⟩
  have hRc:(R:Int)=(r:Int)*1000000000+x:=by omega
  have hQd:Q=(R:Int)/B:=by rw[hQ,AY,er,eA,hRc]
  have hrn:Ku (Xa A) B i=(R:Int)%B:=by rw[Iv (Xa A) B i (by omega),er,eA,hRc]
  have dQ:=EY dA hb i;rw[←hQ]at dQ;unfold Qi at dQ;have q0:=dQ.1;have hdm:=Int.emod_add_mul_ediv (R:Int) B;rw[←hQd,←hrn]at hdm;have n0:0≤Ku (Xa A) B i:=ZBr _ (by omega);have n1:Ku (Xa A) B i<B:=ZBO _ hb;have hmq:(B:Int)*(Q+1)=B*Q+B:=by rw[ZDY,Int.mul_one]
  have lR:(Xa R).length≤(Xa B).length+1:=by
   have h1:((R:Int)).natAbs≤((B:Int)*1000000000).natAbs:=by omega
   have h2:=Jm h1;have h3:=JV (B:Int) 1000000000;have h4:bl (1000000000:Int)≤2:=GL (by simp[pw]);rw[KC]at h2 h3;have h5:(R:Int)<pw ((Xa B).length+1):=by
    have g1:=R8 B;have g2:=JP (Xa B).length;simp only[pw];omega
   exact EK h5
  have XM:∀mid:Int,0≤mid→mid<1000000000→Fn Tryz.prog 237 [X9 (Xa B),I mid] (X9 (Xa ((B:Int)*mid).toNat))∧Fn Tryz.prog 162 [X9 (Xa ((B:Int)*mid).toNat),X9 (Xa R)] (I ((B:Int)*mid-R).sign):=by
   intro mid g0 g1;have c1:=nr (Xa B) mid (Q4 B) ⟨g0,g1⟩ (by omega);rw[vB]at c1;have m0:0≤(B:Int)*mid:=ZBP (by omega) g0;have m1:(Xa ((B:Int)*mid).toNat).length≤(Xa B).length+3:=by
    have h2:=JV (B:Int) mid;have h3:bl mid≤3:=Aa ⟨by omega,by omega⟩;have h4:bl ((B:Int)*mid)=(Xa ((B:Int)*mid).toNat).length:=by show(Xa ((B:Int)*mid).natAbs).length=_;rw[show((B:Int)*mid).natAbs=((B:Int)*mid).toNat by omega]
    rw[KC]at h2;omega
   have c2:=BJ (Xa ((B:Int)*mid).toNat) (Xa R) (Q4 _) (Q4 _) (by omega);rw[XJ,XJ,ZB8 m0]at c2;exact⟨c1,c2⟩
  obtain⟨T,hT⟩:∃T:Nat,(T:Int)=B*Q:=⟨((B:Int)*Q).toNat,ZB8 (ZBP (by omega) q0)⟩
  have hTR:T≤R:=by omega
  have lT:(Xa T).length≤(Xa R).length:=by
   have:=Jm (y:=(T:Int)) (z:=(R:Int));rw[KC,KC]at this;exact this
  have cm:=FL (Xa R) (Xa T) (XW _) (XW _) (by omega) lT (by rw[XJ,XJ];omega);have vm:=CA (XW R) (XW T) lT (by rw[XJ,XJ];omega);rw[XJ,XJ]at vm;have cn:=Ks false (Ae (Xa R) (Xa T)) (Cz (XW _) (XW _)) (by unfold Ae;rw[Qq];omega);obtain⟨r',hr'⟩:∃r':Nat,(r':Int)=Ku (Xa A) B i:=⟨(Ku (Xa A) B i).toNat,by omega⟩
  rw[vm,show Zg false ((R:Int)-T)=(r':Int)by unfold Zg;simp;omega,Jb]at cn;have eT:((B:Int)*Q).toNat=T:=by omega
  have TAq:(Ku (Xa A) B i).toNat=r':=by omega
  rw[←eT]at cm cn;have hU:De (J8 I 0 (E7 (Xa A) B (i+1))) i (.int .i64 Q)=J8 I 0 (E7 (Xa A) B i):=by
   rw[A9 _ _ _ (by rw[TF];omega),TG (Xa A) B i (by omega) hQ]
  have e1:((i+1:Nat):Int)-1=(i:Int):=by omega
  have w1:Q_.wrap ((i:Int)-1)=(i:Int)-1:=by rw[M'];omega
  have f3:(i<(Xa A).length)=True:=L' (by omega);have f3':(i+1≤(Xa A).length)=True:=L' (by omega);have e0:((0:Int)≤(i:Int))=True:=L' (by omega);have cc0:=BJ (Xa R) (Xa B) (Q4 _) (Q4 _) (by omega);rw[XJ,vB]at cc0;by_cases hrz:r=0
  ·
   have TEE:(Ku (Xa A) B (i+1)).toNat=0:=by omega
   have hRx:R=x:=by omega
   have cn1:=Ks false [(x:Int)] (ZD.2 ⟨⟨by omega,by omega⟩,CP⟩) (by simp);rw[show Zg false (val [(x:Int)])=(R:Int)by unfold Zg;simp[val];omega,Jb]at cn1;refine Xk ?_;simp(maxSteps:=999999)only[Kn,e1,e0,eA,f3,TEE,Qu,U',↓X6,wA,seval,zA,qA,qC,wN];refine X0 cn1 ⟨U_ _,Cr rfl rfl,trivial⟩ ?_;simp(maxSteps:=999999)only[↓X6,wA,seval,zA,qA,qC,wN];refine X2 cc0 rfl ?_;by_cases hlt:((R:Int)-B).sign<0
   ·have g1:(((R:Int)-B).sign<0)=True:=L' hlt
    have hQ0:Q=0:=by
     have:=ZA6.1 hlt;rw[hQd];exact ZDn (by omega) (by omega)
    simp(maxSteps:=999999)only[g1,↓X6,wA,seval,zA,qA,qC,wN];refine Xj (Q1 (Xa A) (Xa B) B i R) (fun p=>0≤p.1∧p.1≤Q∧Q≤p.2∧p.2<1000000000) (fun p=>(p.2-p.1).toNat) (0,0) ⟨ZB2 0,q0,by simp only;omega,by simp only;omega⟩ ?_ ?_
    ·exact(XG (m:=1) (p_ _) rfl (by simp[zA,qA,qC,wN,Q1,Xo,X9,QG,I]) (by simp[zA,qA,qC,wN,Q1,Xx]) (by simp[zA,qA,qC,wN,Q1,X9,QG,I]) (by simp[zA,qA,qC,wN,Q1,XP]) (by simp[zA,qA,qC,wN,Q1,XP]) (by simp[zA,qA,qC,wN,Q1,XP]))
    rintro⟨lo,hi⟩ ⟨h1,h2,h3,h4⟩ TAT;simp only at h1 h2 h3 h4;by_cases hlh:lo<hi
    ·obtain⟨mid,TBx⟩:∃mid,mid=(lo+hi+1)/2:=⟨_,rfl⟩
     have k1:Q_.wrap (lo+hi)=lo+hi:=by rw[M'];omega
     have k2:Q_.wrap (lo+hi+1)=lo+hi+1:=by rw[M'];omega
     have k3:Q_.wrap ((lo+hi+1).tdiv 2)=mid:=by rw[r_ (by omega),←TBx,M'];omega
     have k4:Q_.wrap (mid-1)=mid-1:=by rw[M'];omega
     have j1:(lo<hi)=True:=L' hlh;obtain⟨ct,cc⟩:=XM mid (by omega) (by omega);by_cases hm:(B:Int)*mid≤R
     ·have j2:(((B:Int)*mid-R).sign≤0)=True:=L' (by
       rcases ZB5 hm with h |h
       ·rw[o_ (by omega)];omega
       ·rw[h,ZCW];simp)
      have hq:mid≤Q:=by
       apply Y';intro hh;have:(B:Int)*(Q+1)≤B*mid:=X' (by omega) (by omega);omega
      refine Xk ?_;simp(maxSteps:=999999)only[Q1,j1,k1,k2,k3,ZAC,↓X6,wA,seval,zA,qA,qC,wN];refine X2 ct rfl ?_;simp(maxSteps:=999999)only[k1,k2,k3,↓X6,wA,seval,zA,qA,qC,wN];refine X2 cc rfl ?_;simp(maxSteps:=999999)only[j2,↓X6,wA,seval,zA,qA,qC,wN];exact TAT (mid,hi) _ ⟨by simp only;omega,hq,h3,h4⟩ (by simp only;omega) (Xh rfl (by simp[Q1,Xo,X9,QG,I]) (by simp[Q1,Xx]) rfl)
     ·have j2:(((B:Int)*mid-R).sign≤0)=False:=R_ (by
       rw[u_ (by omega)];omega)
      have hq:Q≤mid-1:=by
       apply Y';intro hh;have:(B:Int)*mid≤B*Q:=X' (by omega) (by omega);omega
      refine Xk ?_;simp(maxSteps:=999999)only[Q1,j1,k1,k2,k3,ZAC,↓X6,wA,seval,zA,qA,qC,wN];refine X2 ct rfl ?_;simp(maxSteps:=999999)only[k1,k2,k3,↓X6,wA,seval,zA,qA,qC,wN];refine X2 cc rfl ?_;simp(maxSteps:=999999)only[j2,k4,↓X6,wA,seval,zA,qA,qC,wN];exact TAT (lo,mid-1) _ ⟨h1,h2,hq,by simp only;omega⟩ (by simp only;omega) (Xh rfl (by simp[Q1,Xo,X9,QG,I]) (by simp[Q1,Xx]) rfl)
    ·obtain rfl:lo=Q:=by omega
     have j1:(lo<hi)=False:=R_ hlh;obtain⟨ct,_⟩:=XM lo (by omega) (by omega);refine Xk ?_;simp(maxSteps:=999999)only[Q1,j1,↓X6,wA,seval,zA,qA,qC,wN];refine X2 ct rfl ?_;simp(maxSteps:=999999)only[↓X6,wA,seval,zA,qA,qC,wN];refine X2 cm rfl ?_;simp(maxSteps:=999999)only[↓X6,wA,seval,zA,qA,qC,wN];refine X2 cn rfl ?_;simp(maxSteps:=999999)only[f3,f3',hU,w1,U',↓X6,wA,seval,zA,qA,qC,wN];exact next i _ (by omega) (by omega) (XG (m:=1) (p_ _) rfl (by simp[zA,qA,qC,wN,Kn,TAq,Xo,X9,QG,I]) (by simp[zA,qA,qC,wN,Kn,TAq,Xx]) (by simp[zA,qA,qC,wN,Kn,TAq,X9,QG,I]) (by simp[zA,qA,qC,wN,Kn,TAq,XP]) (by simp[zA,qA,qC,wN,Kn,TAq,XP]) (by simp[zA,qA,qC,wN,Kn,TAq,XP]))
   ·have g1:(((R:Int)-B).sign<0)=False:=R_ hlt
    simp(maxSteps:=999999)only[g1,↓X6,wA,seval,zA,qA,qC,wN];refine Xj (Q1 (Xa A) (Xa B) B i R) (fun p=>0≤p.1∧p.1≤Q∧Q≤p.2∧p.2<1000000000) (fun p=>(p.2-p.1).toNat) (0,999999999) ⟨ZB2 0,q0,by simp only;omega,by simp only;omega⟩ ?_ ?_
    ·exact(XG (m:=1) (p_ _) rfl (by simp[zA,qA,qC,wN,Q1,Xo,X9,QG,I]) (by simp[zA,qA,qC,wN,Q1,Xx]) (by simp[zA,qA,qC,wN,Q1,X9,QG,I]) (by simp[zA,qA,qC,wN,Q1,XP]) (by simp[zA,qA,qC,wN,Q1,XP]) (by simp[zA,qA,qC,wN,Q1,XP]))
    rintro⟨lo,hi⟩ ⟨h1,h2,h3,h4⟩ TAT;simp only at h1 h2 h3 h4;by_cases hlh:lo<hi
    ·obtain⟨mid,TBx⟩:∃mid,mid=(lo+hi+1)/2:=⟨_,rfl⟩
     have k1:Q_.wrap (lo+hi)=lo+hi:=by rw[M'];omega
     have k2:Q_.wrap (lo+hi+1)=lo+hi+1:=by rw[M'];omega
     have k3:Q_.wrap ((lo+hi+1).tdiv 2)=mid:=by rw[r_ (by omega),←TBx,M'];omega
     have k4:Q_.wrap (mid-1)=mid-1:=by rw[M'];omega
     have j1:(lo<hi)=True:=L' hlh;obtain⟨ct,cc⟩:=XM mid (by omega) (by omega);by_cases hm:(B:Int)*mid≤R
     ·have j2:(((B:Int)*mid-R).sign≤0)=True:=L' (by
       rcases ZB5 hm with h |h
       ·rw[o_ (by omega)];omega
       ·rw[h,ZCW];simp)
      have hq:mid≤Q:=by
       apply Y';intro hh;have:(B:Int)*(Q+1)≤B*mid:=X' (by omega) (by omega);omega
      refine Xk ?_;simp(maxSteps:=999999)only[Q1,j1,k1,k2,k3,ZAC,↓X6,wA,seval,zA,qA,qC,wN];refine X2 ct rfl ?_;simp(maxSteps:=999999)only[k1,k2,k3,↓X6,wA,seval,zA,qA,qC,wN];refine X2 cc rfl ?_;simp(maxSteps:=999999)only[j2,↓X6,wA,seval,zA,qA,qC,wN];exact TAT (mid,hi) _ ⟨by simp only;omega,hq,h3,h4⟩ (by simp only;omega) (Xh rfl (by simp[Q1,Xo,X9,QG,I]) (by simp[Q1,Xx]) rfl)
     ·have j2:(((B:Int)*mid-R).sign≤0)=False:=R_ (by
       rw[u_ (by omega)];omega)
      have hq:Q≤mid-1:=by
       apply Y';intro hh;have:(B:Int)*mid≤B*Q:=X' (by omega) (by omega);omega
      refine Xk ?_;simp(maxSteps:=999999)only[Q1,j1,k1,k2,k3,ZAC,↓X6,wA,seval,zA,qA,qC,wN];refine X2 ct rfl ?_;simp(maxSteps:=999999)only[k1,k2,k3,↓X6,wA,seval,zA,qA,qC,wN];refine X2 cc rfl ?_;simp(maxSteps:=999999)only[j2,k4,↓X6,wA,seval,zA,qA,qC,wN];exact TAT (lo,mid-1) _ ⟨h1,h2,hq,by simp only;omega⟩ (by simp only;omega) (Xh rfl (by simp[Q1,Xo,X9,QG,I]) (by simp[Q1,Xx]) rfl)
    ·obtain rfl:lo=Q:=by omega
     have j1:(lo<hi)=False:=R_ hlh;obtain⟨ct,_⟩:=XM lo (by omega) (by omega);refine Xk ?_;simp(maxSteps:=999999)only[Q1,j1,↓X6,wA,seval,zA,qA,qC,wN];refine X2 ct rfl ?_;simp(maxSteps:=999999)only[↓X6,wA,seval,zA,qA,qC,wN];refine X2 cm rfl ?_;simp(maxSteps:=999999)only[↓X6,wA,seval,zA,qA,qC,wN];refine X2 cn rfl ?_;simp(maxSteps:=999999)only[f3,f3',hU,w1,U',↓X6,wA,seval,zA,qA,qC,wN];exact next i _ (by omega) (by omega) (XG (m:=1) (p_ _) rfl (by simp[zA,qA,qC,wN,Kn,TAq,Xo,X9,QG,I]) (by simp[zA,qA,qC,wN,Kn,TAq,Xx]) (by simp[zA,qA,qC,wN,Kn,TAq,X9,QG,I]) (by simp[zA,qA,qC,wN,Kn,TAq,XP]) (by simp[zA,qA,qC,wN,Kn,TAq,XP]) (by simp[zA,qA,qC,wN,Kn,TAq,XP]))
  ·
   obtain⟨m,hm⟩:∃m,m=(Xa r).length:=⟨_,rfl⟩
   have hm0:m≠0:=fun h=>hrz (TAA.1 (by omega))
   have dR:Xa R=(x:Int) :: Xa r:=by
    rw[BK (by omega),show R%1000000000=x by omega,show R/1000000000=r by omega]
   have hlR:1+m=(Xa R).length:=by rw[dR];simp;omega
   have hfj:∀j,j<1+m→XV 1 (Xf [.int .i64 (x:Int)]) m (J8 I 0 (Xa r)) j=I ((Xa R).getD j 0):=by
    intro j hj;rw[dR];cases j with
    |zero=>simp[XV,Xf,I]
    |succ j =>
     unfold XV;rw[M_ (by omega),N_ hj,show j+1-1=j by omega,Bs];rfl
   have hnz:(Xa R).getD m 0≠0:=by
    have:=(Q4 R).2 (by rw[dR];simp);rwa[←hlR,show 1+m-1=m by omega]at this
   have hfl:XV 1 (Xf [.int .i64 (x:Int)]) m (J8 I 0 (Xa r)) (1+m-1)=.int .i64 ((Xa R).getD m 0):=by
    rw[show 1+m-1=m by omega,hfj m (by omega)];rfl
   have cno:=W6 false (E7 (Xa A) B (i+1)) (Xa A).length (1+m) _ _ hfl hnz (by omega) (by omega) (fun j hj=>by rw[hfj j hj];exact ya _ _);have hw:∀H:List AO,H[1]?=some (.con 0 (1+m) (XV 1 (Xf [.int .i64 (x:Int)]) m (J8 I 0 (Xa r))))→Jj H (.osl 1 0 1 0 (1+m)) (X9 (Xa R)):=by
    intro H ho;show Jj H _ (.sl (Xa R).length (Xa R).length (J8 I 0 (Xa R)) false);rw[←hlR];exact JG ho (N' _) (fun h=>by omega) fun j hj=>by rw[hfj j hj];exact XD _ _
   have f5:(m=0)=False:=R_ hm0;have TEE:(Ku (Xa A) B (i+1)).toNat=r:=by omega
   refine Xk ?_;simp(maxSteps:=999999)only[Kn,e1,e0,eA,f3,TEE,←hm,f5,U',↓X6,wA,seval,zA,qA,qC,wN];refine⟨⟨by omega,by omega,by omega⟩,XC rfl cno (fun _ _ _ _=>ZCo) (fun id=>?_) ⟨U_ _,U_ _,trivial⟩ ?_⟩
   ·match id with
    |0=>simp
    |1=>simp
    |id+2=>simp
   simp(maxSteps:=999999)only[↓X6,wA,seval,zA,qA,qC,wN];refine Oq cc0 rfl ⟨Wv rfl rfl hlR (by omega) (fun j hj=>hfj j (by omega)),XY (Xd _) rfl,trivial⟩ (kp _ _) ?_;by_cases hlt:((R:Int)-B).sign<0
   ·have g1:(((R:Int)-B).sign<0)=True:=L' hlt
    have hQ0:Q=0:=by
     have:=ZA6.1 hlt;rw[hQd];exact ZDn (by omega) (by omega)
    simp(maxSteps:=999999)only[g1,↓X6,wA,seval,zA,qA,qC,wN];refine Xj (Q1 (Xa A) (Xa B) B i R) (fun p=>0≤p.1∧p.1≤Q∧Q≤p.2∧p.2<1000000000) (fun p=>(p.2-p.1).toNat) (0,0) ⟨ZB2 0,q0,by simp only;omega,by simp only;omega⟩ ?_ ?_
    ·refine(Xz 1 rfl).trans ((Zf 9 (X9 (Xa R)) (by simp) (hw _ rfl)).trans (XG (m:=1) (p_ _) rfl (by simp[zA,qA,qC,wN,Q1,Xo,X9,QG,I]) (by simp[zA,qA,qC,wN,Q1,Xx]) (by simp[zA,qA,qC,wN,Q1,X9,QG,I]) (by simp[zA,qA,qC,wN,Q1,XP]) (by simp[zA,qA,qC,wN,Q1,XP]) (by simp[zA,qA,qC,wN,Q1,XP])))
    rintro⟨lo,hi⟩ ⟨h1,h2,h3,h4⟩ TAT;simp only at h1 h2 h3 h4;by_cases hlh:lo<hi
    ·obtain⟨mid,TBx⟩:∃mid,mid=(lo+hi+1)/2:=⟨_,rfl⟩
     have k1:Q_.wrap (lo+hi)=lo+hi:=by rw[M'];omega
     have k2:Q_.wrap (lo+hi+1)=lo+hi+1:=by rw[M'];omega
     have k3:Q_.wrap ((lo+hi+1).tdiv 2)=mid:=by rw[r_ (by omega),←TBx,M'];omega
     have k4:Q_.wrap (mid-1)=mid-1:=by rw[M'];omega
     have j1:(lo<hi)=True:=L' hlh;obtain⟨ct,cc⟩:=XM mid (by omega) (by omega);by_cases hm:(B:Int)*mid≤R
     ·have j2:(((B:Int)*mid-R).sign≤0)=True:=L' (by
       rcases ZB5 hm with h |h
       ·rw[o_ (by omega)];omega
       ·rw[h,ZCW];simp)
      have hq:mid≤Q:=by
       apply Y';intro hh;have:(B:Int)*(Q+1)≤B*mid:=X' (by omega) (by omega);omega
      refine Xk ?_;simp(maxSteps:=999999)only[Q1,j1,k1,k2,k3,ZAC,↓X6,wA,seval,zA,qA,qC,wN];refine X2 ct rfl ?_;simp(maxSteps:=999999)only[k1,k2,k3,↓X6,wA,seval,zA,qA,qC,wN];refine X2 cc rfl ?_;simp(maxSteps:=999999)only[j2,↓X6,wA,seval,zA,qA,qC,wN];exact TAT (mid,hi) _ ⟨by simp only;omega,hq,h3,h4⟩ (by simp only;omega) (Xh rfl (by simp[Q1,Xo,X9,QG,I]) (by simp[Q1,Xx]) rfl)
     ·have j2:(((B:Int)*mid-R).sign≤0)=False:=R_ (by
       rw[u_ (by omega)];omega)
      have hq:Q≤mid-1:=by
       apply Y';intro hh;have:(B:Int)*mid≤B*Q:=X' (by omega) (by omega);omega
      refine Xk ?_;simp(maxSteps:=999999)only[Q1,j1,k1,k2,k3,ZAC,↓X6,wA,seval,zA,qA,qC,wN];refine X2 ct rfl ?_;simp(maxSteps:=999999)only[k1,k2,k3,↓X6,wA,seval,zA,qA,qC,wN];refine X2 cc rfl ?_;simp(maxSteps:=999999)only[j2,k4,↓X6,wA,seval,zA,qA,qC,wN];exact TAT (lo,mid-1) _ ⟨h1,h2,hq,by simp only;omega⟩ (by simp only;omega) (Xh rfl (by simp[Q1,Xo,X9,QG,I]) (by simp[Q1,Xx]) rfl)
    ·obtain rfl:lo=Q:=by omega
     have j1:(lo<hi)=False:=R_ hlh;obtain⟨ct,_⟩:=XM lo (by omega) (by omega);refine Xk ?_;simp(maxSteps:=999999)only[Q1,j1,↓X6,wA,seval,zA,qA,qC,wN];refine X2 ct rfl ?_;simp(maxSteps:=999999)only[↓X6,wA,seval,zA,qA,qC,wN];refine X2 cm rfl ?_;simp(maxSteps:=999999)only[↓X6,wA,seval,zA,qA,qC,wN];refine X2 cn rfl ?_;simp(maxSteps:=999999)only[f3,f3',hU,w1,U',↓X6,wA,seval,zA,qA,qC,wN];exact next i _ (by omega) (by omega) (XG (m:=1) (p_ _) rfl (by simp[zA,qA,qC,wN,Kn,TAq,Xo,X9,QG,I]) (by simp[zA,qA,qC,wN,Kn,TAq,Xx]) (by simp[zA,qA,qC,wN,Kn,TAq,X9,QG,I]) (by simp[zA,qA,qC,wN,Kn,TAq,XP]) (by simp[zA,qA,qC,wN,Kn,TAq,XP]) (by simp[zA,qA,qC,wN,Kn,TAq,XP]))
   ·have g1:(((R:Int)-B).sign<0)=False:=R_ hlt
    simp(maxSteps:=999999)only[g1,↓X6,wA,seval,zA,qA,qC,wN];refine Xj (Q1 (Xa A) (Xa B) B i R) (fun p=>0≤p.1∧p.1≤Q∧Q≤p.2∧p.2<1000000000) (fun p=>(p.2-p.1).toNat) (0,999999999) ⟨ZB2 0,q0,by simp only;omega,by simp only;omega⟩ ?_ ?_
    ·refine(Xz 1 rfl).trans ((Zf 9 (X9 (Xa R)) (by simp) (hw _ rfl)).trans (XG (m:=1) (p_ _) rfl (by simp[zA,qA,qC,wN,Q1,Xo,X9,QG,I]) (by simp[zA,qA,qC,wN,Q1,Xx]) (by simp[zA,qA,qC,wN,Q1,X9,QG,I]) (by simp[zA,qA,qC,wN,Q1,XP]) (by simp[zA,qA,qC,wN,Q1,XP]) (by simp[zA,qA,qC,wN,Q1,XP])))
    rintro⟨lo,hi⟩ ⟨h1,h2,h3,h4⟩ TAT;simp only at h1 h2 h3 h4;by_cases hlh:lo<hi
    ·obtain⟨mid,TBx⟩:∃mid,mid=(lo+hi+1)/2:=⟨_,rfl⟩
     have k1:Q_.wrap (lo+hi)=lo+hi:=by rw[M'];omega
     have k2:Q_.wrap (lo+hi+1)=lo+hi+1:=by rw[M'];omega
     have k3:Q_.wrap ((lo+hi+1).tdiv 2)=mid:=by rw[r_ (by omega),←TBx,M'];omega
     have k4:Q_.wrap (mid-1)=mid-1:=by rw[M'];omega
     have j1:(lo<hi)=True:=L' hlh;obtain⟨ct,cc⟩:=XM mid (by omega) (by omega);by_cases hm:(B:Int)*mid≤R
     ·have j2:(((B:Int)*mid-R).sign≤0)=True:=L' (by
       rcases ZB5 hm with h |h
       ·rw[o_ (by omega)];omega
       ·rw[h,ZCW];simp)
      have hq:mid≤Q:=by
       apply Y';intro hh;have:(B:Int)*(Q+1)≤B*mid:=X' (by omega) (by omega);omega
      refine Xk ?_;simp(maxSteps:=999999)only[Q1,j1,k1,k2,k3,ZAC,↓X6,wA,seval,zA,qA,qC,wN];refine X2 ct rfl ?_;simp(maxSteps:=999999)only[k1,k2,k3,↓X6,wA,seval,zA,qA,qC,wN];refine X2 cc rfl ?_;simp(maxSteps:=999999)only[j2,↓X6,wA,seval,zA,qA,qC,wN];exact TAT (mid,hi) _ ⟨by simp only;omega,hq,h3,h4⟩ (by simp only;omega) (Xh rfl (by simp[Q1,Xo,X9,QG,I]) (by simp[Q1,Xx]) rfl)
     ·have j2:(((B:Int)*mid-R).sign≤0)=False:=R_ (by
       rw[u_ (by omega)];omega)
      have hq:Q≤mid-1:=by
       apply Y';intro hh;have:(B:Int)*mid≤B*Q:=X' (by omega) (by omega);omega
      refine Xk ?_;simp(maxSteps:=999999)only[Q1,j1,k1,k2,k3,ZAC,↓X6,wA,seval,zA,qA,qC,wN];refine X2 ct rfl ?_;simp(maxSteps:=999999)only[k1,k2,k3,↓X6,wA,seval,zA,qA,qC,wN];refine X2 cc rfl ?_;simp(maxSteps:=999999)only[j2,k4,↓X6,wA,seval,zA,qA,qC,wN];exact TAT (lo,mid-1) _ ⟨h1,h2,hq,by simp only;omega⟩ (by simp only;omega) (Xh rfl (by simp[Q1,Xo,X9,QG,I]) (by simp[Q1,Xx]) rfl)
    ·obtain rfl:lo=Q:=by omega
     have j1:(lo<hi)=False:=R_ hlh;obtain⟨ct,_⟩:=XM lo (by omega) (by omega);refine Xk ?_;simp(maxSteps:=999999)only[Q1,j1,↓X6,wA,seval,zA,qA,qC,wN];refine X2 ct rfl ?_;simp(maxSteps:=999999)only[↓X6,wA,seval,zA,qA,qC,wN];refine X2 cm rfl ?_;simp(maxSteps:=999999)only[↓X6,wA,seval,zA,qA,qC,wN];refine X2 cn rfl ?_;simp(maxSteps:=999999)only[f3,f3',hU,w1,U',↓X6,wA,seval,zA,qA,qC,wN];exact next i _ (by omega) (by omega) (XG (m:=1) (p_ _) rfl (by simp[zA,qA,qC,wN,Kn,TAq,Xo,X9,QG,I]) (by simp[zA,qA,qC,wN,Kn,TAq,Xx]) (by simp[zA,qA,qC,wN,Kn,TAq,X9,QG,I]) (by simp[zA,qA,qC,wN,Kn,TAq,XP]) (by simp[zA,qA,qC,wN,Kn,TAq,XP]) (by simp[zA,qA,qC,wN,Kn,TAq,XP]))
end
end Go.Ab.N
