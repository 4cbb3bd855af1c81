/- Contracts of functions, for every argument that fits. -/
import Derived.Test.YtcmfnmceomhgcaaGreatC3
set_option linter.unusedSimpArgs false
set_option linter.unusedVariables false
namespace Go.Ab.N
open Go Go.RowKit Go.Proofs
noncomputable section
set_option maxRecDepth 10000
set_option maxHeartbeats 2000000
open Classical
theorem o8 (a b:Rat):Int.gcd ((Rat.divInt a.num b.den).num*(Rat.divInt b.num a.den).num) ((Rat.divInt a.num b.den).den*(Rat.divInt b.num a.den).den:Nat)=1 ∧
  Rat.divInt ((Rat.divInt a.num b.den).num*(Rat.divInt b.num a.den).num) ((Rat.divInt a.num b.den).den*(Rat.divInt b.num a.den).den:Nat)=a*b:=by
 have hda:(a.den:Int)≠0:=by have:=a.den_nz;omega
 have hdb:(b.den:Int)≠0:=by have:=b.den_nz;omega
 obtain⟨m,m0,m1,m2⟩:=Dg a.num b.den hdb;obtain⟨n,n0,n1,n2⟩:=Dg b.num a.den hda;have hx:=(Rat.divInt a.num b.den).reduced;have hy:=(Rat.divInt b.num a.den).reduced;have exy:Rat.divInt a.num b.den*Rat.divInt b.num a.den=a*b:=by
  rw[Rat.divInt_mul_divInt,Rat.mul_def',Zi];congr 1
  push_cast
  exact Int.mul_comm _ _
 obtain⟨x,ex⟩:∃x,x=Rat.divInt a.num b.den:=⟨_,rfl⟩
 obtain⟨y,ey⟩:∃y,y=Rat.divInt b.num a.den:=⟨_,rfl⟩
 rw[←ex]at hx m1 m2 exy ⊢;rw[←ey]at hy n1 n2 exy ⊢;have d1:x.num.natAbs∣a.num.natAbs:=by rw[m1,Int.natAbs_mul];exact Nat.dvd_mul_right _ _
 have d2:x.den∣b.den:=by
  have:(b.den:Int).natAbs=x.den*m.natAbs:=by rw[m2,Int.natAbs_mul,Int.natAbs_natCast]
  rw[Int.natAbs_natCast]at this;rw[this];exact Nat.dvd_mul_right _ _
 have d3:y.num.natAbs∣b.num.natAbs:=by rw[n1,Int.natAbs_mul];exact Nat.dvd_mul_right _ _
 have d4:y.den∣a.den:=by
  have:(a.den:Int).natAbs=y.den*n.natAbs:=by rw[n2,Int.natAbs_mul,Int.natAbs_natCast]
  rw[Int.natAbs_natCast]at this;rw[this];exact Nat.dvd_mul_right _ _
 have k1:Nat.Coprime x.num.natAbs y.den:=(a.reduced.coprime_dvd_left d1).coprime_dvd_right d4;have k2:Nat.Coprime y.num.natAbs x.den:=(b.reduced.coprime_dvd_left d3).coprime_dvd_right d2;refine⟨?_,?_⟩
 ·unfold Int.gcd
  rw[Int.natAbs_mul,Int.natAbs_natCast];exact(hx.mul_right k1).mul_left (k2.mul_right hy)
 ·rw[←exy]
  conv=>rhs;rw[←Rat.num_divInt_den x,←Rat.num_divInt_den y]
  rw[Rat.divInt_mul_divInt]
  push_cast;rfl
theorem Aq (a b:Rat)(ha:qb a≤rm)(hb:qb b≤rm):Fn Tryz.prog 34 [qA a,qA b] (qA (a*b)):=by
 unfold rm at ha hb;have a1:=Jz a;have a2:=JG a;have b1:=Jz b;have b2:=JG b;obtain⟨R,hR⟩:∃R,R=qA (a*b):=⟨_,rfl⟩
 have sR:Settled R:=hR▸Xa _;have la:=IE a;have lb:=IE b;have na:=Ef a;have nb:=Ef b;have z0:a=0∨b=0→R=.agg [.bool false,X8 [],.bool false,X8 []]:=by
  intro h;rw[hR,←Pb];rcases h with rfl |rfl
  ·rw[Rat.zero_mul]
  ·rw[Rat.mul_zero]
 rw[←hR];by_cases ha0:a=0
 ·have g1:(a=0)=True:=eq_true ha0
  refine Fq Tryz.call34 Tryz.func34 7 [] [5,60000002,60000003] [] (by simp[Kc,Xa,Xh]) (Xk ?_);simp(maxSteps:=999999)only[AS.start,↓X4,wA,seval,zA,qA,qC,wN];simp only[la,lb,na,nb,g1,↓X4,wA,seval,zA,qA,qC,wN];exact Q7 rfl XR rfl rfl rfl (z0 (.inl ha0)) sR ⟨Weak.rfl' _,Qu _ _,Weak.rfl' _,Qu _ _,trivial⟩
 have g1:(a=0)=False:=eq_false ha0;by_cases hb0:b=0
 ·have g2:(b=0)=True:=eq_true hb0
  refine Fq Tryz.call34 Tryz.func34 7 [] [5,60000002,60000003] [] (by simp[Kc,Xa,Xh]) (Xk ?_);simp(maxSteps:=999999)only[AS.start,↓X4,wA,seval,zA,qA,qC,wN];simp only[la,lb,na,nb,g1,g2,↓X4,wA,seval,zA,qA,qC,wN];exact Q7 rfl XR rfl rfl rfl (z0 (.inr hb0)) sR ⟨Weak.rfl' _,Qu _ _,Weak.rfl' _,Qu _ _,trivial⟩
 have g2:(b=0)=False:=eq_false hb0;by_cases hi:a.den=1∧b.den=1
 ·have f1:(a.den=1)=True:=eq_true hi.1
  have f2:(b.den=1)=True:=eq_true hi.2;obtain⟨e1,e2⟩:=nZ hi.1 hi.2;have hR':=hR.trans (M9 e2);rw[e1]at hR';refine Fq Tryz.call34 Tryz.func34 7 [] [5,60000002,60000003] [] (by simp[Kc,Xa,Xh]) (Xk ?_);simp(maxSteps:=999999)only[AS.start,↓X4,wA,seval,zA,qA,qC,wN];simp only[la,lb,na,nb,g1,g2,f1,f2,↓X4,wA,seval,zA,qA,qC,wN];refine X1 (Ee a.num b.num (by unfold room;omega) (by unfold room;omega)) rfl ?_;simp only[↓X4,wA,seval,zA,qA,qC,wN];exact Q7 rfl XR rfl rfl rfl hR' sR ⟨Weak.rfl' _,Weak.rfl' _,Weak.rfl' _,Qu _ _,trivial⟩
 obtain⟨e1,e2⟩:=o8 a b;have q1:=KK a.num b.den 100000000 (by omega) (by omega) (by omega);have q2:=KK b.num a.den 100000000 (by omega) (by omega) (by omega);have cA:=De a;have cB:=De b;have c1:=Ix a.num b.den (by omega) (by omega);have c2:=Ix b.num a.den (by omega) (by omega);obtain⟨x,ex⟩:∃x,x=Rat.divInt a.num b.den:=⟨_,rfl⟩
 obtain⟨y,ey⟩:∃y,y=Rat.divInt b.num a.den:=⟨_,rfl⟩
 rw[←ex]at c1 q1 e1 e2;rw[←ey]at c2 q2 e1 e2;have x1:=Jz x;have x2:=JG x;have y1:=Jz y;have y2:=JG y;have c3:=Ee x.num y.num (by unfold room;omega) (by unfold room;omega);have c4:=Ee x.den y.den (by unfold room;omega) (by unfold room;omega);have hnn:(x.den:Int)*y.den≠0:=Int.mul_ne_zero (by have:=x.den_nz;omega) (by have:=y.den_nz;omega)
 push_cast at e1 e2
 have c5:=EO (x.num*y.num) (x.den*y.den) hnn e1;rw[e2,←hR]at c5;have cX:=De x;have cY:=De y;by_cases f:a.den=1
 ·have f1:(a.den=1)=True:=eq_true f
  have f2:(b.den=1)=False:=eq_false fun e=>hi ⟨f,e⟩
  refine Fq Tryz.call34 Tryz.func34 7 [] [5,60000002,60000003] [] (by simp[Kc,Xa,Xh]) (Xk ?_);simp(maxSteps:=999999)only[AS.start,↓X4,wA,seval,zA,qA,qC,wN];simp only[la,lb,na,nb,f1,f2,g1,g2,↓X4,wA,seval,zA,qA,qC,wN];refine X1 cB rfl ?_;simp only[↓X4,wA,seval,zA,qA,qC,wN];refine X1 c1 rfl ?_;simp only[↓X4,wA,seval,zA,qA,qC,wN];refine X1 cA rfl ?_;simp only[↓X4,wA,seval,zA,qA,qC,wN];refine X1 c2 rfl ?_;simp only[↓X4,wA,seval,zA,qA,qC,wN];refine X1 c3 rfl ?_;simp only[↓X4,wA,seval,zA,qA,qC,wN];refine X1 cX rfl ?_;simp only[↓X4,wA,seval,zA,qA,qC,wN];refine X1 cY rfl ?_;simp only[↓X4,wA,seval,zA,qA,qC,wN];refine X1 c4 rfl ?_;simp only[↓X4,wA,seval,zA,qA,qC,wN];refine X1 c5 rfl ?_;simp only[hR,↓X4,wA,seval,zA,qA,qC,wN];exact J2 rfl XR rfl rfl rfl sR (hR.trans rfl)
 ·have f1:(a.den=1)=False:=eq_false f
  have f2:True=True:=rfl;refine Fq Tryz.call34 Tryz.func34 7 [] [5,60000002,60000003] [] (by simp[Kc,Xa,Xh]) (Xk ?_);simp(maxSteps:=999999)only[AS.start,↓X4,wA,seval,zA,qA,qC,wN];simp only[la,lb,na,nb,f1,f2,g1,g2,↓X4,wA,seval,zA,qA,qC,wN];refine X1 cB rfl ?_;simp only[↓X4,wA,seval,zA,qA,qC,wN];refine X1 c1 rfl ?_;simp only[↓X4,wA,seval,zA,qA,qC,wN];refine X1 cA rfl ?_;simp only[↓X4,wA,seval,zA,qA,qC,wN];refine X1 c2 rfl ?_;simp only[↓X4,wA,seval,zA,qA,qC,wN];refine X1 c3 rfl ?_;simp only[↓X4,wA,seval,zA,qA,qC,wN];refine X1 cX rfl ?_;simp only[↓X4,wA,seval,zA,qA,qC,wN];refine X1 cY rfl ?_;simp only[↓X4,wA,seval,zA,qA,qC,wN];refine X1 c4 rfl ?_;simp only[↓X4,wA,seval,zA,qA,qC,wN];refine X1 c5 rfl ?_;simp only[hR,↓X4,wA,seval,zA,qA,qC,wN];exact J2 rfl XR rfl rfl rfl sR (hR.trans rfl)
theorem EX (a b:Rat)(ha:qb a≤rm)(hb:qb b≤rm):Fn Tryz.prog 147 [qA a,qA b] (qA (a-b)):=by
 obtain⟨R,hR⟩:∃R,R=qA (a-b):=⟨_,rfl⟩
 have sR:Settled R:=hR▸Xa _;have c:=Bt a (-b) ha (by rw[Dp];exact hb);rw[←Rat.sub_eq_add_neg,←hR]at c;rw[←hR];refine Fq Tryz.call147 Tryz.func147 5 [] [] [] (by simp[Kc,Xa,Xh]) (Xk ?_);simp(maxSteps:=999999)only[AS.start,↓X4,wA,seval,zA,qA,qC,wN];refine X1 (KA b) rfl ?_;simp only[↓X4,wA,seval,zA,qA,qC,wN];refine X1 c rfl ?_;simp only[hR,↓X4,wA,seval,zA,qA,qC,wN];exact J2 rfl XR rfl rfl rfl sR (hR.trans rfl)
def Bs (a b:Rat):Int:=(a.num*b.den-b.num*a.den).sign
theorem SH (n:Int)(d:Nat)(h:d≠0):(n*d).sign=n.sign:=by
 rw[Int.sign_mul,Int.sign_eq_one_of_pos (show(0:Int)<d by omega),Int.mul_one]
theorem UG (a b:Rat)(h:a.num.sign≠b.num.sign∨a.num.sign=0):(a.num.sign-b.num.sign).sign=Bs a b:=by
 unfold Bs;have h1:=SH a.num b.den b.den_nz;have h2:=SH b.num a.den a.den_nz;generalize a.num*(b.den:Int)=x at *;generalize b.num*(a.den:Int)=y at *;rw[←h1,←h2]at h ⊢;rcases Int.lt_trichotomy x 0 with hx |hx |hx <;> rcases Int.lt_trichotomy y 0 with hy |hy |hy
 all_goals
  first
   |rw[Int.sign_eq_neg_one_of_neg hx]at h ⊢
   |rw[Int.sign_eq_one_of_pos hx]at h ⊢
   |subst hx
  first
   |rw[Int.sign_eq_neg_one_of_neg hy]at h ⊢
   |rw[Int.sign_eq_one_of_pos hy]at h ⊢
   |subst hy
 all_goals first
  | (exfalso;revert h;decide)
  |rfl
  | (symm;exact Int.sign_eq_neg_one_of_neg (by omega))
  | (symm;exact Int.sign_eq_one_of_pos (by omega))
theorem Dr (a b:Rat):Bs a b<0↔a<b:=by unfold Bs;rw[Int.sign_neg_iff,Rat.lt_iff];omega
theorem AZ (a b:Rat):0<Bs a b↔b<a:=by unfold Bs;rw[Int.sign_pos_iff,Rat.lt_iff];omega
theorem Zj (a b:Rat):Bs a b≤0↔a≤b:=by rw[←Rat.not_lt,←AZ];omega
theorem Pc (a b:Rat):0≤Bs a b↔b≤a:=by rw[←Rat.not_lt,←Dr];omega
theorem QR (a b:Rat)(ha:qb a≤rm)(hb:qb b≤rm):Fn Tryz.prog 41 [qA a,qA b] (I (Bs a b)):=by
 unfold rm at ha hb;have a1:=Jz a;have a2:=JG a;have b1:=Jz b;have b2:=JG b;have m1:=JE a.num b.den;have m2:=JE b.num a.den;have i64:∀n:Int,BS n.sign:=fun n=>by
  rcases Int.lt_trichotomy n 0 with h |h |h
  ·rw[Int.sign_eq_neg_one_of_neg h];exact⟨by omega,by omega⟩
  ·rw[h];exact⟨by decide,by decide⟩
  ·rw[Int.sign_eq_one_of_pos h];exact⟨by omega,by omega⟩
 have bs:∀n:Int,bl n.sign<1000000000:=fun n=>by have:=Zt (i64 n);omega
 obtain⟨V,hV⟩:∃V,V=Bs a b:=⟨_,rfl⟩
 rw[←hV];by_cases h:a.num.sign≠b.num.sign∨a.num.sign=0
 ·have c0:=HY a.num.sign b.num.sign (bs _) (bs _)
  rw[UG a b h,←hV]at c0;by_cases h1:a.num.sign=b.num.sign
  ·have f1:(a.num.sign=b.num.sign)=True:=eq_true h1
   have f2:(a.num.sign=0)=True:=eq_true (h.resolve_left fun e=>e h1);have f2':(b.num.sign=0)=True:=eq_true (h1▸of_eq_true f2);refine Fq Tryz.call41 Tryz.func41 7 [] [] [] (by simp[Kc,Xa,Xh]) (Xk ?_);simp(maxSteps:=999999)only[AS.start,↓X4,wA,seval,zA,qA,qC,wN];refine X1 (Qe a) rfl ?_;simp only[↓X4,wA,seval,zA,qA,qC,wN];refine X1 (Qe b) rfl ?_;simp only[f1,f2,f2',↓X4,wA,seval,zA,qA,qC,wN];refine X1 (FJ _ (i64 a.num)) rfl ?_;simp only[↓X4,wA,seval,zA,qA,qC,wN];refine X1 (FJ _ (i64 b.num)) rfl ?_;simp only[↓X4,wA,seval,zA,qA,qC,wN];refine X1 c0 rfl ?_;simp only[↓X4,wA,seval,zA,qA,qC,wN];exact Xo rfl rfl (Xb _) rfl
  ·have f1:(a.num.sign=b.num.sign)=False:=eq_false h1
   refine Fq Tryz.call41 Tryz.func41 7 [] [] [] (by simp[Kc,Xa,Xh]) (Xk ?_);simp(maxSteps:=999999)only[AS.start,↓X4,wA,seval,zA,qA,qC,wN];refine X1 (Qe a) rfl ?_;simp only[↓X4,wA,seval,zA,qA,qC,wN];refine X1 (Qe b) rfl ?_;simp only[f1,↓X4,wA,seval,zA,qA,qC,wN];refine X1 (FJ _ (i64 a.num)) rfl ?_;simp only[↓X4,wA,seval,zA,qA,qC,wN];refine X1 (FJ _ (i64 b.num)) rfl ?_;simp only[↓X4,wA,seval,zA,qA,qC,wN];refine X1 c0 rfl ?_;simp only[↓X4,wA,seval,zA,qA,qC,wN];exact Xo rfl rfl (Xb _) rfl
 ·have h1:a.num.sign=b.num.sign:=Classical.byContradiction fun e=>h (.inl e)
  have h2:¬a.num.sign=0:=fun e=>h (.inr e)
  have f1:(a.num.sign=b.num.sign)=True:=eq_true h1;have f2:(a.num.sign=0)=False:=eq_false h2;have c0:=HY (a.num*b.den) (b.num*a.den) (by omega) (by omega);rw[show(a.num*b.den-b.num*a.den).sign=V from hV.symm]at c0;refine Fq Tryz.call41 Tryz.func41 7 [] [] [] (by simp[Kc,Xa,Xh]) (Xk ?_);simp(maxSteps:=999999)only[AS.start,↓X4,wA,seval,zA,qA,qC,wN];refine X1 (Qe a) rfl ?_;simp only[↓X4,wA,seval,zA,qA,qC,wN];refine X1 (Qe b) rfl ?_;simp only[f1,f2,↓X4,wA,seval,zA,qA,qC,wN];refine X1 (De b) rfl ?_;simp only[↓X4,wA,seval,zA,qA,qC,wN];refine X1 (Ee a.num b.den (by unfold room;omega) (by unfold room;omega)) rfl ?_;simp only[↓X4,wA,seval,zA,qA,qC,wN];refine X1 (De a) rfl ?_;simp only[↓X4,wA,seval,zA,qA,qC,wN];refine X1 (Ee b.num a.den (by unfold room;omega) (by unfold room;omega)) rfl ?_;simp only[↓X4,wA,seval,zA,qA,qC,wN];refine X1 c0 rfl ?_;simp only[↓X4,wA,seval,zA,qA,qC,wN];exact Xo rfl rfl (Xb _) rfl
theorem YM (a b:List Int)(la:a.length<4611686018427387904)(lb:b.length<4611686018427387904):Fn Tryz.prog 108 [X8 a,X8 b] (.bool (decide (a=b))):=by
 obtain⟨V,hV⟩:∃V,V=decide (a=b):=⟨_,rfl⟩
 rw[←hV];refine Fq Tryz.call108 Tryz.func108 6 [11,12,13] [] [] (by simp[Xc]) (Xk ?_);by_cases hl:a.length=b.length
 ·have f1:((a.length:Int)=b.length)=True:=eq_true (by omega)
  have f1':(a.length=b.length)=True:=eq_true hl;simp only[AS.start,f1,f1',↓X4,wA,seval,zA,qA,qC,wN];refine Xj (fun j:Nat=>⟨6,[11,12,13],[X8 a,X8 b,.any,.any,.any,.any],[(11,X8 a),(12,I a.length),(13,I j)],[]⟩) (fun j=>j≤a.length∧∀i,i<j→a.getD i 0=b.getD i 0) (fun j=>a.length-j) 0 ⟨by omega,by omega⟩
   (Xi rfl (by simp[Xm,X8,Qs,I,hl]) (by simp[Xw,XA,X8,Qs,I,hl]) rfl) ?_
  rintro j ⟨hj,hno⟩ next
  have w1:=wj j (by omega);by_cases hj2:j<a.length
  ·have f2:((j:Int)<a.length)=True:=eq_true (by omega)
   have f3:(j<a.length)=True:=eq_true hj2;have f4:(j<b.length)=True:=eq_true (by omega);refine Xk ?_;simp only[w1,f2,f3,f4,↓X4,wA,seval,zA,qA,qC,wN];refine⟨fun h=>Xo (v:=.bool false) rfl rfl (X5 _) ?_,fun h=>next (j+1) _ ⟨by omega,fun i hi=>?_⟩ (by omega) (Xi rfl (by simp[Xm,X8,Qs,I]) (by simp[Xw,XA,X8,Qs,I]) rfl)⟩
   ·rw[hV,decide_eq_false fun e=>h (by rw[e])]
   ·by_cases e:i=j
    ·rw[e];exact h
    ·exact hno i (by omega)
  ·have f2:((j:Int)<a.length)=False:=eq_false (by omega)
   have f3:(j<a.length)=False:=eq_false hj2;refine Xk ?_;simp only[w1,f2,f3,↓X4,wA,seval,zA,qA,qC,wN];refine Xo (v:=.bool true) rfl rfl (X5 _) ?_;rw[hV,decide_eq_true];refine List.ext_getElem hl fun i h1 h2=>?_
   have:=hno i (by omega);rw[List.getD_eq_getElem?_getD,List.getElem?_eq_getElem h1,List.getD_eq_getElem?_getD,List.getElem?_eq_getElem h2]at this;exact this
 ·have f1:((a.length:Int)=b.length)=False:=eq_false (by omega)
  have f1':(a.length=b.length)=False:=eq_false hl;simp only[AS.start,f1,f1',↓X4,wA,seval,zA,qA,qC,wN];refine Xo (v:=.bool false) rfl rfl (X5 _) ?_;rw[hV,decide_eq_false fun e=>hl (by rw[e])]
structure RQ where
 pn:Bool
 pd:List Int
 qn:Bool
 qd:List Int
def RQ.L (x:RQ):List AV:=[.bool x.pn,X8 x.pd,.bool x.qn,X8 x.qd]
def RQ.A (x:RQ):AV:=.agg x.L
theorem C6 (x:RQ):Settled x.A:=Qr (by simp[RQ.L,Xc,X5])
def RQ.of (r:Rat):RQ:=⟨decide (r.num<0),X9 r.num.natAbs,false,X9 (Ab.N.qd r)⟩
def RQ.sz (x:RQ):Nat:=max x.pd.length x.qd.length
theorem RQ.of_sz (r:Rat):(RQ.of r).sz≤qb r:=by
 unfold RQ.sz RQ.of qb;simp only;have h1:bl r.num=(X9 r.num.natAbs).length:=rfl;have h2:(X9 (Ab.N.qd r)).length≤bl r.den:=by
  unfold Ab.N.qd;by_cases h:r.den=1
  ·rw[if_pos h,Qj];simp
  ·rw[if_neg h,K2];exact Nat.le_refl _
 omega
theorem G9 {m n:Nat}(h:X9 m=X9 n):m=n:=by
 have h1:=Xx m;rw[h,Xx]at h1;omega
theorem RQ.of_inj {a b:Rat}(h:RQ.of a=RQ.of b):a=b:=by
 unfold RQ.of at h
 injection h with h1 h2 h3 h4
 have h2:=G9 h2;have h4:=G9 h4;refine Rat.ext ?_ ?_
 ·have:(a.num<0)↔(b.num<0):=decide_eq_decide.1 h1
  omega
 ·unfold Ab.N.qd at h4
  have:=a.den_nz;have:=b.den_nz
  split at h4 <;> split at h4 <;> omega
theorem Sv (n1 n2:Bool)(d1 d2:List Int)(l1:d1.length<4611686018427387904)(l2:d2.length<4611686018427387904):Fn Tryz.prog 107 [zR n1 d1,zR n2 d2] (.bool (decide (n1=n2) && decide (d1=d2))):=by
 have c:=YM d1 d2 l1 l2;obtain⟨V,hV⟩:∃V,V=(decide (n1=n2) && decide (d1=d2)):=⟨_,rfl⟩
 rw[←hV];refine Fq Tryz.call107 Tryz.func107 5 [] [] [] (by simp[Xh]) (Xk ?_);simp only[AS.start,zR,↓X4,wA,seval,zA,qA,qC,wN];refine Qg (fun h=>?_) (fun h=>Xo (v:=.bool false) rfl rfl (X5 _) ?_)
 ·refine X1 c rfl ?_
  simp only[↓X4,wA,seval,zA,qA,qC,wN];refine Xo (v:=.bool (decide (d1=d2))) rfl rfl (X5 _) ?_;rw[hV,decide_eq_true (show n1=n2 by simpa using h),Bool.true_and]
 ·rw[hV,decide_eq_false (show ¬n1=n2 by simpa using h),Bool.false_and]
theorem RQ.eq_iff (x y:RQ):x=y↔(x.pn=y.pn∧x.pd=y.pd)∧x.qn=y.qn∧x.qd=y.qd:=by
 cases x;cases y;simp[and_assoc]
theorem jL (x y:RQ)(hx:x.sz<4611686018427387904)(hy:y.sz<4611686018427387904):Fn Tryz.prog 39 [x.A,y.A] (.bool (decide (x=y))):=by
 have c1:=Sv x.pn y.pn x.pd y.pd (by unfold RQ.sz at hx;omega) (by unfold RQ.sz at hy;omega);have c2:=Sv x.qn y.qn x.qd y.qd (by unfold RQ.sz at hx;omega) (by unfold RQ.sz at hy;omega);obtain⟨V,hV⟩:∃V,V=decide (x=y):=⟨_,rfl⟩
 rw[←hV];have e:=RQ.eq_iff x y;obtain⟨B1,hB1⟩:∃B,B=(decide (x.pn=y.pn) && decide (x.pd=y.pd)):=⟨_,rfl⟩
 obtain⟨B2,hB2⟩:∃B,B=(decide (x.qn=y.qn) && decide (x.qd=y.qd)):=⟨_,rfl⟩
 rw[←hB1]at c1;rw[←hB2]at c2;have hVB:V=(B1 && B2):=by
  rw[hV,hB1,hB2];simp only[e,Bool.decide_and]
 refine Fq Tryz.call39 Tryz.func39 6 [] [] [] (by simp[C6]) (Xk ?_);simp only[AS.start,RQ.A,RQ.L,↓X4,wA,seval,zA,qA,qC,wN];refine X1 c1 rfl ?_;cases B1
 ·simp only[↓X4,wA,seval,zA,qA,qC,wN]
  exact Xo (v:=.bool false) rfl rfl (X5 _) (by rw[hVB];rfl)
 ·simp only[↓X4,wA,seval,zA,qA,qC,wN]
  refine X1 c2 rfl ?_;simp only[↓X4,wA,seval,zA,qA,qC,wN];exact Xo (v:=.bool B2) rfl rfl (X5 _) (by rw[hVB];rfl)
def RQ.ok (x:RQ):Prop:=∃r:Rat,x=RQ.of r
theorem RQ.ok_iff (x:RQ)(p q:Int)(hp:x.pn=decide (p<0)) (hpd:x.pd=X9 p.natAbs) (hq:x.qn=decide (q<0)) (hqd:x.qd=X9 q.natAbs):x.ok↔¬q<0∧¬q=1∧(q=0∨Int.gcd p q=1):=by
 constructor
 ·rintro⟨r,rfl⟩
  unfold RQ.of at hp hpd hq hqd;simp only at hp hpd hq hqd;have h1:r.num.natAbs=p.natAbs:=G9 hpd;have h2:=G9 hqd;have h3:r.num<0↔p<0:=decide_eq_decide.1 hp;have hpr:p=r.num:=by omega
  have hq0:¬q<0:=by simpa using hq.symm
  have hd:=r.den_nz;unfold Ab.N.qd at h2;by_cases h:r.den=1
  ·rw[if_pos h]at h2
   exact⟨hq0,by omega,.inl (by omega)⟩
  ·rw[if_neg h]at h2
   refine⟨hq0,by omega,.inr ?_⟩;have:q=(r.den:Int):=by omega
   rw[hpr,this];exact r.reduced
 ·rintro⟨h1,h2,h3⟩
  by_cases h0:q=0
  ·refine⟨(p:Rat),?_⟩
   cases x;unfold RQ.of Ab.N.qd;simp only at hp hpd hq hqd;rw[hp,hpd,hq,hqd,h0];simp;exact decide_eq_decide.2 Iff.rfl
  ·have hg:=h3.resolve_left h0
   have hn:Nat.Coprime p.natAbs q.natAbs:=hg;refine⟨⟨p,q.natAbs,by omega,hn⟩,?_⟩;cases x;unfold RQ.of Ab.N.qd;simp only at hp hpd hq hqd ⊢;rw[if_neg (by omega),hp,hpd,hq,hqd,decide_eq_false h1]
theorem O5 (x:RQ)(hx:x.sz<1000000000):Fn Tryz.prog 141 [x.A] (.bool (decide x.ok)):=by
 unfold RQ.sz at hx;obtain⟨V,hV⟩:∃V,V=decide x.ok:=⟨_,rfl⟩
 have c1:=NB x.pn x.pd (by omega);have c2:=NB x.qn x.qd (by omega);have c3:=WH x.qn x.qd;have bad1:Kn x.pn x.pd=false→V=false:=fun h=>by
  rw[hV];refine decide_eq_false ?_;rintro⟨r,rfl⟩;have:Kn (RQ.of r).pn (RQ.of r).pd=true:=(Za _ _).2 ⟨r.num,rfl,rfl⟩;rw[this]at h;cases h
 have bad2:Kn x.qn x.qd=false→V=false:=fun h=>by
  rw[hV];refine decide_eq_false ?_;rintro⟨r,rfl⟩;have:Kn (RQ.of r).qn (RQ.of r).qd=true:=(Za _ _).2 ⟨(Ab.N.qd r:Int),by unfold RQ.of;simp,by unfold RQ.of;simp⟩;rw[this]at h;cases h
 have fin:∀ {s:AS} {v:Bool},s.get 2=.bool v→v=V→RetOk (Ju Tryz.prog Tryz.f141 [] [] (.bool V)) s:=fun h e=>Xo rfl h (X5 _) (by rw[e])
 rw[←hV];refine Fq Tryz.call141 Tryz.func141 3 [] [] [] (by simp[C6]) (Xk ?_);simp only[AS.start,RQ.A,RQ.L,↓X4,wA,seval,zA,qA,qC,wN];refine X1 c1 rfl ?_;by_cases v1:Kn x.pn x.pd=true
 rotate_left
 ·rw[Bool.not_eq_true]at v1
  rw[v1];simp only[↓X4,wA,seval,zA,qA,qC,wN];exact fin rfl (bad1 v1).symm
 rw[v1];simp only[↓X4,wA,seval,zA,qA,qC,wN];refine X1 c2 rfl ?_;by_cases v2:Kn x.qn x.qd=true
 rotate_left
 ·rw[Bool.not_eq_true]at v2
  rw[v2];simp only[↓X4,wA,seval,zA,qA,qC,wN];exact fin rfl (bad2 v2).symm
 rw[v2];obtain⟨p,p1,p2⟩:=(Za _ _).1 v1;obtain⟨q,q1,q2⟩:=(Za _ _).1 v2;have hok:=RQ.ok_iff x p q p1 p2 q1 q2;have lp:bl p<1000000000:=by unfold bl;rw[←p2];omega
 have lq:bl q<1000000000:=by unfold bl;rw[←q2];omega
 rw[q1,q2,Pn]at c3;have cg:=ic p q lp lq;have cu:=GV (Int.gcd p q);rw[p1,p2,q1,q2];have hl:((X9 q.natAbs).length=0)=(q=0):=propext (digs_len_zero.trans (by omega));have hlN:(X9 q.natAbs).length=0↔q=0:=digs_len_zero.trans (by omega);have hlI:(((X9 q.natAbs).length:Int)=0)=(q=0):=propext (by omega);by_cases h1:q<0
 ·have f1:(q<0)=True:=eq_true h1
  simp only[f1,↓X4,wA,seval,zA,qA,qC,wN];exact fin rfl (by rw[hV,decide_eq_false (by rw[hok];exact fun h=>h.1 h1)])
 have f1:(q<0)=False:=eq_false h1;simp only[f1,↓X4,wA,seval,zA,qA,qC,wN];have c3':=c3;rw[decide_eq_false h1]at c3';refine X1 c3' rfl ?_;by_cases h2:q=1
 ·have f2:(q=1)=True:=eq_true h2
  simp only[f1,f2,↓X4,wA,seval,zA,qA,qC,wN];exact fin rfl (by rw[hV,decide_eq_false (by rw[hok];exact fun h=>h.2.1 h2)])
 have f2:(q=1)=False:=eq_false h2;by_cases h0:q=0
 ·have f3:(q=0)=True:=eq_true h0
  simp only[f1,f2,f3,hl,hlI,↓X4,wA,seval,zA,qA,qC,wN];exact fin rfl (by rw[hV,decide_eq_true (hok.2 ⟨h1,h2,.inl h0⟩)])
 have f3:(q=0)=False:=eq_false h0;simp only[f1,f2,f3,hl,hlI,↓X4,wA,seval,zA,qA,qC,wN];rw[WK h1]at cg;refine X1 cg rfl ?_;simp only[↓X4,wA,seval,zA,qA,qC,wN];refine X1 cu rfl ?_;simp only[↓X4,wA,seval,zA,qA,qC,wN];refine fin rfl ?_;rw[hV,decide_eq_decide,hok];constructor
 ·intro h;exact⟨h1,h2,.inr (by omega)⟩
 ·rintro⟨_,_,h |h⟩
  ·exact absurd h h0
  ·rw[h];rfl
theorem aF (neg:Bool)(d:List Int)(hl:d.length<4611686018427387904):Fn Tryz.prog 156 [.bool neg,X8 d] (je neg d):=by
 refine Fq Tryz.call156 Tryz.func156 6 [] [] [] (by simp[Kc,Xa,Xh]) (Xk ?_);simp(maxSteps:=999999)only[AS.start,↓X4,wA,seval,zA,qA,qC,wN];refine Xj (fun n:Nat=>⟨6,[],[.bool neg,X8 d,.any,.any,.ref 0 0 0,I n],[],[.row 0 2 (Xf [.bool false,.sl 0 0 (fun _=>.any) true])]⟩) (fun n=>n≤d.length∧As d d.length=As d n) (fun n=>n) d.length ⟨by omega,rfl⟩
  (BA (by simp[zA,qA,qC,wN,Xm,X8,CP,Cf,Qs,I]) rfl) ?_
 rintro n ⟨hn,ht⟩ next
 cases n with
 |zero =>
  refine Xk ?_;simp only[Int.lt_irrefl,↓X4,wA,seval,zA,qA,qC,wN];refine GH (v:=.agg [.bool false,.sl 0 0 (fun _=>.any) false]) rfl (by simp[AS.get,Qm,XX,rd,Qw,Xf,Eh]) ?_;have e:je neg d=.agg [.bool false,X8 []]:=by unfold je;rw[ht];simp[As]
  rw[e];exact Eo ⟨Q1 (X5 _) rfl,XF (Xc _) (Qu _ _),trivial⟩
 |succ n =>
  have e0:(0<((n+1:Nat):Int))=True:=eq_true (by omega);have e1:(((n+1:Nat):Int)=0)=False:=eq_false (by omega);have w1:IntKind.i64.wrap (((n+1:Nat):Int)-1)=(n:Int):=by rw[IntKind.wrap_i64];omega
  have w2:((n:Int)<0)=False:=eq_false (by omega);have e2:(n<d.length)=True:=eq_true (by omega);refine Xk ?_;simp only[e0,e1,e2,w1,w2,↓X4,wA,seval,zA,qA,qC,wN];refine⟨fun h0=>next n _ ⟨by omega,by rw[ht];simp only[As];rw[if_pos h0]⟩ (by omega) (BA (by simp[zA,qA,qC,wN,Xm,X8,CP,Cf,Qs,I]) rfl),fun h0=>⟨by omega,?_⟩⟩;have ht2:As d d.length=n+1:=by rw[ht];simp only[As];rw[if_neg h0]
  have e:je neg d=.agg [.bool neg,X8 (d.take (n+1))]:=by unfold je;rw[ht2];simp
  have hlen:(d.take (n+1)).length=n+1:=by rw[List.length_take];omega
  rw[e];refine Q7 rfl XX rfl rfl rfl rfl (Qr (by simp[Xc,X5])) ⟨Weak.rfl' _,GZ _ ?_ ?_ fun j hj=>?_,trivial⟩
  ·rw[hlen];omega
  ·rw[hlen];omega
  ·rw[hlen]at hj
   rw[BF d 0 j (n+1) hj];rfl
theorem JS (neg:Bool)(L:List Int)(h:Jl L)(hl:L.length<4611686018427387904):Fn Tryz.prog 156 [.bool neg,X8 L] (zA (KC neg (val L))):=by
 rw[qt h];exact aF neg L hl
theorem E4 (d:List Int)(i:Nat):Fn Tryz.prog 219 [X8 d,I i] (I (dg d i)):=by
 by_cases h:i<d.length
 ·have f1:((i:Int)<d.length)=True:=eq_true (by omega)
  have f2:(i<d.length)=True:=eq_true h;refine Fq Tryz.call219 Tryz.func219 5 [] [] [] (by simp[Kc,Xa,Xh]) (Xk ?_);simp(maxSteps:=999999)only[AS.start,↓X4,wA,seval,zA,qA,qC,wN];simp only[f1,f2,↓X4,wA,seval,zA,qA,qC,wN];exact Xo rfl rfl (Xb _) rfl
 ·have f1:((i:Int)<d.length)=False:=eq_false (by omega)
  have f2:(i<d.length)=False:=eq_false h;refine Fq Tryz.call219 Tryz.func219 5 [] [] [] (by simp[Kc,Xa,Xh]) (Xk ?_);simp(maxSteps:=999999)only[AS.start,↓X4,wA,seval,zA,qA,qC,wN];simp only[f1,f2,↓X4,wA,seval,zA,qA,qC,wN];exact Xo rfl rfl (Xb _) (by rw[Hg (by omega)];rfl)
theorem B7 (a b:List Int)(ha:Ai a)(hb:Ai b)(la:a.length<4611686018427387904):Fn Tryz.prog 162 [X8 a,X8 b] (I (val a-val b).sign):=by
 obtain⟨V,hV⟩:∃V,V=(val a-val b).sign:=⟨_,rfl⟩
 rw[←hV];have fin:∀ {s:AS} {v:Int},s.get 4=I v→v=V→RetOk (Ju Tryz.prog Tryz.f162 [] [] (I V)) s:=fun h e=>Xo rfl h (Xb _) (by rw[e])
 rcases Nat.lt_trichotomy a.length b.length with h |h |h
 ·have:=E0 ha hb h
  have f1:((a.length:Int)<b.length)=True:=eq_true (by omega);have f2:(a.length<b.length)=True:=eq_true h;refine Fq Tryz.call162 Tryz.func162 6 [] [] [] (by simp[Kc,Xa,Xh]) (Xk ?_);simp(maxSteps:=999999)only[AS.start,↓X4,wA,seval,zA,qA,qC,wN];simp only[f1,f2,↓X4,wA,seval,zA,qA,qC,wN];exact fin rfl (by rw[hV,Int.sign_eq_neg_one_of_neg (by omega)])
 rotate_left
 ·have:=E0 hb ha h
  have f1:((a.length:Int)<b.length)=False:=eq_false (by omega);have f2:(a.length<b.length)=False:=eq_false (by omega);have f3:((b.length:Int)<a.length)=True:=eq_true (by omega);have f4:(b.length<a.length)=True:=eq_true h;refine Fq Tryz.call162 Tryz.func162 6 [] [] [] (by simp[Kc,Xa,Xh]) (Xk ?_);simp(maxSteps:=999999)only[AS.start,↓X4,wA,seval,zA,qA,qC,wN];simp only[f1,f2,f3,f4,↓X4,wA,seval,zA,qA,qC,wN];exact fin rfl (by rw[hV,Int.sign_eq_one_of_pos (by omega)])
 have f1:((a.length:Int)<b.length)=False:=eq_false (by omega);have f2:(a.length<b.length)=False:=eq_false (by omega);have f3:((b.length:Int)<a.length)=False:=eq_false (by omega);have f4:(b.length<a.length)=False:=eq_false (by omega);refine Fq Tryz.call162 Tryz.func162 6 [] [] [] (by simp[Kc,Xa,Xh]) (Xk ?_);simp(maxSteps:=999999)only[AS.start,↓X4,wA,seval,zA,qA,qC,wN];simp only[f1,f2,f3,f4,↓X4,wA,seval,zA,qA,qC,wN];refine Xj (fun k:Nat=>⟨6,[],[X8 a,X8 b,.any,.any,I 0,I ((k:Int)-1)],[],[]⟩) (fun k=>k≤a.length∧a.drop k=b.drop k) (fun k=>k) a.length ⟨by omega,by rw[List.drop_length,h,List.drop_length]⟩
  ?_ ?_
 ·have w0:IntKind.i64.wrap ((a.length:Int)-1)=(a.length:Int)-1:=by rw[IntKind.wrap_i64];omega
  rw[w0];exact(BA (by simp[zA,qA,qC,wN,Xm,X8,CP,Cf,Qs,I]) rfl)
 rintro k ⟨hk,he⟩ next
 cases k with
 |zero =>
  refine Xk ?_;have e1:((0:Int)≤0-1)=False:=eq_false (by omega);simp only[e1,↓X4,wA,seval,zA,qA,qC,wN];refine fin rfl ?_;rw[List.drop_zero,List.drop_zero]at he;rw[hV,he,Int.sub_self];rfl
 |succ k =>
  have e1:((k+1:Nat):Int)-1=(k:Int):=by omega
  have w1:IntKind.i64.wrap ((k:Int)-1)=(k:Int)-1:=by rw[IntKind.wrap_i64];omega
  have e3:(k<a.length)=True:=eq_true (by omega);have e4:(k<b.length)=True:=eq_true (by omega);have hcm:a.getD k 0≠b.getD k 0→(a.getD k 0-b.getD k 0).sign=V:=fun hne=>by
   rw[hV,fG ha.1 hb.1 h (by omega) he hne]
  refine Xk ?_;simp only[e1,w1,e3,e4,↓X4,wA,seval,zA,qA,qC,wN];refine⟨fun h1=>fin rfl ?_,fun h1=>⟨fun h2=>fin rfl ?_,fun h2=>next k _ ⟨by omega,Gc h (by omega) he (by omega)⟩ (by omega) (BA (by simp[zA,qA,qC,wN,Xm,X8,CP,Cf,Qs,I]) rfl)⟩⟩
  ·rw[←hcm (by omega),Int.sign_eq_neg_one_of_neg (by omega)]
  ·rw[←hcm (by omega),Int.sign_eq_one_of_pos (by omega)]
theorem DA (n:Int)(hn:BS n):Fn Tryz.prog 82 [I n] (zA n):=by
 unfold BS at hn;obtain⟨R,hR⟩:∃R,R=zA n:=⟨_,rfl⟩
 have sR:Settled R:=hR▸XM _;rw[←hR];obtain⟨neg,hneg⟩:∃neg,neg=decide (n<0):=⟨_,rfl⟩
 have en:n=KC neg n.natAbs:=by rw[hneg,GM]
 refine Fq Tryz.call82 Tryz.func82 6 [] [] [] (by simp[Kc,Xa,Xh]) (Xk ?_);simp(maxSteps:=999999)only[AS.start,↓X4,wA,seval,zA,qA,qC,wN];rw[←hneg];refine Xj (fun p:List Int×Nat=>⟨6,[],[I (KC neg p.2),.any,.ref 0 0 0,.osl 1 p.1.length 1 0 p.1.length,.bool neg,.any],[],[.row 0 2 (Xf [.bool false,.sl 0 0 (fun _=>.any) true]),.row p.1.length p.1.length (QL I 0 p.1)]⟩)
  (fun p=>Jl p.1∧val p.1+pw p.1.length*p.2=n.natAbs∧p.2≤n.natAbs∧p.1.length≤3) (fun p=>p.2) ([],n.natAbs) ⟨Cg,by simp[val,pw],Nat.le_refl _,by simp⟩ ?_ ?_
 ·refine(Kk 3 1 (QL I 0 []) rfl).trans (Xi rfl ?_ ?_ ?_)
  ·simp[AS.put,Xm,I,←en]
  ·simp[AS.put,Xw]
  ·simp[AS.put]
 rintro⟨l,M⟩ ⟨h1,h2,h3,h4⟩ next
 simp only at h1 h2 h3 h4;by_cases hM:M=0
 ·subst hM
  have f1:(KC neg 0=0)=True:=eq_true (by unfold KC;split <;> simp);have c:=JS neg l h1 (by omega);rw[show val l=(n.natAbs:Int)by simpa using h2,←en,←hR]at c;refine Run.sub ?_ (DH 1 3 rfl rfl (by simp));refine Xk ?_;simp only[f1,↓X4,wA,seval,zA,qA,qC,wN];refine X1 c rfl ?_;simp only[hR,↓X4,wA,seval,zA,qA,qC,wN];exact J2 rfl XX rfl rfl rfl sR (hR.trans rfl)
 ·have hl:l.length≤2:=by
   apply Classical.byContradiction;intro hh;have q1:=Cl (show 3≤l.length by omega);have q2:=Q2 h1;have q3:pw l.length*1≤pw l.length*M:=Int.mul_le_mul_of_nonneg_left (by omega) (by have:=Jn l.length;omega);have q4:(n.natAbs:Int)≤9223372036854775808:=by omega
   have q5:pw 3=1000000000000000000000000000:=by simp[pw]
   omega
  obtain⟨m,hm⟩:∃m,m=KC neg (M:Int):=⟨_,rfl⟩
  have hma:(neg=true∧m = -(M:Int))∨(neg=false∧m=(M:Int)):=by rw[hm];unfold KC;cases neg <;> simp
  rw[←hm];have f1:(m=0)=False:=eq_false (by omega);have hap:=OA l ((M%1000000000:Nat):Int);have e3:IntKind.i64.wrap (m.tdiv 1000000000)=KC neg ((M/1000000000:Nat):Int):=by
   unfold KC;rcases hma with⟨e,e2⟩ | ⟨e,e2⟩
   ·rw[e,e2,if_pos rfl,Int.neg_tdiv,Int.tdiv_eq_ediv_of_nonneg (by omega),IntKind.wrap_i64];omega
   ·rw[e,e2,if_neg (by simp),Int.tdiv_eq_ediv_of_nonneg (by omega),IntKind.wrap_i64];omega
  have inv:Jl (l ++ [((M%1000000000:Nat):Int)])∧val (l ++ [((M%1000000000:Nat):Int)])+pw (l ++ [((M%1000000000:Nat):Int)]).length*((M/1000000000:Nat):Int)=n.natAbs∧M/1000000000≤n.natAbs∧(l ++ [((M%1000000000:Nat):Int)]).length≤3:=by
   refine⟨Iu.2 ⟨h1,KW.2 ⟨⟨by omega,by omega⟩,Cg⟩⟩,?_,by omega,by simp;omega⟩;rw[Ez];simp only[List.length_append,List.length_cons,List.length_nil,Nat.zero_add,pw];have e:(M:Int)=((M%1000000000:Nat):Int)+1000000000*((M/1000000000:Nat):Int):=by omega
   have h2':=h2;rw[e]at h2';rw[Int.mul_add]at h2';have e2:1000000000*pw l.length*((M/1000000000:Nat):Int)=pw l.length*(1000000000*((M/1000000000:Nat):Int)):=by
    rw[Int.mul_comm 1000000000 (pw l.length),Int.mul_assoc]
   rw[e2];omega
  rcases hma with⟨e1,e2⟩ | ⟨e1,e2⟩
  ·have g1:IntKind.i64.wrap (0-m.tmod 1000000000)=((M%1000000000:Nat):Int):=by
    rw[e2,Int.neg_tmod,Int.tmod_eq_emod_of_nonneg (by omega),IntKind.wrap_i64];omega
   by_cases hz:m.tmod 1000000000<0
   ·have g2:(m.tmod 1000000000<0)=True:=eq_true hz
    refine Xk ?_;simp only[f1,g1,g2,e3,hap,Int.reduceEq,↓X4,wA,seval,zA,qA,qC,wN];exact⟨⟨by omega,by omega⟩,next (l ++ [((M%1000000000:Nat):Int)],M/1000000000) _ inv (by simp only;omega) (BA (by simp[Xm,I]) (by simp))⟩
   ·have g2:(((M%1000000000:Nat):Int)<0)=False:=eq_false (by omega)
    have g3:m.tmod 1000000000=((M%1000000000:Nat):Int):=by
     rw[e2,Int.neg_tmod,Int.tmod_eq_emod_of_nonneg (by omega)]at hz ⊢;omega
    refine Xk ?_;simp only[f1,g2,g3,e3,hap,Int.reduceEq,↓X4,wA,seval,zA,qA,qC,wN];exact⟨⟨by omega,by omega⟩,next (l ++ [((M%1000000000:Nat):Int)],M/1000000000) _ inv (by simp only;omega) (BA (by simp[Xm,I]) (by simp))⟩
  ·have g3:m.tmod 1000000000=((M%1000000000:Nat):Int):=by
    rw[e2,Int.tmod_eq_emod_of_nonneg (by omega)];omega
   have g2:(((M%1000000000:Nat):Int)<0)=False:=eq_false (by omega);refine Xk ?_;simp only[f1,g2,g3,e3,hap,Int.reduceEq,↓X4,wA,seval,zA,qA,qC,wN];exact⟨⟨by omega,by omega⟩,next (l ++ [((M%1000000000:Nat):Int)],M/1000000000) _ inv (by simp only;omega) (BA (by simp[Xm,I]) (by simp))⟩
theorem Vh (a b:Nat→Int)(i:Nat):0≤Qi a b i∧Qi a b i≤1:=by have:=DX a b i;omega
theorem jK (a b:List Int)(ha:Jl a)(hb:Jl b)(la:a.length<1000000000000)(lb:b.length<1000000000000) :
  ∃L,Jl L∧val L=val a+val b∧L.length≤max a.length b.length+1∧Fn Tryz.prog 161 [X8 a,X8 b] (X8 L):=by
 obtain⟨n,hn⟩:∃n,n=max a.length b.length:=⟨_,rfl⟩
 obtain⟨e,he⟩:∃e,e=if Qi (dg a) (dg b) n=0 then n else n+1:=⟨_,rfl⟩
 have hz:∀i,n≤i→dg a i=0∧dg b i=0:=fun i hi=>⟨Hg (by omega),Hg (by omega)⟩
 have hce:Qi (dg a) (dg b) e=0:=by
  rw[he]
  split
  ·assumption
  ·have h1:=Vh (dg a) (dg b) n
   obtain⟨z1,z2⟩:=hz n (Nat.le_refl _);simp only[Qi,z1,z2];rw[if_neg (by omega)]
 have hne:n≤e∧e≤n+1:=by rw[he];split <;> omega
 refine⟨B5 (Ay (dg a) (dg b)) e,Df fun i _=>PD (Qc ha i) (Qc hb i),?_,by rw[Qd];omega,?_⟩
 ·have:=Ot (dg a) (dg b) e
  rw[hce,Int.mul_zero,Int.add_zero]at this;rw[GY,this,Eu a e (by omega),Eu b e (by omega)]
 obtain⟨R,hR⟩:∃R,R=X8 (B5 (Ay (dg a) (dg b)) e):=⟨_,rfl⟩
 have sR:Settled R:=hR▸Xc _;rw[←hR];refine Fq Tryz.call161 Tryz.func161 9 [] [] [] (by simp[Kc,Xa,Xh]) (Xk ?_);simp(maxSteps:=999999)only[AS.start,↓X4,wA,seval,zA,qA,qC,wN];refine Xj (fun i:Nat=>⟨9,[],[X8 a,X8 b,.any,.any,.any,.osl 0 i 1 0 i,I (Qi (dg a) (dg b) i),I i,.any],[],[.row i i (QL I 0 (B5 (Ay (dg a) (dg b)) i))]⟩)
  (fun i=>i≤e) (fun i=>e-i) 0 (by omega) ((Kk 5 1 (QL I 0 []) rfl).trans (Xi rfl (by simp[AS.put,Xm,X8,Qs,I,Qi]) (by simp[AS.put,Xw]) (by simp[AS.put,B5]))) ?_
 intro i hi next
 have cb:=Vh (dg a) (dg b) i;have w1:=wj i (by omega);by_cases hgo:i<e
 ·have da:=Qc ha i
  have db:=Qc hb i;unfold Q5 at da db;have k1:IntKind.i64.wrap (dg a i+dg b i)=dg a i+dg b i:=by rw[IntKind.wrap_i64];omega
  have k2:IntKind.i64.wrap (dg a i+dg b i+Qi (dg a) (dg b) i)=dg a i+dg b i+Qi (dg a) (dg b) i:=by rw[IntKind.wrap_i64];omega
  have k3:(dg a i+dg b i+Qi (dg a) (dg b) i).tmod 1000000000=Ay (dg a) (dg b) i:=by
   rw[Int.tmod_eq_emod_of_nonneg (by omega)];unfold Ay;split <;> omega
  have k4:IntKind.i64.wrap ((dg a i+dg b i+Qi (dg a) (dg b) i).tdiv 1000000000)=Qi (dg a) (dg b) (i+1):=by
   rw[Int.tdiv_eq_ediv_of_nonneg (by omega),IntKind.wrap_i64];simp only[Qi];split <;> omega
  have hap:=OA (B5 (Ay (dg a) (dg b)) i) (Ay (dg a) (dg b) i);rw[Qd,←Ew]at hap;have ca:=E4 a i;have cb':=E4 b i;have hcar:n≤i→0<Qi (dg a) (dg b) i:=fun h=>by
   have:i=n:=by omega
   subst this;have:Qi (dg a) (dg b) i≠0:=fun h0=>by rw[if_pos h0]at he;omega
   omega
  have fin:∀s':AS,Sub 0 s' ⟨9,[],[X8 a,X8 b,.any,.any,.any,.osl 0 (i+1) 1 0 (i+1),I (Qi (dg a) (dg b) (i+1)),I ((i+1:Nat):Int),.any],[],[.row (i+1) (i+1) (QL I 0 (B5 (Ay (dg a) (dg b)) (i+1)))]⟩→Run _ _ s':=fun s' h=>next (i+1) s' (by omega) (by omega) h
  by_cases h1:i<a.length
  ·have f1:((i:Int)<a.length)=True:=eq_true (by omega)
   have f1':(i<a.length)=True:=eq_true h1;refine Xk ?_;simp only[f1,f1',w1,↓X4,wA,seval,zA,qA,qC,wN];refine X1 ca rfl ?_;simp only[f1,f1',w1,↓X4,wA,seval,zA,qA,qC,wN];refine X1 cb' rfl ?_;simp only[f1,f1',k1,k2,k3,k4,hap,w1,Int.reduceEq,↓X4,wA,seval,zA,qA,qC,wN];exact⟨⟨by omega,by omega⟩,fin _ (BA (by simp[Xm,X8,Qs,I]) rfl)⟩
  have f1:((i:Int)<a.length)=False:=eq_false (by omega);have f1':(i<a.length)=False:=eq_false h1;by_cases h2:i<b.length
  ·have f2:((i:Int)<b.length)=True:=eq_true (by omega)
   have f2':(i<b.length)=True:=eq_true h2;refine Xk ?_;simp only[f1,f1',f2,f2',w1,↓X4,wA,seval,zA,qA,qC,wN];refine X1 ca rfl ?_;simp only[f1,f1',f2,f2',w1,↓X4,wA,seval,zA,qA,qC,wN];refine X1 cb' rfl ?_;simp only[f1,f1',f2,f2',k1,k2,k3,k4,hap,w1,Int.reduceEq,↓X4,wA,seval,zA,qA,qC,wN];exact⟨⟨by omega,by omega⟩,fin _ (BA (by simp[Xm,X8,Qs,I]) rfl)⟩
  ·have f2:((i:Int)<b.length)=False:=eq_false (by omega)
   have f2':(i<b.length)=False:=eq_false h2;have f3:(0<Qi (dg a) (dg b) i)=True:=eq_true (hcar (by omega));refine Xk ?_;simp only[f1,f1',f2,f2',f3,w1,↓X4,wA,seval,zA,qA,qC,wN];refine X1 ca rfl ?_;simp only[f1,f1',f2,f2',f3,w1,↓X4,wA,seval,zA,qA,qC,wN];refine X1 cb' rfl ?_;simp only[f1,f1',f2,f2',f3,k1,k2,k3,k4,hap,w1,Int.reduceEq,↓X4,wA,seval,zA,qA,qC,wN];exact⟨⟨by omega,by omega⟩,fin _ (BA (by simp[Xm,X8,Qs,I]) rfl)⟩
 ·obtain rfl:i=e:=by omega
  have f1:((i:Int)<a.length)=False:=eq_false (by omega);have f1':(i<a.length)=False:=eq_false (by omega);have f2:((i:Int)<b.length)=False:=eq_false (by omega);have f2':(i<b.length)=False:=eq_false (by omega);refine Xk ?_;simp only[f1,f1',f2,f2',hce,Int.lt_irrefl,↓X4,wA,seval,zA,qA,qC,wN];refine C4 rfl ?_;rw[hR];exact AH Xb rfl rfl (Qd _ _).symm rfl (Nat.le_of_eq (Qd _ _))
theorem EW (a b:List Int)(ha:Jl a)(hb:Jl b)(la:a.length<1000000000000)(hl:b.length≤a.length)(h:val b≤val a):Fn Tryz.prog 163 [X8 a,X8 b] (X8 (Zy a b)):=by
 obtain⟨R,hR⟩:∃R,R=X8 (Zy a b):=⟨_,rfl⟩
 have sR:Settled R:=hR▸Xc _;rw[←hR];refine Fq Tryz.call163 Tryz.func163 9 [] [] [] (by simp[Kc,Xa,Xh]) (Xk ?_);simp(maxSteps:=999999)only[AS.start,↓X4,wA,seval,zA,qA,qC,wN];refine Xj (fun i:Nat=>⟨9,[],[X8 a,X8 b,.any,.any,.any,.osl 0 i 1 0 i,I (JM (dg a) (dg b) i),I i,.any],[],[.row i i (QL I 0 (B5 (Bm (dg a) (dg b)) i))]⟩)
  (fun i=>i≤a.length) (fun i=>a.length-i) 0 (by omega) ((Kk 5 1 (QL I 0 []) rfl).trans (Xi rfl (by simp[AS.put,Xm,X8,Qs,I,JM]) (by simp[AS.put,Xw]) (by simp[AS.put,B5]))) ?_
 intro i hi next
 have cb:=GR (dg a) (dg b) i;have w1:=wj i (by omega);by_cases hgo:i<a.length
 ·have da:=Qc ha i
  have db:=Qc hb i;unfold Q5 at da db;have eA:a.getD i 0=dg a i:=rfl;have f1:((i:Int)<a.length)=True:=eq_true (by omega);have f1':(i<a.length)=True:=eq_true hgo;have k1:IntKind.i64.wrap (dg a i-dg b i)=dg a i-dg b i:=by rw[IntKind.wrap_i64];omega
  have k2:IntKind.i64.wrap (dg a i-dg b i-JM (dg a) (dg b) i)=dg a i-dg b i-JM (dg a) (dg b) i:=by rw[IntKind.wrap_i64];omega
  have hap:=OA (B5 (Bm (dg a) (dg b)) i) (Bm (dg a) (dg b) i);rw[Qd,←Ew]at hap;have ca:=E4 b i;by_cases hv:dg a i-dg b i-JM (dg a) (dg b) i<0
  ·have f3:(dg a i-dg b i-JM (dg a) (dg b) i<0)=True:=eq_true hv
   have k3:IntKind.i64.wrap (dg a i-dg b i-JM (dg a) (dg b) i+1000000000)=Bm (dg a) (dg b) i:=by
    unfold Bm;rw[if_pos hv,IntKind.wrap_i64];omega
   have k4:JM (dg a) (dg b) (i+1)=1:=by simp only[JM];rw[if_pos hv]
   refine Xk ?_;simp only[f1,f1',eA,w1,↓X4,wA,seval,zA,qA,qC,wN];refine X1 ca rfl ?_;simp only[k1,k2,k3,f3,hap,w1,↓X4,wA,seval,zA,qA,qC,wN];exact⟨⟨by omega,by omega⟩,next (i+1) _ (by omega) (by omega) (BA (by simp[Xm,X8,Qs,I,k4]) rfl)⟩
  ·have f3:(dg a i-dg b i-JM (dg a) (dg b) i<0)=False:=eq_false hv
   have k3:dg a i-dg b i-JM (dg a) (dg b) i=Bm (dg a) (dg b) i:=by unfold Bm;rw[if_neg hv]
   have k4:JM (dg a) (dg b) (i+1)=0:=by simp only[JM];rw[if_neg hv]
   have f3':(Bm (dg a) (dg b) i<0)=False:=by rw[←k3];exact f3
   refine Xk ?_;simp only[f1,f1',eA,w1,↓X4,wA,seval,zA,qA,qC,wN];refine X1 ca rfl ?_;simp only[k1,k2.trans k3,f3',hap,w1,↓X4,wA,seval,zA,qA,qC,wN];exact⟨⟨by omega,by omega⟩,next (i+1) _ (by omega) (by omega) (BA (by simp[Xm,X8,Qs,I,k4]) rfl)⟩
 ·obtain rfl:i=a.length:=by omega
  refine Xk ?_;simp only[Int.lt_irrefl,Nat.lt_irrefl,↓X4,wA,seval,zA,qA,qC,wN];refine C4 rfl ?_;rw[hR];exact AH Xb rfl rfl (Qd _ _).symm rfl (Nat.le_of_eq (Qd _ _))
def Dz (sx sy:Bool)(a b:List Int)(p:List Int×Nat):AS :=
 ⟨10,[],[.any,.any,.ref 0 0 0,.ref 1 0 0,.ref 2 0 0,.osl 3 0 1 0 (a.length+b.length),I p.2,.any,.any,.any],[],
  [.row 0 2 (Xf [.bool sx,X8 a]),.row 0 2 (Xf [.bool sy,X8 b]),.row 0 2 (Xf [.bool false,.sl 0 0 (fun _=>.any) true]),.row 0 (a.length+b.length) (QL I 0 p.1)]⟩
def Cn (sx sy:Bool)(a b:List Int)(i:Nat)(p:List Int×Int×Nat):AS :=
 ⟨10,[],[.any,.any,.ref 0 0 0,.ref 1 0 0,.ref 2 0 0,.osl 3 0 1 0 (a.length+b.length),I i,I p.2.1,I p.2.2,.any],[],
  [.row 0 2 (Xf [.bool sx,X8 a]),.row 0 2 (Xf [.bool sy,X8 b]),.row 0 2 (Xf [.bool false,.sl 0 0 (fun _=>.any) true]),.row 0 (a.length+b.length) (QL I 0 p.1)]⟩
theorem aS (sx sy:Bool)(a b:List Int)(ha:Jl a)(hb:Jl b)(la:a.length<room)(lb:b.length<room) :
  Fn Tryz.prog 78 [zR sx a,zR sy b] (zA (KC (sx != sy) (val a*val b))):=by
 obtain⟨R,hR⟩:∃R,R=zA (KC (sx != sy) (val a*val b)):=⟨_,rfl⟩
 have sR:Settled R:=hR▸XM _;unfold room at la lb;rw[←hR];have w0:IntKind.i64.wrap ((a.length:Int)+b.length)=((a.length+b.length:Nat):Int):=by rw[IntKind.wrap_i64];omega
 refine Fq Tryz.call78 Tryz.func78 10 [] [] [] (by simp[Xh]) (Xk ?_);simp(maxSteps:=999999)only[AS.start,zR,w0,Int.toNat_natCast,↓X4,wA,seval,zA,qA,qC,wN];refine⟨⟨by omega,by omega⟩,?_⟩;refine Xj (Dz sx sy a b) (iZ a b) (fun p=>a.length-p.2) (List.replicate (a.length+b.length) 0,0) ?_ ?_ ?_
 ·refine⟨Nat.zero_le _,by simp,fun d hd=>?_,fun j _=>?_,?_⟩
  ·rw[(List.mem_replicate.1 hd).2];exact⟨by omega,by omega⟩
  ·simp[List.getD_eq_getElem?_getD,List.getElem?_replicate]
   split <;> rfl
  ·simp only[List.take_zero];rw[F0];simp[val]
 ·refine(KH 3 (a.length+b.length) (QL I 0 (List.replicate (a.length+b.length) 0)) rfl (Nat.le_refl _) ?_).trans (Xi rfl ?_ ?_ ?_)
  ·intro j hj
   rw[AL];simp[List.getD_eq_getElem?_getD,List.getElem?_replicate,hj,I]
  ·simp[Dz,Xm,X8,Qs,I]
  ·simp[Dz,Xw]
  ·rfl
 rintro⟨O,i⟩ hO next
 obtain⟨g1,g2,g3,g4,g5⟩:=id hO;simp only at g1 g2 g3 g4 g5;have w1:=wj i (by omega);by_cases hi:i<a.length
 ·have e1:((i:Int)<a.length)=True:=eq_true (by omega)
  have e2:(i<a.length)=True:=eq_true hi;have eA:a.getD i 0=dg a i:=rfl;refine Xk ?_;simp(maxSteps:=999999)only[Dz,w1,e1,e2,eA,↓X4,wA,seval,zA,qA,qC,wN];refine Xj (Cn sx sy a b i) (j8 a b O i) (fun p=>b.length-p.2.2) (O,0,0) ⟨Nat.zero_le _,g2,g3,⟨by simp,by simp⟩,g4,by simp[val]⟩ (Xi rfl (by simp[Cn,Xm,X8,Qs,I]) (by simp[Cn,Xw]) (by simp[Cn,X8,Qs])) ?_;rintro⟨O',c,k⟩ hJ next2;obtain⟨j1,j2,j3,j4,j5,j6⟩:=id hJ;simp only at j1 j2 j3 j4 j5 j6;have w2:=wj k (by omega);by_cases hk:k<b.length
  ·obtain⟨v0,v1,hst⟩:=NI (a:=a) (b:=b) (O:=O) (i:=i) (O':=O') (c:=c) (k:=k) ha hb hi hk hJ rfl
   have o1:=Jt j3 (i+k);have m1:=BP (Qc ha i) (Qc hb k);have eB:b.getD k 0=dg b k:=rfl;have f1:((k:Int)<b.length)=True:=eq_true (by omega);have f2:(k<b.length)=True:=eq_true hk;have f3:IntKind.i64.wrap ((i:Int)+k)=((i+k:Nat):Int):=by rw[IntKind.wrap_i64];omega
   have f4:(i+k<a.length+b.length)=True:=eq_true (by omega);have f5:(i+k+1≤a.length+b.length)=True:=eq_true (by omega);unfold Q5 at o1 j4;have hU:∀x:Int,DS (QL I 0 O') (i+k) (.int .i64 x)=QL I 0 (O'.set (i+k) x):=fun x=>Zr _ _ _ (by omega)
   have q1:IntKind.i64.wrap (dg a i*dg b k)=dg a i*dg b k:=by rw[IntKind.wrap_i64];omega
   have q2:IntKind.i64.wrap (O'.getD (i+k) 0+dg a i*dg b k)=O'.getD (i+k) 0+dg a i*dg b k:=by rw[IntKind.wrap_i64];omega
   generalize hv:O'.getD (i+k) 0+dg a i*dg b k+c=v at *;have q3:IntKind.i64.wrap v=v:=by rw[IntKind.wrap_i64];omega
   have q4:v.tmod 1000000000=v-v/1000000000*1000000000:=by rw[Int.tmod_eq_emod_of_nonneg v0];omega
   have q5:IntKind.i64.wrap (v.tdiv 1000000000)=v/1000000000:=by rw[Int.tdiv_eq_ediv_of_nonneg v0,IntKind.wrap_i64];omega
   refine Xk ?_;simp(maxSteps:=999999)only[Cn,w2,e2,eA,eB,f1,f2,f3,f4,f5,q1,q2,hv,q3,q4,q5,hU,Int.toNat_natCast,Int.reduceEq,↓X4,wA,seval,zA,qA,qC,wN];exact next2 _ _ hst (by simp only;omega) (Xi rfl (by simp[Cn,Xm,X8,Qs,I]) (by simp[Cn,Xw]) rfl)
  ·obtain rfl:k=b.length:=by omega
   have hst:=NH (a:=a) (b:=b) (O:=O) (i:=i) (O':=O') (c:=c) hi hO hJ;have f3:IntKind.i64.wrap ((i:Int)+b.length)=((i+b.length:Nat):Int):=by rw[IntKind.wrap_i64];omega
   have f4:(i+b.length<a.length+b.length)=True:=eq_true (by omega);have f5:(i+b.length+1≤a.length+b.length)=True:=eq_true (by omega);have hU:∀x:Int,DS (QL I 0 O') (i+b.length) (.int .i64 x)=QL I 0 (O'.set (i+b.length) x):=fun x=>Zr _ _ _ (by omega)
   refine Xk ?_;simp(maxSteps:=999999)only[Cn,w1,e1,e2,f3,f4,f5,hU,Int.lt_irrefl,Nat.lt_irrefl,Int.toNat_natCast,↓X4,wA,seval,zA,qA,qC,wN];exact next _ _ hst (by simp only;omega) (Xi rfl (by simp[Dz,Xm,X8,Qs,I]) (by simp[Dz,Xw]) rfl)
 ·obtain rfl:i=a.length:=by omega
  have hval:val O=val a*val b:=by rw[g5,List.take_length]
  have c:=JS (sx != sy) O g3 (by omega);rw[hval,←hR]at c;have e5:(!(sx == sy))=(sx != sy):=by cases sx <;> cases sy <;> rfl
  have hfr:=DH (m:=0) (s:=Dz sx sy a b (O,a.length)) 3 5 (ver:=0) (l:=O) (by show some _=some _;rw[g2]) (by show AV.osl 3 0 1 0 _=_;rw[g2]) (by simp[Dz]);refine Run.sub ?_ hfr;refine Xk ?_;simp(maxSteps:=999999)only[Dz,Int.lt_irrefl,Nat.lt_irrefl,e5,↓X4,wA,seval,zA,qA,qC,wN];refine X1 c rfl ?_;simp only[hR,↓X4,wA,seval,zA,qA,qC,wN];exact J2 rfl XX rfl rfl rfl sR (hR.trans rfl)
theorem ZO (x y:Int)(hx:bl x<room)(hy:bl y<room):Fn Tryz.prog 78 [zA x,zA y] (zA (x*y)):=by
 have h:=aS (decide (x<0)) (decide (y<0)) _ _ (XN x.natAbs) (XN y.natAbs) hx hy;have e:KC (decide (x<0) != decide (y<0)) (val (X9 x.natAbs)*val (X9 y.natAbs))=x*y:=by
  rw[Xx,Xx];have hx':=GM x;have hy':=GM y
  conv=>rhs;rw[←hx',←hy']
  generalize (x.natAbs:Int)=p;generalize (y.natAbs:Int)=q;unfold KC;by_cases h1:x<0 <;> by_cases h2:y<0 <;> simp[h1,h2,Int.neg_mul,Int.mul_neg]
 rw[e]at h;exact h
theorem pu {d:List Int}(h:d.length≤2):dg d 1*1000000000+dg d 0=val d:=by
 match d,h with
 | [],_=>rfl
 | [x],_=>simp[dg,val]
 | [x,y],_=>simp[dg,val];try omega
 |_ :: _ :: _ :: _,h=>simp at h
theorem IL (d:List Int)(h:Jl d)(hl:d.length≤2):Fn Tryz.prog 217 [X8 d] (I (val d)):=by
 have d0:=Qc h 0;have d1:=Qc h 1;unfold Q5 at d0 d1;have w1:IntKind.i64.wrap (dg d 1*1000000000)=dg d 1*1000000000:=by rw[IntKind.wrap_i64];omega
 have w2:IntKind.i64.wrap (dg d 1*1000000000+dg d 0)=val d:=by rw[←pu hl,IntKind.wrap_i64];omega
 refine Fq Tryz.call217 Tryz.func217 3 [] [] [] (by simp[Kc,Xa,Xh]) (Xk ?_);simp(maxSteps:=999999)only[AS.start,↓X4,wA,seval,zA,qA,qC,wN];refine X1 (E4 d 1) rfl ?_;simp only[w1,↓X4,wA,seval,zA,qA,qC,wN];refine X1 (E4 d 0) rfl ?_;simp only[w1,w2,↓X4,wA,seval,zA,qA,qC,wN];exact Xo rfl rfl (Xb _) rfl
theorem kq (a:List Int)(k:Int)(ha:Ai a)(hk:Q5 k)(la:a.length<100000000000):Fn Tryz.prog 237 [X8 a,I k] (X8 (X9 (val a*k).toNat)):=by
 have v0:=Q2 ha.1;unfold Q5 at hk;have ea:X8 a=X8 (X9 (val a).toNat):=by rw[AU ha]
 have eva:((val a).toNat:Int)=val a:=pt ha.1;have c1:=JS false a ha.1 (by omega);rw[show KC false (val a)=((val a).toNat:Int)from eva.symm]at c1;have bla:bl ((val a).toNat:Int)<room:=by rw[K2,AU ha];unfold room;omega
 have c2:=DA k ⟨by omega,by omega⟩;have c3:=ZO ((val a).toNat:Int) k bla (by have:=Zt (n:=k) ⟨by omega,by omega⟩;unfold room;omega);have m0:0≤val a*k:=Int.mul_nonneg v0 hk.1;rw[eva]at c3;have hz:zA (val a*k)=.agg [.bool false,X8 (X9 (val a*k).toNat)]:=by
  rw[←QT,Int.toNat_of_nonneg m0]
 rw[hz,show zA (val a)=zA ((val a).toNat:Int)by rw[eva]]at c3;obtain⟨R,hR⟩:∃R,R=X8 (X9 (val a*k).toNat):=⟨_,rfl⟩
 have sR:Settled R:=hR▸Xc _;rw[←hR];refine Fq Tryz.call237 Tryz.func237 6 [] [] [] (by simp[Kc,Xa,Xh]) (Xk ?_);simp(maxSteps:=999999)only[AS.start,↓X4,wA,seval,zA,qA,qC,wN];refine X1 c1 rfl ?_;simp only[↓X4,wA,seval,zA,qA,qC,wN];refine X1 c2 rfl ?_;simp only[↓X4,wA,seval,zA,qA,qC,wN];refine X1 c3 rfl ?_;simp only[↓X4,wA,seval,zA,qA,qC,wN];exact Xo rfl rfl sR hR.symm
theorem Mo (z:Int)(hz:bl z<room):Fn Tryz.prog 159 [zA z] (zA (-z)):=by
 unfold bl room at hz;obtain⟨R,hR⟩:∃R,R=zA (-z):=⟨_,rfl⟩
 have sR:Settled R:=hR▸XM _;rw[←hR];have c:=JS (!decide (z<0)) (X9 z.natAbs) (XN _) (by omega);have e:KC (!decide (z<0)) (val (X9 z.natAbs)) = -z:=by
  rw[Xx];unfold KC;by_cases h:z<0
  ·simp[h];omega
  ·simp[h];omega
 rw[e,←hR]at c;refine Fq Tryz.call159 Tryz.func159 3 [] [] [] (by simp[Kc,Xa,Xh]) (Xk ?_);simp(maxSteps:=999999)only[AS.start,↓X4,wA,seval,zA,qA,qC,wN];refine X1 c rfl ?_;simp only[hR,↓X4,wA,seval,zA,qA,qC,wN];exact J2 rfl XX rfl rfl rfl sR (hR.trans rfl)
theorem S9 (x y:Int)(hx:bl x<room)(hy:bl y<room):Fn Tryz.prog 81 [zA x,zA y] (zA (x+y)):=by
 obtain⟨R,hR⟩:∃R,R=zA (x+y):=⟨_,rfl⟩
 have sR:Settled R:=hR▸XM _;unfold bl room at hx hy;have dx:=XN x.natAbs;have dy:=XN y.natAbs;have vx:=Xx x.natAbs;have vy:=Xx y.natAbs;have cmp:=B7 _ _ (XV x.natAbs) (XV y.natAbs) (by omega);rw[vx,vy]at cmp;rw[←hR];by_cases h:(x<0↔y<0)
 ·obtain⟨L,l1,l2,l3,l4⟩:=jK _ _ dx dy (by omega) (by omega)
  have e:KC (decide (x<0)) (val L)=x+y:=by
   rw[l2,vx,vy];unfold KC;by_cases h2:x<0
   ·rw[if_pos (decide_eq_true h2)];omega
   ·rw[if_neg (by simpa using h2)];omega
  have c:=JS (decide (x<0)) L l1 (by omega);rw[e,←hR]at c;have fB:(decide (x<0) == decide (y<0))=true:=by simp[decide_eq_decide.2 h]
  refine Fq Tryz.call81 Tryz.func81 5 [] [] [] (by simp[Kc,Xa,Xh]) (Xk ?_);simp(maxSteps:=999999)only[AS.start,↓X4,wA,seval,zA,qA,qC,wN];simp only[fB,↓X4,wA,seval,zA,qA,qC,wN];refine X1 l4 rfl ?_;simp only[↓X4,wA,seval,zA,qA,qC,wN];refine X1 c rfl ?_;simp only[hR,↓X4,wA,seval,zA,qA,qC,wN];exact J2 rfl XX rfl rfl rfl sR (hR.trans rfl)
 have fB:(decide (x<0) == decide (y<0))=false:=by
  rw[beq_eq_false_iff_ne];intro e;exact h (decide_eq_decide.1 e)
 by_cases hc:((x.natAbs:Int)-y.natAbs).sign<0
 ·have hlt:(x.natAbs:Int)-y.natAbs<0:=Int.sign_neg_iff.1 hc
  have hl:(X9 x.natAbs).length≤(X9 y.natAbs).length:=QY (show x.natAbs≤y.natAbs by omega);have cm:=EW _ _ dy dx (by omega) hl (by omega);have vm:=BW dy dx hl (by omega);have e:KC (decide (y<0)) (val (Zy (X9 y.natAbs) (X9 x.natAbs)))=x+y:=by
   rw[vm,vx,vy];unfold KC;by_cases h2:y<0
   ·rw[if_pos (decide_eq_true h2)];omega
   ·rw[if_neg (by simpa using h2)];omega
  have c:=JS (decide (y<0)) _ (BV dy dx) (by unfold Zy;rw[Qd];omega);rw[e,←hR]at c;have fC:(((x.natAbs:Int)-y.natAbs).sign<0)=True:=eq_true hc;refine Fq Tryz.call81 Tryz.func81 5 [] [] [] (by simp[Kc,Xa,Xh]) (Xk ?_);simp(maxSteps:=999999)only[AS.start,↓X4,wA,seval,zA,qA,qC,wN];simp only[fB,↓X4,wA,seval,zA,qA,qC,wN];refine X1 cmp rfl ?_;simp only[fC,↓X4,wA,seval,zA,qA,qC,wN];refine X1 cm rfl ?_;simp only[↓X4,wA,seval,zA,qA,qC,wN];refine X1 c rfl ?_;simp only[hR,↓X4,wA,seval,zA,qA,qC,wN];exact J2 rfl XX rfl rfl rfl sR (hR.trans rfl)
 ·have hlt:¬ (x.natAbs:Int)-y.natAbs<0:=fun h=>hc (Int.sign_neg_iff.2 h)
  have hl:(X9 y.natAbs).length≤(X9 x.natAbs).length:=QY (show y.natAbs≤x.natAbs by omega);have cm:=EW _ _ dx dy (by omega) hl (by omega);have vm:=BW dx dy hl (by omega);have e:KC (decide (x<0)) (val (Zy (X9 x.natAbs) (X9 y.natAbs)))=x+y:=by
   rw[vm,vx,vy];unfold KC;by_cases h2:x<0
   ·rw[if_pos (decide_eq_true h2)];omega
   ·rw[if_neg (by simpa using h2)];omega
  have c:=JS (decide (x<0)) _ (BV dx dy) (by unfold Zy;rw[Qd];omega);rw[e,←hR]at c;have fC:(((x.natAbs:Int)-y.natAbs).sign<0)=False:=eq_false hc;refine Fq Tryz.call81 Tryz.func81 5 [] [] [] (by simp[Kc,Xa,Xh]) (Xk ?_);simp(maxSteps:=999999)only[AS.start,↓X4,wA,seval,zA,qA,qC,wN];simp only[fB,↓X4,wA,seval,zA,qA,qC,wN];refine X1 cmp rfl ?_;simp only[fC,↓X4,wA,seval,zA,qA,qC,wN];refine X1 cm rfl ?_;simp only[↓X4,wA,seval,zA,qA,qC,wN];refine X1 c rfl ?_;simp only[hR,↓X4,wA,seval,zA,qA,qC,wN];exact J2 rfl XX rfl rfl rfl sR (hR.trans rfl)
theorem Uv (neg:Bool)(Q:List Int)(m0 n:Nat)(f:Nat→AV)(x:Int)(hf:f (n-1)=.int .i64 x) (hx:x≠0) (hne:n≠0) (hl:n<4611686018427387904) (hb:∀j,j<n→Jq 2 (f j)) :
  HCall Tryz.prog 156 [.bool neg,.osl 1 0 1 0 n] [.row 0 m0 (QL I 0 Q),.row 0 n f] (.agg [.bool neg,.osl 1 0 1 0 n]) [.row 0 m0 (QL I 0 Q),.row 0 n f]:=by
 have hbO:Qa 2 (.row 0 n f)=True:=eq_true hb;refine HCall.introC (fn:=Tryz.f156) Tryz.call156 Tryz.func156 rfl mixed 6 [] [] [] (by kernel_rfl) (Nat.le_of_ble_eq_true rfl) (by simp[XW]) (by simp[XW,hbO]) (Xk ?_);simp only[AS.start,↓X4,wA,seval,zA,qA,qC,wN];refine Xj (fun _:Unit=>⟨6,[],[.bool neg,.osl 1 0 1 0 n,.any,.any,.ref 2 0 0,I n],[],[.row 0 m0 (QL I 0 Q),.row 0 n f,.row 0 2 (Xf [.bool false,.sl 0 0 (fun _=>.any) true])]⟩) (fun _=>True) (fun _=>0) () trivial (BA (by simp[zA,qA,qC,wN,Xm,X8,CP,Cf,Qs,I]) rfl) ?_;rintro⟨⟩ _ _;have e0:(0<(n:Int))=True:=eq_true (by omega);have e1:((n:Int)=0)=False:=eq_false (by omega);have e1':(n=0)=False:=eq_false (by omega);have w1:IntKind.i64.wrap ((n:Int)-1)=((n-1:Nat):Int):=by rw[IntKind.wrap_i64];omega
 have w2:(((n-1:Nat):Int)<0)=False:=eq_false (by omega);have e2:(n-1<n)=True:=eq_true (by omega);have e3:(x=0)=False:=eq_false hx;refine Xk ?_;simp only[e0,e1,e1',e2,e3,w1,w2,hf,Int.sub_zero,Int.toNat_natCast,↓X4,wA,seval,zA,qA,qC,wN];exact Wm (v:=.agg [.bool neg,.osl 1 0 1 0 n]) rfl (by simp[AS.get,Qm,XX,rd,Qw,Xf,Eh]) rfl rfl
def JN (a b:List Int)(B:Nat)(p:Nat):AS :=
 ⟨16,[],[X8 a,X8 b,.any,.any,.any,.any,.any,.any,.osl 0 0 1 0 a.length,X8 (X9 (JV a B p).toNat),I ((p:Int)-1),.any,.any,.any,.any,.any],[],[.row 0 a.length (QL I 0 (Dt a B p))]⟩
def XS (a b:List Int)(B i:Nat)(R:Nat)(p:Int×Int):AS :=
 ⟨16,[],[X8 a,X8 b,.any,.any,.any,.any,.any,.any,.osl 0 0 1 0 a.length,X8 (X9 R),I i,.any,I p.1,I p.2,.any,.any],[],[.row 0 a.length (QL I 0 (Dt a B (i+1)))]⟩
theorem U3 (A B:Nat)(hA:(X9 A).length<1000000000) (hB:(X9 B).length<1000000000) (hB0:B≠0) :
  ∃q:List Int,Jl q∧val q=((A/B:Nat):Int)∧q.length<1000000000∧Fn Tryz.prog 218 [X8 (X9 A),X8 (X9 B)] (.tup [X8 q,X8 (X9 (A%B))]):=by
 have dA:=XN A;have dB:=XN B;have vA:=Xx A;have vB:=Xx B;by_cases hs:(X9 A).length≤2∧(X9 B).length≤2
 ·refine⟨X9 (A/B),XN _,Xx _,?_,?_⟩
  ·have:=QY (y:=((A/B:Nat):Int)) (z:=(A:Int)) (by have:=Nat.div_le_self A B;generalize A/B=q at *;omega)
   rw[K2,K2]at this;omega
  have l1:=A7 hs.1;have l2:=A7 hs.2;have c1:=IL _ dA hs.1;have c2:=IL _ dB hs.2;rw[vA]at c1;rw[vB]at c2;have l3:A/B≤A:=Nat.div_le_self A B;have l4:A%B≤A:=Nat.mod_le A B;have c3:=DA ((A/B:Nat):Int) (by unfold BS;generalize A/B=q at *;omega);have c4:=DA ((A%B:Nat):Int) (by unfold BS;generalize A%B=q at *;omega);rw[QT]at c3 c4;have e1:IntKind.i64.wrap ((A:Int).tdiv B)=((A/B:Nat):Int):=by
   rw[show(A:Int).tdiv B=((A/B:Nat):Int)from rfl];generalize A/B=q at *;rw[IntKind.wrap_i64];omega
  have e2:(A:Int).tmod B=((A%B:Nat):Int):=rfl;have f1:(((X9 A).length:Int)≤2)=True:=eq_true (by omega);have f2:(((X9 B).length:Int)≤2)=True:=eq_true (by omega);have f3:((B:Int)=0)=False:=eq_false (by omega);refine Fq Tryz.call218 Tryz.func218 16 [] [] [] (by simp[Kc,Xa,Xh]) (Xk ?_);simp(maxSteps:=999999)only[AS.start,↓X4,wA,seval,zA,qA,qC,wN];simp only[f1,f2,hs.1,hs.2,↓X4,wA,seval,zA,qA,qC,wN];refine X1 c1 rfl ?_;simp only[↓X4,wA,seval,zA,qA,qC,wN];refine X1 c2 rfl ?_;simp only[f3,e1,↓X4,wA,seval,zA,qA,qC,wN];refine X1 c3 rfl ?_;simp only[↓X4,wA,seval,zA,qA,qC,wN];refine X1 c1 rfl ?_;simp only[↓X4,wA,seval,zA,qA,qC,wN];refine X1 c2 rfl ?_;simp only[f3,e2,↓X4,wA,seval,zA,qA,qC,wN];refine X1 c4 rfl ?_;simp only[↓X4,wA,seval,zA,qA,qC,wN];exact jC rfl rfl rfl (Xc _) (Xc _) rfl rfl
 have hb:(0:Int)<B:=by omega
 obtain⟨a,ha⟩:∃a,a=X9 A:=⟨_,rfl⟩
 have hqa:=Pd (a:=X9 A) (b:=(B:Int)) hb;have hr0:JV (X9 A) B 0=((A%B:Nat):Int):=by unfold JV;rw[List.drop_zero,vA];rfl
 have hval:val (B5 (An (X9 A) B) (X9 A).length)=((A/B:Nat):Int):=by
  rw[vA,hr0]at hqa;have h3:=Nat.mod_add_div A B;have h3':((A%B:Nat):Int)+B*((A/B:Nat):Int)=A:=by exact_mod_cast h3
  have h4:(B:Int)*val (B5 (An (X9 A) B) (X9 A).length)=B*((A/B:Nat):Int):=by omega
  exact Int.eq_of_mul_eq_mul_left (by omega) h4
 refine⟨B5 (An (X9 A) B) (X9 A).length,Df fun i _=>Ej dA hb i,hval,by rw[Qd];exact hA,?_⟩;obtain⟨QQ,hQQ⟩:∃r,r=X8 (B5 (An (X9 A) B) (X9 A).length):=⟨_,rfl⟩
 have sQQ:Settled QQ:=hQQ▸Xc _;rw[←hQQ];have w00:IntKind.i64.wrap ((X9 A).length:Int)=((X9 A).length:Int):=by rw[IntKind.wrap_i64];omega
 have w0:IntKind.i64.wrap (((X9 A).length:Int)-1)=((X9 A).length:Int)-1:=by rw[IntKind.wrap_i64];omega
 refine Fq Tryz.call218 Tryz.func218 16 [] [] [] (by simp[Xc]) (Xk ?_);have hsI:¬ (((X9 A).length:Int)≤2∧((X9 B).length:Int)≤2):=fun h=>hs ⟨by omega,by omega⟩
 simp(maxSteps:=999999)only[AS.start,w0,Int.toNat_natCast,↓X4,wA,seval,zA,qA,qC,wN];refine(fun key=>⟨fun a=>⟨fun b=>absurd ⟨a,b⟩ hsI,fun _=>⟨⟨by omega,by omega⟩,key⟩⟩,fun _=>⟨⟨by omega,by omega⟩,key⟩⟩) ?r;refine Xj (JN (X9 A) (X9 B) B) (fun p=>p≤(X9 A).length) (fun p=>p) (X9 A).length (Nat.le_refl _) ?_ ?_
 ·refine(KH 0 (X9 A).length (QL I 0 (Dt (X9 A) B (X9 A).length)) rfl (Nat.le_refl _) ?_).trans ?_
  ·intro j hj
   have:(Dt (X9 A) B (X9 A).length).getD j 0=0:=by unfold Dt;rw[CA _ _ _ hj,if_neg (by omega)]
   rw[AL,this];rfl
  refine(ST 9 (X8 []) (by simp) ?_).trans (Xi rfl ?_ ?_ ?_)
  ·exact Qu _ _
  ·simp[JN,Xm,X8,Qs,I,Mk,Qj]
  ·simp[JN,Xw]
  ·rfl
 intro p hp next
 cases p with
 |zero =>
  have e1:((0:Int)≤0-1)=False:=eq_false (by omega);refine Xk ?_;simp(maxSteps:=999999)only[JN,e1,↓X4,wA,seval,zA,qA,qC,wN];refine oD rfl (CX ⟨?_,Q1 (Xc _) ?_,trivial⟩)
  ·rw[hQQ]
   exact AH Xb rfl rfl (Qd _ _).symm (by rw[NX]) (Nat.le_of_eq (Qd _ _))
  ·rw[hr0,Int.toNat_natCast];rfl
 |succ i =>
  obtain⟨r,hr⟩:∃r,r=(JV (X9 A) B (i+1)).toNat:=⟨_,rfl⟩
  have r0:0≤JV (X9 A) B (i+1):=Int.emod_nonneg _ (by omega);have r1:JV (X9 A) B (i+1)<B:=Int.emod_lt_of_pos _ hb;have er:JV (X9 A) B (i+1)=r:=by omega
  have da:=Qc dA i;unfold Q5 at da;have eA:(X9 A).getD i 0=dg (X9 A) i:=rfl;obtain⟨x,hx⟩:∃x:Nat,dg (X9 A) i=x:=⟨(dg (X9 A) i).toNat,by omega⟩
  rw[hx]at da eA;obtain⟨R,hR⟩:∃R,R=r*1000000000+x:=⟨_,rfl⟩
  obtain⟨Q,hQ⟩:∃Q,Q=An (X9 A) B i:=⟨_,rfl⟩
  have hRc:(R:Int)=(r:Int)*1000000000+x:=by omega
  have hQd:Q=(R:Int)/B:=by rw[hQ,An,er,eA,hRc]
  have hrn:JV (X9 A) B i=(R:Int)%B:=by rw[Hz (X9 A) B i (by omega),er,eA,hRc]
  have dQ:=Ej dA hb i;rw[←hQ]at dQ;unfold Q5 at dQ;have q0:=dQ.1;have hdm:=Int.emod_add_mul_ediv (R:Int) B;rw[←hQd,←hrn]at hdm;have n0:0≤JV (X9 A) B i:=Int.emod_nonneg _ (by omega);have n1:JV (X9 A) B i<B:=Int.emod_lt_of_pos _ hb;have hmq:(B:Int)*(Q+1)=B*Q+B:=by rw[Int.mul_add,Int.mul_one]
  have lR:(X9 R).length≤(X9 B).length+1:=by
   have h1:((R:Int)).natAbs≤((B:Int)*1000000000).natAbs:=by omega
   have h2:=QY h1;have h3:=JE (B:Int) 1000000000;have h4:bl (1000000000:Int)≤2:=G2 (by simp[pw]);rw[K2]at h2 h3;have h5:(R:Int)<pw ((X9 B).length+1):=by
    have g1:=OP B;have g2:=Jn (X9 B).length;simp only[pw];omega
   exact E5 h5
  have XA:∀mid:Int,0≤mid→mid<1000000000→Fn Tryz.prog 237 [X8 (X9 B),I mid] (X8 (X9 ((B:Int)*mid).toNat))∧Fn Tryz.prog 162 [X8 (X9 ((B:Int)*mid).toNat),X8 (X9 R)] (I ((B:Int)*mid-R).sign):=by
   intro mid g0 g1;have c1:=kq (X9 B) mid (XV B) ⟨g0,g1⟩ (by omega);rw[vB]at c1;have m0:0≤(B:Int)*mid:=Int.mul_nonneg (by omega) g0;have m1:(X9 ((B:Int)*mid).toNat).length≤(X9 B).length+3:=by
    have h2:=JE (B:Int) mid;have h3:bl mid≤3:=Zt ⟨by omega,by omega⟩;have h4:bl ((B:Int)*mid)=(X9 ((B:Int)*mid).toNat).length:=by show(X9 ((B:Int)*mid).natAbs).length=_;rw[show((B:Int)*mid).natAbs=((B:Int)*mid).toNat by omega]
    rw[K2]at h2;omega
   have c2:=B7 (X9 ((B:Int)*mid).toNat) (X9 R) (XV _) (XV _) (by omega);rw[Xx,Xx,Int.toNat_of_nonneg m0]at c2;exact⟨c1,c2⟩
  obtain⟨T,hT⟩:∃T:Nat,(T:Int)=B*Q:=⟨((B:Int)*Q).toNat,Int.toNat_of_nonneg (Int.mul_nonneg (by omega) q0)⟩
  have hTR:T≤R:=by omega
  have lT:(X9 T).length≤(X9 R).length:=by
   have:=QY (y:=(T:Int)) (z:=(R:Int)) (by omega);rw[K2,K2]at this;exact this
  have cm:=EW (X9 R) (X9 T) (XN _) (XN _) (by omega) lT (by rw[Xx,Xx];omega);have vm:=BW (XN R) (XN T) lT (by rw[Xx,Xx];omega);rw[Xx,Xx]at vm;have cn:=JS false (Zy (X9 R) (X9 T)) (BV (XN _) (XN _)) (by unfold Zy;rw[Qd];omega);obtain⟨r',hr'⟩:∃r':Nat,(r':Int)=JV (X9 A) B i:=⟨(JV (X9 A) B i).toNat,by omega⟩
  rw[vm,show KC false ((R:Int)-T)=(r':Int)by unfold KC;simp;omega,QT]at cn;have eT:((B:Int)*Q).toNat=T:=by omega
  have hrn':(JV (X9 A) B i).toNat=r':=by omega
  rw[←eT]at cm cn;have hU:DS (QL I 0 (Dt (X9 A) B (i+1))) i (.int .i64 Q)=QL I 0 (Dt (X9 A) B i):=by
   rw[Zr _ _ _ (by rw[S0];omega),S8 (X9 A) B i (by omega) hQ]
  have e1:((i+1:Nat):Int)-1=(i:Int):=by omega
  have w1:IntKind.i64.wrap ((i:Int)-1)=(i:Int)-1:=by rw[IntKind.wrap_i64];omega
  have f3:(i<(X9 A).length)=True:=eq_true (by omega);have f3':(i+1≤(X9 A).length)=True:=eq_true (by omega);have e0:((0:Int)≤(i:Int))=True:=eq_true (by omega);have cc0:=B7 (X9 R) (X9 B) (XV _) (XV _) (by omega);rw[Xx,vB]at cc0;by_cases hrz:r=0
  ·
   have hrz':(JV (X9 A) B (i+1)).toNat=0:=by omega
   have hRx:R=x:=by omega
   have cn1:=JS false [(x:Int)] (KW.2 ⟨⟨by omega,by omega⟩,Cg⟩) (by simp);rw[show KC false (val [(x:Int)])=(R:Int)by unfold KC;simp[val];omega,QT]at cn1;refine Xk ?_;simp(maxSteps:=999999)only[JN,e1,e0,eA,f3,hrz',Qj,Int.toNat_natCast,↓X4,wA,seval,zA,qA,qC,wN];refine X0 cn1 ⟨Weak.rfl' _,BK rfl rfl,trivial⟩ ?_;simp(maxSteps:=999999)only[↓X4,wA,seval,zA,qA,qC,wN];refine X1 cc0 rfl ?_;by_cases hlt:((R:Int)-B).sign<0
   ·have g1:(((R:Int)-B).sign<0)=True:=eq_true hlt
    have hQ0:Q=0:=by
     have:=Int.sign_neg_iff.1 hlt;rw[hQd];exact Int.ediv_eq_zero_of_lt (by omega) (by omega)
    simp(maxSteps:=999999)only[g1,↓X4,wA,seval,zA,qA,qC,wN];refine Xj (XS (X9 A) (X9 B) B i R) (fun p=>0≤p.1∧p.1≤Q∧Q≤p.2∧p.2<1000000000) (fun p=>(p.2-p.1).toNat) (0,0) ⟨Int.le_refl 0,q0,by simp only;omega,by simp only;omega⟩ ?_ ?_
    ·exact(XT (m:=1) (Nat.zero_le _) rfl (by simp[zA,qA,qC,wN,XS,Xm,X8,Qs,I]) (by simp[zA,qA,qC,wN,XS,Xw]) (by simp[zA,qA,qC,wN,XS,X8,Qs,I]) (by simp[zA,qA,qC,wN,XS,XW]) (by simp[zA,qA,qC,wN,XS,XW]) (by simp[zA,qA,qC,wN,XS,XW]))
    rintro⟨lo,hi⟩ ⟨h1,h2,h3,h4⟩ next2;simp only at h1 h2 h3 h4;by_cases hlh:lo<hi
    ·obtain⟨mid,hmid⟩:∃mid,mid=(lo+hi+1)/2:=⟨_,rfl⟩
     have k1:IntKind.i64.wrap (lo+hi)=lo+hi:=by rw[IntKind.wrap_i64];omega
     have k2:IntKind.i64.wrap (lo+hi+1)=lo+hi+1:=by rw[IntKind.wrap_i64];omega
     have k3:IntKind.i64.wrap ((lo+hi+1).tdiv 2)=mid:=by rw[Int.tdiv_eq_ediv_of_nonneg (by omega),←hmid,IntKind.wrap_i64];omega
     have k4:IntKind.i64.wrap (mid-1)=mid-1:=by rw[IntKind.wrap_i64];omega
     have j1:(lo<hi)=True:=eq_true hlh;obtain⟨ct,cc⟩:=XA mid (by omega) (by omega);by_cases hm:(B:Int)*mid≤R
     ·have j2:(((B:Int)*mid-R).sign≤0)=True:=eq_true (by
       rcases Int.lt_or_eq_of_le hm with h |h
       ·rw[Int.sign_eq_neg_one_of_neg (by omega)];omega
       ·rw[h,Int.sub_self];simp)
      have hq:mid≤Q:=by
       apply Classical.byContradiction;intro hh;have:(B:Int)*(Q+1)≤B*mid:=Int.mul_le_mul_of_nonneg_left (by omega) (by omega);omega
      refine Xk ?_;simp(maxSteps:=999999)only[XS,j1,k1,k2,k3,Int.reduceEq,↓X4,wA,seval,zA,qA,qC,wN];refine X1 ct rfl ?_;simp(maxSteps:=999999)only[k1,k2,k3,↓X4,wA,seval,zA,qA,qC,wN];refine X1 cc rfl ?_;simp(maxSteps:=999999)only[j2,↓X4,wA,seval,zA,qA,qC,wN];exact next2 (mid,hi) _ ⟨by simp only;omega,hq,h3,h4⟩ (by simp only;omega) (Xi rfl (by simp[XS,Xm,X8,Qs,I]) (by simp[XS,Xw]) rfl)
     ·have j2:(((B:Int)*mid-R).sign≤0)=False:=eq_false (by
       rw[Int.sign_eq_one_of_pos (by omega)];omega)
      have hq:Q≤mid-1:=by
       apply Classical.byContradiction;intro hh;have:(B:Int)*mid≤B*Q:=Int.mul_le_mul_of_nonneg_left (by omega) (by omega);omega
      refine Xk ?_;simp(maxSteps:=999999)only[XS,j1,k1,k2,k3,Int.reduceEq,↓X4,wA,seval,zA,qA,qC,wN];refine X1 ct rfl ?_;simp(maxSteps:=999999)only[k1,k2,k3,↓X4,wA,seval,zA,qA,qC,wN];refine X1 cc rfl ?_;simp(maxSteps:=999999)only[j2,k4,↓X4,wA,seval,zA,qA,qC,wN];exact next2 (lo,mid-1) _ ⟨h1,h2,hq,by simp only;omega⟩ (by simp only;omega) (Xi rfl (by simp[XS,Xm,X8,Qs,I]) (by simp[XS,Xw]) rfl)
    ·obtain rfl:lo=Q:=by omega
     have j1:(lo<hi)=False:=eq_false hlh;obtain⟨ct,_⟩:=XA lo (by omega) (by omega);refine Xk ?_;simp(maxSteps:=999999)only[XS,j1,↓X4,wA,seval,zA,qA,qC,wN];refine X1 ct rfl ?_;simp(maxSteps:=999999)only[↓X4,wA,seval,zA,qA,qC,wN];refine X1 cm rfl ?_;simp(maxSteps:=999999)only[↓X4,wA,seval,zA,qA,qC,wN];refine X1 cn rfl ?_;simp(maxSteps:=999999)only[f3,f3',hU,w1,Int.toNat_natCast,↓X4,wA,seval,zA,qA,qC,wN];exact next i _ (by omega) (by omega) (XT (m:=1) (Nat.zero_le _) rfl (by simp[zA,qA,qC,wN,JN,hrn',Xm,X8,Qs,I]) (by simp[zA,qA,qC,wN,JN,hrn',Xw]) (by simp[zA,qA,qC,wN,JN,hrn',X8,Qs,I]) (by simp[zA,qA,qC,wN,JN,hrn',XW]) (by simp[zA,qA,qC,wN,JN,hrn',XW]) (by simp[zA,qA,qC,wN,JN,hrn',XW]))
   ·have g1:(((R:Int)-B).sign<0)=False:=eq_false hlt
    simp(maxSteps:=999999)only[g1,↓X4,wA,seval,zA,qA,qC,wN];refine Xj (XS (X9 A) (X9 B) B i R) (fun p=>0≤p.1∧p.1≤Q∧Q≤p.2∧p.2<1000000000) (fun p=>(p.2-p.1).toNat) (0,999999999) ⟨Int.le_refl 0,q0,by simp only;omega,by simp only;omega⟩ ?_ ?_
    ·exact(XT (m:=1) (Nat.zero_le _) rfl (by simp[zA,qA,qC,wN,XS,Xm,X8,Qs,I]) (by simp[zA,qA,qC,wN,XS,Xw]) (by simp[zA,qA,qC,wN,XS,X8,Qs,I]) (by simp[zA,qA,qC,wN,XS,XW]) (by simp[zA,qA,qC,wN,XS,XW]) (by simp[zA,qA,qC,wN,XS,XW]))
    rintro⟨lo,hi⟩ ⟨h1,h2,h3,h4⟩ next2;simp only at h1 h2 h3 h4;by_cases hlh:lo<hi
    ·obtain⟨mid,hmid⟩:∃mid,mid=(lo+hi+1)/2:=⟨_,rfl⟩
     have k1:IntKind.i64.wrap (lo+hi)=lo+hi:=by rw[IntKind.wrap_i64];omega
     have k2:IntKind.i64.wrap (lo+hi+1)=lo+hi+1:=by rw[IntKind.wrap_i64];omega
     have k3:IntKind.i64.wrap ((lo+hi+1).tdiv 2)=mid:=by rw[Int.tdiv_eq_ediv_of_nonneg (by omega),←hmid,IntKind.wrap_i64];omega
     have k4:IntKind.i64.wrap (mid-1)=mid-1:=by rw[IntKind.wrap_i64];omega
     have j1:(lo<hi)=True:=eq_true hlh;obtain⟨ct,cc⟩:=XA mid (by omega) (by omega);by_cases hm:(B:Int)*mid≤R
     ·have j2:(((B:Int)*mid-R).sign≤0)=True:=eq_true (by
       rcases Int.lt_or_eq_of_le hm with h |h
       ·rw[Int.sign_eq_neg_one_of_neg (by omega)];omega
       ·rw[h,Int.sub_self];simp)
      have hq:mid≤Q:=by
       apply Classical.byContradiction;intro hh;have:(B:Int)*(Q+1)≤B*mid:=Int.mul_le_mul_of_nonneg_left (by omega) (by omega);omega
      refine Xk ?_;simp(maxSteps:=999999)only[XS,j1,k1,k2,k3,Int.reduceEq,↓X4,wA,seval,zA,qA,qC,wN];refine X1 ct rfl ?_;simp(maxSteps:=999999)only[k1,k2,k3,↓X4,wA,seval,zA,qA,qC,wN];refine X1 cc rfl ?_;simp(maxSteps:=999999)only[j2,↓X4,wA,seval,zA,qA,qC,wN];exact next2 (mid,hi) _ ⟨by simp only;omega,hq,h3,h4⟩ (by simp only;omega) (Xi rfl (by simp[XS,Xm,X8,Qs,I]) (by simp[XS,Xw]) rfl)
     ·have j2:(((B:Int)*mid-R).sign≤0)=False:=eq_false (by
       rw[Int.sign_eq_one_of_pos (by omega)];omega)
      have hq:Q≤mid-1:=by
       apply Classical.byContradiction;intro hh;have:(B:Int)*mid≤B*Q:=Int.mul_le_mul_of_nonneg_left (by omega) (by omega);omega
      refine Xk ?_;simp(maxSteps:=999999)only[XS,j1,k1,k2,k3,Int.reduceEq,↓X4,wA,seval,zA,qA,qC,wN];refine X1 ct rfl ?_;simp(maxSteps:=999999)only[k1,k2,k3,↓X4,wA,seval,zA,qA,qC,wN];refine X1 cc rfl ?_;simp(maxSteps:=999999)only[j2,k4,↓X4,wA,seval,zA,qA,qC,wN];exact next2 (lo,mid-1) _ ⟨h1,h2,hq,by simp only;omega⟩ (by simp only;omega) (Xi rfl (by simp[XS,Xm,X8,Qs,I]) (by simp[XS,Xw]) rfl)
    ·obtain rfl:lo=Q:=by omega
     have j1:(lo<hi)=False:=eq_false hlh;obtain⟨ct,_⟩:=XA lo (by omega) (by omega);refine Xk ?_;simp(maxSteps:=999999)only[XS,j1,↓X4,wA,seval,zA,qA,qC,wN];refine X1 ct rfl ?_;simp(maxSteps:=999999)only[↓X4,wA,seval,zA,qA,qC,wN];refine X1 cm rfl ?_;simp(maxSteps:=999999)only[↓X4,wA,seval,zA,qA,qC,wN];refine X1 cn rfl ?_;simp(maxSteps:=999999)only[f3,f3',hU,w1,Int.toNat_natCast,↓X4,wA,seval,zA,qA,qC,wN];exact next i _ (by omega) (by omega) (XT (m:=1) (Nat.zero_le _) rfl (by simp[zA,qA,qC,wN,JN,hrn',Xm,X8,Qs,I]) (by simp[zA,qA,qC,wN,JN,hrn',Xw]) (by simp[zA,qA,qC,wN,JN,hrn',X8,Qs,I]) (by simp[zA,qA,qC,wN,JN,hrn',XW]) (by simp[zA,qA,qC,wN,JN,hrn',XW]) (by simp[zA,qA,qC,wN,JN,hrn',XW]))
  ·
   obtain⟨m,hm⟩:∃m,m=(X9 r).length:=⟨_,rfl⟩
   have hm0:m≠0:=fun h=>hrz (digs_len_zero.1 (by omega))
   have dR:X9 R=(x:Int) :: X9 r:=by
    rw[B9 (by omega),show R%1000000000=x by omega,show R/1000000000=r by omega]
   have hlR:1+m=(X9 R).length:=by rw[dR];simp;omega
   have hfj:∀j,j<1+m→Qf 1 (Xf [.int .i64 (x:Int)]) m (QL I 0 (X9 r)) j=I ((X9 R).getD j 0):=by
    intro j hj;rw[dR];cases j with
    |zero=>simp[Qf,Xf,I]
    |succ j =>
     unfold Qf;rw[if_neg (by omega),if_pos hj,show j+1-1=j by omega,AL];rfl
   have hnz:(X9 R).getD m 0≠0:=by
    have:=(XV R).2 (by rw[dR];simp);rwa[←hlR,show 1+m-1=m by omega]at this
   have hfl:Qf 1 (Xf [.int .i64 (x:Int)]) m (QL I 0 (X9 r)) (1+m-1)=.int .i64 ((X9 R).getD m 0):=by
    rw[show 1+m-1=m by omega,hfj m (by omega)];rfl
   have cno:=Uv false (Dt (X9 A) B (i+1)) (X9 A).length (1+m) _ _ hfl hnz (by omega) (by omega) (fun j hj=>by rw[hfj j hj];exact uq _ _);have hw:∀H:List AO,H[1]?=some (.con 0 (1+m) (Qf 1 (Xf [.int .i64 (x:Int)]) m (QL I 0 (X9 r))))→Ke H (.osl 1 0 1 0 (1+m)) (X8 (X9 R)):=by
    intro H ho;show Ke H _ (.sl (X9 R).length (X9 R).length (QL I 0 (X9 R)) false);rw[←hlR];exact Zc ho (Nat.le_refl _) (fun h=>by omega) fun j hj=>by rw[hfj j hj];exact XL _ _
   have f5:(m=0)=False:=eq_false hm0;have hrz':(JV (X9 A) B (i+1)).toNat=r:=by omega
   refine Xk ?_;simp(maxSteps:=999999)only[JN,e1,e0,eA,f3,hrz',←hm,f5,Int.toNat_natCast,↓X4,wA,seval,zA,qA,qC,wN];refine⟨⟨by omega,by omega,by omega⟩,XJ rfl cno (fun _ _ _ _=>Iff.rfl) (fun id=>?_) ⟨Weak.rfl' _,Weak.rfl' _,trivial⟩ ?_⟩
   ·match id with
    |0=>simp
    |1=>simp
    |id+2=>simp
   simp(maxSteps:=999999)only[↓X4,wA,seval,zA,qA,qC,wN];refine Nl cc0 rfl ⟨UT rfl rfl hlR (by omega) (fun j hj=>hfj j (by omega)),Q1 (Xc _) rfl,trivial⟩ (gx _ _) ?_;by_cases hlt:((R:Int)-B).sign<0
   ·have g1:(((R:Int)-B).sign<0)=True:=eq_true hlt
    have hQ0:Q=0:=by
     have:=Int.sign_neg_iff.1 hlt;rw[hQd];exact Int.ediv_eq_zero_of_lt (by omega) (by omega)
    simp(maxSteps:=999999)only[g1,↓X4,wA,seval,zA,qA,qC,wN];refine Xj (XS (X9 A) (X9 B) B i R) (fun p=>0≤p.1∧p.1≤Q∧Q≤p.2∧p.2<1000000000) (fun p=>(p.2-p.1).toNat) (0,0) ⟨Int.le_refl 0,q0,by simp only;omega,by simp only;omega⟩ ?_ ?_
    ·refine(XC 1 rfl).trans ((DI 9 (X8 (X9 R)) (by simp) (hw _ rfl)).trans (XT (m:=1) (Nat.zero_le _) rfl (by simp[zA,qA,qC,wN,XS,Xm,X8,Qs,I]) (by simp[zA,qA,qC,wN,XS,Xw]) (by simp[zA,qA,qC,wN,XS,X8,Qs,I]) (by simp[zA,qA,qC,wN,XS,XW]) (by simp[zA,qA,qC,wN,XS,XW]) (by simp[zA,qA,qC,wN,XS,XW])))
    rintro⟨lo,hi⟩ ⟨h1,h2,h3,h4⟩ next2;simp only at h1 h2 h3 h4;by_cases hlh:lo<hi
    ·obtain⟨mid,hmid⟩:∃mid,mid=(lo+hi+1)/2:=⟨_,rfl⟩
     have k1:IntKind.i64.wrap (lo+hi)=lo+hi:=by rw[IntKind.wrap_i64];omega
     have k2:IntKind.i64.wrap (lo+hi+1)=lo+hi+1:=by rw[IntKind.wrap_i64];omega
     have k3:IntKind.i64.wrap ((lo+hi+1).tdiv 2)=mid:=by rw[Int.tdiv_eq_ediv_of_nonneg (by omega),←hmid,IntKind.wrap_i64];omega
     have k4:IntKind.i64.wrap (mid-1)=mid-1:=by rw[IntKind.wrap_i64];omega
     have j1:(lo<hi)=True:=eq_true hlh;obtain⟨ct,cc⟩:=XA mid (by omega) (by omega);by_cases hm:(B:Int)*mid≤R
     ·have j2:(((B:Int)*mid-R).sign≤0)=True:=eq_true (by
       rcases Int.lt_or_eq_of_le hm with h |h
       ·rw[Int.sign_eq_neg_one_of_neg (by omega)];omega
       ·rw[h,Int.sub_self];simp)
      have hq:mid≤Q:=by
       apply Classical.byContradiction;intro hh;have:(B:Int)*(Q+1)≤B*mid:=Int.mul_le_mul_of_nonneg_left (by omega) (by omega);omega
      refine Xk ?_;simp(maxSteps:=999999)only[XS,j1,k1,k2,k3,Int.reduceEq,↓X4,wA,seval,zA,qA,qC,wN];refine X1 ct rfl ?_;simp(maxSteps:=999999)only[k1,k2,k3,↓X4,wA,seval,zA,qA,qC,wN];refine X1 cc rfl ?_;simp(maxSteps:=999999)only[j2,↓X4,wA,seval,zA,qA,qC,wN];exact next2 (mid,hi) _ ⟨by simp only;omega,hq,h3,h4⟩ (by simp only;omega) (Xi rfl (by simp[XS,Xm,X8,Qs,I]) (by simp[XS,Xw]) rfl)
     ·have j2:(((B:Int)*mid-R).sign≤0)=False:=eq_false (by
       rw[Int.sign_eq_one_of_pos (by omega)];omega)
      have hq:Q≤mid-1:=by
       apply Classical.byContradiction;intro hh;have:(B:Int)*mid≤B*Q:=Int.mul_le_mul_of_nonneg_left (by omega) (by omega);omega
      refine Xk ?_;simp(maxSteps:=999999)only[XS,j1,k1,k2,k3,Int.reduceEq,↓X4,wA,seval,zA,qA,qC,wN];refine X1 ct rfl ?_;simp(maxSteps:=999999)only[k1,k2,k3,↓X4,wA,seval,zA,qA,qC,wN];refine X1 cc rfl ?_;simp(maxSteps:=999999)only[j2,k4,↓X4,wA,seval,zA,qA,qC,wN];exact next2 (lo,mid-1) _ ⟨h1,h2,hq,by simp only;omega⟩ (by simp only;omega) (Xi rfl (by simp[XS,Xm,X8,Qs,I]) (by simp[XS,Xw]) rfl)
    ·obtain rfl:lo=Q:=by omega
     have j1:(lo<hi)=False:=eq_false hlh;obtain⟨ct,_⟩:=XA lo (by omega) (by omega);refine Xk ?_;simp(maxSteps:=999999)only[XS,j1,↓X4,wA,seval,zA,qA,qC,wN];refine X1 ct rfl ?_;simp(maxSteps:=999999)only[↓X4,wA,seval,zA,qA,qC,wN];refine X1 cm rfl ?_;simp(maxSteps:=999999)only[↓X4,wA,seval,zA,qA,qC,wN];refine X1 cn rfl ?_;simp(maxSteps:=999999)only[f3,f3',hU,w1,Int.toNat_natCast,↓X4,wA,seval,zA,qA,qC,wN];exact next i _ (by omega) (by omega) (XT (m:=1) (Nat.zero_le _) rfl (by simp[zA,qA,qC,wN,JN,hrn',Xm,X8,Qs,I]) (by simp[zA,qA,qC,wN,JN,hrn',Xw]) (by simp[zA,qA,qC,wN,JN,hrn',X8,Qs,I]) (by simp[zA,qA,qC,wN,JN,hrn',XW]) (by simp[zA,qA,qC,wN,JN,hrn',XW]) (by simp[zA,qA,qC,wN,JN,hrn',XW]))
   ·have g1:(((R:Int)-B).sign<0)=False:=eq_false hlt
    simp(maxSteps:=999999)only[g1,↓X4,wA,seval,zA,qA,qC,wN];refine Xj (XS (X9 A) (X9 B) B i R) (fun p=>0≤p.1∧p.1≤Q∧Q≤p.2∧p.2<1000000000) (fun p=>(p.2-p.1).toNat) (0,999999999) ⟨Int.le_refl 0,q0,by simp only;omega,by simp only;omega⟩ ?_ ?_
    ·refine(XC 1 rfl).trans ((DI 9 (X8 (X9 R)) (by simp) (hw _ rfl)).trans (XT (m:=1) (Nat.zero_le _) rfl (by simp[zA,qA,qC,wN,XS,Xm,X8,Qs,I]) (by simp[zA,qA,qC,wN,XS,Xw]) (by simp[zA,qA,qC,wN,XS,X8,Qs,I]) (by simp[zA,qA,qC,wN,XS,XW]) (by simp[zA,qA,qC,wN,XS,XW]) (by simp[zA,qA,qC,wN,XS,XW])))
    rintro⟨lo,hi⟩ ⟨h1,h2,h3,h4⟩ next2;simp only at h1 h2 h3 h4;by_cases hlh:lo<hi
    ·obtain⟨mid,hmid⟩:∃mid,mid=(lo+hi+1)/2:=⟨_,rfl⟩
     have k1:IntKind.i64.wrap (lo+hi)=lo+hi:=by rw[IntKind.wrap_i64];omega
     have k2:IntKind.i64.wrap (lo+hi+1)=lo+hi+1:=by rw[IntKind.wrap_i64];omega
     have k3:IntKind.i64.wrap ((lo+hi+1).tdiv 2)=mid:=by rw[Int.tdiv_eq_ediv_of_nonneg (by omega),←hmid,IntKind.wrap_i64];omega
     have k4:IntKind.i64.wrap (mid-1)=mid-1:=by rw[IntKind.wrap_i64];omega
     have j1:(lo<hi)=True:=eq_true hlh;obtain⟨ct,cc⟩:=XA mid (by omega) (by omega);by_cases hm:(B:Int)*mid≤R
     ·have j2:(((B:Int)*mid-R).sign≤0)=True:=eq_true (by
       rcases Int.lt_or_eq_of_le hm with h |h
       ·rw[Int.sign_eq_neg_one_of_neg (by omega)];omega
       ·rw[h,Int.sub_self];simp)
      have hq:mid≤Q:=by
       apply Classical.byContradiction;intro hh;have:(B:Int)*(Q+1)≤B*mid:=Int.mul_le_mul_of_nonneg_left (by omega) (by omega);omega
      refine Xk ?_;simp(maxSteps:=999999)only[XS,j1,k1,k2,k3,Int.reduceEq,↓X4,wA,seval,zA,qA,qC,wN];refine X1 ct rfl ?_;simp(maxSteps:=999999)only[k1,k2,k3,↓X4,wA,seval,zA,qA,qC,wN];refine X1 cc rfl ?_;simp(maxSteps:=999999)only[j2,↓X4,wA,seval,zA,qA,qC,wN];exact next2 (mid,hi) _ ⟨by simp only;omega,hq,h3,h4⟩ (by simp only;omega) (Xi rfl (by simp[XS,Xm,X8,Qs,I]) (by simp[XS,Xw]) rfl)
     ·have j2:(((B:Int)*mid-R).sign≤0)=False:=eq_false (by
       rw[Int.sign_eq_one_of_pos (by omega)];omega)
      have hq:Q≤mid-1:=by
       apply Classical.byContradiction;intro hh;have:(B:Int)*mid≤B*Q:=Int.mul_le_mul_of_nonneg_left (by omega) (by omega);omega
      refine Xk ?_;simp(maxSteps:=999999)only[XS,j1,k1,k2,k3,Int.reduceEq,↓X4,wA,seval,zA,qA,qC,wN];refine X1 ct rfl ?_;simp(maxSteps:=999999)only[k1,k2,k3,↓X4,wA,seval,zA,qA,qC,wN];refine X1 cc rfl ?_;simp(maxSteps:=999999)only[j2,k4,↓X4,wA,seval,zA,qA,qC,wN];exact next2 (lo,mid-1) _ ⟨h1,h2,hq,by simp only;omega⟩ (by simp only;omega) (Xi rfl (by simp[XS,Xm,X8,Qs,I]) (by simp[XS,Xw]) rfl)
    ·obtain rfl:lo=Q:=by omega
     have j1:(lo<hi)=False:=eq_false hlh;obtain⟨ct,_⟩:=XA lo (by omega) (by omega);refine Xk ?_;simp(maxSteps:=999999)only[XS,j1,↓X4,wA,seval,zA,qA,qC,wN];refine X1 ct rfl ?_;simp(maxSteps:=999999)only[↓X4,wA,seval,zA,qA,qC,wN];refine X1 cm rfl ?_;simp(maxSteps:=999999)only[↓X4,wA,seval,zA,qA,qC,wN];refine X1 cn rfl ?_;simp(maxSteps:=999999)only[f3,f3',hU,w1,Int.toNat_natCast,↓X4,wA,seval,zA,qA,qC,wN];exact next i _ (by omega) (by omega) (XT (m:=1) (Nat.zero_le _) rfl (by simp[zA,qA,qC,wN,JN,hrn',Xm,X8,Qs,I]) (by simp[zA,qA,qC,wN,JN,hrn',Xw]) (by simp[zA,qA,qC,wN,JN,hrn',X8,Qs,I]) (by simp[zA,qA,qC,wN,JN,hrn',XW]) (by simp[zA,qA,qC,wN,JN,hrn',XW]) (by simp[zA,qA,qC,wN,JN,hrn',XW]))
end
end Go.Ab.N
