/- Contracts of functions, for every argument that fits. -/
import Derived.Test.YtcmfnmceomhgcaaGreatC4
import Derived.Test.YtcmfnmceomhgcaaGreatAb4
open And renaming intro → XM
set_option linter.unusedSimpArgs false
set_option linter.unusedVariables false
open Nat renaming reducePow → Y1, reduceLT → Y2, reduceLeDiff → Y3, reduceEqDiff → Y4, reduceAdd → Y5, reduceMul → Y6, reduceSub → Y7, reduceBEq → Y8, reduceDiv → Y9, reduceMod → YA
open Bool renaming and_false→ZEU
open Go.Ab.AS renaming start→P'
open Go.IntKind renaming i64→Q_
open Int renaming gcd→ZAd,reduceLT→ZAu,reduceAdd→ZCJ,natAbs_ediv_le_natAbs→ZDO,natAbs_zero→ZEV
open Nat renaming gcd_comm→ZBm,gcd_zero_right→ZCx
open Rat renaming divInt→O_,sub_eq_add_neg→ZEG
namespace Go.Ab.N
open Go Go.RowKit Go.Proofs
theorem a_:type_of%@List.mem_singleton:=@List.mem_singleton
theorem h_:type_of%@List.nil_append:=@List.nil_append
theorem ZAx:type_of%@Nat.mul_le_mul:=@Nat.mul_le_mul
noncomputable section
set_option maxRecDepth 10000
set_option maxHeartbeats 2000000
open Classical
theorem N9 (x y:Int)(hx:bl x<1000000000)(hy:bl y<1000000000)(hy0:y≠0):Fn Tryz.prog 158 [zA x,zA y] (.tup [zA (x/y),zA (x%y)]):=by
 obtain⟨L,dL,vL,lL,cd⟩:=Vj x.natAbs y.natAbs hx hy (by omega);obtain⟨q,hq⟩:∃q,q=x.natAbs/y.natAbs:=⟨_,rfl⟩
 obtain⟨r,hr⟩:∃r,r=x.natAbs%y.natAbs:=⟨_,rfl⟩
 have hry:r<y.natAbs:=by rw[hr];exact z_ _ (by omega)
 have hqx:q≤x.natAbs:=by rw[hq];exact Nat.div_le_self _ _
 rw[←hq]at vL;rw[←hr]at cd;have lr:(Xb r).length<1000000000:=by
  have:=Jd (y:=(r:Int)) (z:=y) (by omega);rw[KC]at this;omega
 have ly:(Xb y.natAbs).length<1000000000:=hy;have lry:(Xb r).length≤(Xb y.natAbs).length:=by
  have:=Jd (y:=(r:Int)) (z:=y) (by omega);rw[KC]at this;exact this
 have y1:((Xb y.natAbs).length=0)=False:=Q' (fun h=>by have:=TAA.1 h;omega);have y2:(((Xb y.natAbs).length:Int)=0)=False:=Q' (fun h=>by have:=TAA.1 (show(Xb y.natAbs).length=0 by omega);omega);obtain⟨q1,r1,h1⟩:∃q1 r1,if x<0∧r≠0 then q1=q+1∧r1=y.natAbs-r else q1=q∧r1=r:=by
  by_cases h:x<0∧r≠0
  ·exact⟨q+1,y.natAbs-r,by rw[N_ h];exact⟨rfl,rfl⟩⟩
  ·exact⟨q,r,by rw[M_ h];exact⟨rfl,rfl⟩⟩
 obtain⟨e1,e2⟩:=Mp x y hy0 q r hq hr q1 r1 h1;obtain⟨s,hsg⟩:∃s,s=(decide (x<0) != decide (y<0)):=⟨_,rfl⟩
 have TEE:(!(decide (x<0) == decide (y<0)))=s:=by rw[hsg];cases decide (x<0) <;> cases decide (y<0) <;> rfl
 have c1:=Ku s L dL (by omega);rw[vL]at c1;have c2:=Ku false (Xb r) (XZ r) (by omega);rw[XG,show Z9 false (r:Int)=(r:Int)from rfl,Ja]at c2;obtain⟨Q,hQ⟩:∃Q,Q=zA (x/y):=⟨_,rfl⟩
 obtain⟨R,hR⟩:∃R,R=zA (x%y):=⟨_,rfl⟩
 have sQ:A_ Q:=hQ▸XT _;have sR:A_ R:=hR▸XT _;rw[←hQ,←hR];rw[e1,←hsg]at hQ;rw[e2,Ja]at hR;have g1:∀n:Nat,(0<(Xb n).length)=(n≠0):=fun n=>propext (by have:=@TAA n;omega)
 have fin:∀ {s':AS},ZX Tryz.prog s' (.cell 4 26)=some (zA (Z9 s q1))→ZX Tryz.prog s' (.cell 5 26)=some (.agg [.bool false,X8 (Xb r1)]) →
   TAC (JK Tryz.prog Tryz.f158 [9,10000,100000009] [] (.tup [Q,R])) s':=fun h1 h2=>FA rfl h1 h2 (XU sQ hQ.symm) (XU sR hR.symm)
 by_cases hc:x<0∧r≠0
 ·obtain⟨hx0,hr0⟩:=hc
  rw[N_ ⟨hx0,hr0⟩]at h1;obtain⟨rfl,rfl⟩:=h1;have c3:=Ku s [1] (Zw.2 ⟨⟨by omega,by omega⟩,CJ⟩) (by simp);rw[show val [(1:Int)]=1 by simp[val]]at c3;have bq:bl (Z9 s (q:Int))<room:=by
   have h2:=Jd (y:=Z9 s (q:Int)) (z:=x) (by unfold Z9;split <;> omega);unfold room;omega
  have c4:=Tr (Z9 s (q:Int)) (Z9 s 1) bq (by
   have:=ZZ (n:=Z9 s 1) (by unfold Z9;split <;> exact⟨by omega,by omega⟩);unfold room;omega)
  rw[show Z9 s (q:Int)+Z9 s 1=Z9 s ((q+1:Nat):Int)by unfold Z9;split <;> omega]at c4;have cm:=FB (Xb y.natAbs) (Xb r) (XZ _) (XZ _) (by omega) lry (by rw[XG,XG];omega);have vm:=Cm (XZ y.natAbs) (XZ r) lry (by rw[XG,XG];omega);rw[XG,XG]at vm;have c5:=Ku false (A6 (Xb y.natAbs) (Xb r)) (Cl (XZ _) (XZ _)) (by unfold A6;rw[Qp];omega);rw[vm,show Z9 false ((y.natAbs:Int)-r)=((y.natAbs-r:Nat):Int)by unfold Z9;simp;omega,Ja]at c5;have f1:(x<0)=True:=K_ hx0;have f2:(0<(Xb r).length)=True:=K_ (by rw[g1];exact hr0);have f3:(0<((Xb r).length:Int))=True:=K_ (by have:=of_eq_true f2;omega);have hsT:(!(true == decide (y<0)))=s:=by rw[←TEE,Y' hx0]
  refine Fq Tryz.call158 Tryz.func158 10 [] [9,10000,100000009] [] (by simp[KJ,Xa,Xj]) (Xk ?_);simp(maxSteps:=999999)only[P',↓X6,wA,seval,zA,qA,qC,wN];simp only[y1,y2,f1,↓X6,wA,seval,zA,qA,qC,wN];refine X2 cd rfl ?_;simp only[f1,decide_true,hsT,↓X6,wA,seval,zA,qA,qC,wN];refine X2 c1 rfl ?_;simp only[f1,f2,f3,decide_true,↓X6,wA,seval,zA,qA,qC,wN];refine X2 c2 rfl ?_;simp only[f1,f2,f3,hsT,decide_true,↓X6,wA,seval,zA,qA,qC,wN];refine X0 c3 ⟨X' _,Ce rfl rfl,trivial⟩ ?_;simp only[↓X6,wA,seval,zA,qA,qC,wN];refine X2 c4 rfl ?_;simp only[↓X6,wA,seval,zA,qA,qC,wN];refine X2 cm rfl ?_;simp only[↓X6,wA,seval,zA,qA,qC,wN];refine X2 c5 rfl ?_;simp only[↓X6,wA,seval,zA,qA,qC,wN];exact fin (Xs Q8 rfl rfl rfl) (Xs Q8 rfl rfl rfl)
 rw[M_ hc]at h1;obtain⟨rfl,rfl⟩:=h1;have zr:x<0→(0<(Xb r1).length)=False:=fun h=>Q' (by rw[g1];exact fun h2=>hc ⟨h,h2⟩)
 by_cases hx0:x<0
 ·have f1:(x<0)=True:=K_ hx0
  have f2:=zr hx0;have f3:(0<((Xb r1).length:Int))=False:=Q' (by have:=of_eq_false f2;omega);have hsT:(!(true == decide (y<0)))=s:=by rw[←TEE,Y' hx0]
  refine Fq Tryz.call158 Tryz.func158 10 [] [9,10000,100000009] [] (by simp[KJ,Xa,Xj]) (Xk ?_);simp(maxSteps:=999999)only[P',↓X6,wA,seval,zA,qA,qC,wN];simp only[y1,y2,f1,↓X6,wA,seval,zA,qA,qC,wN];refine X2 cd rfl ?_;simp only[f1,f2,f3,decide_true,hsT,↓X6,wA,seval,zA,qA,qC,wN];refine X2 c1 rfl ?_;simp only[f1,f2,f3,decide_true,↓X6,wA,seval,zA,qA,qC,wN];refine X2 c2 rfl ?_;simp only[f1,f2,f3,decide_true,↓X6,wA,seval,zA,qA,qC,wN];exact fin (Xs Q8 rfl rfl rfl) (Xs Q8 rfl rfl rfl)
 ·have f1:(x<0)=False:=Q' hx0
  have hsT:(!(false == decide (y<0)))=s:=by rw[←TEE,Y_ hx0]
  refine Fq Tryz.call158 Tryz.func158 10 [] [9,10000,100000009] [] (by simp[KJ,Xa,Xj]) (Xk ?_);simp(maxSteps:=999999)only[P',↓X6,wA,seval,zA,qA,qC,wN];simp only[y1,y2,f1,↓X6,wA,seval,zA,qA,qC,wN];refine X2 cd rfl ?_;simp only[f1,decide_false,hsT,↓X6,wA,seval,zA,qA,qC,wN];refine X2 c1 rfl ?_;simp only[f1,decide_false,↓X6,wA,seval,zA,qA,qC,wN];refine X2 c2 rfl ?_;simp only[f1,decide_false,↓X6,wA,seval,zA,qA,qC,wN];exact fin (Xs Q8 rfl rfl rfl) (Xs Q8 rfl rfl rfl)
def Z5 (x y:Int)(p:Nat×Nat):AS :=
  ⟨12,[],[.any,.any,.ref 0 0 0,.ref 1 0 0,.ref 2 0 0,.ref 3 0 0,.ref 4 0 0,.any,.any,.any,.any,.any],[],
    [.row 0 2 (Xf [.bool (decide (x<0)),X8 (Xb x.natAbs)]),.row 0 2 (Xf [.bool (decide (y<0)),X8 (Xb y.natAbs)]),.row 0 2 (Xf [.bool false,.sl 0 0 (fun _=>.any) true]),
     .row 0 2 (Xf [.bool false,X8 (Xb p.1)]),.row 0 2 (Xf [.bool false,X8 (Xb p.2)])]⟩
def DW (x y:Int)(A B:Nat)(p:Nat×Nat):AS :=
  ⟨12,[],[.any,.any,.ref 0 0 0,.ref 1 0 0,.ref 2 0 0,.ref 3 0 0,.ref 4 0 0,I p.1,I p.2,.any,.any,.any],[],
    [.row 0 2 (Xf [.bool (decide (x<0)),X8 (Xb x.natAbs)]),.row 0 2 (Xf [.bool (decide (y<0)),X8 (Xb y.natAbs)]),.row 0 2 (Xf [.bool false,.sl 0 0 (fun _=>.any) true]),
     .row 0 2 (Xf [.bool false,X8 (Xb A)]),.row 0 2 (Xf [.bool false,X8 (Xb B)])]⟩
theorem TF (x y:Int)(hx:bl x<1000000000)(hy:bl y<1000000000):Fn Tryz.prog 157 [zA x,zA y] (zA (ZAd x y)):=by
 have ofC:∀n:Nat,(Xb n).length<1000000002→Fn Tryz.prog 156 [.bool false,X8 (Xb n)] (.agg [.bool false,X8 (Xb n)]):=fun n h=>by
  have:=Ku false (Xb n) (XZ n) (by omega);rw[XG]at this;rw[←Ja];exact this
 unfold bl at hx hy;have cx:=ofC x.natAbs (by omega);have cy:=ofC y.natAbs (by omega);obtain⟨R,hR⟩:∃R,R=zA (ZAd x y):=⟨_,rfl⟩
 have sR:A_ R:=hR▸XT _;rw[←hR];rw[Ja]at hR;refine Fq Tryz.call157 Tryz.func157 12 [] [] [] (by simp[KJ,Xa,Xj]) (Xk ?_);simp(maxSteps:=999999)only[P',↓X6,wA,seval,zA,qA,qC,wN];refine X2 cx rfl ?_;simp only[↓X6,wA,seval,zA,qA,qC,wN];refine X2 cy rfl ?_;simp only[↓X6,wA,seval,zA,qA,qC,wN];refine Xi (Z5 x y) (qx x y) (fun p=>p.2) (x.natAbs,y.natAbs) ⟨rfl,hx,hy⟩ ?_ ?_
 ·exact Xh rfl (by simp[Z5,Xm]) (by simp[Z5,Xu]) rfl
 rintro⟨A,B⟩ ⟨g1,g2,g3⟩ next
 simp only at g1 g2 g3;by_cases hB:B=0
 ·have f1:(0<(Xb B).length)=False:=Q' (by have:=@TAA B;omega)
  have f2:(0<((Xb B).length:Int))=False:=Q' (by have:=@TAA B;omega);refine Xk ?_;simp only[Z5,f1,f2,↓X6,wA,seval,zA,qA,qC,wN];refine Ql rfl Q8 rfl rfl rfl hR sR ?_;rw[hB,ZCx]at g1;rw[←g1];exact⟨X' _,X' _,trivial⟩
 have f1:(0<(Xb B).length)=True:=K_ (by have:=@TAA B;omega);have f2:(0<((Xb B).length:Int))=True:=K_ (by have:=@TAA B;omega);by_cases hAB:(Xb A).length≤2∧(Xb B).length≤2
 ·have c1:=LH _ (XZ A) hAB.1
  have c2:=LH _ (XZ B) hAB.2;rw[XG]at c1 c2;have k1:(((Xb A).length:Int)≤2)=True:=K_ (by omega);have k2:(((Xb B).length:Int)≤2)=True:=K_ (by omega);have l1:=Ax hAB.1;have l2:=Ax hAB.2;refine Xk ?_;simp only[Z5,f1,f2,k1,k2,↓X6,wA,seval,zA,qA,qC,wN];refine X2 c1 rfl ?_;simp only[↓X6,wA,seval,zA,qA,qC,wN];refine X2 c2 rfl ?_;simp only[↓X6,wA,seval,zA,qA,qC,wN];refine Xi (DW x y A B) (fun p=>Nat.gcd p.1 p.2=ZAd x y∧(p.1:Int)<1000000000000000000∧(p.2:Int)<1000000000000000000) (fun p=>p.2) (A,B) ⟨g1,l1,l2⟩ (Xh rfl (by simp[DW,Xm,I]) (by simp[DW,Xu]) rfl) ?_;rintro⟨m,n⟩ ⟨h1,h2,h3⟩ TAS;simp only at h1 h2 h3;by_cases hn:n=0
  ·have j1:(0<(n:Int))=False:=Q' (by omega)
   have j1':(0<n)=False:=Q' (by omega);have hm:m=ZAd x y:=by rw[hn,ZCx]at h1;exact h1
   have cu:=DY (m:Int) ⟨by omega,by omega⟩;rw[Ja]at cu;refine Xk ?_;simp only[DW,j1,j1',↓X6,wA,seval,zA,qA,qC,wN];refine X2 cu rfl ?_;simp only[↓X6,wA,seval,zA,qA,qC,wN];refine Ql rfl Q8 rfl rfl rfl hR sR ?_;rw[←hm];exact⟨X' _,X' _,trivial⟩
  ·have j1:(0<(n:Int))=True:=K_ (by omega)
   have j1':(0<n)=True:=K_ (by omega);have j2:((n:Int)=0)=False:=Q' (by omega);have e2:(m:Int).tmod n=((m%n:Nat):Int):=rfl;have hlt:m%n<n:=z_ _ (by omega);refine Xk ?_;simp only[DW,j1,j1',j2,e2,↓X6,wA,seval,zA,qA,qC,wN];refine TAS (n,m%n) _ ⟨?_,h3,by simp only;omega⟩ hlt (Xh rfl (by simp[DW,Xm,I]) (by simp[DW,Xu]) rfl);simp only;rw[←h1,ZBm m n,Nat.gcd_rec n m,ZBm]
 ·have cd:=N9 (A:Int) (B:Int) (by rw[KC];exact g2) (by rw[KC];exact g3) (by omega)
  rw[show(A:Int)/B=((A/B:Nat):Int)from rfl,show(A:Int)%B=((A%B:Nat):Int)from rfl,Ja,Ja,Ja,Ja]at cd;have hlt:A%B<B:=z_ _ (by omega);have TC8:qx x y (B,A%B):=by
   refine⟨?_,g3,?_⟩
   ·simp only
    rw[←g1,ZBm A B,Nat.gcd_rec B A,ZBm]
   ·have:=Jd (y:=((A%B:Nat):Int)) (z:=(B:Int)) (by omega)
    rw[KC,KC]at this;simp only;omega
  by_cases hA2:(Xb A).length≤2
  ·have k1:(((Xb A).length:Int)≤2)=True:=K_ (by omega)
   have k2:(((Xb B).length:Int)≤2)=False:=Q' fun h=>hAB ⟨hA2,by omega⟩
   refine Xk ?_;simp only[Z5,f1,f2,k1,k2,↓X6,wA,seval,zA,qA,qC,wN];refine X2 cd rfl ?_;simp only[↓X6,wA,seval,zA,qA,qC,wN];exact next (B,A%B) _ TC8 hlt (XD (m:=5) (p_ _) rfl (by simp[zA,qA,qC,wN,Z5,Xm,X8,QE,I]) (by simp[zA,qA,qC,wN,Z5,Xu]) (by simp[zA,qA,qC,wN,Z5,X8,QE,I]) (by simp[zA,qA,qC,wN,Z5,XK]) (by simp[zA,qA,qC,wN,Z5,XK]) (by simp[zA,qA,qC,wN,Z5,XK]))
  ·have k1:(((Xb A).length:Int)≤2)=False:=Q' (by omega)
   refine Xk ?_;simp only[Z5,f1,f2,k1,↓X6,wA,seval,zA,qA,qC,wN];refine X2 cd rfl ?_;simp only[↓X6,wA,seval,zA,qA,qC,wN];exact next (B,A%B) _ TC8 hlt (XD (m:=5) (p_ _) rfl (by simp[zA,qA,qC,wN,Z5,Xm,X8,QE,I]) (by simp[zA,qA,qC,wN,Z5,Xu]) (by simp[zA,qA,qC,wN,Z5,X8,QE,I]) (by simp[zA,qA,qC,wN,Z5,XK]) (by simp[zA,qA,qC,wN,Z5,XK]) (by simp[zA,qA,qC,wN,Z5,XK]))
theorem TU (n1 n2:Bool)(a b:List Int)(la:a.length<4611686018427387904)(lb:b.length<4611686018427387904):Fn Tryz.prog 90 [zR n1 a,zR n2 b] (.bool (decide (n1=n2) && decide (a=b))):=by
 obtain⟨V,hV⟩:∃V,V=(decide (n1=n2) && decide (a=b)):=⟨_,rfl⟩
 rw[←hV];have fin:∀ {s:AS} {v:Bool},s.get 4=.bool v→v=V→TAC (JK Tryz.prog Tryz.f90 [] [] (.bool V)) s:=fun h e=>Xp rfl h (X5 _) (by rw[e])
 refine Fq Tryz.call90 Tryz.func90 6 [] [] [] (by simp[Xj]) (Xk ?_);by_cases hn:n1=n2
 rotate_left
 ·have hb:(!(n1 == n2))=true:=by simp[hn]
  simp only[P',zR,hb,↓X6,wA,seval,zA,qA,qC,wN];exact fin rfl (by rw[hV,Y_ hn];rfl)
 subst hn;have hb:(!(n1 == n1))=false:=by simp
 by_cases hl:a.length=b.length
 rotate_left
 ·have f1:((a.length:Int)=b.length)=False:=Q' (by omega)
  have f1':(a.length=b.length)=False:=Q' hl;simp only[P',zR,hb,f1,f1',↓X6,wA,seval,zA,qA,qC,wN];exact fin rfl (by rw[hV,Y_ (show ¬a=b from fun e=>hl (by rw[e])),ZEU])
 have f1:((a.length:Int)=b.length)=True:=K_ (by omega);have f1':(a.length=b.length)=True:=K_ hl;simp only[P',zR,hb,f1,f1',↓X6,wA,seval,zA,qA,qC,wN];refine Xi (fun j:Nat=>⟨6,[],[.any,.any,.ref 0 0 0,.ref 1 0 0,.any,I j],[],[.row 0 2 (Xf [.bool n1,X8 a]),.row 0 2 (Xf [.bool n1,X8 b])]⟩) (fun j=>j≤a.length∧∀i,i<j→a.getD i 0=b.getD i 0) (fun j=>a.length-j) 0 ⟨by omega,by omega⟩
  (ZS (by simp[Xm,X8,QE,I]) rfl) ?_
 rintro j ⟨hj,hno⟩ next
 have w1:=wj j (by omega);by_cases hj2:j<a.length
 ·have f2:((j:Int)<a.length)=True:=K_ (by omega)
  have f3:(j<a.length)=True:=K_ hj2;have f4:(j<b.length)=True:=K_ (by omega);refine Xk ?_;simp only[w1,f2,f3,f4,↓X6,wA,seval,zA,qA,qC,wN];refine⟨fun h=>fin rfl ?_,fun h=>next (j+1) _ ⟨by omega,fun i hi=>?_⟩ (by omega) (ZS (by simp[Xm,X8,QE,I]) rfl)⟩
  ·rw[hV,Y_ (show ¬a=b from fun e=>h (by rw[e])),ZEU]
  ·by_cases e:i=j
   ·rw[e];exact h
   ·exact hno i (by omega)
 ·have f2:((j:Int)<a.length)=False:=Q' (by omega)
  have f3:(j<a.length)=False:=Q' hj2;refine Xk ?_;simp only[w1,f2,f3,↓X6,wA,seval,zA,qA,qC,wN];refine fin rfl ?_;have:a=b:=ZBe hl fun i h1 h2=>by
   have:=hno i (by omega);rw[K',U_ h1,K',U_ h2]at this;exact this
  rw[hV,Y' this];simp
theorem Pl (x y:RQ)(hx:x.sz<4611686018427387904)(hy:y.sz<4611686018427387904):Fn Tryz.prog 26 [x.A,y.A] (.bool (decide (x=y))):=by
 have c1:=TU x.pn y.pn x.pd y.pd (by unfold RQ.sz at hx;omega) (by unfold RQ.sz at hy;omega);have c2:=TU x.qn y.qn x.qd y.qd (by unfold RQ.sz at hx;omega) (by unfold RQ.sz at hy;omega);obtain⟨V,hV⟩:∃V,V=decide (x=y):=⟨_,rfl⟩
 rw[←hV];have e:=RQ.eq_iff x y;obtain⟨B1,hB1⟩:∃B,B=(decide (x.pn=y.pn) && decide (x.pd=y.pd)):=⟨_,rfl⟩
 obtain⟨B2,hB2⟩:∃B,B=(decide (x.qn=y.qn) && decide (x.qd=y.qd)):=⟨_,rfl⟩
 rw[←hB1]at c1;rw[←hB2]at c2;have hVB:V=(B1 && B2):=by
  rw[hV,hB1,hB2];simp only[e,Bool.decide_and]
 refine Fq Tryz.call26 Tryz.func26 5 [] [] [] (by simp[Cy]) (Xk ?_);simp only[P',RQ.A,RQ.L,↓X6,wA,seval,zA,qA,qC,wN];refine X2 c1 rfl ?_;cases B1
 ·simp only[↓X6,wA,seval,zA,qA,qC,wN]
  exact Xp (v:=.bool false) rfl rfl (X5 _) (by rw[hVB];rfl)
 ·simp only[↓X6,wA,seval,zA,qA,qC,wN]
  refine X2 c2 rfl ?_;simp only[↓X6,wA,seval,zA,qA,qC,wN];exact Xp (v:=.bool B2) rfl rfl (X5 _) (by rw[hVB];rfl)
theorem E1 (a b:Rat)(ha:qb a≤rm)(hb:qb b≤rm):Fn Tryz.prog 26 [qA a,qA b] (.bool (decide (a=b))):=by
 unfold rm at ha hb;have h1:=RQ.TBV a;have h2:=RQ.TBV b;have:=Pl (RQ.of a) (RQ.of b) (by omega) (by omega);rw[show decide (RQ.of a=RQ.of b)=decide (a=b)from decide_eq_decide.2 ⟨RQ.TCh,fun h=>by rw[h]⟩]at this;exact this
theorem Td (neg:Bool)(d:List Int):Fn Tryz.prog 160 [zR neg d] (.bool (!neg && decide (d=[1]))):=by
 have TA8:(d=[1])↔d.length=1∧d.getD 0 0=1:=by
  constructor
  ·rintro rfl;exact⟨rfl,rfl⟩
  ·rintro⟨h1,h2⟩
   obtain⟨x,rfl⟩:=ZBk.1 h1;rw[show x=1 from h2]
 obtain⟨V,hV⟩:∃V,V=(!neg && decide (d=[1])):=⟨_,rfl⟩
 rw[←hV];have fin:∀ {s:AS} {v:Bool},s.get 2=.bool v→v=V→TAC (JK Tryz.prog Tryz.f160 [] [] (.bool V)) s:=fun h e=>Xp rfl h (X5 _) (by rw[e])
 by_cases h0:d.length=1
 ·have f1:(d.length=1)=True:=K_ h0
  have f2:((d.length:Int)=1)=True:=K_ (by omega);have f3:(0<d.length)=True:=K_ (by omega);have f4:(0<(d.length:Int))=True:=K_ (by omega);refine Fq Tryz.call160 Tryz.func160 3 [] [] [] (by simp[Xj]) (Xk ?_);cases neg
  all_goals
   simp only[P',zR,f1,f2,f3,f4,↓X6,wA,seval,zA,qA,qC,wN];exact fin rfl (by rw[hV];simp[TA8,h0])
 ·have f1:(d.length=1)=False:=Q' h0
  have f2:((d.length:Int)=1)=False:=Q' (by omega);have hne:¬d=[1]:=fun h=>h0 (TA8.1 h).1
  refine Fq Tryz.call160 Tryz.func160 3 [] [] [] (by simp[Xj]) (Xk ?_);cases neg
  all_goals
   simp only[P',zR,f1,f2,↓X6,wA,seval,zA,qA,qC,wN];exact fin rfl (by rw[hV];simp[hne])
theorem Rk (z:Int):Fn Tryz.prog 160 [zA z] (.bool (decide (z=1))):=by
 have:=Td (decide (z<0)) (Xb z.natAbs);rw[RA]at this;exact this
theorem Fs (p q:Int)(hp:bl p<1000000000)(hq:bl q<1000000000):Fn Tryz.prog 80 [zA p,zA q] (qA (O_ p q)):=by
 obtain⟨R,hR⟩:∃R,R=qA (O_ p q):=⟨_,rfl⟩
 have sR:A_ R:=hR▸Xa _;have zp:(((Xb p.natAbs).length:Int)=0)=(p=0):=propext (by have:=@TAA p.natAbs;omega);have zq:(((Xb q.natAbs).length:Int)=0)=(q=0):=propext (by have:=@TAA q.natAbs;omega);have z0:p=0∨q=0→R=.agg [.bool false,X8 [],.bool false,X8 []]:=by
  intro h;rw[hR,←Ro];rcases h with rfl |rfl
  ·rw[Rat.zero_divInt]
  ·rw[Rat.divInt_zero]
 rw[←hR];by_cases hq0:q=0
 ·have f1:(q=0)=True:=K_ hq0
  refine Fq Tryz.call80 Tryz.func80 10 [] [] [] (by simp[KJ,Xa,Xj]) (Xk ?_);simp(maxSteps:=999999)only[P',↓X6,wA,seval,zA,qA,qC,wN];simp only[zq,f1,↓X6,wA,seval,zA,qA,qC,wN];exact Ql rfl XY rfl rfl rfl (z0 (.inr hq0)) sR ⟨X' _,QG _ _,X' _,QG _ _,trivial⟩
 have f1:(q=0)=False:=Q' hq0;by_cases hp0:p=0
 ·have f3:(p=0)=True:=K_ hp0
  refine Fq Tryz.call80 Tryz.func80 10 [] [] [] (by simp[KJ,Xa,Xj]) (Xk ?_);simp(maxSteps:=999999)only[P',↓X6,wA,seval,zA,qA,qC,wN];simp only[zp,zq,f1,f3,↓X6,wA,seval,zA,qA,qC,wN];exact Ql rfl XY rfl rfl rfl (z0 (.inl hp0)) sR ⟨X' _,QG _ _,X' _,QG _ _,trivial⟩
 have f3:(p=0)=False:=Q' hp0;have cg:=TF p q hp hq;obtain⟨g,hg⟩:∃g:Int,g=ZAd p q:=⟨_,rfl⟩
 have hg0:0<ZAd p q:=Int.gcd_pos_of_ne_zero_right _ hq0;have hgq:bl g≤bl q:=Jd (by
  have:=Nat.le_of_dvd (by omega) (Int.gcd_dvd_natAbs_right p q);omega)
 rw[←hg]at cg;obtain⟨d1,d2,d3⟩:=Ef p q hq0 g hg;have c1:=N9 p g hp (by omega) (by omega);have c2:=N9 q g hq (by omega) (by omega);obtain⟨u,hu⟩:∃u,u=p/g:=⟨_,rfl⟩
 obtain⟨v,hv⟩:∃v,v=q/g:=⟨_,rfl⟩
 have hub:bl u≤bl p:=Jd (by rw[hu];exact ZDO p g);have hvb:bl v≤bl q:=Jd (by rw[hv];exact ZDO q g);rw[←hu]at c1 d1 d2;rw[←hv]at c2 d1 d2 d3;obtain⟨e1,e2⟩:=Mo u v d3 d2;have key:∀p' q':Int,p'=v.sign*u→q'=v.natAbs→(q'=1→R=.agg [.bool (decide (p'<0)),X8 (Xb p'.natAbs),.bool false,X8 []])∧(¬q'=1→R=.agg [.bool (decide (p'<0)),X8 (Xb p'.natAbs),.bool false,X8 (Xb q'.natAbs)]):=by
  intro p' q' hp' hq';constructor
  ·intro h
   rw[hR,←d1,N5 (by omega),e1,hp']
  ·intro h
   rw[hR,←d1,YN (by omega),e1,hp',e2,hq',ZAb]
 by_cases TA9:v<0
 ·have g1:(v<0)=True:=K_ TA9
  obtain⟨k1,k2⟩:=key (-u) (-v) (by rw[n_ TA9];omega) (by omega);have co:=Rk (-v);have cn1:=Nh u (by unfold room;omega);have cn2:=Nh v (by unfold room;omega);rw[tT TA9]at cn2 c2;have f5:decide (-v<0)=false:=Y_ (by omega);by_cases h1:-v=1
  ·simp only[h1,decide_true]at co
   have hk:=k1 h1;rw[h1]at cn2;refine Fq Tryz.call80 Tryz.func80 10 [] [] [] (by simp[KJ,Xa,Xj]) (Xk ?_);simp(maxSteps:=999999)only[P',↓X6,wA,seval,zA,qA,qC,wN];simp only[zp,zq,f1,f3,↓X6,wA,seval,zA,qA,qC,wN];refine X2 cg rfl ?_;simp only[↓X6,wA,seval,zA,qA,qC,wN];refine X2 c1 rfl ?_;simp only[↓X6,wA,seval,zA,qA,qC,wN];refine X2 c2 rfl ?_;simp only[↓X6,wA,seval,zA,qA,qC,wN];refine X2 cn1 rfl ?_;simp only[↓X6,wA,seval,zA,qA,qC,wN];refine X2 cn2 rfl ?_;simp only[↓X6,wA,seval,zA,qA,qC,wN];refine X2 co rfl ?_;simp only[↓X6,wA,seval,zA,qA,qC,wN];exact Ql rfl XY rfl rfl rfl hk sR ⟨X' _,X' _,X' _,QG _ _,trivial⟩
  ·simp only[h1,decide_false]at co
   have hk:=k2 h1;refine Fq Tryz.call80 Tryz.func80 10 [] [] [] (by simp[KJ,Xa,Xj]) (Xk ?_);simp(maxSteps:=999999)only[P',↓X6,wA,seval,zA,qA,qC,wN];simp only[zp,zq,f1,f3,↓X6,wA,seval,zA,qA,qC,wN];refine X2 cg rfl ?_;simp only[↓X6,wA,seval,zA,qA,qC,wN];refine X2 c1 rfl ?_;simp only[↓X6,wA,seval,zA,qA,qC,wN];refine X2 c2 rfl ?_;simp only[↓X6,wA,seval,zA,qA,qC,wN];refine X2 cn1 rfl ?_;simp only[↓X6,wA,seval,zA,qA,qC,wN];refine X2 cn2 rfl ?_;simp only[↓X6,wA,seval,zA,qA,qC,wN];refine X2 co rfl ?_;simp only[↓X6,wA,seval,zA,qA,qC,wN];exact Jh rfl XY rfl rfl rfl sR (by rw[hk,f5];rfl)
 ·have g1:(v<0)=False:=Q' TA9
  obtain⟨k1,k2⟩:=key u v (by rw[u_ (by omega)];omega) (by omega);have co:=Rk v;rw[az TA9]at co c2;by_cases h1:v=1
  ·simp only[h1,decide_true]at co
   have hk:=k1 h1;rw[h1]at c2;refine Fq Tryz.call80 Tryz.func80 10 [] [] [] (by simp[KJ,Xa,Xj]) (Xk ?_);simp(maxSteps:=999999)only[P',↓X6,wA,seval,zA,qA,qC,wN];simp only[zp,zq,f1,f3,↓X6,wA,seval,zA,qA,qC,wN];refine X2 cg rfl ?_;simp only[↓X6,wA,seval,zA,qA,qC,wN];refine X2 c1 rfl ?_;simp only[↓X6,wA,seval,zA,qA,qC,wN];refine X2 c2 rfl ?_;simp only[↓X6,wA,seval,zA,qA,qC,wN];refine X2 co rfl ?_;simp only[↓X6,wA,seval,zA,qA,qC,wN];exact Ql rfl XY rfl rfl rfl hk sR ⟨X' _,X' _,X' _,QG _ _,trivial⟩
  ·simp only[h1,decide_false]at co
   have hk:=k2 h1;refine Fq Tryz.call80 Tryz.func80 10 [] [] [] (by simp[KJ,Xa,Xj]) (Xk ?_);simp(maxSteps:=999999)only[P',↓X6,wA,seval,zA,qA,qC,wN];simp only[zp,zq,f1,f3,↓X6,wA,seval,zA,qA,qC,wN];refine X2 cg rfl ?_;simp only[↓X6,wA,seval,zA,qA,qC,wN];refine X2 c1 rfl ?_;simp only[↓X6,wA,seval,zA,qA,qC,wN];refine X2 c2 rfl ?_;simp only[↓X6,wA,seval,zA,qA,qC,wN];refine X2 co rfl ?_;simp only[↓X6,wA,seval,zA,qA,qC,wN];exact Jh rfl XY rfl rfl rfl sR (by rw[hk];rfl)
theorem XS (p q:Int)(hp:ZO p)(hq:ZO q):Fn Tryz.prog 20 [I p,I q] (qA (O_ p q)):=by
 obtain⟨R,hR⟩:∃R,R=qA (O_ p q):=⟨_,rfl⟩
 have sR:A_ R:=hR▸Xa _;have cm:=Fs p q (by have:=ZZ hp;omega) (by have:=ZZ hq;omega);rw[←hR]at cm ⊢;refine Fq Tryz.call20 Tryz.func20 5 [] [] [] (by simp[KJ,Xa,Xj]) (Xk ?_);simp(maxSteps:=999999)only[P',↓X6,wA,seval,zA,qA,qC,wN];refine X2 (DY p hp) rfl ?_;simp only[↓X6,wA,seval,zA,qA,qC,wN];refine X2 (DY q hq) rfl ?_;simp only[↓X6,wA,seval,zA,qA,qC,wN];refine X2 cm rfl ?_;simp only[hR,↓X6,wA,seval,zA,qA,qC,wN];exact Jh rfl XY rfl rfl rfl sR (hR.trans rfl)
structure V2 where
 x:Rat
 y:Rat
def vC (v:V2):List AV:=[.bool (decide (v.x.num<0)),X8 (Xb v.x.num.natAbs),.bool false,X8 (Xb (qd v.x)),.bool (decide (v.y.num<0)),X8 (Xb v.y.num.natAbs),.bool false,X8 (Xb (qd v.y))]
def vA (v:V2):AV:=.agg (vC v)
theorem Xx (v:V2):A_ (vA v):=QD (by simp[vC,Xc,X5])
def vb (v:V2):Nat:=max (qb v.x) (qb v.y)
theorem Jk (v:V2):qb v.x≤vb v:=Nat.le_max_left _ _
theorem Jc (v:V2):qb v.y≤vb v:=Nat.le_max_right _ _
def V2.sub (a b:V2):V2:=⟨a.x-b.x,a.y-b.y⟩
def V2.add (a b:V2):V2:=⟨a.x+b.x,a.y+b.y⟩
def Xr (a b:V2):Rat:=a.x*b.y-a.y*b.x
def Qb (a b:V2):Rat:=a.x*b.x+a.y*b.y
def Kz (a b c:V2):Int:=(Xr (b.sub a) (c.sub a)).num.sign
theorem J3 (a b:V2):vb (a.sub b)≤vb a+vb b+1:=by
 have:=BS a.x b.x;have:=BS a.y b.y;have:=Jk a;have:=Jk b;have:=Jc a;have:=Jc b;unfold V2.sub;show max (qb (a.x-b.x)) (qb (a.y-b.y))≤_;omega
theorem Z8 (a b:V2):vb (a.add b)≤vb a+vb b+1:=by
 have:=A8 a.x b.x;have:=A8 a.y b.y;have:=Jk a;have:=Jk b;have:=Jc a;have:=Jc b;unfold V2.add;show max (qb (a.x+b.x)) (qb (a.y+b.y))≤_;omega
theorem Kv (a b:V2):qb (Xr a b)≤2*(vb a+vb b)+1:=by
 have:=Qo a.x b.y;have:=Qo a.y b.x;have:=Jk a;have:=Jk b;have:=Jc a;have:=Jc b;have:=BS (a.x*b.y) (a.y*b.x);unfold Xr;omega
theorem Zn (a b:V2):qb (Qb a b)≤2*(vb a+vb b)+1:=by
 have:=Qo a.x b.x;have:=Qo a.y b.y;have:=Jk a;have:=Jk b;have:=Jc a;have:=Jc b;have:=A8 (a.x*b.x) (a.y*b.y);unfold Qb;omega
theorem Bz:qb 0≤1:=m7 0 1 (N' _) (by unfold bl;simp[Qu])
theorem Cd {H:List AO}{a b:AV}(h:B_ a b):Ko H a b:=fun c v _ _ hv=>h c v hv
theorem ZV {l:List Int}{f:Nat→AV}{t:Bool}(h:l=[]):B_ (.sl 0 0 f t) (X8 l):=by rw[h];exact QG _ _
theorem YI (a b:Rat)(ha:qb a≤30000000)(hb:qb b≤30000000):Fn Tryz.prog 214 [.sl 2 8 (Xf (qC a ++ qC b)) false] (qA (a+b)):=by
 obtain⟨R,hR⟩:∃R,R=qA (a+b):=⟨_,rfl⟩
 have sR:A_ R:=hR▸Xa _;have q0:=Bz;have c1:=C5 0 a (by unfold rm;omega) (by unfold rm;omega);have c2:=C5 a b (by unfold rm;omega) (by unfold rm;omega);rw[Rat.zero_add]at c1;rw[←hR]at c2 ⊢;have TAG:A_ (.sl 2 8 (Xf (qC a ++ qC b)) false):=QF fun j hj=>by
  unfold Xf qC
  match j,hj with
  |0,_=>exact X5 _
  |1,_=>exact Xc _
  |2,_=>exact X5 _
  |3,_=>exact Xc _
  |4,_=>exact X5 _
  |5,_=>exact Xc _
  |6,_=>exact X5 _
  |7,_=>exact Xc _
  |j+8,h=>omega
 have TEF:J9 2 (.sl 2 8 (Xf (qC a ++ qC b)) false):=X4 TAG;simp only[qC,g_,h_]at TEF;have z1:((1:Nat):Int)=1:=rfl;have z2:((2:Nat):Int)=2:=rfl;have wr1:Q_.wrap 1=1:=by rw[M'];omega
 have wr2:Q_.wrap 2=2:=by rw[M'];omega
 refine y_ (fn:=Tryz.f214) Tryz.call214 Tryz.func214 rfl mixed 6 [6,7,8] [] [] (by kernel_rfl) (L' rfl) (by simpa using TAG) (Xk ?_);simp only[P',↓X6,wA,↓reduceIte,reduceIte,reduceCtorEq,Y1,Y2,Y3,Y4,Y5,Y6,Y7,Y8,Y9,YA,zA,qA,qC,vA,vC,wN];refine Xi (fun i:Nat=>⟨6,[6,7,8],[.any,.any,.ref 0 0 0,.ref 1 0 0,.any,.any],[(6,.sl 2 8 (Xf (qC a ++ qC b)) false),(7,I 2),(8,I i)],
  [.row 0 4 (Xf [.bool false,.sl 0 0 (fun _=>.any) true,.bool false,.sl 0 0 (fun _=>.any) true]),.row 0 4 (Xf (qC (if i=0 then 0 else if i=1 then a else a+b)))]⟩) (fun i=>i≤2) (fun i=>2-i) 0 (by omega) ?_ ?_
 ·refine(Qh 1 (Xf (qC 0)) rfl fun j hj=>?_).trans (Xh rfl (by simp[Xm,qC,X8,QE]) (by simp[Xu,XJ,qC,X8,QE,I]) (by simp))
  match j,hj with
  |0,_=>exact XC _ _
  |1,_=>exact Cd (ZV (by rw[ZB6];simp[Qu]))
  |2,_=>exact XC _ _
  |3,_=>exact Cd (ZV (N6 rfl))
  |j+4,h=>omega
 intro i hi next
 rcases(show i=0∨i=1∨i=2 by omega)with rfl |rfl |rfl
 ·refine Xk ?_
  simp only[ite_true,z1,z2,wr1,wr2,ZAu,ZCJ,↓X6,wA,↓reduceIte,reduceIte,reduceCtorEq,Y1,Y2,Y3,Y4,Y5,Y6,Y7,Y8,Y9,YA,zA,qA,qC,vA,vC,wN];refine X2 c1 rfl ?_;simp only[z1,z2,wr1,wr2,ZCJ,↓X6,wA,↓reduceIte,reduceIte,reduceCtorEq,Y1,Y2,Y3,Y4,Y5,Y6,Y7,Y8,Y9,YA,zA,qA,qC,vA,vC,wN];exact next 1 _ (by omega) (by omega) (XD (m:=2) (p_ _) rfl (by simp[qC,Xm,X8,QE,I]) (by simp[qC,Xu,XJ,X8,QE,I]) (by simp[qC,X8,QE,I]) (by simp[XK]) (by simp[qC,XK,TEF]) (by simp[qC,XK]))
 ·have e1:((1:Nat)=0)=False:=Q' (by omega)
  refine Xk ?_;simp only[e1,ite_true,ite_false,z1,z2,wr1,wr2,ZAu,ZCJ,↓X6,wA,↓reduceIte,reduceIte,reduceCtorEq,Y1,Y2,Y3,Y4,Y5,Y6,Y7,Y8,Y9,YA,zA,qA,qC,vA,vC,wN];refine⟨by omega,X2 c2 rfl ?_⟩;simp only[hR,z1,z2,wr1,wr2,ZCJ,↓X6,wA,↓reduceIte,reduceIte,reduceCtorEq,Y1,Y2,Y3,Y4,Y5,Y6,Y7,Y8,Y9,YA,zA,qA,qC,vA,vC,wN];exact next 2 _ (by omega) (by omega) (XD (m:=2) (p_ _) rfl (by simp[qC,Xm,X8,QE,I]) (by simp[qC,Xu,XJ,X8,QE,I]) (by simp[qC,X8,QE,I]) (by simp[XK]) (by simp[qC,XK,TEF]) (by simp[qC,XK]))
 ·have e1:((2:Nat)=0)=False:=Q' (by omega)
  have e2:((2:Nat)=1)=False:=Q' (by omega);refine Xk ?_;simp only[e1,e2,ite_false,z1,z2,wr1,wr2,ZAu,ZCJ,↓X6,wA,↓reduceIte,reduceIte,reduceCtorEq,Y1,Y2,Y3,Y4,Y5,Y6,Y7,Y8,Y9,YA,zA,qA,qC,vA,vC,wN];exact Jh rfl XY rfl rfl rfl sR (hR.trans rfl)
def vm:Nat:=10000000
theorem At {P:Program}{fn:Func}{str hcs:List Nat}{r:AV}{s:AS}{t u id ver n:Nat}{L:List AV}(hr:fn.results=#[.cell t u])(hk:CD P u=some (some n)) (hs:s.get t=.ref id ver 0)
  (ho:s.h[id]?=some (.row ver n (Xf L))) (hn:L.length=n) (TAG:A_ r) (e:r=.agg L):TAC (JK P fn str hcs r) s:=Ql hr hk hs ho hn e TAG (X1 L)
theorem Bx (a b:V2)(ha:vb a≤rm)(hb:vb b≤rm):Fn Tryz.prog 166 [vA a,vA b] (vA (a.sub b)):=by
 obtain⟨R,hR⟩:∃R,R=vA (a.sub b):=⟨_,rfl⟩
 have sR:A_ R:=hR▸Xx _;have:=Jk a;have:=Jk b;have:=Jc a;have:=Jc b;have c1:=FC a.x b.x (by omega) (by omega);have c2:=FC a.y b.y (by omega) (by omega);rw[←hR];refine Fq Tryz.call166 Tryz.func166 5 [] [] [] (by simp[Xc,X9,KV,K4,X5,KX,XT,Xa,Xx,Xj,KY,Jn]) (Xk ?_);simp(maxSteps:=999999)only[P',↓X6,wA,↓reduceIte,reduceIte,reduceCtorEq,Y1,Y2,Y3,Y4,Y5,Y6,Y7,Y8,Y9,YA,zA,qA,qC,vA,vC,wN];refine X2 c1 rfl ?_;simp only[↓X6,wA,↓reduceIte,reduceIte,reduceCtorEq,Y1,Y2,Y3,Y4,Y5,Y6,Y7,Y8,Y9,YA,zA,qA,qC,vA,vC,wN];refine X2 c2 rfl ?_;simp only[↓X6,wA,↓reduceIte,reduceIte,reduceCtorEq,Y1,Y2,Y3,Y4,Y5,Y6,Y7,Y8,Y9,YA,zA,qA,qC,vA,vC,wN];exact At rfl JH rfl rfl rfl sR (hR.trans rfl)
theorem Bj (a b:V2)(ha:vb a≤vm)(hb:vb b≤vm):Fn Tryz.prog 149 [vA a,vA b] (qA (Xr a b)):=by
 unfold vm at ha hb;obtain⟨R,hR⟩:∃R,R=qA (Xr a b):=⟨_,rfl⟩
 have sR:A_ R:=hR▸Xa _;have:=Jk a;have:=Jk b;have:=Jc a;have:=Jc b;have m1:=Qo a.x b.y;have m2:=Qo a.y b.x;have c1:=B5 a.x b.y (by unfold rm;omega) (by unfold rm;omega);have c2:=B5 a.y b.x (by unfold rm;omega) (by unfold rm;omega);have c3:=Z6 (a.y*b.x);have c4:=YI (a.x*b.y) (-(a.y*b.x)) (by omega) (by rw[Cs];omega);rw[←ZEG,show a.x*b.y-a.y*b.x=Xr a b from rfl,←hR]at c4;rw[←hR];refine Fq Tryz.call149 Tryz.func149 5 [] [] [] (by simp[Xc,X9,KV,K4,X5,KX,XT,Xa,Xx,Xj,KY,Jn]) (Xk ?_);simp(maxSteps:=999999)only[P',↓X6,wA,↓reduceIte,reduceIte,reduceCtorEq,Y1,Y2,Y3,Y4,Y5,Y6,Y7,Y8,Y9,YA,zA,qA,qC,vA,vC,wN];refine X2 c1 rfl ?_;simp only[↓X6,wA,↓reduceIte,reduceIte,reduceCtorEq,Y1,Y2,Y3,Y4,Y5,Y6,Y7,Y8,Y9,YA,zA,qA,qC,vA,vC,wN];refine X2 c2 rfl ?_;simp only[↓X6,wA,↓reduceIte,reduceIte,reduceCtorEq,Y1,Y2,Y3,Y4,Y5,Y6,Y7,Y8,Y9,YA,zA,qA,qC,vA,vC,wN];refine X2 c3 rfl ?_;simp only[↓X6,wA,↓reduceIte,reduceIte,reduceCtorEq,Y1,Y2,Y3,Y4,Y5,Y6,Y7,Y8,Y9,YA,zA,qA,qC,vA,vC,wN];refine X2 c4 rfl ?_;simp only[hR,↓X6,wA,↓reduceIte,reduceIte,reduceCtorEq,Y1,Y2,Y3,Y4,Y5,Y6,Y7,Y8,Y9,YA,zA,qA,qC,vA,vC,wN];exact At rfl XY rfl rfl rfl sR (hR.trans rfl)
theorem DR (a b:V2)(ha:vb a≤vm)(hb:vb b≤vm):Fn Tryz.prog 150 [vA a,vA b] (qA (Qb a b)):=by
 unfold vm at ha hb;obtain⟨R,hR⟩:∃R,R=qA (Qb a b):=⟨_,rfl⟩
 have sR:A_ R:=hR▸Xa _;have:=Jk a;have:=Jk b;have:=Jc a;have:=Jc b;have m1:=Qo a.x b.x;have m2:=Qo a.y b.y;have c1:=B5 a.x b.x (by unfold rm;omega) (by unfold rm;omega);have c2:=B5 a.y b.y (by unfold rm;omega) (by unfold rm;omega);have c4:=YI (a.x*b.x) (a.y*b.y) (by omega) (by omega);rw[show a.x*b.x+a.y*b.y=Qb a b from rfl,←hR]at c4;rw[←hR];refine Fq Tryz.call150 Tryz.func150 5 [] [] [] (by simp[Xc,X9,KV,K4,X5,KX,XT,Xa,Xx,Xj,KY,Jn]) (Xk ?_);simp(maxSteps:=999999)only[P',↓X6,wA,↓reduceIte,reduceIte,reduceCtorEq,Y1,Y2,Y3,Y4,Y5,Y6,Y7,Y8,Y9,YA,zA,qA,qC,vA,vC,wN];refine X2 c1 rfl ?_;simp only[↓X6,wA,↓reduceIte,reduceIte,reduceCtorEq,Y1,Y2,Y3,Y4,Y5,Y6,Y7,Y8,Y9,YA,zA,qA,qC,vA,vC,wN];refine X2 c2 rfl ?_;simp only[↓X6,wA,↓reduceIte,reduceIte,reduceCtorEq,Y1,Y2,Y3,Y4,Y5,Y6,Y7,Y8,Y9,YA,zA,qA,qC,vA,vC,wN];refine X2 c4 rfl ?_;simp only[hR,↓X6,wA,↓reduceIte,reduceIte,reduceCtorEq,Y1,Y2,Y3,Y4,Y5,Y6,Y7,Y8,Y9,YA,zA,qA,qC,vA,vC,wN];exact At rfl XY rfl rfl rfl sR (hR.trans rfl)
def vs:Nat:=100000
theorem Co (a b c:V2)(ha:vb a≤vs)(hb:vb b≤vs)(hc:vb c≤vs):Fn Tryz.prog 143 [vA a,vA b,vA c] (I (Kz a b c)):=by
 unfold vs at ha hb hc;have m1:=J3 b a;have m2:=J3 c a;have c1:=Bx b a (by unfold rm;omega) (by unfold rm;omega);have c2:=Bx c a (by unfold rm;omega) (by unfold rm;omega);have c3:=Bj (b.sub a) (c.sub a) (by unfold vm;omega) (by unfold vm;omega);have c4:=Qv (Xr (b.sub a) (c.sub a));refine Fq Tryz.call143 Tryz.func143 7 [] [] [] (by simp[Xc,X9,KV,K4,X5,KX,XT,Xa,Xx,Xj,KY,Jn]) (Xk ?_);simp(maxSteps:=999999)only[P',↓X6,wA,↓reduceIte,reduceIte,reduceCtorEq,Y1,Y2,Y3,Y4,Y5,Y6,Y7,Y8,Y9,YA,zA,qA,qC,vA,vC,wN];refine X2 c1 rfl ?_;simp only[↓X6,wA,↓reduceIte,reduceIte,reduceCtorEq,Y1,Y2,Y3,Y4,Y5,Y6,Y7,Y8,Y9,YA,zA,qA,qC,vA,vC,wN];refine X2 c2 rfl ?_;simp only[↓X6,wA,↓reduceIte,reduceIte,reduceCtorEq,Y1,Y2,Y3,Y4,Y5,Y6,Y7,Y8,Y9,YA,zA,qA,qC,vA,vC,wN];refine X2 c3 rfl ?_;simp only[↓X6,wA,↓reduceIte,reduceIte,reduceCtorEq,Y1,Y2,Y3,Y4,Y5,Y6,Y7,Y8,Y9,YA,zA,qA,qC,vA,vC,wN];refine X2 c4 rfl ?_;simp only[↓X6,wA,↓reduceIte,reduceIte,reduceCtorEq,Y1,Y2,Y3,Y4,Y5,Y6,Y7,Y8,Y9,YA,zA,qA,qC,vA,vC,wN];exact Xp rfl rfl (X9 _) rfl
def OV (a b p:V2):Bool:=decide (Kz a b p=0) && decide ((Qb (a.sub p) (b.sub p)).num.sign≤0)
theorem Yv (a b p:V2)(ha:vb a≤vs)(hb:vb b≤vs)(hp:vb p≤vs):Fn Tryz.prog 211 [vA a,vA b,vA p] (.bool (OV a b p)):=by
 have c1:=Co a b p ha hb hp;unfold vs at ha hb hp;have m1:=J3 a p;have m2:=J3 b p;have c2:=Bx a p (by unfold rm;omega) (by unfold rm;omega);have c3:=Bx b p (by unfold rm;omega) (by unfold rm;omega);have c4:=DR (a.sub p) (b.sub p) (by unfold vm;omega) (by unfold vm;omega);have c5:=Qv (Qb (a.sub p) (b.sub p));obtain⟨V,hV⟩:∃V,V=OV a b p:=⟨_,rfl⟩
 rw[←hV];unfold OV at hV;refine Fq Tryz.call211 Tryz.func211 7 [] [] [] (by simp[Xc,X9,KV,K4,X5,KX,XT,Xa,Xx,Xj,KY,Jn]) (Xk ?_);simp(maxSteps:=999999)only[P',↓X6,wA,↓reduceIte,reduceIte,reduceCtorEq,Y1,Y2,Y3,Y4,Y5,Y6,Y7,Y8,Y9,YA,zA,qA,qC,vA,vC,wN];refine X2 c1 rfl ?_;by_cases h:Kz a b p=0
 ·have f1:(Kz a b p=0)=True:=K_ h
  simp only[f1,↓X6,wA,↓reduceIte,reduceIte,reduceCtorEq,Y1,Y2,Y3,Y4,Y5,Y6,Y7,Y8,Y9,YA,zA,qA,qC,vA,vC,wN];refine X2 c2 rfl ?_;simp only[↓X6,wA,↓reduceIte,reduceIte,reduceCtorEq,Y1,Y2,Y3,Y4,Y5,Y6,Y7,Y8,Y9,YA,zA,qA,qC,vA,vC,wN];refine X2 c3 rfl ?_;simp only[↓X6,wA,↓reduceIte,reduceIte,reduceCtorEq,Y1,Y2,Y3,Y4,Y5,Y6,Y7,Y8,Y9,YA,zA,qA,qC,vA,vC,wN];refine X2 c4 rfl ?_;simp only[↓X6,wA,↓reduceIte,reduceIte,reduceCtorEq,Y1,Y2,Y3,Y4,Y5,Y6,Y7,Y8,Y9,YA,zA,qA,qC,vA,vC,wN];refine X2 c5 rfl ?_;simp only[↓X6,wA,↓reduceIte,reduceIte,reduceCtorEq,Y1,Y2,Y3,Y4,Y5,Y6,Y7,Y8,Y9,YA,zA,qA,qC,vA,vC,wN];exact Xp rfl rfl (X5 _) (by rw[hV,Y' h];rfl)
 ·have f1:(Kz a b p=0)=False:=Q' h
  simp only[f1,↓X6,wA,↓reduceIte,reduceIte,reduceCtorEq,Y1,Y2,Y3,Y4,Y5,Y6,Y7,Y8,Y9,YA,zA,qA,qC,vA,vC,wN];exact Xp rfl rfl (X5 _) (by rw[hV,Y_ h];rfl)
def C3 (a b c d:V2):Bool:=decide (Kz a b c*Kz a b d<0) && decide (Kz c d a*Kz c d b<0)
def A5 (a b c d:V2):Bool:=C3 a b c d || OV a b c || OV a b d || OV c d a || OV c d b
theorem Hx (a b c:V2):-1≤Kz a b c∧Kz a b c≤1:=by
 unfold Kz;generalize (Xr (b.sub a) (c.sub a)).num=n;rcases Int.lt_trichotomy n 0 with h |h |h
 ·rw[n_ h];omega
 ·rw[h];simp
 ·rw[u_ h];omega
theorem WM {x y:Int}(hx:-1≤x∧x≤1)(hy:-1≤y∧y≤1):Q_.wrap (x*y)=x*y:=by
 rcases(show x = -1∨x=0∨x=1 by omega)with rfl |rfl |rfl <;> rw[M'] <;> omega
theorem lc (a b c d:V2)(ha:vb a≤vs)(hb:vb b≤vs)(hc:vb c≤vs)(hd:vb d≤vs):Fn Tryz.prog 144 [vA a,vA b,vA c,vA d] (.bool (A5 a b c d)):=by
 have c1:=Co a b c ha hb hc;have c2:=Co a b d ha hb hd;have c3:=Co c d a hc hd ha;have c4:=Co c d b hc hd hb;have d1:=Yv a b c ha hb hc;have d2:=Yv a b d ha hb hd;have d3:=Yv c d a hc hd ha;have d4:=Yv c d b hc hd hb;have w1:=WM (Hx a b c) (Hx a b d);have w2:=WM (Hx c d a) (Hx c d b);obtain⟨V,hV⟩:∃V,V=A5 a b c d:=⟨_,rfl⟩
 rw[←hV];unfold A5 C3 at hV;have fin:∀ {s:AS} {v:Bool},s.get 8=.bool v→v=V→TAC (JK Tryz.prog Tryz.f144 [] [] (.bool V)) s:=fun h e=>Xp rfl h (X5 _) (by rw[e])
 obtain⟨B1,hB1⟩:∃B,B=OV a b c:=⟨_,rfl⟩
 obtain⟨B2,hB2⟩:∃B,B=OV a b d:=⟨_,rfl⟩
 obtain⟨B3,hB3⟩:∃B,B=OV c d a:=⟨_,rfl⟩
 obtain⟨B4,hB4⟩:∃B,B=OV c d b:=⟨_,rfl⟩
 rw[←hB1]at d1 hV;rw[←hB2]at d2 hV;rw[←hB3]at d3 hV;rw[←hB4]at d4 hV;refine Fq Tryz.call144 Tryz.func144 9 [] [] [] (by simp[Xc,X9,KV,K4,X5,KX,XT,Xa,Xx,Xj,KY,Jn]) (Xk ?_);simp(maxSteps:=999999)only[P',↓X6,wA,↓reduceIte,reduceIte,reduceCtorEq,Y1,Y2,Y3,Y4,Y5,Y6,Y7,Y8,Y9,YA,zA,qA,qC,vA,vC,wN];refine X2 c1 rfl ?_;simp only[↓X6,wA,↓reduceIte,reduceIte,reduceCtorEq,Y1,Y2,Y3,Y4,Y5,Y6,Y7,Y8,Y9,YA,zA,qA,qC,vA,vC,wN];refine X2 c2 rfl ?_;by_cases h1:Kz a b c*Kz a b d<0
 ·have f1:(Kz a b c*Kz a b d<0)=True:=K_ h1
  simp only[w1,f1,↓X6,wA,↓reduceIte,reduceIte,reduceCtorEq,Y1,Y2,Y3,Y4,Y5,Y6,Y7,Y8,Y9,YA,zA,qA,qC,vA,vC,wN];refine X2 c3 rfl ?_;simp only[↓X6,wA,↓reduceIte,reduceIte,reduceCtorEq,Y1,Y2,Y3,Y4,Y5,Y6,Y7,Y8,Y9,YA,zA,qA,qC,vA,vC,wN];refine X2 c4 rfl ?_;by_cases h2:Kz c d a*Kz c d b<0
  ·have f2:(Kz c d a*Kz c d b<0)=True:=K_ h2
   simp only[w2,f2,↓X6,wA,↓reduceIte,reduceIte,reduceCtorEq,Y1,Y2,Y3,Y4,Y5,Y6,Y7,Y8,Y9,YA,zA,qA,qC,vA,vC,wN];exact fin rfl (by rw[hV,Y' h1,Y' h2];rfl)
  ·have f2:(Kz c d a*Kz c d b<0)=False:=Q' h2
   simp only[w2,f2,↓X6,wA,↓reduceIte,reduceIte,reduceCtorEq,Y1,Y2,Y3,Y4,Y5,Y6,Y7,Y8,Y9,YA,zA,qA,qC,vA,vC,wN];rw[Y' h1,Y_ h2]at hV;refine X2 d1 rfl ?_;cases B1
   rotate_left
   ·simp only[↓X6,wA,↓reduceIte,reduceIte,reduceCtorEq,Y1,Y2,Y3,Y4,Y5,Y6,Y7,Y8,Y9,YA,zA,qA,qC,vA,vC,wN]
    exact fin rfl (by rw[hV];simp)
   simp only[↓X6,wA,↓reduceIte,reduceIte,reduceCtorEq,Y1,Y2,Y3,Y4,Y5,Y6,Y7,Y8,Y9,YA,zA,qA,qC,vA,vC,wN];refine X2 d2 rfl ?_;cases B2
   rotate_left
   ·simp only[↓X6,wA,↓reduceIte,reduceIte,reduceCtorEq,Y1,Y2,Y3,Y4,Y5,Y6,Y7,Y8,Y9,YA,zA,qA,qC,vA,vC,wN]
    exact fin rfl (by rw[hV];simp)
   simp only[↓X6,wA,↓reduceIte,reduceIte,reduceCtorEq,Y1,Y2,Y3,Y4,Y5,Y6,Y7,Y8,Y9,YA,zA,qA,qC,vA,vC,wN];refine X2 d3 rfl ?_;cases B3
   rotate_left
   ·simp only[↓X6,wA,↓reduceIte,reduceIte,reduceCtorEq,Y1,Y2,Y3,Y4,Y5,Y6,Y7,Y8,Y9,YA,zA,qA,qC,vA,vC,wN]
    exact fin rfl (by rw[hV];simp)
   simp only[↓X6,wA,↓reduceIte,reduceIte,reduceCtorEq,Y1,Y2,Y3,Y4,Y5,Y6,Y7,Y8,Y9,YA,zA,qA,qC,vA,vC,wN];refine X2 d4 rfl ?_;simp only[↓X6,wA,↓reduceIte,reduceIte,reduceCtorEq,Y1,Y2,Y3,Y4,Y5,Y6,Y7,Y8,Y9,YA,zA,qA,qC,vA,vC,wN];exact fin rfl (by rw[hV];simp)
 ·have f1:(Kz a b c*Kz a b d<0)=False:=Q' h1
  simp only[w1,f1,↓X6,wA,↓reduceIte,reduceIte,reduceCtorEq,Y1,Y2,Y3,Y4,Y5,Y6,Y7,Y8,Y9,YA,zA,qA,qC,vA,vC,wN];rw[Y_ h1]at hV;refine X2 d1 rfl ?_;cases B1
  rotate_left
  ·simp only[↓X6,wA,↓reduceIte,reduceIte,reduceCtorEq,Y1,Y2,Y3,Y4,Y5,Y6,Y7,Y8,Y9,YA,zA,qA,qC,vA,vC,wN]
   exact fin rfl (by rw[hV];simp)
  simp only[↓X6,wA,↓reduceIte,reduceIte,reduceCtorEq,Y1,Y2,Y3,Y4,Y5,Y6,Y7,Y8,Y9,YA,zA,qA,qC,vA,vC,wN];refine X2 d2 rfl ?_;cases B2
  rotate_left
  ·simp only[↓X6,wA,↓reduceIte,reduceIte,reduceCtorEq,Y1,Y2,Y3,Y4,Y5,Y6,Y7,Y8,Y9,YA,zA,qA,qC,vA,vC,wN]
   exact fin rfl (by rw[hV];simp)
  simp only[↓X6,wA,↓reduceIte,reduceIte,reduceCtorEq,Y1,Y2,Y3,Y4,Y5,Y6,Y7,Y8,Y9,YA,zA,qA,qC,vA,vC,wN];refine X2 d3 rfl ?_;cases B3
  rotate_left
  ·simp only[↓X6,wA,↓reduceIte,reduceIte,reduceCtorEq,Y1,Y2,Y3,Y4,Y5,Y6,Y7,Y8,Y9,YA,zA,qA,qC,vA,vC,wN]
   exact fin rfl (by rw[hV];simp)
  simp only[↓X6,wA,↓reduceIte,reduceIte,reduceCtorEq,Y1,Y2,Y3,Y4,Y5,Y6,Y7,Y8,Y9,YA,zA,qA,qC,vA,vC,wN];refine X2 d4 rfl ?_;simp only[↓X6,wA,↓reduceIte,reduceIte,reduceCtorEq,Y1,Y2,Y3,Y4,Y5,Y6,Y7,Y8,Y9,YA,zA,qA,qC,vA,vC,wN];exact fin rfl (by rw[hV];simp)
def v0:V2:=⟨0,0⟩
def Qm (l:List V2):AV:=g8 vC 8 v0 l
theorem Xq (l:List V2):A_ (Qm l):=KZ fun a x hx=>by
 have:∀x∈vC a,A_ x:=by simp[vC,Xc,X5]
 exact this x hx
theorem X7 (l:List V2):Qm l=.sl l.length (l.length*8) (Xv vC 8 v0 l) false:=C_ rfl
theorem vF (l:List V2)(i:Nat):Xv vC 8 v0 l (i*8)=.bool (decide ((l.getD i v0).x.num<0))∧Xv vC 8 v0 l (i*8+1)=X8 (Xb (l.getD i v0).x.num.natAbs)∧Xv vC 8 v0 l (i*8+2)=.bool false∧Xv vC 8 v0 l (i*8+3)=X8 (Xb (qd (l.getD i v0).x)) ∧
  Xv vC 8 v0 l (i*8+4)=.bool (decide ((l.getD i v0).y.num<0))∧Xv vC 8 v0 l (i*8+5)=X8 (Xb (l.getD i v0).y.num.natAbs)∧Xv vC 8 v0 l (i*8+6)=.bool false∧Xv vC 8 v0 l (i*8+7)=X8 (Xb (qd (l.getD i v0).y)):=by
 refine⟨?_,?_,?_,?_,?_,?_,?_,?_⟩
 ·rw[Kg _ _ _ _ _ (by omega)];rfl
 all_goals rw[JE _ _ _ _ _ _ (by omega)];rfl
theorem mG (l:List V2):Fn Tryz.prog 212 [Qm l] (.fn 236 [.ptr 1 (Xf [Qm l]) 0]):=by
 have TAG:A_ (.fn 236 [.ptr 1 (Xf [Qm l]) 0]):=Kd (by
  intro a ha;simp only[b_,V',or_false]at ha;rw[ha];exact XP fun j hj=>by
    obtain rfl:j=0:=by omega
    exact Xq l)
 refine Fq Tryz.call212 Tryz.func212 4 [] [] [] (by simp[Xq]) (Xk ?_);simp only[P',X7,↓X6,wA,seval,zA,qA,qC,vA,vC,Ju,wN];refine A9 rfl (rA ⟨mE (.inl rfl) (by omega) fun j hj=>?_,trivial⟩);obtain rfl:j=0:=by omega
 exact(Xq l).TBH _
theorem Wh (L:List V2)(t:Tok)(A B:Nat→AO)(hL:L.length<1000000)(hy:∀i,i<L.length→TBf Tryz.prog t [vA (L.getD i v0),vA (L.getD ((i+1)%L.length) v0)] [A i,B i] (.bool true) [A (i+1),B (i+1)])
  (hA:∀i,XX 2 (A i)∧A i≠.D_∧∀v n f,A i≠.con v n f) (hB:∀i,XX 2 (B i)∧B i≠.D_∧∀v n f,B i≠.con v n f) (hce:t.ce.H.length≤2) :
  TBt Tryz.prog t 236 [.yld t.l,.ptr 1 (Xf [Qm L]) 0] [A 0,B 0] [A L.length,B L.length]:=by
 have hAO:∀i,XX 2 (A i)=True:=fun i=>K_ (hA i).1
 have hBO:∀i,XX 2 (B i)=True:=fun i=>K_ (hB i).1
 refine TBt.intro (fn:=Tryz.f236) Tryz.call236 Tryz.func236 rfl mixed 5 [5,6,7] [3,40000004] [3] (by kernel_rfl) (L' rfl) hce (by simp[hAO,hBO]) (Xk ?_);simp only[P',X7,↓X6,wA,seval,zA,qA,qC,vA,vC,Ju,wN];refine Xi (fun i:Nat=>⟨5,[5,6,7],[.yld t.l,.ptr 1 (Xf [Qm L]) 0,.any,.any,.any],[(5,Qm L),(6,I L.length),(7,I i)],[A i,B i]⟩) (fun i=>i≤L.length) (fun i=>L.length-i) 0 (by omega)
  (Xh rfl (by simp[Xm,X7]) (by simp[Xu,XJ,X7,I]) rfl) ?_
 intro i hi next
 have w1:=wj i (by omega);by_cases hi2:i<L.length
 ·have f1:((i:Int)<L.length)=True:=K_ (by omega)
  have f2:(i<L.length)=True:=K_ hi2;have f3:(i*8+8≤L.length*8)=True:=K_ (by omega);have hm:((i+1:Nat):Int).tmod L.length=(((i+1)%L.length:Nat):Int):=rfl;have hml:(i+1)%L.length<L.length:=z_ _ (by omega);have f4:((i+1)%L.length<L.length)=True:=K_ hml;have f5:((i+1)%L.length*8+8≤L.length*8)=True:=K_ (by omega);have f6:((L.length:Int)=0)=False:=Q' (by omega);have f6':(L.length=0)=False:=Q' (by omega);have v1:=vF L i;have v2:=vF L ((i+1)%L.length);refine Xk ?_;simp only[X7,w1,f1,f2,f3,f4,f5,f6,f6',hm,v1,v2,T_,↓X6,wA,seval,zA,qA,qC,vA,vC,Ju,wN];refine Va (t:=t) (H1:=[A i,B i]) (H1':=[A (i+1),B (i+1)]) rfl rfl (a_.2 rfl) (hy i hi2) rfl rfl hce ?_ ?_ ?_ ?_ ?_ ⟨X' _,X' _,trivial⟩ ?_
  ·intro a ha
   simp only[b_,V',or_false]at ha;rcases ha with rfl |rfl <;> exact X4 (Xx _)
  ·intro o ho
   simp only[b_,V',or_false]at ho;rcases ho with rfl |rfl
   ·exact(hA i).1
   ·exact(hB i).1
  ·intro o ho
   simp only[b_,V',or_false]at ho;rcases ho with rfl |rfl
   ·exact(hA i).2.1
   ·exact(hB i).2.1
  ·intro o ho
   simp only[b_,V',or_false]at ho;rcases ho with rfl |rfl
   ·exact(hA (i+1)).2.1
   ·exact(hB (i+1)).2.1
  ·refine Mh ?_ ?_
   ·intro o ho
    simp only[b_,V',or_false]at ho;rcases ho with rfl |rfl
    ·exact(hA i).2.2
    ·exact(hB i).2.2
   ·intro o ho
    simp only[b_,V',or_false]at ho;rcases ho with rfl |rfl
    ·exact(hA (i+1)).2.2
    ·exact(hB (i+1)).2.2
  simp only[X7,w1,↓X6,wA,seval,zA,qA,qC,vA,vC,Ju,wN];have hbv:J9 2 (Qm L)=True:=K_ (X4 (Xq L));have hbp:J9 2 (.ptr 1 (Xf [Qm L]) 0)=True:=K_ (X4 (XP fun j hj=>by
    obtain rfl:j=0:=by omega
    exact Xq L))
  have hby:J9 2 (.yld t.l)=True:=K_ fun c v hv=>by cases hv;exact .yld _
  exact next (i+1) _ (by omega) (by omega) (XD (m:=2) (N' 2) rfl (by simp[X7,Xm,X8,QE,I]) (by simp[X7,Xu,XJ,I]) rfl (by simp[hby,hbp,XK]) (by simp[hbv,XK]) (by simp[hAO,hBO]))
 ·obtain rfl:i=L.length:=by omega
  refine Xk ?_;simp only[X7,ZAE,zZ,↓X6,wA,seval,zA,qA,qC,vA,vC,Ju,wN];exact yz rfl rfl
def Bc (L:List V2):Nat→Rat
 |0=>0
 |i+1=>Bc L i+Xr (L.getD i v0) (L.getD ((i+1)%L.length) v0)
def Zu (L:List V2):Rat:=Bc L L.length*O_ 1 2
def Qw (L:List V2)(k:Nat):Prop:=∀i,vb (L.getD i v0)≤k
theorem GA (L:List V2)(k:Nat)(h:Qw L k):∀i,qb (Bc L i)≤(4*k+2)*i+1
 |0=>by have:=Bz;simp only[Bc];omega
 |i+1=>by
  have ih:=GA L k h i;have h1:=Kv (L.getD i v0) (L.getD ((i+1)%L.length) v0);have h2:=h i;have h3:=h ((i+1)%L.length);have h4:=A8 (Bc L i) (Xr (L.getD i v0) (L.getD ((i+1)%L.length) v0));have e:(4*k+2)*(i+1)=(4*k+2)*i+(4*k+2):=Nat.mul_succ _ _;simp only[Bc];omega
theorem WD (L:List V2)(k:Nat)(h:Qw L k)(hk:k≤1000)(hl:L.length≤1000):qb (Bc L L.length)≤10000000∧qb (Zu L)≤10000000:=by
 have h1:=GA L k h L.length;have h2:(4*k+2)*L.length≤4002*1000:=ZAx (by omega) hl;have h3:=Qo (Bc L L.length) (O_ 1 2);have h4:qb (O_ 1 2)≤3:=Zk _ _ _ (by omega) (ZZ ⟨by omega,by omega⟩) (ZZ ⟨by omega,by omega⟩);unfold Zu;omega
def Zp:AO:=.row 0 4 (Xf [.bool false,.sl 0 0 (fun _=>.any) true,.bool false,.sl 0 0 (fun _=>.any) true])
def Da (L:List V2)(i:Nat):AO:=.row 0 4 (Xf (qC (Bc L i)))
theorem oJ (L:List V2)(k:Nat)(h:Qw L k)(hk:k≤1000)(hl:L.length≤1000):Fn Tryz.prog 145 [Qm L] (qA (Zu L)):=by
 obtain⟨R,hR⟩:∃R,R=qA (Zu L):=⟨_,rfl⟩
 have sR:A_ R:=hR▸Xa _;obtain⟨q1,q2⟩:=WD L k h hk hl;have cs:=mG L;rw[←hR];refine Fq Tryz.call145 Tryz.func145 6 [8,9] [] [] (by simp[Xq]) (Xk ?_);simp only[P',X7,↓X6,wA,seval,zA,qA,qC,vA,vC,Ju,wN];refine X2 cs rfl ?_;simp only[↓X6,wA,seval,zA,qA,qC,vA,vC,Ju,wN];have bA:XX 2 Zp∧Zp≠.D_∧∀v n f,Zp≠.con v n f:=⟨by simp[Zp,XK],by simp[Zp],by simp[Zp]⟩
 have bB:∀i,XX 2 (Da L i)∧Da L i≠.D_∧∀v n f,Da L i≠.con v n f:=fun i=>⟨by simp[Da,qC,XK],by simp[Da],by simp[Da]⟩
 refine e_ (s':=⟨6,[8,9],[Qm L,.any,.ref 0 0 0,.ref 1 0 0,.any,.any],[(7,.fn 236 [.ptr 1 (Xf [Qm L]) 0])],[Zp,Da L 0]⟩) ?_ ((Qh 1 (Xf (qC 0)) rfl fun j hj=>?_).trans (Xh rfl (by simp[Xm,X7]) (by simp[Xu,XJ]) (by simp[Zp,Da,Bc])))
 rotate_left
 ·match j,hj with
  |0,_=>exact XC _ _
  |1,_=>exact Cd (ZV (by rw[ZB6];simp[Qu]))
  |2,_=>exact XC _ _
  |3,_=>exact Cd (ZV (N6 rfl))
  |j+4,h=>omega
 refine G5 (gf:=236) (G_:=[.ptr 1 (Xf [Qm L]) 0]) (Hn:=[Zp,Da L L.length]) rfl rfl rfl (fun t ht=>?_) ?_
 ·refine Wh L t (fun _=>Zp) (Da L) (by omega) (fun i hi=>?_) (fun _=>bA) bB (by rw[ht.ch];exact N' _)
  have hc:=Bj (L.getD i v0) (L.getD ((i+1)%L.length) v0) (by have:=h i;unfold vm;omega) (by have:=h ((i+1)%L.length);unfold vm;omega);have b1:=GA L k h i;have b2:(4*k+2)*i≤4002*1000:=ZAx (by omega) (by omega);have b3:=Kv (L.getD i v0) (L.getD ((i+1)%L.length) v0);have b4:=h i;have b5:=h ((i+1)%L.length);have ha:=C5 (Bc L i) (Xr (L.getD i v0) (L.getD ((i+1)%L.length) v0)) (by unfold rm;omega) (by unfold rm;omega);refine Ux (str:=[]) (hcs:=[]) ht mixed (by kernel_rfl) (by kernel_rfl) rfl (fun p hp=>?_) (fun o ho=>?_) (fun l r hr=>?_)
  ·have hp':p=8∨p=9:=by simpa using hp
   rcases hp' with rfl |rfl <;> exact L' rfl
  ·simp only[b_,V',or_false]at ho
   rcases ho with rfl |rfl
   ·exact bA.1
   ·exact(bB (i+1)).1
  show Run _ _ ⟨6,[8,9],[Qm L,.any,.ref 0 0 0,.ref 1 0 0,.any,.any],[(9,vA (L.getD ((i+1)%L.length) v0)),(8,vA (L.getD i v0)),(7,.fn 236 [.ptr 1 (Xf [Qm L]) 0])],[Zp,Da L i]⟩;refine Xk ?_;simp only[Zp,Da,↓X6,wA,seval,zA,qA,qC,vA,vC,Ju,wN];refine Vo hr ?_;refine Xk ?_;simp only[↓X6,wA,seval,zA,qA,qC,vA,vC,Ju,wN];refine X2 hc rfl ?_;simp only[↓X6,wA,seval,zA,qA,qC,vA,vC,Ju,wN];refine X2 ha rfl ?_;simp only[↓X6,wA,seval,zA,qA,qC,vA,vC,Ju,wN];exact zj rfl
 ·refine Xk ?_
  simp only[Zp,Da,↓X6,wA,seval,zA,qA,qC,vA,vC,Ju,wN];refine X2 (D3 1 2 ⟨by omega,by omega⟩ ⟨by omega,by omega⟩) rfl ?_;simp only[↓X6,wA,seval,zA,qA,qC,vA,vC,Ju,wN];have hm:=B5 (Bc L L.length) (O_ 1 2) (by unfold rm;omega) (by
   have:qb (O_ 1 2)≤3:=Zk _ _ _ (by omega) (ZZ ⟨by omega,by omega⟩) (ZZ ⟨by omega,by omega⟩);unfold rm;omega)
  rw[show Bc L L.length*O_ 1 2=Zu L from rfl,←hR]at hm;refine X2 hm rfl ?_;simp only[hR,↓X6,wA,seval,zA,qA,qC,vA,vC,Ju,wN];exact Jh rfl XY rfl rfl rfl sR (hR.trans rfl)
theorem xB (L:List V2)(i:Nat)(hn:L.length<1000000)(h0:L.length≠0)(hi:i<1000000000) :
  Fn Tryz.prog 142 [I i,.ptr 1 (Xf [Qm L]) 0,.ptr 1 (Xf [I L.length]) 0] (vA (L.getD (i%L.length) v0)):=by
 obtain⟨R,hR⟩:∃R,R=vA (L.getD (i%L.length) v0):=⟨_,rfl⟩
 have sR:A_ R:=hR▸Xx _;have hm:(i:Int).tmod L.length=((i%L.length:Nat):Int):=rfl;have hml:i%L.length<L.length:=z_ _ (by omega);have f4:(i%L.length<L.length)=True:=K_ hml;have f5:(i%L.length*8+8≤L.length*8)=True:=K_ (by omega);have f6:((L.length:Int)=0)=False:=Q' (by omega);have f6':(L.length=0)=False:=Q' h0;have v1:=vF L (i%L.length);have hs0:A_ (.ptr 1 (Xf [Qm L]) 0):=XP fun j hj=>by
   obtain rfl:j=0:=by omega
   exact Xq L
 have hs1:A_ (.ptr 1 (Xf [I L.length]) 0):=XP fun j hj=>by
   obtain rfl:j=0:=by omega
   exact X9 _
 rw[←hR];refine Fq Tryz.call142 Tryz.func142 5 [] [] [] (by simp[X9,hs0,hs1]) (Xk ?_);simp only[P',X7,f4,f5,f6,f6',hm,v1,T_,↓X6,wA,seval,zA,qA,qC,vA,vC,Ju,wN];exact At rfl JH rfl rfl rfl sR (hR.trans rfl)
def atF (L:List V2)(i:Nat):V2:=L.getD (i%L.length) v0
def WK (L:List V2)(i:Nat):Prop:=Kz (atF L i) (atF L (i+1)) (atF L (i+2))=0
def WJ (L:List V2)(i k:Nat):Prop:=(k+1)%L.length≠i∧A5 (atF L i) (atF L (i+1)) (atF L k) (atF L (k+1))=true
def kz (L:List V2)(i:Nat):Prop:=¬WK L i∧∀k,i+2≤k→k<L.length→¬WJ L i k
def AW (L:List V2):Prop:=(3≤L.length∧L.length≤12)∧(∀i,i<L.length→kz L i)∧0<(Zu L).num.sign
theorem Ij (L:List V2)(h:Qw L 1000)(hl:L.length<1000000):Fn Tryz.prog 62 [Qm L] (.bool (decide (AW L))):=by
 obtain⟨V,hV⟩:∃V,V=decide (AW L):=⟨_,rfl⟩
 rw[←hV];have fin:∀ {s:AS} {v:Bool},s.get 2=.bool v→v=V→TAC (JK Tryz.prog Tryz.f62 [] [] (.bool V)) s:=fun h e=>Xp rfl h (X5 _) (by rw[e])
 have hs0:A_ (.ptr 1 (Xf [Qm L]) 0):=XP fun j hj=>by
   obtain rfl:j=0:=by omega
   exact Xq L
 have hs1:A_ (.ptr 1 (Xf [I L.length]) 0):=XP fun j hj=>by
   obtain rfl:j=0:=by omega
   exact X9 _
 have sm:∀i,vb (atF L i)≤vs:=fun i=>by have:=h (i%L.length);unfold atF vs;omega
 refine Fq Tryz.call62 Tryz.func62 9 [17,18,19,35,36] [] [] (by simp[Xq]) (Xk ?_);by_cases hlo:(L.length:Int)<3
 ·have f1:((L.length:Int)<3)=True:=K_ hlo
  simp only[P',X7,f1,↓X6,wA,seval,zA,qA,qC,vA,vC,Ju,wN];exact fin rfl (by rw[hV,Y_];unfold AW;omega)
 have f1:((L.length:Int)<3)=False:=Q' hlo;by_cases hhi:(12:Int)<L.length
 ·have f2:((12:Int)<L.length)=True:=K_ hhi
  simp only[P',X7,f1,f2,↓X6,wA,seval,zA,qA,qC,vA,vC,Ju,wN];exact fin rfl (by rw[hV,Y_];unfold AW;omega)
 have f2:((12:Int)<L.length)=False:=Q' hhi;simp only[P',X7,f1,f2,↓X6,wA,seval,zA,qA,qC,vA,vC,Ju,wN];have b0:J9 0 (.ptr 1 (Xf [Qm L]) 0)=True:=K_ (X4 hs0);have b1:J9 0 (.ptr 1 (Xf [I L.length]) 0)=True:=K_ (X4 hs1);have b2:J9 0 (Qm L)=True:=K_ (X4 (Xq L));refine Xi (fun i:Nat=>⟨9,[17,18,19,35,36],[.any,.ptr 1 (Xf [Qm L]) 0,.bool false,.ptr 1 (Xf [I L.length]) 0,.any,.any,.any,.any,.any],[(17,Qm L),(18,I L.length),(19,I i)],[]⟩) (fun i=>i≤L.length) (fun i=>L.length-i) 0 (by omega)
  ((XB 0 rfl).trans ((XB 1 rfl).trans ((XH 1 rfl rfl (by omega)).trans ((XH 3 rfl rfl (by omega)).trans (XD (m:=0) (p_ _) rfl (by simp[AS.put,X7,Xm,X8,QE,I]) (by simp[AS.put,X7,Xu,XJ,I]) rfl (by simp[b0,b1,XK]) (by simp[b2,XK]) (by simp)))))) ?_
 intro i hi next
 have w1:=wj i (by omega);have rv:∀r:Rat,qb r≤1000→Fn Tryz.prog 141 [qA r] (.bool true):=fun r hr=>by
  have h1:=RQ.TBV r;have:=FE (RQ.of r) (by omega);rwa[Y' ⟨r,rfl⟩]at this
 by_cases hi2:i<L.length
 ·have f3:((i:Int)<L.length)=True:=K_ (by omega)
  have f4:(i<L.length)=True:=K_ hi2;have f5:(i*8+8≤L.length*8)=True:=K_ (by omega);have v1:=vF L i;have hx:=Jk (L.getD i v0);have hy:=Jc (L.getD i v0);have hb:=h i;refine Xk ?_;simp only[X7,w1,f3,f4,f5,v1,T_,↓X6,wA,seval,zA,qA,qC,vA,vC,Ju,wN];refine X2 (rv (L.getD i v0).x (by omega)) rfl ?_;simp only[↓X6,wA,seval,zA,qA,qC,vA,vC,Ju,wN];refine X2 (rv (L.getD i v0).y (by omega)) rfl ?_;simp only[w1,↓X6,wA,seval,zA,qA,qC,vA,vC,Ju,wN];exact next (i+1) _ (by omega) (by omega) (XD (m:=0) (p_ _) rfl (by simp[X7,Xm,X8,QE,I]) (by simp[X7,Xu,XJ,I]) rfl (by simp[b0,b1,XK]) (by simp[b2,XK]) (by simp))
 obtain rfl:i=L.length:=by omega
 refine Xk ?_;simp only[X7,ZAE,zZ,↓X6,wA,seval,zA,qA,qC,vA,vC,Ju,wN];have hn0:L.length≠0:=by omega
 have cat:∀j:Nat,j<1000000000→Fn Tryz.prog 142 [I j,.ptr 1 (Xf [Qm L]) 0,.ptr 1 (Xf [I L.length]) 0] (vA (atF L j)):=fun j hj=>xB L j hl hn0 hj
 have b3:J9 0 (.fn 142 [.ptr 1 (Xf [Qm L]) 0,.ptr 1 (Xf [I L.length]) 0])=True:=K_ (X4 (Kd (by
  intro a ha;simp only[b_,V',or_false]at ha;rcases ha with rfl |rfl
  ·exact hs0
  ·exact hs1)))
 refine Xi (fun i:Nat=>⟨9,[17,18,19,35,36],[.any,.ptr 1 (Xf [Qm L]) 0,.bool false,.ptr 1 (Xf [I L.length]) 0,.any,.any,.fn 142 [.ptr 1 (Xf [Qm L]) 0,.ptr 1 (Xf [I L.length]) 0],.any,.any],[(35,I L.length),(36,I i)],[]⟩) (fun i=>i≤L.length∧∀j,j<i→kz L j) (fun i=>L.length-i) 0 ⟨by omega,by omega⟩
  (XD (m:=0) (p_ _) rfl (by simp[X7,Xm,X8,QE,I]) (by simp[X7,Xu,XJ,I]) rfl (by simp[b0,b1,b3,XK]) (by simp[b2,XK]) (by simp)) ?_
 rintro i ⟨hi,TBv⟩ next
 have w1:=wj i (by omega);have w2:Q_.wrap ((i:Int)+2)=((i+2:Nat):Int):=by rw[M'];omega
 by_cases hi2:i<L.length
 rotate_left
 ·obtain rfl:i=L.length:=by omega
  refine Xk ?_;simp only[X7,ZAE,zZ,↓X6,wA,seval,zA,qA,qC,vA,vC,Ju,wN];have ca:=oJ L 1000 h (by omega) (by omega);have cs:=Qv (Zu L);refine X2 ca rfl ?_;simp only[↓X6,wA,seval,zA,qA,qC,vA,vC,Ju,wN];refine X2 cs rfl ?_;simp only[↓X6,wA,seval,zA,qA,qC,vA,vC,Ju,wN];exact fin rfl (by rw[hV,decide_eq_decide];unfold AW;exact⟨fun h=>⟨by omega,TBv,h⟩,fun h=>h.2.2⟩)
 have f3:((i:Int)<L.length)=True:=K_ (by omega);have f4:(i<L.length)=True:=K_ hi2;refine Xk ?_;simp only[w1,w2,f3,f4,T_,↓X6,wA,seval,zA,qA,qC,vA,vC,Ju,wN];refine X2 (cat i (by omega)) rfl ?_;simp only[w1,w2,↓X6,wA,seval,zA,qA,qC,vA,vC,Ju,wN];refine X2 (cat (i+1) (by omega)) rfl ?_;simp only[w1,w2,↓X6,wA,seval,zA,qA,qC,vA,vC,Ju,wN];refine X2 (cat (i+2) (by omega)) rfl ?_;simp only[w1,w2,↓X6,wA,seval,zA,qA,qC,vA,vC,Ju,wN];refine X2 (Co _ _ _ (sm _) (sm _) (sm _)) rfl ?_;by_cases hs:Kz (atF L i) (atF L (i+1)) (atF L (i+2))=0
 ·have f5:(Kz (atF L i) (atF L (i+1)) (atF L (i+2))=0)=True:=K_ hs
  simp only[f5,↓X6,wA,seval,zA,qA,qC,vA,vC,Ju,wN];exact fin rfl (by rw[hV,Y_];exact fun hp=>(hp.2.1 i hi2).1 hs)
 have f5:(Kz (atF L i) (atF L (i+1)) (atF L (i+2))=0)=False:=Q' hs;simp only[f5,w1,w2,↓X6,wA,seval,zA,qA,qC,vA,vC,Ju,wN];refine Xi (fun k:Nat=>⟨9,[17,18,19,35,36],[.any,.ptr 1 (Xf [Qm L]) 0,.bool false,.ptr 1 (Xf [I L.length]) 0,.any,.any,.fn 142 [.ptr 1 (Xf [Qm L]) 0,.ptr 1 (Xf [I L.length]) 0],I i,I k],[(35,I L.length),(36,I i)],[]⟩) (fun k=>i+2≤k∧k≤L.length+2∧∀j,i+2≤j→j<k→j<L.length→¬WJ L i j) (fun k=>L.length+2-k) (i+2) ⟨by omega,by omega,by omega⟩
  (Xh rfl (by simp[Xm,I]) (by simp[Xu,XJ,I]) rfl) ?_
 rintro k ⟨hk1,hk2,TB3⟩ TBE;have u1:=wj k (by omega);by_cases hk3:k<L.length
 rotate_left
 ·have g3:((k:Int)<L.length)=False:=Q' (by omega)
  have g4:(k<L.length)=False:=Q' hk3;refine Xk ?_;simp only[g3,g4,w1,↓X6,wA,seval,zA,qA,qC,vA,vC,Ju,wN];refine next (i+1) _ ⟨by omega,fun j hj=>?_⟩ (by omega) (Xh rfl (by simp[Xm,I]) (by simp[Xu,XJ,I]) rfl)
  by_cases hji:j<i
  ·exact TBv j hji
  ·obtain rfl:j=i:=by omega
   exact⟨hs,fun q hq1 hq2=>TB3 q hq1 (by omega) hq2⟩
 have g3:((k:Int)<L.length)=True:=K_ (by omega);have g4:(k<L.length)=True:=K_ hk3;have hm:((k+1:Nat):Int).tmod L.length=(((k+1)%L.length:Nat):Int):=rfl;have f6:((L.length:Int)=0)=False:=Q' (by omega);have f6':(L.length=0)=False:=Q' hn0;by_cases hne:(k+1)%L.length=i
 ·have g5:((k+1)%L.length=i)=True:=K_ hne
  have g6:((((k+1)%L.length:Nat):Int)=(i:Int))=True:=K_ (by omega);refine Xk ?_;simp only[g3,g4,g5,g6,w1,u1,hm,f6,f6',↓X6,wA,seval,zA,qA,qC,vA,vC,Ju,wN];exact TBE (k+1) _ ⟨by omega,by omega,fun j h1 h2 h3=>by
   by_cases hjk:j<k
   ·exact TB3 j h1 hjk h3
   ·obtain rfl:j=k:=by omega
    exact fun hb=>hb.1 hne⟩ (by omega) (Xh rfl (by simp[Xm,I]) (by simp[Xu,XJ,I]) rfl)
 have g5:((k+1)%L.length=i)=False:=Q' hne;have g6:((((k+1)%L.length:Nat):Int)=(i:Int))=False:=Q' (by omega);refine Xk ?_;simp only[g3,g4,g5,g6,w1,u1,hm,f6,f6',↓X6,wA,seval,zA,qA,qC,vA,vC,Ju,wN];refine X2 (cat i (by omega)) rfl ?_;simp only[g5,g6,w1,u1,↓X6,wA,seval,zA,qA,qC,vA,vC,Ju,wN];refine X2 (cat (i+1) (by omega)) rfl ?_;simp only[g5,g6,w1,u1,↓X6,wA,seval,zA,qA,qC,vA,vC,Ju,wN];refine X2 (cat k (by omega)) rfl ?_;simp only[g5,g6,w1,u1,↓X6,wA,seval,zA,qA,qC,vA,vC,Ju,wN];refine X2 (cat (k+1) (by omega)) rfl ?_;simp only[g5,g6,w1,u1,↓X6,wA,seval,zA,qA,qC,vA,vC,Ju,wN];refine X2 (lc _ _ _ _ (sm _) (sm _) (sm _) (sm _)) rfl ?_;by_cases hmt:A5 (atF L i) (atF L (i+1)) (atF L k) (atF L (k+1))=true
 ·rw[hmt]
  simp only[g5,g6,↓X6,wA,seval,zA,qA,qC,vA,vC,Ju,wN];exact fin rfl (by rw[hV,Y_];exact fun hp=>(hp.2.1 i hi2).2 k hk1 hk3 ⟨hne,hmt⟩)
 ·have hmf:=ZA2 _▸hmt
  rw[hmf];simp only[g5,g6,u1,↓X6,wA,seval,zA,qA,qC,vA,vC,Ju,wN];exact TBE (k+1) _ ⟨by omega,by omega,fun j h1 h2 h3=>by
   by_cases hjk:j<k
   ·exact TB3 j h1 hjk h3
   ·obtain rfl:j=k:=by omega
    exact fun hb=>hmt hb.2⟩ (by omega) (Xh rfl (by simp[Xm,I]) (by simp[Xu,XJ,I]) rfl)
def yK (p:Int×Int):List AV:=[I p.1,I p.2]
def zD (l:List (Int×Int)):AV:=g8 yK 2 (0,0) l
theorem TY (l:List (Int×Int)):A_ (zD l):=KZ fun a x hx=>by
 have:∀x∈yK a,A_ x:=by simp[yK,X9]
 exact this x hx
theorem r9 (l:List (Int×Int)):zD l=.sl l.length (l.length*2) (Xv yK 2 (0,0) l) false:=C_ rfl
theorem bh (l:List Bool):CH l=.sl l.length l.length (J0 AV.bool false l) false:=C_ rfl
theorem Xo (l:List Int):X8 l=.sl l.length l.length (J0 I 0 l) false:=C_ rfl
theorem uD (f:Nat→AV)(m:Nat)(g:Nat→AV)(j:Nat):Q1 0 f m g j=if j<m then g j else f j:=by simp[Q1]
theorem bY {P:Program}{fn:Func}{str hcs:List Nat}{s:AS}{t n m es ver id:Nat}{f g:Nat→AV}(hr:fn.results=#[.tmp t])(hs:s.get t=.osl id ver es 0 n)(ho:s.h[id]?=some (.row ver m (Q1 0 f m g))) (hn:n=0→m=0) (hg:∀j,j<m→A_ (g j)) :
  TAC (JK P fn str hcs (.sl n m g false)) s:=by
 refine A9 hr ?_;rw[hs];refine Kc (.inl ho) (by omega) hn fun j hj=>?_
 rw[x_,uD,N_ hj];exact(hg j hj).TBH _
theorem Ve {P:Program}{fn:Func}{str hcs:List Nat}{s:AS}{t:Nat}{f g:Nat→AV}{b:Bool}(hr:fn.results=#[.tmp t])(hs:s.get t=.sl 0 0 f b):TAC (JK P fn str hcs (.sl 0 0 g false)) s:=by
 refine A9 hr ?_;rw[hs];exact Wa
theorem zw (z:Int):zA z=.agg [.bool (decide (z<0)),X8 (Xb z.natAbs)]:=C_ rfl
theorem zu (v:V2):vC v=[.bool (decide (v.x.num<0)),X8 (Xb v.x.num.natAbs),.bool false,X8 (Xb (qd v.x)),.bool (decide (v.y.num<0)),X8 (Xb v.y.num.natAbs),.bool false,X8 (Xb (qd v.y))]:=C_ rfl
theorem zo (v:V2):vA v=.agg (vC v):=C_ rfl
theorem zh (r:Rat):qC r=[.bool (decide (r.num<0)),X8 (Xb r.num.natAbs),.bool false,X8 (Xb (qd r))]:=C_ rfl
theorem zf (r:Rat):qA r=.agg (qC r):=C_ rfl
set_option linter.defProp false in
def wS:=XM KJ (XM @Xa (XM @Xx (XM @Xj (XM @TY @Ob))))
set_option linter.defProp false in
def wE:=XM @zw (XM @zu (XM @zo (XM @zh (XM @zf (XM @r9 (XM @bh (XM Ju wN)))))))
set_option linter.defProp false in
def wF:=XM wA wE
end
end Go.Ab.N
namespace Go.Ab.N
open Go Go.RowKit Go.Proofs
noncomputable section
set_option maxRecDepth 10000
set_option maxHeartbeats 4000000
open Classical
theorem zI {a b:Int}(h:a<b):(a<b)=True:=K_ h
theorem yV {a b:Int}(h:b≤a):(a<b)=False:=Q' (by omega)
theorem zH {a b:Int}(h:a≤b):(a≤b)=True:=K_ h
theorem yU {a b:Int}(h:b<a):(a≤b)=False:=Q' (by omega)
theorem zG {a b:Int}(h:a=b):(a=b)=True:=K_ h
theorem yT {a b:Int}(h:a≠b):(a=b)=False:=Q' h
theorem zM {a b:Nat}(h:a<b):(a<b)=True:=K_ h
theorem zd {a b:Nat}(h:b≤a):(a<b)=False:=Q' (by omega)
theorem zK {a b:Nat}(h:a≤b):(a≤b)=True:=K_ h
theorem za {a b:Nat}(h:b<a):(a≤b)=False:=Q' (by omega)
theorem z7 {a b:Nat}(h:a=b):(a=b)=True:=K_ h
theorem z8 {a b:Nat}(h:a≠b):(a=b)=False:=Q' h
theorem y7 {x:Int}(h:-9223372036854775808≤x∧x<9223372036854775808):Q_.wrap x=x:=by rw[M'];omega
theorem yW {n:Nat}:(n:Int).toNat=n:=T_ n
theorem yD (f:Nat→AV)(i:Nat)(v:AV)(j:Nat):Ek f i v j=if j=i then v else f j:=C_ rfl
def fS (l:List AV)(i:Nat)(a:AV):Nat→AV:=Ek (Xf l) i a
def WR (x:AV)(f:Nat→AV):Nat→AV:=fun j=>match j with |0=>x |j+1=>f j
theorem xa (l:List AV)(i:Nat)(a:AV):Ek (Xf l) i a=fS l i a:=C_ rfl
theorem xe (x a:AV)(l:List AV):fS (x :: l) 0 a=Xf (a :: l):=by
 funext j;unfold fS Ek Xf;cases j <;> simp
theorem xd (x a:AV)(l:List AV)(n:Nat):fS (x :: l) (n+1) a=WR x (fS l n a):=by
 funext j;unfold fS Ek Xf WR;cases j <;> simp
theorem pA (x:AV)(l:List AV):WR x (Xf l)=Xf (x :: l):=by
 funext j;unfold Xf WR;cases j <;> simp
def sg (x:Rat):Bool:=decide (x.num<0)
theorem zm (x:Rat):decide (x.num<0)=sg x:=C_ rfl
set_option linter.defProp false in
def wD:=XM @yD (XM @xa <| XM @xe <| XM @xd <| XM @pA <| XM @zI (XM @yV (XM @zH (XM @yU (XM @zG (XM @yT (XM @zM (XM @zd (XM @zK (XM @za (XM @z7 (XM @z8 (XM @y7 @yW)))))))))))))
set_option linter.defProp false in
def Xd:=XM @zm X6
set_option linter.defProp false in
def wG:=XM wD wF
theorem QN {m v n:Nat}{L:List AV}(h:∀x∈L,A_ x):XX m (.row v n (Xf L)):=fun j _=>X4 (Xe h j)
theorem J7 (f:Nat→AV)(t:Bool):A_ (.sl 0 0 f t):=QF fun j hj=>absurd hj (ZAG j)
theorem Hy (q:Rat):q.num.sign<0↔q<0:=by rw[ZBI,Rat.lt_iff];simp
theorem E7 (q:Rat):0<q.num.sign↔0<q:=by rw[Int.sign_pos_iff,Rat.lt_iff];simp
theorem YZ (q:Rat):q.num.sign=0↔q=0:=by rw[Int.sign_eq_zero_iff_zero];exact ZEH
end
end Go.Ab.N
namespace Go.Ab.N
open Go Go.RowKit Go.Proofs
noncomputable section
set_option maxRecDepth 10000
set_option maxHeartbeats 2000000
open Classical
theorem Pa (a b:Int)(la:bl a<4611686018427387904)(lb:bl b<4611686018427387904):Fn Tryz.prog 169 [zA a,zA b] (I (a-b).sign):=by
 unfold bl at la lb;have c1:=BE (Xb b.natAbs) (Xb a.natAbs) (Q6 _) (Q6 _) lb;have c2:=BE (Xb a.natAbs) (Xb b.natAbs) (Q6 _) (Q6 _) la;rw[XG,XG]at c1 c2;obtain⟨V,hV⟩:∃V,V=(a-b).sign:=⟨_,rfl⟩
 rw[←hV];have fin:∀ {s:AS} {v:Int},s.get 4=I v→v=V→TAC (JK Tryz.prog Tryz.f169 [] [] (I V)) s:=fun h e=>Xp rfl h (X9 _) (by rw[e])
 refine Fq Tryz.call169 Tryz.func169 5 [] [] [] (by simp[XT]) (Xk ?_);by_cases ha:a<0
 ·have f1:(a<0)=True:=K_ ha
  by_cases hb:b<0
  ·have f2:(b<0)=True:=K_ hb
   simp only[P',f1,f2,tw,↓X6,wF,seval];refine X2 c1 rfl ?_;simp only[↓X6,wF,seval];refine fin rfl ?_;rw[hV];congr 1;omega
  ·have f2:(b<0)=False:=Q' hb
   simp only[P',f1,f2,tu,↓X6,wF,seval];refine fin rfl ?_;rw[hV,n_ (by omega)]
 ·have f1:(a<0)=False:=Q' ha
  by_cases hb:b<0
  ·have f2:(b<0)=True:=K_ hb
   simp only[P',f1,f2,tj,↓X6,wF,seval];refine fin rfl ?_;rw[hV,u_ (by omega)]
  ·have f2:(b<0)=False:=Q' hb
   simp only[P',f1,f2,ti,↓X6,wF,seval];refine X2 c2 rfl ?_;simp only[↓X6,wF,seval];refine fin rfl ?_;rw[hV];congr 1;omega
theorem W3 (a:Int)(la:bl a<4611686018427387904):Fn Tryz.prog 89 [zA a] (I a.sign):=by
 have c:=Pa a 0 la (by unfold bl;rw[ZEV,Qu];decide);rw[Int.sub_zero]at c;refine Fq Tryz.call89 Tryz.func89 3 [] [] [] (by simp[wS]) (Xk ?_);simp(maxSteps:=999999)only[P',↓X6,wF,seval];refine X0 c ⟨X' _,?_,trivial⟩ ?_
 ·exact JX ⟨X' _,ZV (by rw[ZEV,Qu]),trivial⟩
 simp only[↓X6,wF,seval];exact Xp rfl rfl (X9 _) rfl
theorem AC (r:Rat):Fn Tryz.prog 79 [qA r] (zA r.den):=by
 obtain⟨R,hR⟩:∃R,R=zA r.den:=⟨_,rfl⟩
 have sR:A_ R:=hR▸XT _;rw[←hR];rw[nI]at hR;by_cases h:r.den=1
 ·have f1:((Xb (qd r)).length=0)=True:=K_ ((DT r).2 h)
  have f2:(((Xb (qd r)).length:Int)=0)=True:=K_ (by have:=(DT r).2 h;omega);refine Fq Tryz.call79 Tryz.func79 3 [] [] [] (by simp[wS]) (Xk ?_);simp(maxSteps:=999999)only[P',↓X6,wF,seval];simp only[f1,f2,↓X6,wF,seval];refine X2 (DY 1 ⟨by omega,by omega⟩) rfl ?_;simp only[↓X6,wF,seval];exact Jh rfl Q8 rfl rfl rfl sR (by rw[hR,h];rfl)
 ·have f1:((Xb (qd r)).length=0)=False:=Q' fun e=>h ((DT r).1 e)
  have f2:(((Xb (qd r)).length:Int)=0)=False:=Q' fun e=>h ((DT r).1 (by omega))
  refine Fq Tryz.call79 Tryz.func79 3 [] [] [] (by simp[wS]) (Xk ?_);simp(maxSteps:=999999)only[P',↓X6,wF,seval];simp only[f1,f2,↓X6,wF,seval];exact Jh rfl Q8 rfl rfl rfl sR (by rw[hR,m8 h];rfl)
theorem Qz (r:Rat)(h:qb r≤rm):Fn Tryz.prog 25 [qA r] (I r.num.sign):=by
 have h1:=K0 r;have c:=W3 r.num (by unfold rm at h;omega);refine Fq Tryz.call25 Tryz.func25 3 [] [] [] (by simp[wS]) (Xk ?_);simp(maxSteps:=999999)only[P',↓X6,wF,seval];refine X2 c rfl ?_;simp only[↓X6,wF,seval];exact Xp rfl rfl (X9 _) rfl
theorem K9 (a b:Rat)(ha:qb a≤rm)(hb:qb b≤rm):Fn Tryz.prog 87 [qA a,qA b] (I (AJ a b)):=by
 unfold rm at ha hb;have a1:=K0 a;have a2:=K8 a;have b1:=K0 b;have b2:=K8 b;have m1:=Am a.num b.den (by unfold room;omega) (by unfold room;omega);have m2:=Am b.num a.den (by unfold room;omega) (by unfold room;omega);have n1:=K5 a.num b.den;have n2:=K5 b.num a.den;have c:=Pa (a.num*b.den) (b.num*a.den) (by omega) (by omega);have d1:=AC a;have d2:=AC b;obtain⟨V,hV⟩:∃V,V=AJ a b:=⟨_,rfl⟩
 rw[show(a.num*b.den-b.num*a.den).sign=V from hV.symm]at c;rw[←hV];refine Fq Tryz.call87 Tryz.func87 5 [] [] [] (by simp[wS]) (Xk ?_);simp(maxSteps:=999999)only[P',↓X6,wF,seval];refine X2 d2 rfl ?_;simp only[↓X6,wF,seval];refine X2 m1 rfl ?_;simp only[↓X6,wF,seval];refine X2 d1 rfl ?_;simp only[↓X6,wF,seval];refine X2 m2 rfl ?_;simp only[↓X6,wF,seval];refine X2 c rfl ?_;simp only[↓X6,wF,seval];exact Xp rfl rfl (X9 _) rfl
theorem JU (a b:Rat)(ha:qb a≤rm)(hb:qb b≤rm):Fn Tryz.prog 19 [qA a,qA b] (qA (a+b)):=by
 unfold rm at ha hb;have a1:=K0 a;have a2:=K8 a;have b1:=K0 b;have b2:=K8 b;have m1:=Am a.num b.den (by unfold room;omega) (by unfold room;omega);have m2:=Am b.num a.den (by unfold room;omega) (by unfold room;omega);have m3:=Am a.den b.den (by unfold room;omega) (by unfold room;omega);have n1:=K5 a.num b.den;have n2:=K5 b.num a.den;have n3:=K5 a.den b.den;have n4:=V7 (a.num*b.den) (b.num*a.den);have s1:=Tr (a.num*b.den) (b.num*a.den) (by unfold room;omega) (by unfold room;omega);have k:=Fs (a.num*b.den+b.num*a.den) (a.den*b.den) (by omega) (by omega);have e0:a+b=O_ (a.num*b.den+b.num*a.den) (a.den*b.den):=by
  rw[Rat.add_def',ZP];push_cast;rfl
 rw[←e0]at k;have d1:=AC a;have d2:=AC b;obtain⟨R,hR⟩:∃R,R=qA (a+b):=⟨_,rfl⟩
 have sR:A_ R:=hR▸Xa _;rw[←hR]at k ⊢;refine Fq Tryz.call19 Tryz.func19 7 [] [1,2,3,20000002,20000003,30000002,30000003,40000002,40000003,40000005,40000006] [] (by simp[wS]) (Xk ?_);simp(maxSteps:=999999)only[P',↓X6,wF,seval];refine X2 d2 rfl ?_;simp only[↓X6,wF,seval];refine X2 m1 rfl ?_;simp only[↓X6,wF,seval];refine X2 d1 rfl ?_;simp only[↓X6,wF,seval];refine X2 m2 rfl ?_;simp only[↓X6,wF,seval];refine X2 s1 rfl ?_;simp only[↓X6,wF,seval];refine X2 d1 rfl ?_;simp only[↓X6,wF,seval];refine X2 d2 rfl ?_;simp only[↓X6,wF,seval];refine X2 m3 rfl ?_;simp only[↓X6,wF,seval];refine X2 k rfl ?_;simp only[hR,↓X6,wF,seval];exact Jh rfl XY rfl rfl rfl sR (hR.trans rfl)
theorem QR (a b:Rat)(ha:qb a≤rm)(hb:qb b≤rm):Fn Tryz.prog 93 [qA a,qA b] (qA (a*b)):=by
 unfold rm at ha hb;have a1:=K0 a;have a2:=K8 a;have b1:=K0 b;have b2:=K8 b;have m1:=Am a.num b.num (by unfold room;omega) (by unfold room;omega);have m3:=Am a.den b.den (by unfold room;omega) (by unfold room;omega);have n1:=K5 a.num b.num;have n3:=K5 a.den b.den;have k:=Fs (a.num*b.num) (a.den*b.den) (by omega) (by omega);have e0:a*b=O_ (a.num*b.num) (a.den*b.den):=by
  rw[Rat.mul_def',ZP];push_cast;rfl
 rw[←e0]at k;have d1:=AC a;have d2:=AC b;obtain⟨R,hR⟩:∃R,R=qA (a*b):=⟨_,rfl⟩
 have sR:A_ R:=hR▸Xa _;rw[←hR]at k ⊢;refine Fq Tryz.call93 Tryz.func93 5 [] [] [] (by simp[wS]) (Xk ?_);simp(maxSteps:=999999)only[P',↓X6,wF,seval];refine X2 m1 rfl ?_;simp only[↓X6,wF,seval];refine X2 d1 rfl ?_;simp only[↓X6,wF,seval];refine X2 d2 rfl ?_;simp only[↓X6,wF,seval];refine X2 m3 rfl ?_;simp only[↓X6,wF,seval];refine X2 k rfl ?_;simp only[hR,↓X6,wF,seval];exact Jh rfl XY rfl rfl rfl sR (hR.trans rfl)
theorem wv (r:Rat):qd (-r)=qd r:=by unfold qd;rw[Rat.neg_den]
theorem Jx (r:Rat)(h:qb r≤rm):Fn Tryz.prog 106 [qA r] (qA (-r)):=by
 unfold rm at h;have h1:=K0 r;have c:=Nh r.num (by unfold room;omega);have e:qA (-r)=.agg [.bool (decide (-r.num<0)),X8 (Xb (-r.num).natAbs),.bool false,X8 (Xb (qd r))]:=by
  unfold qA qC;rw[wv,Rat.neg_num]
 obtain⟨R,hR⟩:∃R,R=qA (-r):=⟨_,rfl⟩
 have sR:A_ R:=hR▸Xa _;rw[←hR];refine Fq Tryz.call106 Tryz.func106 3 [] [] [] (by simp[wS]) (Xk ?_);simp(maxSteps:=999999)only[P',↓X6,wF,seval];refine X2 c rfl ?_;simp only[↓X6,wF,seval];exact Jh rfl XY rfl rfl rfl sR (hR.trans e)
theorem C4 (r:Rat):qb (-r)=qb r:=by
 unfold qb bl;rw[Rat.neg_den,Rat.neg_num,Int.natAbs_neg]
theorem Bm (a b:Rat)(ha:qb a≤rm)(hb:qb b≤rm):Fn Tryz.prog 176 [qA a,qA b] (qA (a-b)):=by
 have c:=Jx b hb;have k:=JU a (-b) ha (by rw[C4];exact hb);rw[←ZEG]at k;obtain⟨R,hR⟩:∃R,R=qA (a-b):=⟨_,rfl⟩
 have sR:A_ R:=hR▸Xa _;rw[←hR]at k ⊢;refine Fq Tryz.call176 Tryz.func176 5 [] [] [] (by simp[wS]) (Xk ?_);simp(maxSteps:=999999)only[P',↓X6,wF,seval];refine X2 c rfl ?_;simp only[↓X6,wF,seval];refine X2 k rfl ?_;simp only[hR,↓X6,wF,seval];exact Jh rfl XY rfl rfl rfl sR (hR.trans rfl)
theorem Hq (neg:Bool)(d:List Int)(hl:d.length<4611686018427387904):Fn Tryz.prog 168 [zR neg d] (.bool (KQ neg d)):=by
 obtain⟨V,hV⟩:∃V,V=KQ neg d:=⟨_,rfl⟩
 rw[←hV];unfold KQ at hV;have fin:∀ {s:AS} {v:Bool},s.get 2=.bool v→v=V→TAC (JK Tryz.prog Tryz.f168 [] [] (.bool V)) s:=fun h e=>Xp rfl h (X5 _) (by rw[e])
 refine Fq Tryz.call168 Tryz.func168 4 [] [] [] (by simp[Xj]) (Xk ?_);simp only[P',zR,↓X6,wF,seval];refine Xi (fun i:Nat=>⟨4,[],[.any,.ref 0 0 0,.bool false,I i],[],[.row 0 2 (Xf [.bool neg,X8 d])]⟩) (fun i=>i≤d.length∧∀j,j<i→GB (d.getD j 0)=false) (fun i=>d.length-i) 0 ⟨by omega,by omega⟩
  (ZS (by simp[Xm,I]) (by simp[Xo])) ?_
 rintro i ⟨hi,hok⟩ next
 have w1:=wj i (by omega);by_cases hi2:i<d.length
 ·have f1:((i:Int)<d.length)=True:=K_ (by omega)
  have f2:(i<d.length)=True:=K_ hi2;have bad:GB (d.getD i 0)=true→false=V:=fun h=>by
   have:d.any GB=true:=ZBJ.2 ⟨d.getD i 0,GV hi2,h⟩;rw[hV,this];rfl
  by_cases g1:d.getD i 0<0
  ·have k1:(d.getD i 0<0)=True:=K_ g1
   refine Xk ?_;simp only[Xo,w1,f1,f2,k1,T_,↓X6,wF,seval];exact fin rfl (bad (by unfold GB;rw[Y' g1];rfl))
  have k1:(d.getD i 0<0)=False:=Q' g1;by_cases g2:1000000000≤d.getD i 0
  ·have k2:(1000000000≤d.getD i 0)=True:=K_ g2
   refine Xk ?_;simp only[Xo,w1,f1,f2,k1,k2,T_,↓X6,wF,seval];exact fin rfl (bad (by unfold GB;rw[Y' g2];simp))
  have k2:(1000000000≤d.getD i 0)=False:=Q' g2;refine Xk ?_;simp only[Xo,w1,f1,f2,k1,k2,T_,↓X6,wF,seval];refine next (i+1) _ ⟨by omega,fun j hj=>?_⟩ (by omega) (ZS (by simp[Xm,I]) (by simp[Xo]))
  by_cases e:j<i
  ·exact hok j e
  ·obtain rfl:j=i:=by omega
   unfold GB;rw[Y_ g1,Y_ g2];rfl
 obtain rfl:i=d.length:=by omega
 have TBK:d.any GB=false:=by
  rw[List.any_eq_false];intro x hx;obtain⟨k,hk,rfl⟩:=ZAI hx;have:=hok k hk;rw[K',U_ hk]at this
  simpa using this
 rw[TBK]at hV;by_cases h0:d.length=0
 ·have f1:(d.length=0)=True:=K_ h0
  have f2:((d.length:Int)=0)=True:=K_ (by omega);refine Xk ?_;simp only[Xo,f1,f2,ZAE,zZ,↓X6,wF,seval];exact fin rfl (by rw[hV,N_ h0];simp)
 ·have f1:(d.length=0)=False:=Q' h0
  have f2:((d.length:Int)=0)=False:=Q' (by omega);have f3:(0<d.length)=True:=K_ (by omega);have f4:(0<(d.length:Int))=True:=K_ (by omega);have w2:Q_.wrap ((d.length:Int)-1)=((d.length-1:Nat):Int):=by rw[M'];omega
  have f5:(d.length-1<d.length)=True:=K_ (by omega);refine Xk ?_;simp only[Xo,f1,f2,f3,f4,f5,w2,T_,ZAE,zZ,↓X6,wF,seval];exact fin rfl (by rw[hV,M_ h0];simp)
theorem C6 (x:RQ)(hx:x.sz<1000000000):Fn Tryz.prog 86 [x.A] (.bool (decide x.ok)):=by
 unfold RQ.sz at hx;obtain⟨V,hV⟩:∃V,V=decide x.ok:=⟨_,rfl⟩
 have c1:=Hq x.pn x.pd (by omega);have c2:=Hq x.qn x.qd (by omega);have c3:=Td x.qn x.qd;have TEB:KQ x.pn x.pd=false→V=false:=fun h=>by
  rw[hV];refine Y_ ?_;rintro⟨r,rfl⟩;have:KQ (RQ.of r).pn (RQ.of r).pd=true:=(ZI _ _).2 ⟨r.num,rfl,rfl⟩;rw[this]at h;cases h
 have TEC:KQ x.qn x.qd=false→V=false:=fun h=>by
  rw[hV];refine Y_ ?_;rintro⟨r,rfl⟩;have:KQ (RQ.of r).qn (RQ.of r).qd=true:=(ZI _ _).2 ⟨(Ab.N.qd r:Int),by unfold RQ.of;simp,by unfold RQ.of;simp⟩;rw[this]at h;cases h
 have fin:∀ {s:AS} {v:Bool},s.get 2=.bool v→v=V→TAC (JK Tryz.prog Tryz.f86 [] [] (.bool V)) s:=fun h e=>Xp rfl h (X5 _) (by rw[e])
 rw[←hV];refine Fq Tryz.call86 Tryz.func86 3 [] [] [] (by simp[Cy]) (Xk ?_);simp only[P',RQ.A,RQ.L,↓X6,wF,seval];refine X2 c1 rfl ?_;by_cases v1:KQ x.pn x.pd=true
 rotate_left
 ·rw[ZA2]at v1
  rw[v1];simp only[↓X6,wF,seval];exact fin rfl (TEB v1).symm
 rw[v1];simp only[↓X6,wF,seval];refine X2 c2 rfl ?_;by_cases v2:KQ x.qn x.qd=true
 rotate_left
 ·rw[ZA2]at v2
  rw[v2];simp only[↓X6,wF,seval];exact fin rfl (TEC v2).symm
 rw[v2];obtain⟨p,p1,p2⟩:=(ZI _ _).1 v1;obtain⟨q,q1,q2⟩:=(ZI _ _).1 v2;have hok:=RQ.TCB x p q p1 p2 q1 q2;have lp:bl p<1000000000:=by unfold bl;rw[←p2];omega
 have lq:bl q<1000000000:=by unfold bl;rw[←q2];omega
 rw[q1,q2,RA]at c3;have cg:=TF p q lp lq;have cu:=Rk (ZAd p q);rw[p1,p2,q1,q2];have hl:((Xb q.natAbs).length=0)=(q=0):=propext (TAA.trans (by omega));have hlN:(Xb q.natAbs).length=0↔q=0:=TAA.trans (by omega);have hlI:(((Xb q.natAbs).length:Int)=0)=(q=0):=propext (by omega);by_cases h1:q<0
 ·have f1:(q<0)=True:=K_ h1
  simp only[f1,↓X6,wF,seval];exact fin rfl (by rw[hV,Y_ (by rw[hok];exact fun h=>h.1 h1)])
 have f1:(q<0)=False:=Q' h1;simp only[f1,↓X6,wF,seval];have c3':=c3;rw[Y_ h1]at c3';refine X2 c3' rfl ?_;by_cases h2:q=1
 ·have f2:(q=1)=True:=K_ h2
  simp only[f1,f2,↓X6,wF,seval];exact fin rfl (by rw[hV,Y_ (by rw[hok];exact fun h=>h.2.1 h2)])
 have f2:(q=1)=False:=Q' h2;by_cases h0:q=0
 ·have f3:(q=0)=True:=K_ h0
  simp only[f1,f2,f3,hl,hlI,↓X6,wF,seval];exact fin rfl (by rw[hV,Y' (hok.2 ⟨h1,h2,.inl h0⟩)])
 have f3:(q=0)=False:=Q' h0;simp only[f1,f2,f3,hl,hlI,↓X6,wF,seval];rw[az h1]at cg;refine X2 cg rfl ?_;simp only[↓X6,wF,seval];refine X2 cu rfl ?_;simp only[↓X6,wF,seval];refine fin rfl ?_;rw[hV,decide_eq_decide,hok];constructor
 ·intro h;exact⟨h1,h2,.inr (by omega)⟩
 ·rintro⟨_,_,h |h⟩
  ·exact absurd h h0
  ·rw[h];rfl
theorem Kq (x y:Int)(hx:ZO x)(hy:ZO y):Fn Tryz.prog 53 [I x,I y] (vA ⟨x,y⟩):=by
 have e:∀n:Int,O_ n 1=(n:Rat):=fun n=>by
  rw[show(1:Int)=((1:Nat):Int)from rfl,Rat.divInt_ofNat];have:=Rat.mkRat_self (n:Rat);rwa[Rat.num_intCast,Rat.den_intCast]at this
 obtain⟨R,hR⟩:∃R,R=vA ⟨x,y⟩:=⟨_,rfl⟩
 have sR:A_ R:=hR▸Xx _;have c1:=XS x 1 hx ⟨by omega,by omega⟩;have c2:=XS y 1 hy ⟨by omega,by omega⟩;rw[e]at c1 c2;rw[←hR];refine Fq Tryz.call53 Tryz.func53 5 [] [] [] (by simp[wS]) (Xk ?_);simp(maxSteps:=999999)only[P',↓X6,wF,seval];refine X2 c1 rfl ?_;simp only[↓X6,wF,seval];refine X2 c2 rfl ?_;simp only[↓X6,wF,seval];exact At rfl JH rfl rfl rfl sR (hR.trans rfl)
theorem J1 (a b:V2)(ha:vb a≤rm)(hb:vb b≤rm):Fn Tryz.prog 97 [vA a,vA b] (vA (a.sub b)):=by
 obtain⟨R,hR⟩:∃R,R=vA (a.sub b):=⟨_,rfl⟩
 have sR:A_ R:=hR▸Xx _;have:=Jk a;have:=Jk b;have:=Jc a;have:=Jc b;have c1:=Bm a.x b.x (by omega) (by omega);have c2:=Bm a.y b.y (by omega) (by omega);rw[←hR];refine Fq Tryz.call97 Tryz.func97 5 [] [] [] (by simp[wS]) (Xk ?_);simp(maxSteps:=999999)only[P',↓X6,wF,seval];refine X2 c1 rfl ?_;simp only[↓X6,wF,seval];refine X2 c2 rfl ?_;simp only[↓X6,wF,seval];exact At rfl JH rfl rfl rfl sR (hR.trans rfl)
theorem Z4 (a b:V2)(ha:vb a≤vm)(hb:vb b≤vm):Fn Tryz.prog 96 [vA a,vA b] (qA (Xr a b)):=by
 unfold vm at ha hb;obtain⟨R,hR⟩:∃R,R=qA (Xr a b):=⟨_,rfl⟩
 have sR:A_ R:=hR▸Xa _;have:=Jk a;have:=Jk b;have:=Jc a;have:=Jc b;have m1:=Qo a.x b.y;have m2:=Qo a.y b.x;have c1:=QR a.x b.y (by unfold rm;omega) (by unfold rm;omega);have c2:=QR a.y b.x (by unfold rm;omega) (by unfold rm;omega);have c4:=Bm (a.x*b.y) (a.y*b.x) (by unfold rm;omega) (by unfold rm;omega);rw[show a.x*b.y-a.y*b.x=Xr a b from rfl,←hR]at c4;rw[←hR];refine Fq Tryz.call96 Tryz.func96 5 [] [] [] (by simp[wS]) (Xk ?_);simp(maxSteps:=999999)only[P',↓X6,wF,seval];refine X2 c1 rfl ?_;simp only[↓X6,wF,seval];refine X2 c2 rfl ?_;simp only[↓X6,wF,seval];refine X2 c4 rfl ?_;simp only[hR,↓X6,wF,seval];exact At rfl XY rfl rfl rfl sR (hR.trans rfl)
theorem KF (a b:V2)(ha:vb a≤vm)(hb:vb b≤vm):Fn Tryz.prog 117 [vA a,vA b] (qA (Qb a b)):=by
 unfold vm at ha hb;obtain⟨R,hR⟩:∃R,R=qA (Qb a b):=⟨_,rfl⟩
 have sR:A_ R:=hR▸Xa _;have:=Jk a;have:=Jk b;have:=Jc a;have:=Jc b;have m1:=Qo a.x b.x;have m2:=Qo a.y b.y;have c1:=QR a.x b.x (by unfold rm;omega) (by unfold rm;omega);have c2:=QR a.y b.y (by unfold rm;omega) (by unfold rm;omega);have c4:=JU (a.x*b.x) (a.y*b.y) (by unfold rm;omega) (by unfold rm;omega);rw[show a.x*b.x+a.y*b.y=Qb a b from rfl,←hR]at c4;rw[←hR];refine Fq Tryz.call117 Tryz.func117 5 [] [] [] (by simp[wS]) (Xk ?_);simp(maxSteps:=999999)only[P',↓X6,wF,seval];refine X2 c1 rfl ?_;simp only[↓X6,wF,seval];refine X2 c2 rfl ?_;simp only[↓X6,wF,seval];refine X2 c4 rfl ?_;simp only[hR,↓X6,wF,seval];exact At rfl XY rfl rfl rfl sR (hR.trans rfl)
theorem Tz (a b c:V2)(ha:vb a≤vs)(hb:vb b≤vs)(hc:vb c≤vs):Fn Tryz.prog 152 [vA a,vA b,vA c] (I (Kz a b c)):=by
 unfold vs at ha hb hc;have m1:=J3 b a;have m2:=J3 c a;have c1:=J1 b a (by unfold rm;omega) (by unfold rm;omega);have c2:=J1 c a (by unfold rm;omega) (by unfold rm;omega);have c3:=Z4 (b.sub a) (c.sub a) (by unfold vm;omega) (by unfold vm;omega);have q:=Kv (b.sub a) (c.sub a);have c4:=Qz (Xr (b.sub a) (c.sub a)) (by unfold rm;omega);refine Fq Tryz.call152 Tryz.func152 7 [] [] [] (by simp[wS]) (Xk ?_);simp(maxSteps:=999999)only[P',↓X6,wF,seval];refine X2 c1 rfl ?_;simp only[↓X6,wF,seval];refine X2 c2 rfl ?_;simp only[↓X6,wF,seval];refine X2 c3 rfl ?_;simp only[↓X6,wF,seval];refine X2 c4 rfl ?_;simp only[↓X6,wF,seval];exact Xp rfl rfl (X9 _) rfl
end
end Go.Ab.N
