/- Contracts of functions, for every argument that fits. -/
import Derived.Test.YtcmfnmceomhgcaaGreatC4
import Derived.Test.YtcmfnmceomhgcaaGreatAb4
open And renaming intro → XB
set_option linter.unusedSimpArgs false
set_option linter.unusedVariables false
open Nat renaming reducePow → Y1, reduceLT → Y2, reduceLeDiff → Y3, reduceEqDiff → Y4, reduceAdd → Y5, reduceMul → Y6, reduceSub → Y7, reduceBEq → Y8, reduceDiv → Y9, reduceMod → YA
open Bool renaming and_false→ZEW
open Go.Ab.AS renaming start→O_
open Go.IntKind renaming i64→Q_
open Int renaming gcd→ZAn,reduceLT→ZAz,reduceAdd→ZCN,natAbs_ediv_le_natAbs→ZDU,natAbs_zero→ZEX
open Nat renaming gcd_comm→ZBn,gcd_zero_right→ZC4
open Rat renaming divInt→P',sub_eq_add_neg→ZEI
namespace Go.Ab.N
open Go Go.RowKit Go.Proofs
theorem Y_:type_of%@List.mem_singleton:=@List.mem_singleton
theorem h_:type_of%@List.nil_append:=@List.nil_append
theorem ZBQ:type_of%@Nat.mul_le_mul:=@Nat.mul_le_mul
noncomputable section
set_option maxRecDepth 10000
set_option maxHeartbeats 2000000
open Classical
theorem Ng (x y:Int)(hx:bl x<1000000000)(hy:bl y<1000000000:=by omega)(hy0:y≠0:=by omega):Fn Tryz.prog 158 [zA x,zA y] (.tup [zA (x/y),zA (x%y)]):=by
 obtain⟨L,dL,vL,lL,cd⟩:=VA x.natAbs y.natAbs hx hy (by omega);obtain⟨q,hq⟩:∃q,q=x.natAbs/y.natAbs:=⟨_,rfl⟩
 obtain⟨r,hr⟩:∃r,r=x.natAbs%y.natAbs:=⟨_,rfl⟩
 have hry:r<y.natAbs:=by rw[hr];exact ZAI _ (by omega)
 have hqx:q≤x.natAbs:=by rw[hq];exact Nat.div_le_self _ _
 rw[←hq]at vL;rw[←hr]at cd;have lr:(Xa r).length<1000000000:=by
  have:=Jm (y:=(r:Int)) (z:=y);rw[KC]at this;omega
 have ly:(Xa y.natAbs).length<1000000000:=hy;have lry:(Xa r).length≤(Xa y.natAbs).length:=by
  have:=Jm (y:=(r:Int)) (z:=y);rw[KC]at this;exact this
 have y1:((Xa y.natAbs).length=0)=False:=R_ (fun h=>by have:=TAA.1 h;omega);have y2:(((Xa y.natAbs).length:Int)=0)=False:=R_ (fun h=>by have:=TAA.1 (show(Xa y.natAbs).length=0 by omega);omega);obtain⟨q1,r1,h1⟩:∃q1 r1,if x<0∧r≠0 then q1=q+1∧r1=y.natAbs-r else q1=q∧r1=r:=by
  by_cases h:x<0∧r≠0
  ·exact⟨q+1,y.natAbs-r,by rw[N_ h];exact⟨rfl,rfl⟩⟩
  ·exact⟨q,r,by rw[M_ h];exact⟨rfl,rfl⟩⟩
 obtain⟨e1,e2⟩:=My x y hy0 q r hq hr q1 r1 h1;obtain⟨s,hsg⟩:∃s,s=(decide (x<0) != decide (y<0)):=⟨_,rfl⟩
 have TEF:(!(decide (x<0) == decide (y<0)))=s:=by rw[hsg];cases decide (x<0) <;> cases decide (y<0) <;> rfl
 have c1:=Ks s L dL;rw[vL]at c1;have c2:=Ks false (Xa r) (XW r);rw[XJ,show Zg false (r:Int)=(r:Int)from rfl,Jb]at c2;obtain⟨Q,hQ⟩:∃Q,Q=zA (x/y):=⟨_,rfl⟩
 obtain⟨R,hR⟩:∃R,R=zA (x%y):=⟨_,rfl⟩
 have sQ:A_ Q:=hQ▸XS _;have sR:A_ R:=hR▸XS _;rw[←hQ,←hR];rw[e1,←hsg]at hQ;rw[e2,Jb]at hR;have g1:∀n:Nat,(0<(Xa n).length)=(n≠0):=fun n=>propext (by have:=@TAA n;omega)
 have fin:∀ {s':AS},A8 Tryz.prog s' (.cell 4 26)=some (zA (Zg s q1))→A8 Tryz.prog s' (.cell 5 26)=some (.agg [.bool false,X9 (Xa r1)]) →
   TAC (JK Tryz.prog Tryz.f158 [9,10000,100000009] [] (.tup [Q,R])) s':=fun h1 h2=>FK rfl h1 h2 (XY sQ hQ.symm) (XY sR hR.symm)
 by_cases hc:x<0∧r≠0
 ·obtain⟨hx0,hr0⟩:=hc
  rw[N_ ⟨hx0,hr0⟩]at h1;obtain⟨rfl,rfl⟩:=h1;have c3:=Ks s [1] (ZD.2 ⟨⟨by omega,by omega⟩,CP⟩) (by simp);rw[show val [(1:Int)]=1 by simp[val]]at c3;have bq:bl (Zg s (q:Int))<room:=by
   have h2:=Jm (y:=Zg s (q:Int)) (z:=x) (by unfold Zg;split <;> omega);unfold room;omega
  have c4:=TI (Zg s (q:Int)) (Zg s 1) bq (by
   have:=Aa (n:=Zg s 1) (by unfold Zg;split <;> exact⟨by omega,by omega⟩);unfold room;omega)
  rw[show Zg s (q:Int)+Zg s 1=Zg s ((q+1:Nat):Int)by unfold Zg;split <;> omega]at c4;have cm:=FL (Xa y.natAbs) (Xa r) (XW _) (XW _) (by omega) lry (by rw[XJ,XJ];omega);have vm:=CA (XW y.natAbs) (XW r) lry (by rw[XJ,XJ];omega);rw[XJ,XJ]at vm;have c5:=Ks false (Ae (Xa y.natAbs) (Xa r)) (Cz (XW _) (XW _)) (by unfold Ae;rw[Qq];omega);rw[vm,show Zg false ((y.natAbs:Int)-r)=((y.natAbs-r:Nat):Int)by unfold Zg;simp;omega,Jb]at c5;have f1:(x<0)=True:=L' hx0;have f2:(0<(Xa r).length)=True:=L' (by rw[g1];exact hr0);have f3:(0<((Xa r).length:Int))=True:=L' (by have:=of_eq_true f2;omega);have hsT:(!(true == decide (y<0)))=s:=by rw[←TEF,c_ hx0]
  refine Fq Tryz.call158 Tryz.func158 10 [] [9,10000,100000009] [] (by simp[KM,Xb,Xi]) (Xk ?_);simp(maxSteps:=999999)only[O_,↓X6,wA,seval,zA,qA,qC,wN];simp only[y1,y2,f1,↓X6,wA,seval,zA,qA,qC,wN];refine X2 cd rfl ?_;simp only[f1,decide_true,hsT,↓X6,wA,seval,zA,qA,qC,wN];refine X2 c1 rfl ?_;simp only[f1,f2,f3,decide_true,↓X6,wA,seval,zA,qA,qC,wN];refine X2 c2 rfl ?_;simp only[f1,f2,f3,hsT,decide_true,↓X6,wA,seval,zA,qA,qC,wN];refine X0 c3 ⟨U_ _,Cr rfl rfl,trivial⟩ ?_;simp only[↓X6,wA,seval,zA,qA,qC,wN];refine X2 c4 rfl ?_;simp only[↓X6,wA,seval,zA,qA,qC,wN];refine X2 cm rfl ?_;simp only[↓X6,wA,seval,zA,qA,qC,wN];refine X2 c5 rfl ?_;simp only[↓X6,wA,seval,zA,qA,qC,wN];exact fin (Xt Q5 rfl rfl rfl) (Xt Q5 rfl rfl rfl)
 rw[M_ hc]at h1;obtain⟨rfl,rfl⟩:=h1;have zr:x<0→(0<(Xa r1).length)=False:=fun h=>R_ (by rw[g1];exact fun h2=>hc ⟨h,h2⟩)
 by_cases hx0:x<0
 ·have f1:(x<0)=True:=L' hx0
  have f2:=zr hx0;have f3:(0<((Xa r1).length:Int))=False:=R_ (by have:=of_eq_false f2;omega);have hsT:(!(true == decide (y<0)))=s:=by rw[←TEF,c_ hx0]
  refine Fq Tryz.call158 Tryz.func158 10 [] [9,10000,100000009] [] (by simp[KM,Xb,Xi]) (Xk ?_);simp(maxSteps:=999999)only[O_,↓X6,wA,seval,zA,qA,qC,wN];simp only[y1,y2,f1,↓X6,wA,seval,zA,qA,qC,wN];refine X2 cd rfl ?_;simp only[f1,f2,f3,decide_true,hsT,↓X6,wA,seval,zA,qA,qC,wN];refine X2 c1 rfl ?_;simp only[f1,f2,f3,decide_true,↓X6,wA,seval,zA,qA,qC,wN];refine X2 c2 rfl ?_;simp only[f1,f2,f3,decide_true,↓X6,wA,seval,zA,qA,qC,wN];exact fin (Xt Q5 rfl rfl rfl) (Xt Q5 rfl rfl rfl)
 ·have f1:(x<0)=False:=R_ hx0
  have hsT:(!(false == decide (y<0)))=s:=by rw[←TEF,Z_ hx0]
  refine Fq Tryz.call158 Tryz.func158 10 [] [9,10000,100000009] [] (by simp[KM,Xb,Xi]) (Xk ?_);simp(maxSteps:=999999)only[O_,↓X6,wA,seval,zA,qA,qC,wN];simp only[y1,y2,f1,↓X6,wA,seval,zA,qA,qC,wN];refine X2 cd rfl ?_;simp only[f1,decide_false,hsT,↓X6,wA,seval,zA,qA,qC,wN];refine X2 c1 rfl ?_;simp only[f1,decide_false,↓X6,wA,seval,zA,qA,qC,wN];refine X2 c2 rfl ?_;simp only[f1,decide_false,↓X6,wA,seval,zA,qA,qC,wN];exact fin (Xt Q5 rfl rfl rfl) (Xt Q5 rfl rfl rfl)
def Zc (x y:Int)(p:Nat×Nat):AS :=
  ⟨12,[],[.any,.any,.ref 0 0 0,.ref 1 0 0,.ref 2 0 0,.ref 3 0 0,.ref 4 0 0,.any,.any,.any,.any,.any],[],
    [.row 0 2 (Xf [.bool (decide (x<0)),X9 (Xa x.natAbs)]),.row 0 2 (Xf [.bool (decide (y<0)),X9 (Xa y.natAbs)]),.row 0 2 (Xf [.bool false,.sl 0 0 (fun _=>.any) true]),
     .row 0 2 (Xf [.bool false,X9 (Xa p.1)]),.row 0 2 (Xf [.bool false,X9 (Xa p.2)])]⟩
def E8 (x y:Int)(A B:Nat)(p:Nat×Nat):AS :=
  ⟨12,[],[.any,.any,.ref 0 0 0,.ref 1 0 0,.ref 2 0 0,.ref 3 0 0,.ref 4 0 0,I p.1,I p.2,.any,.any,.any],[],
    [.row 0 2 (Xf [.bool (decide (x<0)),X9 (Xa x.natAbs)]),.row 0 2 (Xf [.bool (decide (y<0)),X9 (Xa y.natAbs)]),.row 0 2 (Xf [.bool false,.sl 0 0 (fun _=>.any) true]),
     .row 0 2 (Xf [.bool false,X9 (Xa A)]),.row 0 2 (Xf [.bool false,X9 (Xa B)])]⟩
theorem TV (x y:Int)(hx:bl x<1000000000)(hy:bl y<1000000000):Fn Tryz.prog 157 [zA x,zA y] (zA (ZAn x y)):=by
 have ofC:∀n:Nat,(Xa n).length<1000000002→Fn Tryz.prog 156 [.bool false,X9 (Xa n)] (.agg [.bool false,X9 (Xa n)]):=fun n h=>by
  have:=Ks false (Xa n) (XW n);rw[XJ]at this;rw[←Jb];exact this
 unfold bl at hx hy;have cx:=ofC x.natAbs (by omega);have cy:=ofC y.natAbs (by omega);obtain⟨R,hR⟩:∃R,R=zA (ZAn x y):=⟨_,rfl⟩
 have sR:A_ R:=hR▸XS _;rw[←hR];rw[Jb]at hR;refine Fq Tryz.call157 Tryz.func157 12 [] [] [] (by simp[KM,Xb,Xi]) (Xk ?_);simp(maxSteps:=999999)only[O_,↓X6,wA,seval,zA,qA,qC,wN];refine X2 cx rfl ?_;simp only[↓X6,wA,seval,zA,qA,qC,wN];refine X2 cy rfl ?_;simp only[↓X6,wA,seval,zA,qA,qC,wN];refine Xj (Zc x y) (qS x y) (fun p=>p.2) (x.natAbs,y.natAbs) ⟨rfl,hx,hy⟩ ?_ ?_
 ·exact Xh rfl (by simp[Zc,Xo]) (by simp[Zc,Xx]) rfl
 rintro⟨A,B⟩ ⟨g1,g2,g3⟩ next
 simp only at g1 g2 g3;by_cases hB:B=0
 ·have f1:(0<(Xa B).length)=False:=R_ (by have:=@TAA B;omega)
  have f2:(0<((Xa B).length:Int))=False:=R_ (by have:=@TAA B;omega);refine Xk ?_;simp only[Zc,f1,f2,↓X6,wA,seval,zA,qA,qC,wN];refine Ql rfl Q5 rfl rfl rfl hR sR ?_;rw[hB,ZC4]at g1;rw[←g1];exact⟨U_ _,U_ _,trivial⟩
 have f1:(0<(Xa B).length)=True:=L' (by have:=@TAA B;omega);have f2:(0<((Xa B).length:Int))=True:=L' (by have:=@TAA B;omega);by_cases hAB:(Xa A).length≤2∧(Xa B).length≤2
 ·have c1:=LU _ (XW A) hAB.1
  have c2:=LU _ (XW B) hAB.2;rw[XJ]at c1 c2;have k1:(((Xa A).length:Int)≤2)=True:=L' (by omega);have k2:(((Xa B).length:Int)≤2)=True:=L' (by omega);have l1:=AD hAB.1;have l2:=AD hAB.2;refine Xk ?_;simp only[Zc,f1,f2,k1,k2,↓X6,wA,seval,zA,qA,qC,wN];refine X2 c1 rfl ?_;simp only[↓X6,wA,seval,zA,qA,qC,wN];refine X2 c2 rfl ?_;simp only[↓X6,wA,seval,zA,qA,qC,wN];refine Xj (E8 x y A B) (fun p=>Nat.gcd p.1 p.2=ZAn x y∧(p.1:Int)<1000000000000000000∧(p.2:Int)<1000000000000000000) (fun p=>p.2) (A,B) ⟨g1,l1,l2⟩ (Xh rfl (by simp[E8,Xo,I]) (by simp[E8,Xx]) rfl) ?_;rintro⟨m,n⟩ ⟨h1,h2,h3⟩ TAT;simp only at h1 h2 h3;by_cases hn:n=0
  ·have j1:(0<(n:Int))=False:=R_ (by omega)
   have j1':(0<n)=False:=R_ (by omega);have hm:m=ZAn x y:=by rw[hn,ZC4]at h1;exact h1
   have cu:=Eb (m:Int) ⟨by omega,by omega⟩;rw[Jb]at cu;refine Xk ?_;simp only[E8,j1,j1',↓X6,wA,seval,zA,qA,qC,wN];refine X2 cu rfl ?_;simp only[↓X6,wA,seval,zA,qA,qC,wN];refine Ql rfl Q5 rfl rfl rfl hR sR ?_;rw[←hm];exact⟨U_ _,U_ _,trivial⟩
  ·have j1:(0<(n:Int))=True:=L' (by omega)
   have j1':(0<n)=True:=L' (by omega);have j2:((n:Int)=0)=False:=R_ (by omega);have e2:(m:Int).tmod n=((m%n:Nat):Int):=rfl;have hlt:m%n<n:=ZAI _ (by omega);refine Xk ?_;simp only[E8,j1,j1',j2,e2,↓X6,wA,seval,zA,qA,qC,wN];refine TAT (n,m%n) _ ⟨?_,h3,by simp only;omega⟩ hlt (Xh rfl (by simp[E8,Xo,I]) (by simp[E8,Xx]) rfl);simp only;rw[←h1,ZBn m n,Nat.gcd_rec n m,ZBn]
 ·have cd:=Ng (A:Int) (B:Int) (by rw[KC];exact g2) (by rw[KC];exact g3)
  rw[show(A:Int)/B=((A/B:Nat):Int)from rfl,show(A:Int)%B=((A%B:Nat):Int)from rfl,Jb,Jb,Jb,Jb]at cd;have hlt:A%B<B:=ZAI _ (by omega);have TDB:qS x y (B,A%B):=by
   refine⟨?_,g3,?_⟩
   ·simp only
    rw[←g1,ZBn A B,Nat.gcd_rec B A,ZBn]
   ·have:=Jm (y:=((A%B:Nat):Int)) (z:=(B:Int))
    rw[KC,KC]at this;simp only;omega
  by_cases hA2:(Xa A).length≤2
  ·have k1:(((Xa A).length:Int)≤2)=True:=L' (by omega)
   have k2:(((Xa B).length:Int)≤2)=False:=R_ fun h=>hAB ⟨hA2,by omega⟩
   refine Xk ?_;simp only[Zc,f1,f2,k1,k2,↓X6,wA,seval,zA,qA,qC,wN];refine X2 cd rfl ?_;simp only[↓X6,wA,seval,zA,qA,qC,wN];exact next (B,A%B) _ TDB hlt (XG (m:=5) (p_ _) rfl (by simp[zA,qA,qC,wN,Zc,Xo,X9,QG,I]) (by simp[zA,qA,qC,wN,Zc,Xx]) (by simp[zA,qA,qC,wN,Zc,X9,QG,I]) (by simp[zA,qA,qC,wN,Zc,XP]) (by simp[zA,qA,qC,wN,Zc,XP]) (by simp[zA,qA,qC,wN,Zc,XP]))
  ·have k1:(((Xa A).length:Int)≤2)=False:=R_ (by omega)
   refine Xk ?_;simp only[Zc,f1,f2,k1,↓X6,wA,seval,zA,qA,qC,wN];refine X2 cd rfl ?_;simp only[↓X6,wA,seval,zA,qA,qC,wN];exact next (B,A%B) _ TDB hlt (XG (m:=5) (p_ _) rfl (by simp[zA,qA,qC,wN,Zc,Xo,X9,QG,I]) (by simp[zA,qA,qC,wN,Zc,Xx]) (by simp[zA,qA,qC,wN,Zc,X9,QG,I]) (by simp[zA,qA,qC,wN,Zc,XP]) (by simp[zA,qA,qC,wN,Zc,XP]) (by simp[zA,qA,qC,wN,Zc,XP]))
theorem Ua (n1 n2:Bool)(a b:List Int)(la:a.length<4611686018427387904)(lb:b.length<4611686018427387904):Fn Tryz.prog 90 [zR n1 a,zR n2 b] (.bool (decide (n1=n2) && decide (a=b))):=by
 obtain⟨V,hV⟩:∃V,V=(decide (n1=n2) && decide (a=b)):=⟨_,rfl⟩
 rw[←hV];have fin:∀ {s:AS} {v:Bool},s.get 4=.bool v→v=V→TAC (JK Tryz.prog Tryz.f90 [] [] (.bool V)) s:=fun h e=>Xn rfl h (X5 _) (by rw[e])
 refine Fq Tryz.call90 Tryz.func90 6 [] [] [] (by simp[Xi]) (Xk ?_);by_cases hn:n1=n2
 rotate_left
 ·have hb:(!(n1 == n2))=true:=by simp[hn]
  simp only[O_,zR,hb,↓X6,wA,seval,zA,qA,qC,wN];exact fin rfl (by rw[hV,Z_ hn];rfl)
 subst hn;have hb:(!(n1 == n1))=false:=by simp
 by_cases hl:a.length=b.length
 rotate_left
 ·have f1:((a.length:Int)=b.length)=False:=R_ (by omega)
  have f1':(a.length=b.length)=False:=R_ hl;simp only[O_,zR,hb,f1,f1',↓X6,wA,seval,zA,qA,qC,wN];exact fin rfl (by rw[hV,Z_ (show ¬a=b from fun e=>hl (by rw[e])),ZEW])
 have f1:((a.length:Int)=b.length)=True:=L' (by omega);have f1':(a.length=b.length)=True:=L' hl;simp only[O_,zR,hb,f1,f1',↓X6,wA,seval,zA,qA,qC,wN];refine Xj (fun j:Nat=>⟨6,[],[.any,.any,.ref 0 0 0,.ref 1 0 0,.any,I j],[],[.row 0 2 (Xf [.bool n1,X9 a]),.row 0 2 (Xf [.bool n1,X9 b])]⟩) (fun j=>j≤a.length∧∀i,i<j→a.getD i 0=b.getD i 0) (fun j=>a.length-j) 0 ⟨by omega,by omega⟩
  (ZZ (by simp[Xo,X9,QG,I]) rfl) ?_
 rintro j ⟨hj,hno⟩ next
 have w1:=wj j;by_cases hj2:j<a.length
 ·have f2:((j:Int)<a.length)=True:=L' (by omega)
  have f3:(j<a.length)=True:=L' hj2;have f4:(j<b.length)=True:=L' (by omega);refine Xk ?_;simp only[w1,f2,f3,f4,↓X6,wA,seval,zA,qA,qC,wN];refine⟨fun h=>fin rfl ?_,fun h=>next (j+1) _ ⟨by omega,fun i hi=>?_⟩ (by omega) (ZZ (by simp[Xo,X9,QG,I]) rfl)⟩
  ·rw[hV,Z_ (show ¬a=b from fun e=>h (by rw[e])),ZEW]
  ·by_cases e:i=j
   ·rw[e];exact h
   ·exact hno i (by omega)
 ·have f2:((j:Int)<a.length)=False:=R_ (by omega)
  have f3:(j<a.length)=False:=R_ hj2;refine Xk ?_;simp only[w1,f2,f3,↓X6,wA,seval,zA,qA,qC,wN];refine fin rfl ?_;have:a=b:=ZBf hl fun i h1 h2=>by
   have:=hno i (by omega);rw[K',V' h1,K',V' h2]at this;exact this
  rw[hV,c_ this];simp
theorem Pq (x y:RQ)(hx:x.sz<4611686018427387904)(hy:y.sz<4611686018427387904):Fn Tryz.prog 26 [x.A,y.A] (.bool (decide (x=y))):=by
 have c1:=Ua x.pn y.pn x.pd y.pd (by unfold RQ.sz at hx;omega) (by unfold RQ.sz at hy;omega);have c2:=Ua x.qn y.qn x.qd y.qd (by unfold RQ.sz at hx;omega) (by unfold RQ.sz at hy;omega);obtain⟨V,hV⟩:∃V,V=decide (x=y):=⟨_,rfl⟩
 rw[←hV];have e:=RQ.eq_iff x y;obtain⟨B1,hB1⟩:∃B,B=(decide (x.pn=y.pn) && decide (x.pd=y.pd)):=⟨_,rfl⟩
 obtain⟨B2,hB2⟩:∃B,B=(decide (x.qn=y.qn) && decide (x.qd=y.qd)):=⟨_,rfl⟩
 rw[←hB1]at c1;rw[←hB2]at c2;have hVB:V=(B1 && B2):=by
  rw[hV,hB1,hB2];simp only[e,Bool.decide_and]
 refine Fq Tryz.call26 Tryz.func26 5 [] [] [] (by simp[CI]) (Xk ?_);simp only[O_,RQ.A,RQ.L,↓X6,wA,seval,zA,qA,qC,wN];refine X2 c1 rfl ?_;cases B1
 ·simp only[↓X6,wA,seval,zA,qA,qC,wN]
  exact Xn (v:=.bool false) rfl rfl (X5 _) (by rw[hVB];rfl)
 ·simp only[↓X6,wA,seval,zA,qA,qC,wN]
  refine X2 c2 rfl ?_;simp only[↓X6,wA,seval,zA,qA,qC,wN];exact Xn (v:=.bool B2) rfl rfl (X5 _) (by rw[hVB];rfl)
theorem Ee (a b:Rat)(ha:qb a≤rm:=by unfold rm;omega)(hb:qb b≤rm:=by unfold rm;omega):Fn Tryz.prog 26 [qA a,qA b] (.bool (decide (a=b))):=by
 unfold rm at ha hb;have h1:=RQ.TBv a;have h2:=RQ.TBv b;have:=Pq (RQ.of a) (RQ.of b) (by omega) (by omega);rw[show decide (RQ.of a=RQ.of b)=decide (a=b)from decide_eq_decide.2 ⟨RQ.TCi,fun h=>by rw[h]⟩]at this;exact this
theorem Ts (neg:Bool)(d:List Int):Fn Tryz.prog 160 [zR neg d] (.bool (!neg && decide (d=[1]))):=by
 have TA9:(d=[1])↔d.length=1∧d.getD 0 0=1:=by
  constructor
  ·rintro rfl;exact⟨rfl,rfl⟩
  ·rintro⟨h1,h2⟩
   obtain⟨x,rfl⟩:=ZBl.1 h1;rw[show x=1 from h2]
 obtain⟨V,hV⟩:∃V,V=(!neg && decide (d=[1])):=⟨_,rfl⟩
 rw[←hV];have fin:∀ {s:AS} {v:Bool},s.get 2=.bool v→v=V→TAC (JK Tryz.prog Tryz.f160 [] [] (.bool V)) s:=fun h e=>Xn rfl h (X5 _) (by rw[e])
 by_cases h0:d.length=1
 ·have f1:(d.length=1)=True:=L' h0
  have f2:((d.length:Int)=1)=True:=L' (by omega);have f3:(0<d.length)=True:=L' (by omega);have f4:(0<(d.length:Int))=True:=L' (by omega);refine Fq Tryz.call160 Tryz.func160 3 [] [] [] (by simp[Xi]) (Xk ?_);cases neg
  all_goals
   simp only[O_,zR,f1,f2,f3,f4,↓X6,wA,seval,zA,qA,qC,wN];exact fin rfl (by rw[hV];simp[TA9,h0])
 ·have f1:(d.length=1)=False:=R_ h0
  have f2:((d.length:Int)=1)=False:=R_ (by omega);have hne:¬d=[1]:=fun h=>h0 (TA9.1 h).1
  refine Fq Tryz.call160 Tryz.func160 3 [] [] [] (by simp[Xi]) (Xk ?_);cases neg
  all_goals
   simp only[O_,zR,f1,f2,↓X6,wA,seval,zA,qA,qC,wN];exact fin rfl (by rw[hV];simp[hne])
theorem Rs (z:Int):Fn Tryz.prog 160 [zA z] (.bool (decide (z=1))):=by
 have:=Ts (decide (z<0)) (Xa z.natAbs);rw[RP]at this;exact this
theorem Dr (p q:Int)(hp:bl p<1000000000:=by omega)(hq:bl q<1000000000:=by omega):Fn Tryz.prog 80 [zA p,zA q] (qA (P' p q)):=by
 obtain⟨R,hR⟩:∃R,R=qA (P' p q):=⟨_,rfl⟩
 have sR:A_ R:=hR▸Xb _;have zp:(((Xa p.natAbs).length:Int)=0)=(p=0):=propext (by have:=@TAA p.natAbs;omega);have zq:(((Xa q.natAbs).length:Int)=0)=(q=0):=propext (by have:=@TAA q.natAbs;omega);have z0:p=0∨q=0→R=.agg [.bool false,X9 [],.bool false,X9 []]:=by
  intro h;rw[hR,←Rx];rcases h with rfl |rfl
  ·rw[Rat.zero_divInt]
  ·rw[Rat.divInt_zero]
 rw[←hR];by_cases hq0:q=0
 ·have f1:(q=0)=True:=L' hq0
  refine Fq Tryz.call80 Tryz.func80 10 [] [] [] (by simp[KM,Xb,Xi]) (Xk ?_);simp(maxSteps:=999999)only[O_,↓X6,wA,seval,zA,qA,qC,wN];simp only[zq,f1,↓X6,wA,seval,zA,qA,qC,wN];exact Ql rfl XT rfl rfl rfl (z0 (.inr hq0)) sR ⟨U_ _,QI _ _,U_ _,QI _ _,trivial⟩
 have f1:(q=0)=False:=R_ hq0;by_cases hp0:p=0
 ·have f3:(p=0)=True:=L' hp0
  refine Fq Tryz.call80 Tryz.func80 10 [] [] [] (by simp[KM,Xb,Xi]) (Xk ?_);simp(maxSteps:=999999)only[O_,↓X6,wA,seval,zA,qA,qC,wN];simp only[zp,zq,f1,f3,↓X6,wA,seval,zA,qA,qC,wN];exact Ql rfl XT rfl rfl rfl (z0 (.inl hp0)) sR ⟨U_ _,QI _ _,U_ _,QI _ _,trivial⟩
 have f3:(p=0)=False:=R_ hp0;have cg:=TV p q hp hq;obtain⟨g,hg⟩:∃g:Int,g=ZAn p q:=⟨_,rfl⟩
 have hg0:0<ZAn p q:=Int.gcd_pos_of_ne_zero_right _ hq0;have hgq:bl g≤bl q:=Jm (by
  have:=Nat.le_of_dvd (by omega) (Int.gcd_dvd_natAbs_right p q);omega)
 rw[←hg]at cg;obtain⟨d1,d2,d3⟩:=Es p q hq0 g hg;have c1:=Ng p g hp;have c2:=Ng q g hq;obtain⟨u,hu⟩:∃u,u=p/g:=⟨_,rfl⟩
 obtain⟨v,hv⟩:∃v,v=q/g:=⟨_,rfl⟩
 have hub:bl u≤bl p:=Jm (by rw[hu];exact ZDU p g);have hvb:bl v≤bl q:=Jm (by rw[hv];exact ZDU q g);rw[←hu]at c1 d1 d2;rw[←hv]at c2 d1 d2 d3;obtain⟨e1,e2⟩:=Mx u v d3 d2;have key:∀p' q':Int,p'=v.sign*u→q'=v.natAbs→(q'=1→R=.agg [.bool (decide (p'<0)),X9 (Xa p'.natAbs),.bool false,X9 []])∧(¬q'=1→R=.agg [.bool (decide (p'<0)),X9 (Xa p'.natAbs),.bool false,X9 (Xa q'.natAbs)]):=by
  intro p' q' hp' hq';constructor
  ·intro h
   rw[hR,←d1,Nb (by omega),e1,hp']
  ·intro h
   rw[hR,←d1,ap (by omega),e1,hp',e2,hq',ZAl]
 by_cases TBE:v<0
 ·have g1:(v<0)=True:=L' TBE
  obtain⟨k1,k2⟩:=key (-u) (-v) (by rw[o_ TBE];omega) (by omega);have co:=Rs (-v);have cn1:=HC u;have cn2:=HC v;rw[um TBE]at cn2 c2;have f5:decide (-v<0)=false:=Z_ (by omega);by_cases h1:-v=1
  ·simp only[h1,decide_true]at co
   have hk:=k1 h1;rw[h1]at cn2;refine Fq Tryz.call80 Tryz.func80 10 [] [] [] (by simp[KM,Xb,Xi]) (Xk ?_);simp(maxSteps:=999999)only[O_,↓X6,wA,seval,zA,qA,qC,wN];simp only[zp,zq,f1,f3,↓X6,wA,seval,zA,qA,qC,wN];refine X2 cg rfl ?_;simp only[↓X6,wA,seval,zA,qA,qC,wN];refine X2 c1 rfl ?_;simp only[↓X6,wA,seval,zA,qA,qC,wN];refine X2 c2 rfl ?_;simp only[↓X6,wA,seval,zA,qA,qC,wN];refine X2 cn1 rfl ?_;simp only[↓X6,wA,seval,zA,qA,qC,wN];refine X2 cn2 rfl ?_;simp only[↓X6,wA,seval,zA,qA,qC,wN];refine X2 co rfl ?_;simp only[↓X6,wA,seval,zA,qA,qC,wN];exact Ql rfl XT rfl rfl rfl hk sR ⟨U_ _,U_ _,U_ _,QI _ _,trivial⟩
  ·simp only[h1,decide_false]at co
   have hk:=k2 h1;refine Fq Tryz.call80 Tryz.func80 10 [] [] [] (by simp[KM,Xb,Xi]) (Xk ?_);simp(maxSteps:=999999)only[O_,↓X6,wA,seval,zA,qA,qC,wN];simp only[zp,zq,f1,f3,↓X6,wA,seval,zA,qA,qC,wN];refine X2 cg rfl ?_;simp only[↓X6,wA,seval,zA,qA,qC,wN];refine X2 c1 rfl ?_;simp only[↓X6,wA,seval,zA,qA,qC,wN];refine X2 c2 rfl ?_;simp only[↓X6,wA,seval,zA,qA,qC,wN];refine X2 cn1 rfl ?_;simp only[↓X6,wA,seval,zA,qA,qC,wN];refine X2 cn2 rfl ?_;simp only[↓X6,wA,seval,zA,qA,qC,wN];refine X2 co rfl ?_;simp only[↓X6,wA,seval,zA,qA,qC,wN];exact Jf rfl XT rfl rfl rfl sR (by rw[hk,f5];rfl)
 ·have g1:(v<0)=False:=R_ TBE
  obtain⟨k1,k2⟩:=key u v (by rw[u_ (by omega)];omega) (by omega);have co:=Rs v;rw[aX TBE]at co c2;by_cases h1:v=1
  ·simp only[h1,decide_true]at co
   have hk:=k1 h1;rw[h1]at c2;refine Fq Tryz.call80 Tryz.func80 10 [] [] [] (by simp[KM,Xb,Xi]) (Xk ?_);simp(maxSteps:=999999)only[O_,↓X6,wA,seval,zA,qA,qC,wN];simp only[zp,zq,f1,f3,↓X6,wA,seval,zA,qA,qC,wN];refine X2 cg rfl ?_;simp only[↓X6,wA,seval,zA,qA,qC,wN];refine X2 c1 rfl ?_;simp only[↓X6,wA,seval,zA,qA,qC,wN];refine X2 c2 rfl ?_;simp only[↓X6,wA,seval,zA,qA,qC,wN];refine X2 co rfl ?_;simp only[↓X6,wA,seval,zA,qA,qC,wN];exact Ql rfl XT rfl rfl rfl hk sR ⟨U_ _,U_ _,U_ _,QI _ _,trivial⟩
  ·simp only[h1,decide_false]at co
   have hk:=k2 h1;refine Fq Tryz.call80 Tryz.func80 10 [] [] [] (by simp[KM,Xb,Xi]) (Xk ?_);simp(maxSteps:=999999)only[O_,↓X6,wA,seval,zA,qA,qC,wN];simp only[zp,zq,f1,f3,↓X6,wA,seval,zA,qA,qC,wN];refine X2 cg rfl ?_;simp only[↓X6,wA,seval,zA,qA,qC,wN];refine X2 c1 rfl ?_;simp only[↓X6,wA,seval,zA,qA,qC,wN];refine X2 c2 rfl ?_;simp only[↓X6,wA,seval,zA,qA,qC,wN];refine X2 co rfl ?_;simp only[↓X6,wA,seval,zA,qA,qC,wN];exact Jf rfl XT rfl rfl rfl sR (by rw[hk];rfl)
theorem XL (p q:Int)(hp:Ap p)(hq:Ap q):Fn Tryz.prog 20 [I p,I q] (qA (P' p q)):=by
 obtain⟨R,hR⟩:∃R,R=qA (P' p q):=⟨_,rfl⟩
 have sR:A_ R:=hR▸Xb _;have cm:=Dr p q (by have:=Aa hp;omega) (by have:=Aa hq;omega);rw[←hR]at cm ⊢;refine Fq Tryz.call20 Tryz.func20 5 [] [] [] (by simp[KM,Xb,Xi]) (Xk ?_);simp(maxSteps:=999999)only[O_,↓X6,wA,seval,zA,qA,qC,wN];refine X2 (Eb p hp) rfl ?_;simp only[↓X6,wA,seval,zA,qA,qC,wN];refine X2 (Eb q hq) rfl ?_;simp only[↓X6,wA,seval,zA,qA,qC,wN];refine X2 cm rfl ?_;simp only[hR,↓X6,wA,seval,zA,qA,qC,wN];exact Jf rfl XT rfl rfl rfl sR (hR.trans rfl)
structure V2 where
 x:Rat
 y:Rat
def vC (v:V2):List AV:=[.bool (decide (v.x.num<0)),X9 (Xa v.x.num.natAbs),.bool false,X9 (Xa (qd v.x)),.bool (decide (v.y.num<0)),X9 (Xa v.y.num.natAbs),.bool false,X9 (Xa (qd v.y))]
def vA (v:V2):AV:=.agg (vC v)
theorem Xv (v:V2):A_ (vA v):=XE (by simp[vC,Xd,X5])
def vb (v:V2):Nat:=max (qb v.x) (qb v.y)
theorem Ja (v:V2):qb v.x≤vb v:=Nat.le_max_left _ _
theorem J7 (v:V2):qb v.y≤vb v:=Nat.le_max_right _ _
def V2.sub (a b:V2):V2:=⟨a.x-b.x,a.y-b.y⟩
def V2.add (a b:V2):V2:=⟨a.x+b.x,a.y+b.y⟩
def Xq (a b:V2):Rat:=a.x*b.y-a.y*b.x
def Qn (a b:V2):Rat:=a.x*b.x+a.y*b.y
def Ky (a b c:V2):Int:=(Xq (b.sub a) (c.sub a)).num.sign
theorem J4 (a b:V2):vb (a.sub b)≤vb a+vb b+1:=by
 have:=C3 a.x b.x;have:=C3 a.y b.y;have:=Ja a;have:=Ja b;have:=J7 a;have:=J7 b;unfold V2.sub;show max (qb (a.x-b.x)) (qb (a.y-b.y))≤_;omega
theorem KW (a b:V2):vb (a.add b)≤vb a+vb b+1:=by
 have:=KE a.x b.x;have:=KE a.y b.y;have:=Ja a;have:=Ja b;have:=J7 a;have:=J7 b;unfold V2.add;show max (qb (a.x+b.x)) (qb (a.y+b.y))≤_;omega
theorem K1 (a b:V2):qb (Xq a b)≤2*(vb a+vb b)+1:=by
 have:=Qa a.x b.y;have:=Qa a.y b.x;have:=Ja a;have:=Ja b;have:=J7 a;have:=J7 b;have:=C3 (a.x*b.y) (a.y*b.x);unfold Xq;omega
theorem Zu (a b:V2):qb (Qn a b)≤2*(vb a+vb b)+1:=by
 have:=Qa a.x b.x;have:=Qa a.y b.y;have:=Ja a;have:=Ja b;have:=J7 a;have:=J7 b;have:=KE (a.x*b.x) (a.y*b.y);unfold Qn;omega
theorem AX:qb 0≤1:=mv 0 1 (N' _) (by unfold bl;simp[Qu])
theorem Cq {H:List AO}{a b:AV}(h:B' a b):Jj H a b:=fun c v _ _ hv=>h c v hv
theorem A6 {l:List Int}{f:Nat→AV}{t:Bool}(h:l=[]):B' (.sl 0 0 f t) (X9 l):=by rw[h];exact QI _ _
theorem aj (a b:Rat)(ha:qb a≤30000000)(hb:qb b≤30000000):Fn Tryz.prog 214 [.sl 2 8 (Xf (qC a ++ qC b)) false] (qA (a+b)):=by
 obtain⟨R,hR⟩:∃R,R=qA (a+b):=⟨_,rfl⟩
 have sR:A_ R:=hR▸Xb _;have q0:=AX;have c1:=Cf 0 a;have c2:=Cf a b;rw[Rat.zero_add]at c1;rw[←hR]at c2 ⊢;have TAM:A_ (.sl 2 8 (Xf (qC a ++ qC b)) false):=Qw fun j hj=>by
  unfold Xf qC
  match j,hj with
  |0,_=>exact X5 _
  |1,_=>exact Xd _
  |2,_=>exact X5 _
  |3,_=>exact Xd _
  |4,_=>exact X5 _
  |5,_=>exact Xd _
  |6,_=>exact X5 _
  |7,_=>exact Xd _
  |j+8,h=>omega
 have TEG:Jl 2 (.sl 2 8 (Xf (qC a ++ qC b)) false):=X4 TAM;simp only[qC,e_,h_]at TEG;have z1:((1:Nat):Int)=1:=rfl;have z2:((2:Nat):Int)=2:=rfl;have wr1:Q_.wrap 1=1:=by rw[M'];omega
 have wr2:Q_.wrap 2=2:=by rw[M'];omega
 refine q_ (fn:=Tryz.f214) Tryz.call214 Tryz.func214 rfl mixed 6 [6,7,8] [] [] (by kernel_rfl) (K_ rfl) (by simpa using TAM) (Xk ?_);simp only[O_,↓X6,wA,↓reduceIte,reduceIte,reduceCtorEq,Y1,Y2,Y3,Y4,Y5,Y6,Y7,Y8,Y9,YA,zA,qA,qC,vA,vC,wN];refine Xj (fun i:Nat=>⟨6,[6,7,8],[.any,.any,.ref 0 0 0,.ref 1 0 0,.any,.any],[(6,.sl 2 8 (Xf (qC a ++ qC b)) false),(7,I 2),(8,I i)],
  [.row 0 4 (Xf [.bool false,.sl 0 0 (fun _=>.any) true,.bool false,.sl 0 0 (fun _=>.any) true]),.row 0 4 (Xf (qC (if i=0 then 0 else if i=1 then a else a+b)))]⟩) (fun i=>i≤2) (fun i=>2-i) 0 (by omega) ?_ ?_
 ·refine(Qe 1 (Xf (qC 0)) rfl fun j hj=>?_).trans (Xh rfl (by simp[Xo,qC,X9,QG]) (by simp[Xx,XM,qC,X9,QG,I]) (by simp))
  match j,hj with
  |0,_=>exact XD _ _
  |1,_=>exact Cq (A6 (by rw[ZB9];simp[Qu]))
  |2,_=>exact XD _ _
  |3,_=>exact Cq (A6 (Nc rfl))
  |j+4,h=>omega
 intro i hi next
 rcases(show i=0∨i=1∨i=2 by omega)with rfl |rfl |rfl
 ·refine Xk ?_
  simp only[ite_true,z1,z2,wr1,wr2,ZAz,ZCN,↓X6,wA,↓reduceIte,reduceIte,reduceCtorEq,Y1,Y2,Y3,Y4,Y5,Y6,Y7,Y8,Y9,YA,zA,qA,qC,vA,vC,wN];refine X2 c1 rfl ?_;simp only[z1,z2,wr1,wr2,ZCN,↓X6,wA,↓reduceIte,reduceIte,reduceCtorEq,Y1,Y2,Y3,Y4,Y5,Y6,Y7,Y8,Y9,YA,zA,qA,qC,vA,vC,wN];exact next 1 _ (by omega) (by omega) (XG (m:=2) (p_ _) rfl (by simp[qC,Xo,X9,QG,I]) (by simp[qC,Xx,XM,X9,QG,I]) (by simp[qC,X9,QG,I]) (by simp[XP]) (by simp[qC,XP,TEG]) (by simp[qC,XP]))
 ·have e1:((1:Nat)=0)=False:=R_ (by omega)
  refine Xk ?_;simp only[e1,ite_true,ite_false,z1,z2,wr1,wr2,ZAz,ZCN,↓X6,wA,↓reduceIte,reduceIte,reduceCtorEq,Y1,Y2,Y3,Y4,Y5,Y6,Y7,Y8,Y9,YA,zA,qA,qC,vA,vC,wN];refine⟨by omega,X2 c2 rfl ?_⟩;simp only[hR,z1,z2,wr1,wr2,ZCN,↓X6,wA,↓reduceIte,reduceIte,reduceCtorEq,Y1,Y2,Y3,Y4,Y5,Y6,Y7,Y8,Y9,YA,zA,qA,qC,vA,vC,wN];exact next 2 _ (by omega) (by omega) (XG (m:=2) (p_ _) rfl (by simp[qC,Xo,X9,QG,I]) (by simp[qC,Xx,XM,X9,QG,I]) (by simp[qC,X9,QG,I]) (by simp[XP]) (by simp[qC,XP,TEG]) (by simp[qC,XP]))
 ·have e1:((2:Nat)=0)=False:=R_ (by omega)
  have e2:((2:Nat)=1)=False:=R_ (by omega);refine Xk ?_;simp only[e1,e2,ite_false,z1,z2,wr1,wr2,ZAz,ZCN,↓X6,wA,↓reduceIte,reduceIte,reduceCtorEq,Y1,Y2,Y3,Y4,Y5,Y6,Y7,Y8,Y9,YA,zA,qA,qC,vA,vC,wN];exact Jf rfl XT rfl rfl rfl sR (hR.trans rfl)
def vm:Nat:=10000000
theorem ZK {P:Program}{fn:Func}{str hcs:List Nat}{r:AV}{s:AS}{t u id ver n:Nat}{L:List AV}(hr:fn.results=#[.cell t u])(hk:Cy P u=some (some n)) (hs:s.get t=.ref id ver 0)
  (ho:s.h[id]?=some (.row ver n (Xf L))) (hn:L.length=n) (TAM:A_ r) (e:r=.agg L):TAC (JK P fn str hcs r) s:=Ql hr hk hs ho hn e TAM (X1 L)
theorem BE (a b:V2)(ha:vb a≤rm:=by unfold rm;omega)(hb:vb b≤rm:=by unfold rm;omega):Fn Tryz.prog 166 [vA a,vA b] (vA (a.sub b)):=by
 obtain⟨R,hR⟩:∃R,R=vA (a.sub b):=⟨_,rfl⟩
 have sR:A_ R:=hR▸Xv _;have:=Ja a;have:=Ja b;have:=J7 a;have:=J7 b;have c1:=FM a.x b.x (by omega) (by omega);have c2:=FM a.y b.y (by omega) (by omega);rw[←hR];refine Fq Tryz.call166 Tryz.func166 5 [] [] [] (by simp[Xd,X8,Z0,Kb,X5,Z2,XS,Xb,Xv,Xi,Z3,Jv]) (Xk ?_);simp(maxSteps:=999999)only[O_,↓X6,wA,↓reduceIte,reduceIte,reduceCtorEq,Y1,Y2,Y3,Y4,Y5,Y6,Y7,Y8,Y9,YA,zA,qA,qC,vA,vC,wN];refine X2 c1 rfl ?_;simp only[↓X6,wA,↓reduceIte,reduceIte,reduceCtorEq,Y1,Y2,Y3,Y4,Y5,Y6,Y7,Y8,Y9,YA,zA,qA,qC,vA,vC,wN];refine X2 c2 rfl ?_;simp only[↓X6,wA,↓reduceIte,reduceIte,reduceCtorEq,Y1,Y2,Y3,Y4,Y5,Y6,Y7,Y8,Y9,YA,zA,qA,qC,vA,vC,wN];exact ZK rfl Jn rfl rfl rfl sR (hR.trans rfl)
theorem Bh (a b:V2)(ha:vb a≤vm:=by unfold vm;omega)(hb:vb b≤vm:=by unfold vm;omega):Fn Tryz.prog 149 [vA a,vA b] (qA (Xq a b)):=by
 unfold vm at ha hb;obtain⟨R,hR⟩:∃R,R=qA (Xq a b):=⟨_,rfl⟩
 have sR:A_ R:=hR▸Xb _;have:=Ja a;have:=Ja b;have:=J7 a;have:=J7 b;have m1:=Qa a.x b.y;have m2:=Qa a.y b.x;have c1:=B5 a.x b.y (by unfold rm;omega) (by unfold rm;omega);have c2:=B5 a.y b.x (by unfold rm;omega) (by unfold rm;omega);have c3:=Zd (a.y*b.x);have c4:=aj (a.x*b.y) (-(a.y*b.x)) (by omega) (by rw[Bj];omega);rw[←ZEI,show a.x*b.y-a.y*b.x=Xq a b from rfl,←hR]at c4;rw[←hR];refine Fq Tryz.call149 Tryz.func149 5 [] [] [] (by simp[Xd,X8,Z0,Kb,X5,Z2,XS,Xb,Xv,Xi,Z3,Jv]) (Xk ?_);simp(maxSteps:=999999)only[O_,↓X6,wA,↓reduceIte,reduceIte,reduceCtorEq,Y1,Y2,Y3,Y4,Y5,Y6,Y7,Y8,Y9,YA,zA,qA,qC,vA,vC,wN];refine X2 c1 rfl ?_;simp only[↓X6,wA,↓reduceIte,reduceIte,reduceCtorEq,Y1,Y2,Y3,Y4,Y5,Y6,Y7,Y8,Y9,YA,zA,qA,qC,vA,vC,wN];refine X2 c2 rfl ?_;simp only[↓X6,wA,↓reduceIte,reduceIte,reduceCtorEq,Y1,Y2,Y3,Y4,Y5,Y6,Y7,Y8,Y9,YA,zA,qA,qC,vA,vC,wN];refine X2 c3 rfl ?_;simp only[↓X6,wA,↓reduceIte,reduceIte,reduceCtorEq,Y1,Y2,Y3,Y4,Y5,Y6,Y7,Y8,Y9,YA,zA,qA,qC,vA,vC,wN];refine X2 c4 rfl ?_;simp only[hR,↓X6,wA,↓reduceIte,reduceIte,reduceCtorEq,Y1,Y2,Y3,Y4,Y5,Y6,Y7,Y8,Y9,YA,zA,qA,qC,vA,vC,wN];exact ZK rfl XT rfl rfl rfl sR (hR.trans rfl)
theorem E4 (a b:V2)(ha:vb a≤vm:=by unfold vm;omega)(hb:vb b≤vm:=by unfold vm;omega):Fn Tryz.prog 150 [vA a,vA b] (qA (Qn a b)):=by
 unfold vm at ha hb;obtain⟨R,hR⟩:∃R,R=qA (Qn a b):=⟨_,rfl⟩
 have sR:A_ R:=hR▸Xb _;have:=Ja a;have:=Ja b;have:=J7 a;have:=J7 b;have m1:=Qa a.x b.x;have m2:=Qa a.y b.y;have c1:=B5 a.x b.x (by unfold rm;omega) (by unfold rm;omega);have c2:=B5 a.y b.y (by unfold rm;omega) (by unfold rm;omega);have c4:=aj (a.x*b.x) (a.y*b.y) (by omega) (by omega);rw[show a.x*b.x+a.y*b.y=Qn a b from rfl,←hR]at c4;rw[←hR];refine Fq Tryz.call150 Tryz.func150 5 [] [] [] (by simp[Xd,X8,Z0,Kb,X5,Z2,XS,Xb,Xv,Xi,Z3,Jv]) (Xk ?_);simp(maxSteps:=999999)only[O_,↓X6,wA,↓reduceIte,reduceIte,reduceCtorEq,Y1,Y2,Y3,Y4,Y5,Y6,Y7,Y8,Y9,YA,zA,qA,qC,vA,vC,wN];refine X2 c1 rfl ?_;simp only[↓X6,wA,↓reduceIte,reduceIte,reduceCtorEq,Y1,Y2,Y3,Y4,Y5,Y6,Y7,Y8,Y9,YA,zA,qA,qC,vA,vC,wN];refine X2 c2 rfl ?_;simp only[↓X6,wA,↓reduceIte,reduceIte,reduceCtorEq,Y1,Y2,Y3,Y4,Y5,Y6,Y7,Y8,Y9,YA,zA,qA,qC,vA,vC,wN];refine X2 c4 rfl ?_;simp only[hR,↓X6,wA,↓reduceIte,reduceIte,reduceCtorEq,Y1,Y2,Y3,Y4,Y5,Y6,Y7,Y8,Y9,YA,zA,qA,qC,vA,vC,wN];exact ZK rfl XT rfl rfl rfl sR (hR.trans rfl)
def vs:Nat:=100000
theorem CC (a b c:V2)(ha:vb a≤vs)(hb:vb b≤vs)(hc:vb c≤vs):Fn Tryz.prog 143 [vA a,vA b,vA c] (I (Ky a b c)):=by
 unfold vs at ha hb hc;have m1:=J4 b a;have m2:=J4 c a;have c1:=BE b a;have c2:=BE c a;have c3:=Bh (b.sub a) (c.sub a);have c4:=Qv (Xq (b.sub a) (c.sub a));refine Fq Tryz.call143 Tryz.func143 7 [] [] [] (by simp[Xd,X8,Z0,Kb,X5,Z2,XS,Xb,Xv,Xi,Z3,Jv]) (Xk ?_);simp(maxSteps:=999999)only[O_,↓X6,wA,↓reduceIte,reduceIte,reduceCtorEq,Y1,Y2,Y3,Y4,Y5,Y6,Y7,Y8,Y9,YA,zA,qA,qC,vA,vC,wN];refine X2 c1 rfl ?_;simp only[↓X6,wA,↓reduceIte,reduceIte,reduceCtorEq,Y1,Y2,Y3,Y4,Y5,Y6,Y7,Y8,Y9,YA,zA,qA,qC,vA,vC,wN];refine X2 c2 rfl ?_;simp only[↓X6,wA,↓reduceIte,reduceIte,reduceCtorEq,Y1,Y2,Y3,Y4,Y5,Y6,Y7,Y8,Y9,YA,zA,qA,qC,vA,vC,wN];refine X2 c3 rfl ?_;simp only[↓X6,wA,↓reduceIte,reduceIte,reduceCtorEq,Y1,Y2,Y3,Y4,Y5,Y6,Y7,Y8,Y9,YA,zA,qA,qC,vA,vC,wN];refine X2 c4 rfl ?_;simp only[↓X6,wA,↓reduceIte,reduceIte,reduceCtorEq,Y1,Y2,Y3,Y4,Y5,Y6,Y7,Y8,Y9,YA,zA,qA,qC,vA,vC,wN];exact Xn rfl rfl (X8 _) rfl
def OT (a b p:V2):Bool:=decide (Ky a b p=0) && decide ((Qn (a.sub p) (b.sub p)).num.sign≤0)
theorem YU (a b p:V2)(ha:vb a≤vs)(hb:vb b≤vs)(hp:vb p≤vs):Fn Tryz.prog 211 [vA a,vA b,vA p] (.bool (OT a b p)):=by
 have c1:=CC a b p ha hb hp;unfold vs at ha hb hp;have m1:=J4 a p;have m2:=J4 b p;have c2:=BE a p;have c3:=BE b p;have c4:=E4 (a.sub p) (b.sub p);have c5:=Qv (Qn (a.sub p) (b.sub p));obtain⟨V,hV⟩:∃V,V=OT a b p:=⟨_,rfl⟩
 rw[←hV];unfold OT at hV;refine Fq Tryz.call211 Tryz.func211 7 [] [] [] (by simp[Xd,X8,Z0,Kb,X5,Z2,XS,Xb,Xv,Xi,Z3,Jv]) (Xk ?_);simp(maxSteps:=999999)only[O_,↓X6,wA,↓reduceIte,reduceIte,reduceCtorEq,Y1,Y2,Y3,Y4,Y5,Y6,Y7,Y8,Y9,YA,zA,qA,qC,vA,vC,wN];refine X2 c1 rfl ?_;by_cases h:Ky a b p=0
 ·have f1:(Ky a b p=0)=True:=L' h
  simp only[f1,↓X6,wA,↓reduceIte,reduceIte,reduceCtorEq,Y1,Y2,Y3,Y4,Y5,Y6,Y7,Y8,Y9,YA,zA,qA,qC,vA,vC,wN];refine X2 c2 rfl ?_;simp only[↓X6,wA,↓reduceIte,reduceIte,reduceCtorEq,Y1,Y2,Y3,Y4,Y5,Y6,Y7,Y8,Y9,YA,zA,qA,qC,vA,vC,wN];refine X2 c3 rfl ?_;simp only[↓X6,wA,↓reduceIte,reduceIte,reduceCtorEq,Y1,Y2,Y3,Y4,Y5,Y6,Y7,Y8,Y9,YA,zA,qA,qC,vA,vC,wN];refine X2 c4 rfl ?_;simp only[↓X6,wA,↓reduceIte,reduceIte,reduceCtorEq,Y1,Y2,Y3,Y4,Y5,Y6,Y7,Y8,Y9,YA,zA,qA,qC,vA,vC,wN];refine X2 c5 rfl ?_;simp only[↓X6,wA,↓reduceIte,reduceIte,reduceCtorEq,Y1,Y2,Y3,Y4,Y5,Y6,Y7,Y8,Y9,YA,zA,qA,qC,vA,vC,wN];exact Xn rfl rfl (X5 _) (by rw[hV,c_ h];rfl)
 ·have f1:(Ky a b p=0)=False:=R_ h
  simp only[f1,↓X6,wA,↓reduceIte,reduceIte,reduceCtorEq,Y1,Y2,Y3,Y4,Y5,Y6,Y7,Y8,Y9,YA,zA,qA,qC,vA,vC,wN];exact Xn rfl rfl (X5 _) (by rw[hV,Z_ h];rfl)
def Ce (a b c d:V2):Bool:=decide (Ky a b c*Ky a b d<0) && decide (Ky c d a*Ky c d b<0)
def Ad (a b c d:V2):Bool:=Ce a b c d || OT a b c || OT a b d || OT c d a || OT c d b
theorem HJ (a b c:V2):-1≤Ky a b c∧Ky a b c≤1:=by
 unfold Ky;generalize (Xq (b.sub a) (c.sub a)).num=n;rcases Int.lt_trichotomy n 0 with h |h |h
 ·rw[o_ h];omega
 ·rw[h];simp
 ·rw[u_ h];omega
theorem Yk {x y:Int}(hx:-1≤x∧x≤1)(hy:-1≤y∧y≤1):Q_.wrap (x*y)=x*y:=by
 rcases(show x = -1∨x=0∨x=1 by omega)with rfl |rfl |rfl <;> rw[M'] <;> omega
theorem lM (a b c d:V2)(ha:vb a≤vs)(hb:vb b≤vs)(hc:vb c≤vs)(hd:vb d≤vs):Fn Tryz.prog 144 [vA a,vA b,vA c,vA d] (.bool (Ad a b c d)):=by
 have c1:=CC a b c ha hb hc;have c2:=CC a b d ha hb hd;have c3:=CC c d a hc hd ha;have c4:=CC c d b hc hd hb;have d1:=YU a b c ha hb hc;have d2:=YU a b d ha hb hd;have d3:=YU c d a hc hd ha;have d4:=YU c d b hc hd hb;have w1:=Yk (HJ a b c) (HJ a b d);have w2:=Yk (HJ c d a) (HJ c d b);obtain⟨V,hV⟩:∃V,V=Ad a b c d:=⟨_,rfl⟩
 rw[←hV];unfold Ad Ce at hV;have fin:∀ {s:AS} {v:Bool},s.get 8=.bool v→v=V→TAC (JK Tryz.prog Tryz.f144 [] [] (.bool V)) s:=fun h e=>Xn rfl h (X5 _) (by rw[e])
 obtain⟨B1,hB1⟩:∃B,B=OT a b c:=⟨_,rfl⟩
 obtain⟨B2,hB2⟩:∃B,B=OT a b d:=⟨_,rfl⟩
 obtain⟨B3,hB3⟩:∃B,B=OT c d a:=⟨_,rfl⟩
 obtain⟨B4,hB4⟩:∃B,B=OT c d b:=⟨_,rfl⟩
 rw[←hB1]at d1 hV;rw[←hB2]at d2 hV;rw[←hB3]at d3 hV;rw[←hB4]at d4 hV;refine Fq Tryz.call144 Tryz.func144 9 [] [] [] (by simp[Xd,X8,Z0,Kb,X5,Z2,XS,Xb,Xv,Xi,Z3,Jv]) (Xk ?_);simp(maxSteps:=999999)only[O_,↓X6,wA,↓reduceIte,reduceIte,reduceCtorEq,Y1,Y2,Y3,Y4,Y5,Y6,Y7,Y8,Y9,YA,zA,qA,qC,vA,vC,wN];refine X2 c1 rfl ?_;simp only[↓X6,wA,↓reduceIte,reduceIte,reduceCtorEq,Y1,Y2,Y3,Y4,Y5,Y6,Y7,Y8,Y9,YA,zA,qA,qC,vA,vC,wN];refine X2 c2 rfl ?_;by_cases h1:Ky a b c*Ky a b d<0
 ·have f1:(Ky a b c*Ky a b d<0)=True:=L' h1
  simp only[w1,f1,↓X6,wA,↓reduceIte,reduceIte,reduceCtorEq,Y1,Y2,Y3,Y4,Y5,Y6,Y7,Y8,Y9,YA,zA,qA,qC,vA,vC,wN];refine X2 c3 rfl ?_;simp only[↓X6,wA,↓reduceIte,reduceIte,reduceCtorEq,Y1,Y2,Y3,Y4,Y5,Y6,Y7,Y8,Y9,YA,zA,qA,qC,vA,vC,wN];refine X2 c4 rfl ?_;by_cases h2:Ky c d a*Ky c d b<0
  ·have f2:(Ky c d a*Ky c d b<0)=True:=L' h2
   simp only[w2,f2,↓X6,wA,↓reduceIte,reduceIte,reduceCtorEq,Y1,Y2,Y3,Y4,Y5,Y6,Y7,Y8,Y9,YA,zA,qA,qC,vA,vC,wN];exact fin rfl (by rw[hV,c_ h1,c_ h2];rfl)
  ·have f2:(Ky c d a*Ky c d b<0)=False:=R_ h2
   simp only[w2,f2,↓X6,wA,↓reduceIte,reduceIte,reduceCtorEq,Y1,Y2,Y3,Y4,Y5,Y6,Y7,Y8,Y9,YA,zA,qA,qC,vA,vC,wN];rw[c_ h1,Z_ h2]at hV;refine X2 d1 rfl ?_;cases B1
   rotate_left
   ·simp only[↓X6,wA,↓reduceIte,reduceIte,reduceCtorEq,Y1,Y2,Y3,Y4,Y5,Y6,Y7,Y8,Y9,YA,zA,qA,qC,vA,vC,wN]
    exact fin rfl (by rw[hV];simp)
   simp only[↓X6,wA,↓reduceIte,reduceIte,reduceCtorEq,Y1,Y2,Y3,Y4,Y5,Y6,Y7,Y8,Y9,YA,zA,qA,qC,vA,vC,wN];refine X2 d2 rfl ?_;cases B2
   rotate_left
   ·simp only[↓X6,wA,↓reduceIte,reduceIte,reduceCtorEq,Y1,Y2,Y3,Y4,Y5,Y6,Y7,Y8,Y9,YA,zA,qA,qC,vA,vC,wN]
    exact fin rfl (by rw[hV];simp)
   simp only[↓X6,wA,↓reduceIte,reduceIte,reduceCtorEq,Y1,Y2,Y3,Y4,Y5,Y6,Y7,Y8,Y9,YA,zA,qA,qC,vA,vC,wN];refine X2 d3 rfl ?_;cases B3
   rotate_left
   ·simp only[↓X6,wA,↓reduceIte,reduceIte,reduceCtorEq,Y1,Y2,Y3,Y4,Y5,Y6,Y7,Y8,Y9,YA,zA,qA,qC,vA,vC,wN]
    exact fin rfl (by rw[hV];simp)
   simp only[↓X6,wA,↓reduceIte,reduceIte,reduceCtorEq,Y1,Y2,Y3,Y4,Y5,Y6,Y7,Y8,Y9,YA,zA,qA,qC,vA,vC,wN];refine X2 d4 rfl ?_;simp only[↓X6,wA,↓reduceIte,reduceIte,reduceCtorEq,Y1,Y2,Y3,Y4,Y5,Y6,Y7,Y8,Y9,YA,zA,qA,qC,vA,vC,wN];exact fin rfl (by rw[hV];simp)
 ·have f1:(Ky a b c*Ky a b d<0)=False:=R_ h1
  simp only[w1,f1,↓X6,wA,↓reduceIte,reduceIte,reduceCtorEq,Y1,Y2,Y3,Y4,Y5,Y6,Y7,Y8,Y9,YA,zA,qA,qC,vA,vC,wN];rw[Z_ h1]at hV;refine X2 d1 rfl ?_;cases B1
  rotate_left
  ·simp only[↓X6,wA,↓reduceIte,reduceIte,reduceCtorEq,Y1,Y2,Y3,Y4,Y5,Y6,Y7,Y8,Y9,YA,zA,qA,qC,vA,vC,wN]
   exact fin rfl (by rw[hV];simp)
  simp only[↓X6,wA,↓reduceIte,reduceIte,reduceCtorEq,Y1,Y2,Y3,Y4,Y5,Y6,Y7,Y8,Y9,YA,zA,qA,qC,vA,vC,wN];refine X2 d2 rfl ?_;cases B2
  rotate_left
  ·simp only[↓X6,wA,↓reduceIte,reduceIte,reduceCtorEq,Y1,Y2,Y3,Y4,Y5,Y6,Y7,Y8,Y9,YA,zA,qA,qC,vA,vC,wN]
   exact fin rfl (by rw[hV];simp)
  simp only[↓X6,wA,↓reduceIte,reduceIte,reduceCtorEq,Y1,Y2,Y3,Y4,Y5,Y6,Y7,Y8,Y9,YA,zA,qA,qC,vA,vC,wN];refine X2 d3 rfl ?_;cases B3
  rotate_left
  ·simp only[↓X6,wA,↓reduceIte,reduceIte,reduceCtorEq,Y1,Y2,Y3,Y4,Y5,Y6,Y7,Y8,Y9,YA,zA,qA,qC,vA,vC,wN]
   exact fin rfl (by rw[hV];simp)
  simp only[↓X6,wA,↓reduceIte,reduceIte,reduceCtorEq,Y1,Y2,Y3,Y4,Y5,Y6,Y7,Y8,Y9,YA,zA,qA,qC,vA,vC,wN];refine X2 d4 rfl ?_;simp only[↓X6,wA,↓reduceIte,reduceIte,reduceCtorEq,Y1,Y2,Y3,Y4,Y5,Y6,Y7,Y8,Y9,YA,zA,qA,qC,vA,vC,wN];exact fin rfl (by rw[hV];simp)
def v0:V2:=⟨0,0⟩
def Qx (l:List V2):AV:=gE vC 8 v0 l
theorem Xs (l:List V2):A_ (Qx l):=Z4 fun a x hx=>by
 have:∀x∈vC a,A_ x:=by simp[vC,Xd,X5]
 exact this x hx
theorem X7 (l:List V2):Qx l=.sl l.length (l.length*8) (Xw vC 8 v0 l) false:=C_ rfl
theorem vF (l:List V2)(i:Nat):Xw vC 8 v0 l (i*8)=.bool (decide ((l.getD i v0).x.num<0))∧Xw vC 8 v0 l (i*8+1)=X9 (Xa (l.getD i v0).x.num.natAbs)∧Xw vC 8 v0 l (i*8+2)=.bool false∧Xw vC 8 v0 l (i*8+3)=X9 (Xa (qd (l.getD i v0).x)) ∧
  Xw vC 8 v0 l (i*8+4)=.bool (decide ((l.getD i v0).y.num<0))∧Xw vC 8 v0 l (i*8+5)=X9 (Xa (l.getD i v0).y.num.natAbs)∧Xw vC 8 v0 l (i*8+6)=.bool false∧Xw vC 8 v0 l (i*8+7)=X9 (Xa (qd (l.getD i v0).y)):=by
 refine⟨?_,?_,?_,?_,?_,?_,?_,?_⟩
 ·rw[ZO _ _ _ _ _];rfl
 all_goals rw[Ze _ _ _ _ _ _ (by omega)];rfl
theorem mX (l:List V2):Fn Tryz.prog 212 [Qx l] (.fn 236 [.ptr 1 (Xf [Qx l]) 0]):=by
 have TAM:A_ (.fn 236 [.ptr 1 (Xf [Qx l]) 0]):=Kg (by
  intro a ha;simp only[b_,V_,or_false]at ha;rw[ha];exact XR fun j hj=>by
    obtain rfl:j=0:=by omega
    exact Xs l)
 refine Fq Tryz.call212 Tryz.func212 4 [] [] [] (by simp[Xs]) (Xk ?_);simp only[O_,X7,↓X6,wA,seval,zA,qA,qC,vA,vC,JD,wN];refine C4 rfl (rP ⟨mV (.inl rfl) (by omega) fun j hj=>?_,trivial⟩);obtain rfl:j=0:=by omega
 exact(Xs l).TBI _
theorem WC (L:List V2)(t:Tok)(A B:Nat→AO)(hL:L.length<1000000)(hy:∀i,i<L.length→TBf Tryz.prog t [vA (L.getD i v0),vA (L.getD ((i+1)%L.length) v0)] [A i,B i] (.bool true) [A (i+1),B (i+1)])
  (hA:∀i,Q0 2 (A i)∧A i≠.D_∧∀v n f,A i≠.con v n f) (hB:∀i,Q0 2 (B i)∧B i≠.D_∧∀v n f,B i≠.con v n f) (hce:t.ce.H.length≤2) :
  TBt Tryz.prog t 236 [.yld t.l,.ptr 1 (Xf [Qx L]) 0] [A 0,B 0] [A L.length,B L.length]:=by
 have hAO:∀i,Q0 2 (A i)=True:=fun i=>L' (hA i).1
 have hBO:∀i,Q0 2 (B i)=True:=fun i=>L' (hB i).1
 refine TBt.intro (fn:=Tryz.f236) Tryz.call236 Tryz.func236 rfl mixed 5 [5,6,7] [3,40000004] [3] (by kernel_rfl) (K_ rfl) hce (by simp[hAO,hBO]) (Xk ?_);simp only[O_,X7,↓X6,wA,seval,zA,qA,qC,vA,vC,JD,wN];refine Xj (fun i:Nat=>⟨5,[5,6,7],[.yld t.l,.ptr 1 (Xf [Qx L]) 0,.any,.any,.any],[(5,Qx L),(6,I L.length),(7,I i)],[A i,B i]⟩) (fun i=>i≤L.length) (fun i=>L.length-i) 0 (by omega)
  (Xh rfl (by simp[Xo,X7]) (by simp[Xx,XM,X7,I]) rfl) ?_
 intro i hi next
 have w1:=wj i;by_cases hi2:i<L.length
 ·have f1:((i:Int)<L.length)=True:=L' (by omega)
  have f2:(i<L.length)=True:=L' hi2;have f3:(i*8+8≤L.length*8)=True:=L' (by omega);have hm:((i+1:Nat):Int).tmod L.length=(((i+1)%L.length:Nat):Int):=rfl;have hml:(i+1)%L.length<L.length:=ZAI _ (by omega);have f4:((i+1)%L.length<L.length)=True:=L' hml;have f5:((i+1)%L.length*8+8≤L.length*8)=True:=L' (by omega);have f6:((L.length:Int)=0)=False:=R_ (by omega);have f6':(L.length=0)=False:=R_ (by omega);have v1:=vF L i;have v2:=vF L ((i+1)%L.length);refine Xk ?_;simp only[X7,w1,f1,f2,f3,f4,f5,f6,f6',hm,v1,v2,U',↓X6,wA,seval,zA,qA,qC,vA,vC,JD,wN];refine Vs (t:=t) (H1:=[A i,B i]) (H1':=[A (i+1),B (i+1)]) rfl rfl (Y_.2 rfl) (hy i hi2) rfl rfl hce ?_ ?_ ?_ ?_ ?_ ⟨U_ _,U_ _,trivial⟩ ?_
  ·intro a ha
   simp only[b_,V_,or_false]at ha;rcases ha with rfl |rfl <;> exact X4 (Xv _)
  ·intro o ho
   simp only[b_,V_,or_false]at ho;rcases ho with rfl |rfl
   ·exact(hA i).1
   ·exact(hB i).1
  ·intro o ho
   simp only[b_,V_,or_false]at ho;rcases ho with rfl |rfl
   ·exact(hA i).2.1
   ·exact(hB i).2.1
  ·intro o ho
   simp only[b_,V_,or_false]at ho;rcases ho with rfl |rfl
   ·exact(hA (i+1)).2.1
   ·exact(hB (i+1)).2.1
  ·refine Mr ?_ ?_
   ·intro o ho
    simp only[b_,V_,or_false]at ho;rcases ho with rfl |rfl
    ·exact(hA i).2.2
    ·exact(hB i).2.2
   ·intro o ho
    simp only[b_,V_,or_false]at ho;rcases ho with rfl |rfl
    ·exact(hA (i+1)).2.2
    ·exact(hB (i+1)).2.2
  simp only[X7,w1,↓X6,wA,seval,zA,qA,qC,vA,vC,JD,wN];have hbv:Jl 2 (Qx L)=True:=L' (X4 (Xs L));have hbp:Jl 2 (.ptr 1 (Xf [Qx L]) 0)=True:=L' (X4 (XR fun j hj=>by
    obtain rfl:j=0:=by omega
    exact Xs L))
  have hby:Jl 2 (.yld t.l)=True:=L' fun c v hv=>by cases hv;exact .yld _
  exact next (i+1) _ (by omega) (by omega) (XG (m:=2) (N' 2) rfl (by simp[X7,Xo,X9,QG,I]) (by simp[X7,Xx,XM,I]) rfl (by simp[hby,hbp,XP]) (by simp[hbv,XP]) (by simp[hAO,hBO]))
 ·obtain rfl:i=L.length:=by omega
  refine Xk ?_;simp only[X7,ZAM,ZAG,↓X6,wA,seval,zA,qA,qC,vA,vC,JD,wN];exact yY rfl rfl
def Ba (L:List V2):Nat→Rat
 |0=>0
 |i+1=>Ba L i+Xq (L.getD i v0) (L.getD ((i+1)%L.length) v0)
def ZB (L:List V2):Rat:=Ba L L.length*P' 1 2
def J3 (L:List V2)(k:Nat):Prop:=∀i,vb (L.getD i v0)≤k
theorem GH (L:List V2)(k:Nat)(h:J3 L k):∀i,qb (Ba L i)≤(4*k+2)*i+1
 |0=>by have:=AX;simp only[Ba];omega
 |i+1=>by
  have ih:=GH L k h i;have h1:=K1 (L.getD i v0) (L.getD ((i+1)%L.length) v0);have h2:=h i;have h3:=h ((i+1)%L.length);have h4:=KE (Ba L i) (Xq (L.getD i v0) (L.getD ((i+1)%L.length) v0));have e:(4*k+2)*(i+1)=(4*k+2)*i+(4*k+2):=Nat.mul_succ _ _;simp only[Ba];omega
theorem Yc (L:List V2)(k:Nat)(h:J3 L k)(hk:k≤1000)(hl:L.length≤1000):qb (Ba L L.length)≤10000000∧qb (ZB L)≤10000000:=by
 have h1:=GH L k h L.length;have h2:(4*k+2)*L.length≤4002*1000:=ZBQ (by omega) hl;have h3:=Qa (Ba L L.length) (P' 1 2);have h4:qb (P' 1 2)≤3:=Zq _ _ _ (by omega) (Aa ⟨by omega,by omega⟩) (Aa ⟨by omega,by omega⟩);unfold ZB;omega
def Zw:AO:=.row 0 4 (Xf [.bool false,.sl 0 0 (fun _=>.any) true,.bool false,.sl 0 0 (fun _=>.any) true])
def Dh (L:List V2)(i:Nat):AO:=.row 0 4 (Xf (qC (Ba L i)))
theorem pa (L:List V2)(k:Nat)(h:J3 L k)(hk:k≤1000)(hl:L.length≤1000):Fn Tryz.prog 145 [Qx L] (qA (ZB L)):=by
 obtain⟨R,hR⟩:∃R,R=qA (ZB L):=⟨_,rfl⟩
 have sR:A_ R:=hR▸Xb _;obtain⟨q1,q2⟩:=Yc L k h hk hl;have cs:=mX L;rw[←hR];refine Fq Tryz.call145 Tryz.func145 6 [8,9] [] [] (by simp[Xs]) (Xk ?_);simp only[O_,X7,↓X6,wA,seval,zA,qA,qC,vA,vC,JD,wN];refine X2 cs rfl ?_;simp only[↓X6,wA,seval,zA,qA,qC,vA,vC,JD,wN];have bA:Q0 2 Zw∧Zw≠.D_∧∀v n f,Zw≠.con v n f:=⟨by simp[Zw,XP],by simp[Zw],by simp[Zw]⟩
 have bB:∀i,Q0 2 (Dh L i)∧Dh L i≠.D_∧∀v n f,Dh L i≠.con v n f:=fun i=>⟨by simp[Dh,qC,XP],by simp[Dh],by simp[Dh]⟩
 refine d_ (s':=⟨6,[8,9],[Qx L,.any,.ref 0 0 0,.ref 1 0 0,.any,.any],[(7,.fn 236 [.ptr 1 (Xf [Qx L]) 0])],[Zw,Dh L 0]⟩) ?_ ((Qe 1 (Xf (qC 0)) rfl fun j hj=>?_).trans (Xh rfl (by simp[Xo,X7]) (by simp[Xx,XM]) (by simp[Zw,Dh,Ba])))
 rotate_left
 ·match j,hj with
  |0,_=>exact XD _ _
  |1,_=>exact Cq (A6 (by rw[ZB9];simp[Qu]))
  |2,_=>exact XD _ _
  |3,_=>exact Cq (A6 (Nc rfl))
  |j+4,h=>omega
 refine G9 (gf:=236) (G_:=[.ptr 1 (Xf [Qx L]) 0]) (Hn:=[Zw,Dh L L.length]) rfl rfl rfl (fun t ht=>?_) ?_
 ·refine WC L t (fun _=>Zw) (Dh L) (by omega) (fun i hi=>?_) (fun _=>bA) bB (by rw[ht.ch];exact N' _)
  have hc:=Bh (L.getD i v0) (L.getD ((i+1)%L.length) v0) (by have:=h i;unfold vm;omega) (by have:=h ((i+1)%L.length);unfold vm;omega);have b1:=GH L k h i;have b2:(4*k+2)*i≤4002*1000:=ZBQ (by omega) (by omega);have b3:=K1 (L.getD i v0) (L.getD ((i+1)%L.length) v0);have b4:=h i;have b5:=h ((i+1)%L.length);have ha:=Cf (Ba L i) (Xq (L.getD i v0) (L.getD ((i+1)%L.length) v0));refine UO (str:=[]) (hcs:=[]) ht mixed (by kernel_rfl) (by kernel_rfl) rfl (fun p hp=>?_) (fun o ho=>?_) (fun l r hr=>?_)
  ·have hp':p=8∨p=9:=by simpa using hp
   rcases hp' with rfl |rfl <;> exact K_ rfl
  ·simp only[b_,V_,or_false]at ho
   rcases ho with rfl |rfl
   ·exact bA.1
   ·exact(bB (i+1)).1
  show Run _ _ ⟨6,[8,9],[Qx L,.any,.ref 0 0 0,.ref 1 0 0,.any,.any],[(9,vA (L.getD ((i+1)%L.length) v0)),(8,vA (L.getD i v0)),(7,.fn 236 [.ptr 1 (Xf [Qx L]) 0])],[Zw,Dh L i]⟩;refine Xk ?_;simp only[Zw,Dh,↓X6,wA,seval,zA,qA,qC,vA,vC,JD,wN];refine VF hr ?_;refine Xk ?_;simp only[↓X6,wA,seval,zA,qA,qC,vA,vC,JD,wN];refine X2 hc rfl ?_;simp only[↓X6,wA,seval,zA,qA,qC,vA,vC,JD,wN];refine X2 ha rfl ?_;simp only[↓X6,wA,seval,zA,qA,qC,vA,vC,JD,wN];exact zX rfl
 ·refine Xk ?_
  simp only[Zw,Dh,↓X6,wA,seval,zA,qA,qC,vA,vC,JD,wN];refine X2 (D9 1 2 ⟨by omega,by omega⟩ ⟨by omega,by omega⟩) rfl ?_;simp only[↓X6,wA,seval,zA,qA,qC,vA,vC,JD,wN];have hm:=B5 (Ba L L.length) (P' 1 2) (by unfold rm;omega) (by
   have:qb (P' 1 2)≤3:=Zq _ _ _ (by omega) (Aa ⟨by omega,by omega⟩) (Aa ⟨by omega,by omega⟩);unfold rm;omega)
  rw[show Ba L L.length*P' 1 2=ZB L from rfl,←hR]at hm;refine X2 hm rfl ?_;simp only[hR,↓X6,wA,seval,zA,qA,qC,vA,vC,JD,wN];exact Jf rfl XT rfl rfl rfl sR (hR.trans rfl)
theorem xX (L:List V2)(i:Nat)(hn:L.length<1000000)(h0:L.length≠0)(hi:i<1000000000) :
  Fn Tryz.prog 142 [I i,.ptr 1 (Xf [Qx L]) 0,.ptr 1 (Xf [I L.length]) 0] (vA (L.getD (i%L.length) v0)):=by
 obtain⟨R,hR⟩:∃R,R=vA (L.getD (i%L.length) v0):=⟨_,rfl⟩
 have sR:A_ R:=hR▸Xv _;have hm:(i:Int).tmod L.length=((i%L.length:Nat):Int):=rfl;have hml:i%L.length<L.length:=ZAI _ (by omega);have f4:(i%L.length<L.length)=True:=L' hml;have f5:(i%L.length*8+8≤L.length*8)=True:=L' (by omega);have f6:((L.length:Int)=0)=False:=R_ (by omega);have f6':(L.length=0)=False:=R_ h0;have v1:=vF L (i%L.length);have hs0:A_ (.ptr 1 (Xf [Qx L]) 0):=XR fun j hj=>by
   obtain rfl:j=0:=by omega
   exact Xs L
 have hs1:A_ (.ptr 1 (Xf [I L.length]) 0):=XR fun j hj=>by
   obtain rfl:j=0:=by omega
   exact X8 _
 rw[←hR];refine Fq Tryz.call142 Tryz.func142 5 [] [] [] (by simp[X8,hs0,hs1]) (Xk ?_);simp only[O_,X7,f4,f5,f6,f6',hm,v1,U',↓X6,wA,seval,zA,qA,qC,vA,vC,JD,wN];exact ZK rfl Jn rfl rfl rfl sR (hR.trans rfl)
def atF (L:List V2)(i:Nat):V2:=L.getD (i%L.length) v0
def Yj (L:List V2)(i:Nat):Prop:=Ky (atF L i) (atF L (i+1)) (atF L (i+2))=0
def Yi (L:List V2)(i k:Nat):Prop:=(k+1)%L.length≠i∧Ad (atF L i) (atF L (i+1)) (atF L k) (atF L (k+1))=true
def kV (L:List V2)(i:Nat):Prop:=¬Yj L i∧∀k,i+2≤k→k<L.length→¬Yi L i k
def C1 (L:List V2):Prop:=(3≤L.length∧L.length≤12)∧(∀i,i<L.length→kV L i)∧0<(ZB L).num.sign
theorem Iu (L:List V2)(h:J3 L 1000)(hl:L.length<1000000):Fn Tryz.prog 62 [Qx L] (.bool (decide (C1 L))):=by
 obtain⟨V,hV⟩:∃V,V=decide (C1 L):=⟨_,rfl⟩
 rw[←hV];have fin:∀ {s:AS} {v:Bool},s.get 2=.bool v→v=V→TAC (JK Tryz.prog Tryz.f62 [] [] (.bool V)) s:=fun h e=>Xn rfl h (X5 _) (by rw[e])
 have hs0:A_ (.ptr 1 (Xf [Qx L]) 0):=XR fun j hj=>by
   obtain rfl:j=0:=by omega
   exact Xs L
 have hs1:A_ (.ptr 1 (Xf [I L.length]) 0):=XR fun j hj=>by
   obtain rfl:j=0:=by omega
   exact X8 _
 have sm:∀i,vb (atF L i)≤vs:=fun i=>by have:=h (i%L.length);unfold atF vs;omega
 refine Fq Tryz.call62 Tryz.func62 9 [17,18,19,35,36] [] [] (by simp[Xs]) (Xk ?_);by_cases hlo:(L.length:Int)<3
 ·have f1:((L.length:Int)<3)=True:=L' hlo
  simp only[O_,X7,f1,↓X6,wA,seval,zA,qA,qC,vA,vC,JD,wN];exact fin rfl (by rw[hV,Z_];unfold C1;omega)
 have f1:((L.length:Int)<3)=False:=R_ hlo;by_cases hhi:(12:Int)<L.length
 ·have f2:((12:Int)<L.length)=True:=L' hhi
  simp only[O_,X7,f1,f2,↓X6,wA,seval,zA,qA,qC,vA,vC,JD,wN];exact fin rfl (by rw[hV,Z_];unfold C1;omega)
 have f2:((12:Int)<L.length)=False:=R_ hhi;simp only[O_,X7,f1,f2,↓X6,wA,seval,zA,qA,qC,vA,vC,JD,wN];have b0:Jl 0 (.ptr 1 (Xf [Qx L]) 0)=True:=L' (X4 hs0);have b1:Jl 0 (.ptr 1 (Xf [I L.length]) 0)=True:=L' (X4 hs1);have b2:Jl 0 (Qx L)=True:=L' (X4 (Xs L));refine Xj (fun i:Nat=>⟨9,[17,18,19,35,36],[.any,.ptr 1 (Xf [Qx L]) 0,.bool false,.ptr 1 (Xf [I L.length]) 0,.any,.any,.any,.any,.any],[(17,Qx L),(18,I L.length),(19,I i)],[]⟩) (fun i=>i≤L.length) (fun i=>L.length-i) 0 (by omega)
  ((Xz 0 rfl).trans ((Xz 1 rfl).trans ((XK 1 rfl rfl).trans ((XK 3 rfl rfl).trans (XG (m:=0) (p_ _) rfl (by simp[AS.put,X7,Xo,X9,QG,I]) (by simp[AS.put,X7,Xx,XM,I]) rfl (by simp[b0,b1,XP]) (by simp[b2,XP])))))) ?_
 intro i hi next
 have w1:=wj i;have rv:∀r:Rat,qb r≤1000→Fn Tryz.prog 141 [qA r] (.bool true):=fun r hr=>by
  have h1:=RQ.TBv r;have:=Po (RQ.of r) (by omega);rwa[c_ ⟨r,rfl⟩]at this
 by_cases hi2:i<L.length
 ·have f3:((i:Int)<L.length)=True:=L' (by omega)
  have f4:(i<L.length)=True:=L' hi2;have f5:(i*8+8≤L.length*8)=True:=L' (by omega);have v1:=vF L i;have hx:=Ja (L.getD i v0);have hy:=J7 (L.getD i v0);have hb:=h i;refine Xk ?_;simp only[X7,w1,f3,f4,f5,v1,U',↓X6,wA,seval,zA,qA,qC,vA,vC,JD,wN];refine X2 (rv (L.getD i v0).x (by omega)) rfl ?_;simp only[↓X6,wA,seval,zA,qA,qC,vA,vC,JD,wN];refine X2 (rv (L.getD i v0).y (by omega)) rfl ?_;simp only[w1,↓X6,wA,seval,zA,qA,qC,vA,vC,JD,wN];exact next (i+1) _ (by omega) (by omega) (XG (m:=0) (p_ _) rfl (by simp[X7,Xo,X9,QG,I]) (by simp[X7,Xx,XM,I]) rfl (by simp[b0,b1,XP]) (by simp[b2,XP]))
 obtain rfl:i=L.length:=by omega
 refine Xk ?_;simp only[X7,ZAM,ZAG,↓X6,wA,seval,zA,qA,qC,vA,vC,JD,wN];have hn0:L.length≠0:=by omega
 have cat:∀j:Nat,j<1000000000→Fn Tryz.prog 142 [I j,.ptr 1 (Xf [Qx L]) 0,.ptr 1 (Xf [I L.length]) 0] (vA (atF L j)):=fun j hj=>xX L j hl hn0 hj
 have b3:Jl 0 (.fn 142 [.ptr 1 (Xf [Qx L]) 0,.ptr 1 (Xf [I L.length]) 0])=True:=L' (X4 (Kg (by
  intro a ha;simp only[b_,V_,or_false]at ha;rcases ha with rfl |rfl
  ·exact hs0
  ·exact hs1)))
 refine Xj (fun i:Nat=>⟨9,[17,18,19,35,36],[.any,.ptr 1 (Xf [Qx L]) 0,.bool false,.ptr 1 (Xf [I L.length]) 0,.any,.any,.fn 142 [.ptr 1 (Xf [Qx L]) 0,.ptr 1 (Xf [I L.length]) 0],.any,.any],[(35,I L.length),(36,I i)],[]⟩) (fun i=>i≤L.length∧∀j,j<i→kV L j) (fun i=>L.length-i) 0 ⟨by omega,by omega⟩
  (XG (m:=0) (p_ _) rfl (by simp[X7,Xo,X9,QG,I]) (by simp[X7,Xx,XM,I]) rfl (by simp[b0,b1,b3,XP]) (by simp[b2,XP])) ?_
 rintro i ⟨hi,TBw⟩ next
 have w1:=wj i;have w2:Q_.wrap ((i:Int)+2)=((i+2:Nat):Int):=by rw[M'];omega
 by_cases hi2:i<L.length
 rotate_left
 ·obtain rfl:i=L.length:=by omega
  refine Xk ?_;simp only[X7,ZAM,ZAG,↓X6,wA,seval,zA,qA,qC,vA,vC,JD,wN];have ca:=pa L 1000 h (by omega) (by omega);have cs:=Qv (ZB L);refine X2 ca rfl ?_;simp only[↓X6,wA,seval,zA,qA,qC,vA,vC,JD,wN];refine X2 cs rfl ?_;simp only[↓X6,wA,seval,zA,qA,qC,vA,vC,JD,wN];exact fin rfl (by rw[hV,decide_eq_decide];unfold C1;exact⟨fun h=>⟨by omega,TBw,h⟩,fun h=>h.2.2⟩)
 have f3:((i:Int)<L.length)=True:=L' (by omega);have f4:(i<L.length)=True:=L' hi2;refine Xk ?_;simp only[w1,w2,f3,f4,U',↓X6,wA,seval,zA,qA,qC,vA,vC,JD,wN];refine X2 (cat i (by omega)) rfl ?_;simp only[w1,w2,↓X6,wA,seval,zA,qA,qC,vA,vC,JD,wN];refine X2 (cat (i+1) (by omega)) rfl ?_;simp only[w1,w2,↓X6,wA,seval,zA,qA,qC,vA,vC,JD,wN];refine X2 (cat (i+2) (by omega)) rfl ?_;simp only[w1,w2,↓X6,wA,seval,zA,qA,qC,vA,vC,JD,wN];refine X2 (CC _ _ _ (sm _) (sm _) (sm _)) rfl ?_;by_cases hs:Ky (atF L i) (atF L (i+1)) (atF L (i+2))=0
 ·have f5:(Ky (atF L i) (atF L (i+1)) (atF L (i+2))=0)=True:=L' hs
  simp only[f5,↓X6,wA,seval,zA,qA,qC,vA,vC,JD,wN];exact fin rfl (by rw[hV,Z_];exact fun hp=>(hp.2.1 i hi2).1 hs)
 have f5:(Ky (atF L i) (atF L (i+1)) (atF L (i+2))=0)=False:=R_ hs;simp only[f5,w1,w2,↓X6,wA,seval,zA,qA,qC,vA,vC,JD,wN];refine Xj (fun k:Nat=>⟨9,[17,18,19,35,36],[.any,.ptr 1 (Xf [Qx L]) 0,.bool false,.ptr 1 (Xf [I L.length]) 0,.any,.any,.fn 142 [.ptr 1 (Xf [Qx L]) 0,.ptr 1 (Xf [I L.length]) 0],I i,I k],[(35,I L.length),(36,I i)],[]⟩) (fun k=>i+2≤k∧k≤L.length+2∧∀j,i+2≤j→j<k→j<L.length→¬Yi L i j) (fun k=>L.length+2-k) (i+2) ⟨by omega,by omega,by omega⟩
  (Xh rfl (by simp[Xo,I]) (by simp[Xx,XM,I]) rfl) ?_
 rintro k ⟨hk1,hk2,TB5⟩ TBD;have u1:=wj k;by_cases hk3:k<L.length
 rotate_left
 ·have g3:((k:Int)<L.length)=False:=R_ (by omega)
  have g4:(k<L.length)=False:=R_ hk3;refine Xk ?_;simp only[g3,g4,w1,↓X6,wA,seval,zA,qA,qC,vA,vC,JD,wN];refine next (i+1) _ ⟨by omega,fun j hj=>?_⟩ (by omega) (Xh rfl (by simp[Xo,I]) (by simp[Xx,XM,I]) rfl)
  by_cases hji:j<i
  ·exact TBw j hji
  ·obtain rfl:j=i:=by omega
   exact⟨hs,fun q hq1 hq2=>TB5 q hq1 (by omega) hq2⟩
 have g3:((k:Int)<L.length)=True:=L' (by omega);have g4:(k<L.length)=True:=L' hk3;have hm:((k+1:Nat):Int).tmod L.length=(((k+1)%L.length:Nat):Int):=rfl;have f6:((L.length:Int)=0)=False:=R_ (by omega);have f6':(L.length=0)=False:=R_ hn0;by_cases hne:(k+1)%L.length=i
 ·have g5:((k+1)%L.length=i)=True:=L' hne
  have g6:((((k+1)%L.length:Nat):Int)=(i:Int))=True:=L' (by omega);refine Xk ?_;simp only[g3,g4,g5,g6,w1,u1,hm,f6,f6',↓X6,wA,seval,zA,qA,qC,vA,vC,JD,wN];exact TBD (k+1) _ ⟨by omega,by omega,fun j h1 h2 h3=>by
   by_cases hjk:j<k
   ·exact TB5 j h1 hjk h3
   ·obtain rfl:j=k:=by omega
    exact fun hb=>hb.1 hne⟩ (by omega) (Xh rfl (by simp[Xo,I]) (by simp[Xx,XM,I]) rfl)
 have g5:((k+1)%L.length=i)=False:=R_ hne;have g6:((((k+1)%L.length:Nat):Int)=(i:Int))=False:=R_ (by omega);refine Xk ?_;simp only[g3,g4,g5,g6,w1,u1,hm,f6,f6',↓X6,wA,seval,zA,qA,qC,vA,vC,JD,wN];refine X2 (cat i (by omega)) rfl ?_;simp only[g5,g6,w1,u1,↓X6,wA,seval,zA,qA,qC,vA,vC,JD,wN];refine X2 (cat (i+1) (by omega)) rfl ?_;simp only[g5,g6,w1,u1,↓X6,wA,seval,zA,qA,qC,vA,vC,JD,wN];refine X2 (cat k (by omega)) rfl ?_;simp only[g5,g6,w1,u1,↓X6,wA,seval,zA,qA,qC,vA,vC,JD,wN];refine X2 (cat (k+1) (by omega)) rfl ?_;simp only[g5,g6,w1,u1,↓X6,wA,seval,zA,qA,qC,vA,vC,JD,wN];refine X2 (lM _ _ _ _ (sm _) (sm _) (sm _) (sm _)) rfl ?_;by_cases hmt:Ad (atF L i) (atF L (i+1)) (atF L k) (atF L (k+1))=true
 ·rw[hmt]
  simp only[g5,g6,↓X6,wA,seval,zA,qA,qC,vA,vC,JD,wN];exact fin rfl (by rw[hV,Z_];exact fun hp=>(hp.2.1 i hi2).2 k hk1 hk3 ⟨hne,hmt⟩)
 ·have hmf:=ZA7 _▸hmt
  rw[hmf];simp only[g5,g6,u1,↓X6,wA,seval,zA,qA,qC,vA,vC,JD,wN];exact TBD (k+1) _ ⟨by omega,by omega,fun j h1 h2 h3=>by
   by_cases hjk:j<k
   ·exact TB5 j h1 hjk h3
   ·obtain rfl:j=k:=by omega
    exact fun hb=>hmt hb.2⟩ (by omega) (Xh rfl (by simp[Xo,I]) (by simp[Xx,XM,I]) rfl)
def zw (p:Int×Int):List AV:=[I p.1,I p.2]
def pts (l:List (Int×Int)):AV:=gE zw 2 (0,0) l
theorem Ue (l:List (Int×Int)):A_ (pts l):=Z4 fun a x hx=>by
 have:∀x∈zw a,A_ x:=by simp[zw,X8]
 exact this x hx
theorem rz (l:List (Int×Int)):pts l=.sl l.length (l.length*2) (Xw zw 2 (0,0) l) false:=C_ rfl
theorem cR (l:List Bool):CN l=.sl l.length l.length (J8 AV.bool false l) false:=C_ rfl
theorem Xl (l:List Int):X9 l=.sl l.length l.length (J8 I 0 l) false:=C_ rfl
theorem Nv {α:Type}(e:α→List AV)(s:Nat)(d:α)(l:List α)(j:Nat)(hs:0<s)(he:∀a,(e a).length=s∧∀x∈e a,x.one=true):(Xw e s d l j).one=true:=by
 have h:=he (l.getD (j/s) d);have hj:j%s<(e (l.getD (j/s) d)).length:=by rw[h.1];exact ZAI _ hs
 unfold Xw;rw[K',V' hj];exact h.2 _ (ZAR hj)
theorem uS (f:Nat→AV)(m:Nat)(g:Nat→AV)(j:Nat):XV 0 f m g j=if j<m then g j else f j:=by simp[XV]
theorem df {P:Program}{fn:Func}{str hcs:List Nat}{s:AS}{t n m es ver id:Nat}{f g:Nat→AV}(hr:fn.results=#[.tmp t])(hs:s.get t=.osl id ver es 0 n)(ho:s.h[id]?=some (.row ver m (XV 0 f m g))) (hn:n=0→m=0) (hg:∀j,j<m→A_ (g j)) :
  TAC (JK P fn str hcs (.sl n m g false)) s:=by
 refine C4 hr ?_;rw[hs];refine Kw (.inl ho) (by omega) hn fun j hj=>?_
 rw[z_,uS,N_ hj];exact(hg j hj).TBI _
theorem Vw {P:Program}{fn:Func}{str hcs:List Nat}{s:AS}{t:Nat}{f g:Nat→AV}{b:Bool}(hr:fn.results=#[.tmp t])(hs:s.get t=.sl 0 0 f b):TAC (JK P fn str hcs (.sl 0 0 g false)) s:=by
 refine C4 hr ?_;rw[hs];exact Wu
theorem X04 (z:Int):zA z=.agg [.bool (decide (z<0)),X9 (Xa z.natAbs)]:=C_ rfl
theorem X03 (v:V2):vC v=[.bool (decide (v.x.num<0)),X9 (Xa v.x.num.natAbs),.bool false,X9 (Xa (qd v.x)),.bool (decide (v.y.num<0)),X9 (Xa v.y.num.natAbs),.bool false,X9 (Xa (qd v.y))]:=C_ rfl
theorem X02 (v:V2):vA v=.agg (vC v):=C_ rfl
theorem zV (r:Rat):qC r=[.bool (decide (r.num<0)),X9 (Xa r.num.natAbs),.bool false,X9 (Xa (qd r))]:=C_ rfl
theorem zU (r:Rat):qA r=.agg (qC r):=C_ rfl
set_option linter.defProp false in
def wS:=XB KM (XB @Xb (XB @Xv (XB @Xi (XB @Ue @Oa))))
set_option linter.defProp false in
def wE:=XB @X04 (XB @X03 (XB @X02 (XB @zV (XB @zU (XB @rz (XB @cR (XB JD wN)))))))
set_option linter.defProp false in
def wF:=XB wA wE
end
end Go.Ab.N
namespace Go.Ab.N
open Go Go.RowKit Go.Proofs
noncomputable section
set_option maxRecDepth 10000
set_option maxHeartbeats 4000000
open Classical
theorem dlt {a b:Int}(h:a<b):(a<b)=True:=L' h
theorem zG {a b:Int}(h:b≤a):(a<b)=False:=R_ (by omega)
theorem dle {a b:Int}(h:a≤b):(a≤b)=True:=L' h
theorem zF {a b:Int}(h:b<a):(a≤b)=False:=R_ (by omega)
theorem deq {a b:Int}(h:a=b):(a=b)=True:=L' h
theorem zE {a b:Int}(h:a≠b):(a=b)=False:=R_ h
theorem nlt {a b:Nat}(h:a<b):(a<b)=True:=L' h
theorem zQ {a b:Nat}(h:b≤a):(a<b)=False:=R_ (by omega)
theorem nle {a b:Nat}(h:a≤b):(a≤b)=True:=L' h
theorem zP {a b:Nat}(h:b<a):(a≤b)=False:=R_ (by omega)
theorem zM {a b:Nat}(h:a=b):(a=b)=True:=L' h
theorem zN {a b:Nat}(h:a≠b):(a=b)=False:=R_ h
theorem yq {x:Int}(h:-9223372036854775808≤x∧x<9223372036854775808):Q_.wrap x=x:=by rw[M'];omega
theorem zH {n:Nat}:(n:Int).toNat=n:=U' n
theorem zd (f:Nat→AV)(i:Nat)(v:AV)(j:Nat):De f i v j=if j=i then v else f j:=C_ rfl
def gq (l:List AV)(i:Nat)(a:AV):Nat→AV:=De (Xf l) i a
def Yp (x:AV)(f:Nat→AV):Nat→AV:=fun j=>match j with |0=>x |j+1=>f j
theorem xx (l:List AV)(i:Nat)(a:AV):De (Xf l) i a=gq l i a:=C_ rfl
theorem xz (x a:AV)(l:List AV):gq (x :: l) 0 a=Xf (a :: l):=by
 funext j;unfold gq De Xf;cases j <;> simp
theorem xy (x a:AV)(l:List AV)(n:Nat):gq (x :: l) (n+1) a=Yp x (gq l n a):=by
 funext j;unfold gq De Xf Yp;cases j <;> simp
theorem pW (x:AV)(l:List AV):Yp x (Xf l)=Xf (x :: l):=by
 funext j;unfold Xf Yp;cases j <;> simp
def sg (x:Rat):Bool:=decide (x.num<0)
theorem zZ (x:Rat):decide (x.num<0)=sg x:=C_ rfl
set_option linter.defProp false in
def wD:=XB @zd (XB @xx <| XB @xz <| XB @xy <| XB @pW <| XB @dlt (XB @zG (XB @dle (XB @zF (XB @deq (XB @zE (XB @nlt (XB @zQ (XB @nle (XB @zP (XB @zM (XB @zN (XB @yq @zH)))))))))))))
set_option linter.defProp false in
def Xc:=XB @zZ X6
set_option linter.defProp false in
def wG:=XB wD wF
theorem QZ {m v n:Nat}{L:List AV}(h:∀x∈L,A_ x):Q0 m (.row v n (Xf L)):=fun j _=>X4 (Xe h j)
theorem JQ (f:Nat→AV)(t:Bool):A_ (.sl 0 0 f t):=Qw fun j hj=>absurd hj (ZAL j)
theorem HK (q:Rat):q.num.sign<0↔q<0:=by rw[ZA6,Rat.lt_iff];simp
theorem Ek (q:Rat):0<q.num.sign↔0<q:=by rw[Int.sign_pos_iff,Rat.lt_iff];simp
theorem aH (q:Rat):q.num.sign=0↔q=0:=by rw[Int.sign_eq_zero_iff_zero];exact ZEJ
end
end Go.Ab.N
namespace Go.Ab.N
open Go Go.RowKit Go.Proofs
noncomputable section
set_option maxRecDepth 10000
set_option maxHeartbeats 2000000
open Classical
theorem Pb (a b:Int)(la:bl a<4611686018427387904)(lb:bl b<4611686018427387904):Fn Tryz.prog 169 [zA a,zA b] (I (a-b).sign):=by
 unfold bl at la lb;have c1:=BJ (Xa b.natAbs) (Xa a.natAbs) (Q4 _) (Q4 _) lb;have c2:=BJ (Xa a.natAbs) (Xa b.natAbs) (Q4 _) (Q4 _) la;rw[XJ,XJ]at c1 c2;obtain⟨V,hV⟩:∃V,V=(a-b).sign:=⟨_,rfl⟩
 rw[←hV];have fin:∀ {s:AS} {v:Int},s.get 4=I v→v=V→TAC (JK Tryz.prog Tryz.f169 [] [] (I V)) s:=fun h e=>Xn rfl h (X8 _) (by rw[e])
 refine Fq Tryz.call169 Tryz.func169 5 [] [] [] (by simp[XS]) (Xk ?_);by_cases ha:a<0
 ·have f1:(a<0)=True:=L' ha
  by_cases hb:b<0
  ·have f2:(b<0)=True:=L' hb
   simp only[O_,f1,f2,tT,↓X6,wF,seval];refine X2 c1 rfl ?_;simp only[↓X6,wF,seval];refine fin rfl ?_;rw[hV];congr 1;omega
  ·have f2:(b<0)=False:=R_ hb
   simp only[O_,f1,f2,tS,↓X6,wF,seval];refine fin rfl ?_;rw[hV,o_ (by omega)]
 ·have f1:(a<0)=False:=R_ ha
  by_cases hb:b<0
  ·have f2:(b<0)=True:=L' hb
   simp only[O_,f1,f2,tR,↓X6,wF,seval];refine fin rfl ?_;rw[hV,u_ (by omega)]
  ·have f2:(b<0)=False:=R_ hb
   simp only[O_,f1,f2,tQ,↓X6,wF,seval];refine X2 c2 rfl ?_;simp only[↓X6,wF,seval];refine fin rfl ?_;rw[hV];congr 1;omega
theorem Wm (a:Int)(la:bl a<4611686018427387904):Fn Tryz.prog 89 [zA a] (I a.sign):=by
 have c:=Pb a 0 la (by unfold bl;rw[ZEX,Qu];decide);rw[Int.sub_zero]at c;refine Fq Tryz.call89 Tryz.func89 3 [] [] [] (by simp[wS]) (Xk ?_);simp(maxSteps:=999999)only[O_,↓X6,wF,seval];refine X0 c ⟨U_ _,?_,trivial⟩ ?_
 ·exact JR ⟨U_ _,A6 (by rw[ZEX,Qu]),trivial⟩
 simp only[↓X6,wF,seval];exact Xn rfl rfl (X8 _) rfl
theorem Zr (r:Rat):Fn Tryz.prog 79 [qA r] (zA r.den):=by
 obtain⟨R,hR⟩:∃R,R=zA r.den:=⟨_,rfl⟩
 have sR:A_ R:=hR▸XS _;rw[←hR];rw[nZ]at hR;by_cases h:r.den=1
 ·have f1:((Xa (qd r)).length=0)=True:=L' ((E6 r).2 h)
  have f2:(((Xa (qd r)).length:Int)=0)=True:=L' (by have:=(E6 r).2 h;omega);refine Fq Tryz.call79 Tryz.func79 3 [] [] [] (by simp[wS]) (Xk ?_);simp(maxSteps:=999999)only[O_,↓X6,wF,seval];simp only[f1,f2,↓X6,wF,seval];refine X2 (Eb 1 ⟨by omega,by omega⟩) rfl ?_;simp only[↓X6,wF,seval];exact Jf rfl Q5 rfl rfl rfl sR (by rw[hR,h];rfl)
 ·have f1:((Xa (qd r)).length=0)=False:=R_ fun e=>h ((E6 r).1 e)
  have f2:(((Xa (qd r)).length:Int)=0)=False:=R_ fun e=>h ((E6 r).1 (by omega))
  refine Fq Tryz.call79 Tryz.func79 3 [] [] [] (by simp[wS]) (Xk ?_);simp(maxSteps:=999999)only[O_,↓X6,wF,seval];simp only[f1,f2,↓X6,wF,seval];exact Jf rfl Q5 rfl rfl rfl sR (by rw[hR,mw h];rfl)
theorem Q8 (r:Rat)(h:qb r≤rm:=by unfold rm;omega):Fn Tryz.prog 25 [qA r] (I r.num.sign):=by
 have h1:=Jy r;have c:=Wm r.num (by unfold rm at h;omega);refine Fq Tryz.call25 Tryz.func25 3 [] [] [] (by simp[wS]) (Xk ?_);simp(maxSteps:=999999)only[O_,↓X6,wF,seval];refine X2 c rfl ?_;simp only[↓X6,wF,seval];exact Xn rfl rfl (X8 _) rfl
theorem J2 (a b:Rat)(ha:qb a≤rm:=by unfold rm;omega)(hb:qb b≤rm:=by unfold rm;omega):Fn Tryz.prog 87 [qA a,qA b] (I (Bk a b)):=by
 unfold rm at ha hb;have a1:=Jy a;have a2:=JZ a;have b1:=Jy b;have b2:=JZ b;have m1:=Zl a.num b.den;have m2:=Zl b.num a.den;have n1:=JV a.num b.den;have n2:=JV b.num a.den;have c:=Pb (a.num*b.den) (b.num*a.den) (by omega) (by omega);have d1:=Zr a;have d2:=Zr b;obtain⟨V,hV⟩:∃V,V=Bk a b:=⟨_,rfl⟩
 rw[show(a.num*b.den-b.num*a.den).sign=V from hV.symm]at c;rw[←hV];refine Fq Tryz.call87 Tryz.func87 5 [] [] [] (by simp[wS]) (Xk ?_);simp(maxSteps:=999999)only[O_,↓X6,wF,seval];refine X2 d2 rfl ?_;simp only[↓X6,wF,seval];refine X2 m1 rfl ?_;simp only[↓X6,wF,seval];refine X2 d1 rfl ?_;simp only[↓X6,wF,seval];refine X2 m2 rfl ?_;simp only[↓X6,wF,seval];refine X2 c rfl ?_;simp only[↓X6,wF,seval];exact Xn rfl rfl (X8 _) rfl
theorem QT (a b:Rat)(ha:qb a≤rm:=by unfold rm;omega)(hb:qb b≤rm:=by unfold rm;omega):Fn Tryz.prog 19 [qA a,qA b] (qA (a+b)):=by
 unfold rm at ha hb;have a1:=Jy a;have a2:=JZ a;have b1:=Jy b;have b2:=JZ b;have m1:=Zl a.num b.den;have m2:=Zl b.num a.den;have m3:=Zl a.den b.den;have n1:=JV a.num b.den;have n2:=JV b.num a.den;have n3:=JV a.den b.den;have n4:=Vp (a.num*b.den) (b.num*a.den);have s1:=TI (a.num*b.den) (b.num*a.den) (by unfold room;omega) (by unfold room;omega);have k:=Dr (a.num*b.den+b.num*a.den) (a.den*b.den);have e0:a+b=P' (a.num*b.den+b.num*a.den) (a.den*b.den):=by
  rw[Rat.add_def',Z8];push_cast;rfl
 rw[←e0]at k;have d1:=Zr a;have d2:=Zr b;obtain⟨R,hR⟩:∃R,R=qA (a+b):=⟨_,rfl⟩
 have sR:A_ R:=hR▸Xb _;rw[←hR]at k ⊢;refine Fq Tryz.call19 Tryz.func19 7 [] [1,2,3,20000002,20000003,30000002,30000003,40000002,40000003,40000005,40000006] [] (by simp[wS]) (Xk ?_);simp(maxSteps:=999999)only[O_,↓X6,wF,seval];refine X2 d2 rfl ?_;simp only[↓X6,wF,seval];refine X2 m1 rfl ?_;simp only[↓X6,wF,seval];refine X2 d1 rfl ?_;simp only[↓X6,wF,seval];refine X2 m2 rfl ?_;simp only[↓X6,wF,seval];refine X2 s1 rfl ?_;simp only[↓X6,wF,seval];refine X2 d1 rfl ?_;simp only[↓X6,wF,seval];refine X2 d2 rfl ?_;simp only[↓X6,wF,seval];refine X2 m3 rfl ?_;simp only[↓X6,wF,seval];refine X2 k rfl ?_;simp only[hR,↓X6,wF,seval];exact Jf rfl XT rfl rfl rfl sR (hR.trans rfl)
theorem Qm (a b:Rat)(ha:qb a≤rm:=by unfold rm;omega)(hb:qb b≤rm:=by unfold rm;omega):Fn Tryz.prog 93 [qA a,qA b] (qA (a*b)):=by
 unfold rm at ha hb;have a1:=Jy a;have a2:=JZ a;have b1:=Jy b;have b2:=JZ b;have m1:=Zl a.num b.num;have m3:=Zl a.den b.den;have n1:=JV a.num b.num;have n3:=JV a.den b.den;have k:=Dr (a.num*b.num) (a.den*b.den);have e0:a*b=P' (a.num*b.num) (a.den*b.den):=by
  rw[Rat.mul_def',Z8];push_cast;rfl
 rw[←e0]at k;have d1:=Zr a;have d2:=Zr b;obtain⟨R,hR⟩:∃R,R=qA (a*b):=⟨_,rfl⟩
 have sR:A_ R:=hR▸Xb _;rw[←hR]at k ⊢;refine Fq Tryz.call93 Tryz.func93 5 [] [] [] (by simp[wS]) (Xk ?_);simp(maxSteps:=999999)only[O_,↓X6,wF,seval];refine X2 m1 rfl ?_;simp only[↓X6,wF,seval];refine X2 d1 rfl ?_;simp only[↓X6,wF,seval];refine X2 d2 rfl ?_;simp only[↓X6,wF,seval];refine X2 m3 rfl ?_;simp only[↓X6,wF,seval];refine X2 k rfl ?_;simp only[hR,↓X6,wF,seval];exact Jf rfl XT rfl rfl rfl sR (hR.trans rfl)
theorem my (r:Rat):qd (-r)=qd r:=by unfold qd;rw[Rat.neg_den]
theorem J9 (r:Rat)(h:qb r≤rm:=by unfold rm;omega):Fn Tryz.prog 106 [qA r] (qA (-r)):=by
 unfold rm at h;have h1:=Jy r;have c:=HC r.num;have e:qA (-r)=.agg [.bool (decide (-r.num<0)),X9 (Xa (-r.num).natAbs),.bool false,X9 (Xa (qd r))]:=by
  unfold qA qC;rw[my,Rat.neg_num]
 obtain⟨R,hR⟩:∃R,R=qA (-r):=⟨_,rfl⟩
 have sR:A_ R:=hR▸Xb _;rw[←hR];refine Fq Tryz.call106 Tryz.func106 3 [] [] [] (by simp[wS]) (Xk ?_);simp(maxSteps:=999999)only[O_,↓X6,wF,seval];refine X2 c rfl ?_;simp only[↓X6,wF,seval];exact Jf rfl XT rfl rfl rfl sR (hR.trans e)
theorem BF (r:Rat):qb (-r)=qb r:=by
 unfold qb bl;rw[Rat.neg_den,Rat.neg_num,Int.natAbs_neg]
theorem Bm (a b:Rat)(ha:qb a≤rm:=by unfold rm;omega)(hb:qb b≤rm:=by unfold rm;omega):Fn Tryz.prog 176 [qA a,qA b] (qA (a-b)):=by
 have c:=J9 b hb;have k:=QT a (-b) ha (by rw[BF];exact hb);rw[←ZEI]at k;obtain⟨R,hR⟩:∃R,R=qA (a-b):=⟨_,rfl⟩
 have sR:A_ R:=hR▸Xb _;rw[←hR]at k ⊢;refine Fq Tryz.call176 Tryz.func176 5 [] [] [] (by simp[wS]) (Xk ?_);simp(maxSteps:=999999)only[O_,↓X6,wF,seval];refine X2 c rfl ?_;simp only[↓X6,wF,seval];refine X2 k rfl ?_;simp only[hR,↓X6,wF,seval];exact Jf rfl XT rfl rfl rfl sR (hR.trans rfl)
theorem Hz (neg:Bool)(d:List Int)(hl:d.length<4611686018427387904):Fn Tryz.prog 168 [zR neg d] (.bool (KV neg d)):=by
 obtain⟨V,hV⟩:∃V,V=KV neg d:=⟨_,rfl⟩
 rw[←hV];unfold KV at hV;have fin:∀ {s:AS} {v:Bool},s.get 2=.bool v→v=V→TAC (JK Tryz.prog Tryz.f168 [] [] (.bool V)) s:=fun h e=>Xn rfl h (X5 _) (by rw[e])
 refine Fq Tryz.call168 Tryz.func168 4 [] [] [] (by simp[Xi]) (Xk ?_);simp only[O_,zR,↓X6,wF,seval];refine Xj (fun i:Nat=>⟨4,[],[.any,.ref 0 0 0,.bool false,I i],[],[.row 0 2 (Xf [.bool neg,X9 d])]⟩) (fun i=>i≤d.length∧∀j,j<i→GI (d.getD j 0)=false) (fun i=>d.length-i) 0 ⟨by omega,by omega⟩
  (ZZ (by simp[Xo,I]) (by simp[Xl])) ?_
 rintro i ⟨hi,hok⟩ next
 have w1:=wj i;by_cases hi2:i<d.length
 ·have f1:((i:Int)<d.length)=True:=L' (by omega)
  have f2:(i<d.length)=True:=L' hi2;have bad:GI (d.getD i 0)=true→false=V:=fun h=>by
   have:d.any GI=true:=ZCA.2 ⟨d.getD i 0,H5 hi2,h⟩;rw[hV,this];rfl
  by_cases g1:d.getD i 0<0
  ·have k1:(d.getD i 0<0)=True:=L' g1
   refine Xk ?_;simp only[Xl,w1,f1,f2,k1,U',↓X6,wF,seval];exact fin rfl (bad (by unfold GI;rw[c_ g1];rfl))
  have k1:(d.getD i 0<0)=False:=R_ g1;by_cases g2:1000000000≤d.getD i 0
  ·have k2:(1000000000≤d.getD i 0)=True:=L' g2
   refine Xk ?_;simp only[Xl,w1,f1,f2,k1,k2,U',↓X6,wF,seval];exact fin rfl (bad (by unfold GI;rw[c_ g2];simp))
  have k2:(1000000000≤d.getD i 0)=False:=R_ g2;refine Xk ?_;simp only[Xl,w1,f1,f2,k1,k2,U',↓X6,wF,seval];refine next (i+1) _ ⟨by omega,fun j hj=>?_⟩ (by omega) (ZZ (by simp[Xo,I]) (by simp[Xl]))
  by_cases e:j<i
  ·exact hok j e
  ·obtain rfl:j=i:=by omega
   unfold GI;rw[Z_ g1,Z_ g2];rfl
 obtain rfl:i=d.length:=by omega
 have TBL:d.any GI=false:=by
  rw[List.any_eq_false];intro x hx;obtain⟨k,hk,rfl⟩:=ZAT hx;have:=hok k hk;rw[K',V' hk]at this
  simpa using this
 rw[TBL]at hV;by_cases h0:d.length=0
 ·have f1:(d.length=0)=True:=L' h0
  have f2:((d.length:Int)=0)=True:=L' (by omega);refine Xk ?_;simp only[Xl,f1,f2,ZAM,ZAG,↓X6,wF,seval];exact fin rfl (by rw[hV,N_ h0];simp)
 ·have f1:(d.length=0)=False:=R_ h0
  have f2:((d.length:Int)=0)=False:=R_ (by omega);have f3:(0<d.length)=True:=L' (by omega);have f4:(0<(d.length:Int))=True:=L' (by omega);have w2:Q_.wrap ((d.length:Int)-1)=((d.length-1:Nat):Int):=by rw[M'];omega
  have f5:(d.length-1<d.length)=True:=L' (by omega);refine Xk ?_;simp only[Xl,f1,f2,f3,f4,f5,w2,U',ZAM,ZAG,↓X6,wF,seval];exact fin rfl (by rw[hV,M_ h0];simp)
theorem Cg (x:RQ)(hx:x.sz<1000000000):Fn Tryz.prog 86 [x.A] (.bool (decide x.ok)):=by
 unfold RQ.sz at hx;obtain⟨V,hV⟩:∃V,V=decide x.ok:=⟨_,rfl⟩
 have c1:=Hz x.pn x.pd (by omega);have c2:=Hz x.qn x.qd (by omega);have c3:=Ts x.qn x.qd;have TCg:KV x.pn x.pd=false→V=false:=fun h=>by
  rw[hV];refine Z_ ?_;rintro⟨r,rfl⟩;have:KV (RQ.of r).pn (RQ.of r).pd=true:=(ZR _ _).2 ⟨r.num,rfl,rfl⟩;rw[this]at h;cases h
 have TCh:KV x.qn x.qd=false→V=false:=fun h=>by
  rw[hV];refine Z_ ?_;rintro⟨r,rfl⟩;have:KV (RQ.of r).qn (RQ.of r).qd=true:=(ZR _ _).2 ⟨(Ab.N.qd r:Int),by unfold RQ.of;simp,by unfold RQ.of;simp⟩;rw[this]at h;cases h
 have fin:∀ {s:AS} {v:Bool},s.get 2=.bool v→v=V→TAC (JK Tryz.prog Tryz.f86 [] [] (.bool V)) s:=fun h e=>Xn rfl h (X5 _) (by rw[e])
 rw[←hV];refine Fq Tryz.call86 Tryz.func86 3 [] [] [] (by simp[CI]) (Xk ?_);simp only[O_,RQ.A,RQ.L,↓X6,wF,seval];refine X2 c1 rfl ?_;by_cases v1:KV x.pn x.pd=true
 rotate_left
 ·rw[ZA7]at v1
  rw[v1];simp only[↓X6,wF,seval];exact fin rfl (TCg v1).symm
 rw[v1];simp only[↓X6,wF,seval];refine X2 c2 rfl ?_;by_cases v2:KV x.qn x.qd=true
 rotate_left
 ·rw[ZA7]at v2
  rw[v2];simp only[↓X6,wF,seval];exact fin rfl (TCh v2).symm
 rw[v2];obtain⟨p,p1,p2⟩:=(ZR _ _).1 v1;obtain⟨q,q1,q2⟩:=(ZR _ _).1 v2;have hok:=RQ.TBP x p q p1 p2 q1 q2;have lp:bl p<1000000000:=by unfold bl;rw[←p2];omega
 have lq:bl q<1000000000:=by unfold bl;rw[←q2];omega
 rw[q1,q2,RP]at c3;have cg:=TV p q lp lq;have cu:=Rs (ZAn p q);rw[p1,p2,q1,q2];have hl:((Xa q.natAbs).length=0)=(q=0):=propext (TAA.trans (by omega));have hlN:(Xa q.natAbs).length=0↔q=0:=TAA.trans (by omega);have hlI:(((Xa q.natAbs).length:Int)=0)=(q=0):=propext (by omega);by_cases h1:q<0
 ·have f1:(q<0)=True:=L' h1
  simp only[f1,↓X6,wF,seval];exact fin rfl (by rw[hV,Z_ (by rw[hok];exact fun h=>h.1 h1)])
 have f1:(q<0)=False:=R_ h1;simp only[f1,↓X6,wF,seval];have c3':=c3;rw[Z_ h1]at c3';refine X2 c3' rfl ?_;by_cases h2:q=1
 ·have f2:(q=1)=True:=L' h2
  simp only[f1,f2,↓X6,wF,seval];exact fin rfl (by rw[hV,Z_ (by rw[hok];exact fun h=>h.2.1 h2)])
 have f2:(q=1)=False:=R_ h2;by_cases h0:q=0
 ·have f3:(q=0)=True:=L' h0
  simp only[f1,f2,f3,hl,hlI,↓X6,wF,seval];exact fin rfl (by rw[hV,c_ (hok.2 ⟨h1,h2,.inl h0⟩)])
 have f3:(q=0)=False:=R_ h0;simp only[f1,f2,f3,hl,hlI,↓X6,wF,seval];rw[aX h1]at cg;refine X2 cg rfl ?_;simp only[↓X6,wF,seval];refine X2 cu rfl ?_;simp only[↓X6,wF,seval];refine fin rfl ?_;rw[hV,decide_eq_decide,hok];constructor
 ·intro h;exact⟨h1,h2,.inr (by omega)⟩
 ·rintro⟨_,_,h |h⟩
  ·exact absurd h h0
  ·rw[h];rfl
theorem KQ (x y:Int)(hx:Ap x)(hy:Ap y):Fn Tryz.prog 53 [I x,I y] (vA ⟨x,y⟩):=by
 have e:∀n:Int,P' n 1=(n:Rat):=fun n=>by
  rw[show(1:Int)=((1:Nat):Int)from rfl,Rat.divInt_ofNat];have:=Rat.mkRat_self (n:Rat);rwa[Rat.num_intCast,Rat.den_intCast]at this
 obtain⟨R,hR⟩:∃R,R=vA ⟨x,y⟩:=⟨_,rfl⟩
 have sR:A_ R:=hR▸Xv _;have c1:=XL x 1 hx ⟨by omega,by omega⟩;have c2:=XL y 1 hy ⟨by omega,by omega⟩;rw[e]at c1 c2;rw[←hR];refine Fq Tryz.call53 Tryz.func53 5 [] [] [] (by simp[wS]) (Xk ?_);simp(maxSteps:=999999)only[O_,↓X6,wF,seval];refine X2 c1 rfl ?_;simp only[↓X6,wF,seval];refine X2 c2 rfl ?_;simp only[↓X6,wF,seval];exact ZK rfl Jn rfl rfl rfl sR (hR.trans rfl)
theorem QS (a b:V2)(ha:vb a≤rm:=by unfold rm;omega)(hb:vb b≤rm:=by unfold rm;omega):Fn Tryz.prog 97 [vA a,vA b] (vA (a.sub b)):=by
 obtain⟨R,hR⟩:∃R,R=vA (a.sub b):=⟨_,rfl⟩
 have sR:A_ R:=hR▸Xv _;have:=Ja a;have:=Ja b;have:=J7 a;have:=J7 b;have c1:=Bm a.x b.x (by omega) (by omega);have c2:=Bm a.y b.y (by omega) (by omega);rw[←hR];refine Fq Tryz.call97 Tryz.func97 5 [] [] [] (by simp[wS]) (Xk ?_);simp(maxSteps:=999999)only[O_,↓X6,wF,seval];refine X2 c1 rfl ?_;simp only[↓X6,wF,seval];refine X2 c2 rfl ?_;simp only[↓X6,wF,seval];exact ZK rfl Jn rfl rfl rfl sR (hR.trans rfl)
theorem K4 (a b:V2)(ha:vb a≤vm:=by unfold vm;omega)(hb:vb b≤vm:=by unfold vm;omega):Fn Tryz.prog 96 [vA a,vA b] (qA (Xq a b)):=by
 unfold vm at ha hb;obtain⟨R,hR⟩:∃R,R=qA (Xq a b):=⟨_,rfl⟩
 have sR:A_ R:=hR▸Xb _;have:=Ja a;have:=Ja b;have:=J7 a;have:=J7 b;have m1:=Qa a.x b.y;have m2:=Qa a.y b.x;have c1:=Qm a.x b.y;have c2:=Qm a.y b.x;have c4:=Bm (a.x*b.y) (a.y*b.x);rw[show a.x*b.y-a.y*b.x=Xq a b from rfl,←hR]at c4;rw[←hR];refine Fq Tryz.call96 Tryz.func96 5 [] [] [] (by simp[wS]) (Xk ?_);simp(maxSteps:=999999)only[O_,↓X6,wF,seval];refine X2 c1 rfl ?_;simp only[↓X6,wF,seval];refine X2 c2 rfl ?_;simp only[↓X6,wF,seval];refine X2 c4 rfl ?_;simp only[hR,↓X6,wF,seval];exact ZK rfl XT rfl rfl rfl sR (hR.trans rfl)
theorem KG (a b:V2)(ha:vb a≤vm:=by unfold vm;omega)(hb:vb b≤vm:=by unfold vm;omega):Fn Tryz.prog 117 [vA a,vA b] (qA (Qn a b)):=by
 unfold vm at ha hb;obtain⟨R,hR⟩:∃R,R=qA (Qn a b):=⟨_,rfl⟩
 have sR:A_ R:=hR▸Xb _;have:=Ja a;have:=Ja b;have:=J7 a;have:=J7 b;have m1:=Qa a.x b.x;have m2:=Qa a.y b.y;have c1:=Qm a.x b.x;have c2:=Qm a.y b.y;have c4:=QT (a.x*b.x) (a.y*b.y);rw[show a.x*b.x+a.y*b.y=Qn a b from rfl,←hR]at c4;rw[←hR];refine Fq Tryz.call117 Tryz.func117 5 [] [] [] (by simp[wS]) (Xk ?_);simp(maxSteps:=999999)only[O_,↓X6,wF,seval];refine X2 c1 rfl ?_;simp only[↓X6,wF,seval];refine X2 c2 rfl ?_;simp only[↓X6,wF,seval];refine X2 c4 rfl ?_;simp only[hR,↓X6,wF,seval];exact ZK rfl XT rfl rfl rfl sR (hR.trans rfl)
theorem TQ (a b c:V2)(ha:vb a≤vs)(hb:vb b≤vs)(hc:vb c≤vs):Fn Tryz.prog 152 [vA a,vA b,vA c] (I (Ky a b c)):=by
 unfold vs at ha hb hc;have m1:=J4 b a;have m2:=J4 c a;have c1:=QS b a;have c2:=QS c a;have c3:=K4 (b.sub a) (c.sub a);have q:=K1 (b.sub a) (c.sub a);have c4:=Q8 (Xq (b.sub a) (c.sub a));refine Fq Tryz.call152 Tryz.func152 7 [] [] [] (by simp[wS]) (Xk ?_);simp(maxSteps:=999999)only[O_,↓X6,wF,seval];refine X2 c1 rfl ?_;simp only[↓X6,wF,seval];refine X2 c2 rfl ?_;simp only[↓X6,wF,seval];refine X2 c3 rfl ?_;simp only[↓X6,wF,seval];refine X2 c4 rfl ?_;simp only[↓X6,wF,seval];exact Xn rfl rfl (X8 _) rfl
end
end Go.Ab.N
