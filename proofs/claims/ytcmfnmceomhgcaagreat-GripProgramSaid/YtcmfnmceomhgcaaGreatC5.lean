/- Contracts of functions, for every argument that fits. -/
import Derived.Test.YtcmfnmceomhgcaaGreatC4
import Derived.Test.YtcmfnmceomhgcaaGreatAb4
set_option linter.unusedSimpArgs false
set_option linter.unusedVariables false
open Nat renaming reducePow → Y1, reduceLT → Y2, reduceLeDiff → Y3, reduceEqDiff → Y4, reduceAdd → Y5, reduceMul → Y6, reduceSub → Y7, reduceBEq → Y8, reduceDiv → Y9, reduceMod → YA
namespace Go.Ab.N
open Go Go.RowKit Go.Proofs
noncomputable section
set_option maxRecDepth 10000
set_option maxHeartbeats 2000000
open Classical
theorem Me (x y:Int)(hx:bl x<1000000000)(hy:bl y<1000000000)(hy0:y≠0):Fn Tryz.prog 158 [zA x,zA y] (.tup [zA (x/y),zA (x%y)]):=by
 obtain⟨L,dL,vL,lL,cd⟩:=U3 x.natAbs y.natAbs hx hy (by omega);obtain⟨q,hq⟩:∃q,q=x.natAbs/y.natAbs:=⟨_,rfl⟩
 obtain⟨r,hr⟩:∃r,r=x.natAbs%y.natAbs:=⟨_,rfl⟩
 have hry:r<y.natAbs:=by rw[hr];exact Nat.mod_lt _ (by omega)
 have hqx:q≤x.natAbs:=by rw[hq];exact Nat.div_le_self _ _
 rw[←hq]at vL;rw[←hr]at cd;have lr:(X9 r).length<1000000000:=by
  have:=QY (y:=(r:Int)) (z:=y) (by omega);rw[K2]at this;omega
 have ly:(X9 y.natAbs).length<1000000000:=hy;have lry:(X9 r).length≤(X9 y.natAbs).length:=by
  have:=QY (y:=(r:Int)) (z:=y) (by omega);rw[K2]at this;exact this
 have y1:((X9 y.natAbs).length=0)=False:=eq_false (fun h=>by have:=digs_len_zero.1 h;omega);have y2:(((X9 y.natAbs).length:Int)=0)=False:=eq_false (fun h=>by have:=digs_len_zero.1 (show(X9 y.natAbs).length=0 by omega);omega);obtain⟨q1,r1,h1⟩:∃q1 r1,if x<0∧r≠0 then q1=q+1∧r1=y.natAbs-r else q1=q∧r1=r:=by
  by_cases h:x<0∧r≠0
  ·exact⟨q+1,y.natAbs-r,by rw[if_pos h];exact⟨rfl,rfl⟩⟩
  ·exact⟨q,r,by rw[if_neg h];exact⟨rfl,rfl⟩⟩
 obtain⟨e1,e2⟩:=Lv x y hy0 q r hq hr q1 r1 h1;obtain⟨s,hsg⟩:∃s,s=(decide (x<0) != decide (y<0)):=⟨_,rfl⟩
 have hsg':(!(decide (x<0) == decide (y<0)))=s:=by rw[hsg];cases decide (x<0) <;> cases decide (y<0) <;> rfl
 have c1:=JS s L dL (by omega);rw[vL]at c1;have c2:=JS false (X9 r) (XN r) (by omega);rw[Xx,show KC false (r:Int)=(r:Int)from rfl,QT]at c2;obtain⟨Q,hQ⟩:∃Q,Q=zA (x/y):=⟨_,rfl⟩
 obtain⟨R,hR⟩:∃R,R=zA (x%y):=⟨_,rfl⟩
 have sQ:Settled Q:=hQ▸XM _;have sR:Settled R:=hR▸XM _;rw[←hQ,←hR];rw[e1,←hsg]at hQ;rw[e2,QT]at hR;have g1:∀n:Nat,(0<(X9 n).length)=(n≠0):=fun n=>propext (by have:=@digs_len_zero n;omega)
 have fin:∀ {s':AS},Zq Tryz.prog s' (.cell 4 26)=some (zA (KC s q1))→Zq Tryz.prog s' (.cell 5 26)=some (.agg [.bool false,X8 (X9 r1)]) →
   RetOk (Ju Tryz.prog Tryz.f158 [9,10000,100000009] [] (.tup [Q,R])) s':=fun h1 h2=>Dv rfl h1 h2 (Q1 sQ hQ.symm) (Q1 sR hR.symm)
 by_cases hc:x<0∧r≠0
 ·obtain⟨hx0,hr0⟩:=hc
  rw[if_pos ⟨hx0,hr0⟩]at h1;obtain⟨rfl,rfl⟩:=h1;have c3:=JS s [1] (KW.2 ⟨⟨by omega,by omega⟩,Cg⟩) (by simp);rw[show val [(1:Int)]=1 by simp[val]]at c3;have bq:bl (KC s (q:Int))<room:=by
   have h2:=QY (y:=KC s (q:Int)) (z:=x) (by unfold KC;split <;> omega);unfold room;omega
  have c4:=S9 (KC s (q:Int)) (KC s 1) bq (by
   have:=Zt (n:=KC s 1) (by unfold KC;split <;> exact⟨by omega,by omega⟩);unfold room;omega)
  rw[show KC s (q:Int)+KC s 1=KC s ((q+1:Nat):Int)by unfold KC;split <;> omega]at c4;have cm:=EW (X9 y.natAbs) (X9 r) (XN _) (XN _) (by omega) lry (by rw[Xx,Xx];omega);have vm:=BW (XN y.natAbs) (XN r) lry (by rw[Xx,Xx];omega);rw[Xx,Xx]at vm;have c5:=JS false (Zy (X9 y.natAbs) (X9 r)) (BV (XN _) (XN _)) (by unfold Zy;rw[Qd];omega);rw[vm,show KC false ((y.natAbs:Int)-r)=((y.natAbs-r:Nat):Int)by unfold KC;simp;omega,QT]at c5;have f1:(x<0)=True:=eq_true hx0;have f2:(0<(X9 r).length)=True:=eq_true (by rw[g1];exact hr0);have f3:(0<((X9 r).length:Int))=True:=eq_true (by have:=of_eq_true f2;omega);have hsT:(!(true == decide (y<0)))=s:=by rw[←hsg',decide_eq_true hx0]
  refine Fq Tryz.call158 Tryz.func158 10 [] [9,10000,100000009] [] (by simp[Kc,Xa,Xh]) (Xk ?_);simp(maxSteps:=999999)only[AS.start,↓X4,wA,seval,zA,qA,qC,wN];simp only[y1,y2,f1,↓X4,wA,seval,zA,qA,qC,wN];refine X1 cd rfl ?_;simp only[f1,decide_true,hsT,↓X4,wA,seval,zA,qA,qC,wN];refine X1 c1 rfl ?_;simp only[f1,f2,f3,decide_true,↓X4,wA,seval,zA,qA,qC,wN];refine X1 c2 rfl ?_;simp only[f1,f2,f3,hsT,decide_true,↓X4,wA,seval,zA,qA,qC,wN];refine X0 c3 ⟨Weak.rfl' _,BK rfl rfl,trivial⟩ ?_;simp only[↓X4,wA,seval,zA,qA,qC,wN];refine X1 c4 rfl ?_;simp only[↓X4,wA,seval,zA,qA,qC,wN];refine X1 cm rfl ?_;simp only[↓X4,wA,seval,zA,qA,qC,wN];refine X1 c5 rfl ?_;simp only[↓X4,wA,seval,zA,qA,qC,wN];exact fin (Xs XX rfl rfl rfl) (Xs XX rfl rfl rfl)
 rw[if_neg hc]at h1;obtain⟨rfl,rfl⟩:=h1;have zr:x<0→(0<(X9 r1).length)=False:=fun h=>eq_false (by rw[g1];exact fun h2=>hc ⟨h,h2⟩)
 by_cases hx0:x<0
 ·have f1:(x<0)=True:=eq_true hx0
  have f2:=zr hx0;have f3:(0<((X9 r1).length:Int))=False:=eq_false (by have:=of_eq_false f2;omega);have hsT:(!(true == decide (y<0)))=s:=by rw[←hsg',decide_eq_true hx0]
  refine Fq Tryz.call158 Tryz.func158 10 [] [9,10000,100000009] [] (by simp[Kc,Xa,Xh]) (Xk ?_);simp(maxSteps:=999999)only[AS.start,↓X4,wA,seval,zA,qA,qC,wN];simp only[y1,y2,f1,↓X4,wA,seval,zA,qA,qC,wN];refine X1 cd rfl ?_;simp only[f1,f2,f3,decide_true,hsT,↓X4,wA,seval,zA,qA,qC,wN];refine X1 c1 rfl ?_;simp only[f1,f2,f3,decide_true,↓X4,wA,seval,zA,qA,qC,wN];refine X1 c2 rfl ?_;simp only[f1,f2,f3,decide_true,↓X4,wA,seval,zA,qA,qC,wN];exact fin (Xs XX rfl rfl rfl) (Xs XX rfl rfl rfl)
 ·have f1:(x<0)=False:=eq_false hx0
  have hsT:(!(false == decide (y<0)))=s:=by rw[←hsg',decide_eq_false hx0]
  refine Fq Tryz.call158 Tryz.func158 10 [] [9,10000,100000009] [] (by simp[Kc,Xa,Xh]) (Xk ?_);simp(maxSteps:=999999)only[AS.start,↓X4,wA,seval,zA,qA,qC,wN];simp only[y1,y2,f1,↓X4,wA,seval,zA,qA,qC,wN];refine X1 cd rfl ?_;simp only[f1,decide_false,hsT,↓X4,wA,seval,zA,qA,qC,wN];refine X1 c1 rfl ?_;simp only[f1,decide_false,↓X4,wA,seval,zA,qA,qC,wN];refine X1 c2 rfl ?_;simp only[f1,decide_false,↓X4,wA,seval,zA,qA,qC,wN];exact fin (Xs XX rfl rfl rfl) (Xs XX rfl rfl rfl)
def Kz (x y:Int)(p:Nat×Nat):AS :=
  ⟨12,[],[.any,.any,.ref 0 0 0,.ref 1 0 0,.ref 2 0 0,.ref 3 0 0,.ref 4 0 0,.any,.any,.any,.any,.any],[],
    [.row 0 2 (Xf [.bool (decide (x<0)),X8 (X9 x.natAbs)]),.row 0 2 (Xf [.bool (decide (y<0)),X8 (X9 y.natAbs)]),.row 0 2 (Xf [.bool false,.sl 0 0 (fun _=>.any) true]),
     .row 0 2 (Xf [.bool false,X8 (X9 p.1)]),.row 0 2 (Xf [.bool false,X8 (X9 p.2)])]⟩
def Dx (x y:Int)(A B:Nat)(p:Nat×Nat):AS :=
  ⟨12,[],[.any,.any,.ref 0 0 0,.ref 1 0 0,.ref 2 0 0,.ref 3 0 0,.ref 4 0 0,I p.1,I p.2,.any,.any,.any],[],
    [.row 0 2 (Xf [.bool (decide (x<0)),X8 (X9 x.natAbs)]),.row 0 2 (Xf [.bool (decide (y<0)),X8 (X9 y.natAbs)]),.row 0 2 (Xf [.bool false,.sl 0 0 (fun _=>.any) true]),
     .row 0 2 (Xf [.bool false,X8 (X9 A)]),.row 0 2 (Xf [.bool false,X8 (X9 B)])]⟩
theorem Sk (x y:Int)(hx:bl x<1000000000)(hy:bl y<1000000000):Fn Tryz.prog 157 [zA x,zA y] (zA (Int.gcd x y)):=by
 have ofC:∀n:Nat,(X9 n).length<1000000002→Fn Tryz.prog 156 [.bool false,X8 (X9 n)] (.agg [.bool false,X8 (X9 n)]):=fun n h=>by
  have:=JS false (X9 n) (XN n) (by omega);rw[Xx]at this;rw[←QT];exact this
 unfold bl at hx hy;have cx:=ofC x.natAbs (by omega);have cy:=ofC y.natAbs (by omega);obtain⟨R,hR⟩:∃R,R=zA (Int.gcd x y):=⟨_,rfl⟩
 have sR:Settled R:=hR▸XM _;rw[←hR];rw[QT]at hR;refine Fq Tryz.call157 Tryz.func157 12 [] [] [] (by simp[Kc,Xa,Xh]) (Xk ?_);simp(maxSteps:=999999)only[AS.start,↓X4,wA,seval,zA,qA,qC,wN];refine X1 cx rfl ?_;simp only[↓X4,wA,seval,zA,qA,qC,wN];refine X1 cy rfl ?_;simp only[↓X4,wA,seval,zA,qA,qC,wN];refine Xj (Kz x y) (nN x y) (fun p=>p.2) (x.natAbs,y.natAbs) ⟨rfl,hx,hy⟩ ?_ ?_
 ·exact Xi rfl (by simp[Kz,Xm]) (by simp[Kz,Xw]) rfl
 rintro⟨A,B⟩ ⟨g1,g2,g3⟩ next
 simp only at g1 g2 g3;by_cases hB:B=0
 ·have f1:(0<(X9 B).length)=False:=eq_false (by have:=@digs_len_zero B;omega)
  have f2:(0<((X9 B).length:Int))=False:=eq_false (by have:=@digs_len_zero B;omega);refine Xk ?_;simp only[Kz,f1,f2,↓X4,wA,seval,zA,qA,qC,wN];refine Q7 rfl XX rfl rfl rfl hR sR ?_;rw[hB,Nat.gcd_zero_right]at g1;rw[←g1];exact⟨Weak.rfl' _,Weak.rfl' _,trivial⟩
 have f1:(0<(X9 B).length)=True:=eq_true (by have:=@digs_len_zero B;omega);have f2:(0<((X9 B).length:Int))=True:=eq_true (by have:=@digs_len_zero B;omega);by_cases hAB:(X9 A).length≤2∧(X9 B).length≤2
 ·have c1:=IL _ (XN A) hAB.1
  have c2:=IL _ (XN B) hAB.2;rw[Xx]at c1 c2;have k1:(((X9 A).length:Int)≤2)=True:=eq_true (by omega);have k2:(((X9 B).length:Int)≤2)=True:=eq_true (by omega);have l1:=A7 hAB.1;have l2:=A7 hAB.2;refine Xk ?_;simp only[Kz,f1,f2,k1,k2,↓X4,wA,seval,zA,qA,qC,wN];refine X1 c1 rfl ?_;simp only[↓X4,wA,seval,zA,qA,qC,wN];refine X1 c2 rfl ?_;simp only[↓X4,wA,seval,zA,qA,qC,wN];refine Xj (Dx x y A B) (fun p=>Nat.gcd p.1 p.2=Int.gcd x y∧(p.1:Int)<1000000000000000000∧(p.2:Int)<1000000000000000000) (fun p=>p.2) (A,B) ⟨g1,l1,l2⟩ (Xi rfl (by simp[Dx,Xm,I]) (by simp[Dx,Xw]) rfl) ?_;rintro⟨m,n⟩ ⟨h1,h2,h3⟩ next2;simp only at h1 h2 h3;by_cases hn:n=0
  ·have j1:(0<(n:Int))=False:=eq_false (by omega)
   have j1':(0<n)=False:=eq_false (by omega);have hm:m=Int.gcd x y:=by rw[hn,Nat.gcd_zero_right]at h1;exact h1
   have cu:=DA (m:Int) ⟨by omega,by omega⟩;rw[QT]at cu;refine Xk ?_;simp only[Dx,j1,j1',↓X4,wA,seval,zA,qA,qC,wN];refine X1 cu rfl ?_;simp only[↓X4,wA,seval,zA,qA,qC,wN];refine Q7 rfl XX rfl rfl rfl hR sR ?_;rw[←hm];exact⟨Weak.rfl' _,Weak.rfl' _,trivial⟩
  ·have j1:(0<(n:Int))=True:=eq_true (by omega)
   have j1':(0<n)=True:=eq_true (by omega);have j2:((n:Int)=0)=False:=eq_false (by omega);have e2:(m:Int).tmod n=((m%n:Nat):Int):=rfl;have hlt:m%n<n:=Nat.mod_lt _ (by omega);refine Xk ?_;simp only[Dx,j1,j1',j2,e2,↓X4,wA,seval,zA,qA,qC,wN];refine next2 (n,m%n) _ ⟨?_,h3,by simp only;omega⟩ hlt (Xi rfl (by simp[Dx,Xm,I]) (by simp[Dx,Xw]) rfl);simp only;rw[←h1,Nat.gcd_comm m n,Nat.gcd_rec n m,Nat.gcd_comm]
 ·have cd:=Me (A:Int) (B:Int) (by rw[K2];exact g2) (by rw[K2];exact g3) (by omega)
  rw[show(A:Int)/B=((A/B:Nat):Int)from rfl,show(A:Int)%B=((A%B:Nat):Int)from rfl,QT,QT,QT,QT]at cd;have hlt:A%B<B:=Nat.mod_lt _ (by omega);have gnew:nN x y (B,A%B):=by
   refine⟨?_,g3,?_⟩
   ·simp only
    rw[←g1,Nat.gcd_comm A B,Nat.gcd_rec B A,Nat.gcd_comm]
   ·have:=QY (y:=((A%B:Nat):Int)) (z:=(B:Int)) (by omega)
    rw[K2,K2]at this;simp only;omega
  by_cases hA2:(X9 A).length≤2
  ·have k1:(((X9 A).length:Int)≤2)=True:=eq_true (by omega)
   have k2:(((X9 B).length:Int)≤2)=False:=eq_false fun h=>hAB ⟨hA2,by omega⟩
   refine Xk ?_;simp only[Kz,f1,f2,k1,k2,↓X4,wA,seval,zA,qA,qC,wN];refine X1 cd rfl ?_;simp only[↓X4,wA,seval,zA,qA,qC,wN];exact next (B,A%B) _ gnew hlt (XT (m:=5) (Nat.zero_le _) rfl (by simp[zA,qA,qC,wN,Kz,Xm,X8,Qs,I]) (by simp[zA,qA,qC,wN,Kz,Xw]) (by simp[zA,qA,qC,wN,Kz,X8,Qs,I]) (by simp[zA,qA,qC,wN,Kz,XW]) (by simp[zA,qA,qC,wN,Kz,XW]) (by simp[zA,qA,qC,wN,Kz,XW]))
  ·have k1:(((X9 A).length:Int)≤2)=False:=eq_false (by omega)
   refine Xk ?_;simp only[Kz,f1,f2,k1,↓X4,wA,seval,zA,qA,qC,wN];refine X1 cd rfl ?_;simp only[↓X4,wA,seval,zA,qA,qC,wN];exact next (B,A%B) _ gnew hlt (XT (m:=5) (Nat.zero_le _) rfl (by simp[zA,qA,qC,wN,Kz,Xm,X8,Qs,I]) (by simp[zA,qA,qC,wN,Kz,Xw]) (by simp[zA,qA,qC,wN,Kz,X8,Qs,I]) (by simp[zA,qA,qC,wN,Kz,XW]) (by simp[zA,qA,qC,wN,Kz,XW]) (by simp[zA,qA,qC,wN,Kz,XW]))
theorem Sx (n1 n2:Bool)(a b:List Int)(la:a.length<4611686018427387904)(lb:b.length<4611686018427387904):Fn Tryz.prog 90 [zR n1 a,zR n2 b] (.bool (decide (n1=n2) && decide (a=b))):=by
 obtain⟨V,hV⟩:∃V,V=(decide (n1=n2) && decide (a=b)):=⟨_,rfl⟩
 rw[←hV];have fin:∀ {s:AS} {v:Bool},s.get 4=.bool v→v=V→RetOk (Ju Tryz.prog Tryz.f90 [] [] (.bool V)) s:=fun h e=>Xo rfl h (X5 _) (by rw[e])
 refine Fq Tryz.call90 Tryz.func90 6 [] [] [] (by simp[Xh]) (Xk ?_);by_cases hn:n1=n2
 rotate_left
 ·have hb:(!(n1 == n2))=true:=by simp[hn]
  simp only[AS.start,zR,hb,↓X4,wA,seval,zA,qA,qC,wN];exact fin rfl (by rw[hV,decide_eq_false hn];rfl)
 subst hn;have hb:(!(n1 == n1))=false:=by simp
 by_cases hl:a.length=b.length
 rotate_left
 ·have f1:((a.length:Int)=b.length)=False:=eq_false (by omega)
  have f1':(a.length=b.length)=False:=eq_false hl;simp only[AS.start,zR,hb,f1,f1',↓X4,wA,seval,zA,qA,qC,wN];exact fin rfl (by rw[hV,decide_eq_false (show ¬a=b from fun e=>hl (by rw[e])),Bool.and_false])
 have f1:((a.length:Int)=b.length)=True:=eq_true (by omega);have f1':(a.length=b.length)=True:=eq_true hl;simp only[AS.start,zR,hb,f1,f1',↓X4,wA,seval,zA,qA,qC,wN];refine Xj (fun j:Nat=>⟨6,[],[.any,.any,.ref 0 0 0,.ref 1 0 0,.any,I j],[],[.row 0 2 (Xf [.bool n1,X8 a]),.row 0 2 (Xf [.bool n1,X8 b])]⟩) (fun j=>j≤a.length∧∀i,i<j→a.getD i 0=b.getD i 0) (fun j=>a.length-j) 0 ⟨by omega,by omega⟩
  (BA (by simp[Xm,X8,Qs,I]) rfl) ?_
 rintro j ⟨hj,hno⟩ next
 have w1:=wj j (by omega);by_cases hj2:j<a.length
 ·have f2:((j:Int)<a.length)=True:=eq_true (by omega)
  have f3:(j<a.length)=True:=eq_true hj2;have f4:(j<b.length)=True:=eq_true (by omega);refine Xk ?_;simp only[w1,f2,f3,f4,↓X4,wA,seval,zA,qA,qC,wN];refine⟨fun h=>fin rfl ?_,fun h=>next (j+1) _ ⟨by omega,fun i hi=>?_⟩ (by omega) (BA (by simp[Xm,X8,Qs,I]) rfl)⟩
  ·rw[hV,decide_eq_false (show ¬a=b from fun e=>h (by rw[e])),Bool.and_false]
  ·by_cases e:i=j
   ·rw[e];exact h
   ·exact hno i (by omega)
 ·have f2:((j:Int)<a.length)=False:=eq_false (by omega)
  have f3:(j<a.length)=False:=eq_false hj2;refine Xk ?_;simp only[w1,f2,f3,↓X4,wA,seval,zA,qA,qC,wN];refine fin rfl ?_;have:a=b:=List.ext_getElem hl fun i h1 h2=>by
   have:=hno i (by omega);rw[List.getD_eq_getElem?_getD,List.getElem?_eq_getElem h1,List.getD_eq_getElem?_getD,List.getElem?_eq_getElem h2]at this;exact this
  rw[hV,decide_eq_true this];simp
theorem O7 (x y:RQ)(hx:x.sz<4611686018427387904)(hy:y.sz<4611686018427387904):Fn Tryz.prog 26 [x.A,y.A] (.bool (decide (x=y))):=by
 have c1:=Sx x.pn y.pn x.pd y.pd (by unfold RQ.sz at hx;omega) (by unfold RQ.sz at hy;omega);have c2:=Sx x.qn y.qn x.qd y.qd (by unfold RQ.sz at hx;omega) (by unfold RQ.sz at hy;omega);obtain⟨V,hV⟩:∃V,V=decide (x=y):=⟨_,rfl⟩
 rw[←hV];have e:=RQ.eq_iff x y;obtain⟨B1,hB1⟩:∃B,B=(decide (x.pn=y.pn) && decide (x.pd=y.pd)):=⟨_,rfl⟩
 obtain⟨B2,hB2⟩:∃B,B=(decide (x.qn=y.qn) && decide (x.qd=y.qd)):=⟨_,rfl⟩
 rw[←hB1]at c1;rw[←hB2]at c2;have hVB:V=(B1 && B2):=by
  rw[hV,hB1,hB2];simp only[e,Bool.decide_and]
 refine Fq Tryz.call26 Tryz.func26 5 [] [] [] (by simp[C6]) (Xk ?_);simp only[AS.start,RQ.A,RQ.L,↓X4,wA,seval,zA,qA,qC,wN];refine X1 c1 rfl ?_;cases B1
 ·simp only[↓X4,wA,seval,zA,qA,qC,wN]
  exact Xo (v:=.bool false) rfl rfl (X5 _) (by rw[hVB];rfl)
 ·simp only[↓X4,wA,seval,zA,qA,qC,wN]
  refine X1 c2 rfl ?_;simp only[↓X4,wA,seval,zA,qA,qC,wN];exact Xo (v:=.bool B2) rfl rfl (X5 _) (by rw[hVB];rfl)
theorem FN (a b:Rat)(ha:qb a≤rm)(hb:qb b≤rm):Fn Tryz.prog 26 [qA a,qA b] (.bool (decide (a=b))):=by
 unfold rm at ha hb;have h1:=RQ.of_sz a;have h2:=RQ.of_sz b;have:=O7 (RQ.of a) (RQ.of b) (by omega) (by omega);rw[show decide (RQ.of a=RQ.of b)=decide (a=b)from decide_eq_decide.2 ⟨RQ.of_inj,fun h=>by rw[h]⟩]at this;exact this
theorem RL (neg:Bool)(d:List Int):Fn Tryz.prog 160 [zR neg d] (.bool (!neg && decide (d=[1]))):=by
 have hone:(d=[1])↔d.length=1∧d.getD 0 0=1:=by
  constructor
  ·rintro rfl;exact⟨rfl,rfl⟩
  ·rintro⟨h1,h2⟩
   obtain⟨x,rfl⟩:=List.length_eq_one_iff.1 h1;rw[show x=1 from h2]
 obtain⟨V,hV⟩:∃V,V=(!neg && decide (d=[1])):=⟨_,rfl⟩
 rw[←hV];have fin:∀ {s:AS} {v:Bool},s.get 2=.bool v→v=V→RetOk (Ju Tryz.prog Tryz.f160 [] [] (.bool V)) s:=fun h e=>Xo rfl h (X5 _) (by rw[e])
 by_cases h0:d.length=1
 ·have f1:(d.length=1)=True:=eq_true h0
  have f2:((d.length:Int)=1)=True:=eq_true (by omega);have f3:(0<d.length)=True:=eq_true (by omega);have f4:(0<(d.length:Int))=True:=eq_true (by omega);refine Fq Tryz.call160 Tryz.func160 3 [] [] [] (by simp[Xh]) (Xk ?_);cases neg
  all_goals
   simp only[AS.start,zR,f1,f2,f3,f4,↓X4,wA,seval,zA,qA,qC,wN];exact fin rfl (by rw[hV];simp[hone,h0])
 ·have f1:(d.length=1)=False:=eq_false h0
  have f2:((d.length:Int)=1)=False:=eq_false (by omega);have hne:¬d=[1]:=fun h=>h0 (hone.1 h).1
  refine Fq Tryz.call160 Tryz.func160 3 [] [] [] (by simp[Xh]) (Xk ?_);cases neg
  all_goals
   simp only[AS.start,zR,f1,f2,↓X4,wA,seval,zA,qA,qC,wN];exact fin rfl (by rw[hV];simp[hne])
theorem P8 (z:Int):Fn Tryz.prog 160 [zA z] (.bool (decide (z=1))):=by
 have:=RL (decide (z<0)) (X9 z.natAbs);rw[Pn]at this;exact this
theorem EP (p q:Int)(hp:bl p<1000000000)(hq:bl q<1000000000):Fn Tryz.prog 80 [zA p,zA q] (qA (Rat.divInt p q)):=by
 obtain⟨R,hR⟩:∃R,R=qA (Rat.divInt p q):=⟨_,rfl⟩
 have sR:Settled R:=hR▸Xa _;have zp:(((X9 p.natAbs).length:Int)=0)=(p=0):=propext (by have:=@digs_len_zero p.natAbs;omega);have zq:(((X9 q.natAbs).length:Int)=0)=(q=0):=propext (by have:=@digs_len_zero q.natAbs;omega);have z0:p=0∨q=0→R=.agg [.bool false,X8 [],.bool false,X8 []]:=by
  intro h;rw[hR,←Pb];rcases h with rfl |rfl
  ·rw[Rat.zero_divInt]
  ·rw[Rat.divInt_zero]
 rw[←hR];by_cases hq0:q=0
 ·have f1:(q=0)=True:=eq_true hq0
  refine Fq Tryz.call80 Tryz.func80 10 [] [] [] (by simp[Kc,Xa,Xh]) (Xk ?_);simp(maxSteps:=999999)only[AS.start,↓X4,wA,seval,zA,qA,qC,wN];simp only[zq,f1,↓X4,wA,seval,zA,qA,qC,wN];exact Q7 rfl XR rfl rfl rfl (z0 (.inr hq0)) sR ⟨Weak.rfl' _,Qu _ _,Weak.rfl' _,Qu _ _,trivial⟩
 have f1:(q=0)=False:=eq_false hq0;by_cases hp0:p=0
 ·have f3:(p=0)=True:=eq_true hp0
  refine Fq Tryz.call80 Tryz.func80 10 [] [] [] (by simp[Kc,Xa,Xh]) (Xk ?_);simp(maxSteps:=999999)only[AS.start,↓X4,wA,seval,zA,qA,qC,wN];simp only[zp,zq,f1,f3,↓X4,wA,seval,zA,qA,qC,wN];exact Q7 rfl XR rfl rfl rfl (z0 (.inl hp0)) sR ⟨Weak.rfl' _,Qu _ _,Weak.rfl' _,Qu _ _,trivial⟩
 have f3:(p=0)=False:=eq_false hp0;have cg:=Sk p q hp hq;obtain⟨g,hg⟩:∃g:Int,g=Int.gcd p q:=⟨_,rfl⟩
 have hg0:0<Int.gcd p q:=Int.gcd_pos_of_ne_zero_right _ hq0;have hgq:bl g≤bl q:=QY (by
  have:=Nat.le_of_dvd (by omega) (Int.gcd_dvd_natAbs_right p q);omega)
 rw[←hg]at cg;obtain⟨d1,d2,d3⟩:=DP p q hq0 g hg;have c1:=Me p g hp (by omega) (by omega);have c2:=Me q g hq (by omega) (by omega);obtain⟨u,hu⟩:∃u,u=p/g:=⟨_,rfl⟩
 obtain⟨v,hv⟩:∃v,v=q/g:=⟨_,rfl⟩
 have hub:bl u≤bl p:=QY (by rw[hu];exact Int.natAbs_ediv_le_natAbs p g);have hvb:bl v≤bl q:=QY (by rw[hv];exact Int.natAbs_ediv_le_natAbs q g);rw[←hu]at c1 d1 d2;rw[←hv]at c2 d1 d2 d3;obtain⟨e1,e2⟩:=Lt u v d3 d2;have key:∀p' q':Int,p'=v.sign*u→q'=v.natAbs→(q'=1→R=.agg [.bool (decide (p'<0)),X8 (X9 p'.natAbs),.bool false,X8 []])∧(¬q'=1→R=.agg [.bool (decide (p'<0)),X8 (X9 p'.natAbs),.bool false,X8 (X9 q'.natAbs)]):=by
  intro p' q' hp' hq';constructor
  ·intro h
   rw[hR,←d1,M9 (by omega),e1,hp']
  ·intro h
   rw[hR,←d1,Wj (by omega),e1,hp',e2,hq',Int.natAbs_natCast]
 by_cases hneg:v<0
 ·have g1:(v<0)=True:=eq_true hneg
  obtain⟨k1,k2⟩:=key (-u) (-v) (by rw[Int.sign_eq_neg_one_of_neg hneg];omega) (by omega);have co:=P8 (-v);have cn1:=Mo u (by unfold room;omega);have cn2:=Mo v (by unfold room;omega);rw[qG hneg]at cn2 c2;have f5:decide (-v<0)=false:=decide_eq_false (by omega);by_cases h1:-v=1
  ·simp only[h1,decide_true]at co
   have hk:=k1 h1;rw[h1]at cn2;refine Fq Tryz.call80 Tryz.func80 10 [] [] [] (by simp[Kc,Xa,Xh]) (Xk ?_);simp(maxSteps:=999999)only[AS.start,↓X4,wA,seval,zA,qA,qC,wN];simp only[zp,zq,f1,f3,↓X4,wA,seval,zA,qA,qC,wN];refine X1 cg rfl ?_;simp only[↓X4,wA,seval,zA,qA,qC,wN];refine X1 c1 rfl ?_;simp only[↓X4,wA,seval,zA,qA,qC,wN];refine X1 c2 rfl ?_;simp only[↓X4,wA,seval,zA,qA,qC,wN];refine X1 cn1 rfl ?_;simp only[↓X4,wA,seval,zA,qA,qC,wN];refine X1 cn2 rfl ?_;simp only[↓X4,wA,seval,zA,qA,qC,wN];refine X1 co rfl ?_;simp only[↓X4,wA,seval,zA,qA,qC,wN];exact Q7 rfl XR rfl rfl rfl hk sR ⟨Weak.rfl' _,Weak.rfl' _,Weak.rfl' _,Qu _ _,trivial⟩
  ·simp only[h1,decide_false]at co
   have hk:=k2 h1;refine Fq Tryz.call80 Tryz.func80 10 [] [] [] (by simp[Kc,Xa,Xh]) (Xk ?_);simp(maxSteps:=999999)only[AS.start,↓X4,wA,seval,zA,qA,qC,wN];simp only[zp,zq,f1,f3,↓X4,wA,seval,zA,qA,qC,wN];refine X1 cg rfl ?_;simp only[↓X4,wA,seval,zA,qA,qC,wN];refine X1 c1 rfl ?_;simp only[↓X4,wA,seval,zA,qA,qC,wN];refine X1 c2 rfl ?_;simp only[↓X4,wA,seval,zA,qA,qC,wN];refine X1 cn1 rfl ?_;simp only[↓X4,wA,seval,zA,qA,qC,wN];refine X1 cn2 rfl ?_;simp only[↓X4,wA,seval,zA,qA,qC,wN];refine X1 co rfl ?_;simp only[↓X4,wA,seval,zA,qA,qC,wN];exact J2 rfl XR rfl rfl rfl sR (by rw[hk,f5];rfl)
 ·have g1:(v<0)=False:=eq_false hneg
  obtain⟨k1,k2⟩:=key u v (by rw[Int.sign_eq_one_of_pos (by omega)];omega) (by omega);have co:=P8 v;rw[WK hneg]at co c2;by_cases h1:v=1
  ·simp only[h1,decide_true]at co
   have hk:=k1 h1;rw[h1]at c2;refine Fq Tryz.call80 Tryz.func80 10 [] [] [] (by simp[Kc,Xa,Xh]) (Xk ?_);simp(maxSteps:=999999)only[AS.start,↓X4,wA,seval,zA,qA,qC,wN];simp only[zp,zq,f1,f3,↓X4,wA,seval,zA,qA,qC,wN];refine X1 cg rfl ?_;simp only[↓X4,wA,seval,zA,qA,qC,wN];refine X1 c1 rfl ?_;simp only[↓X4,wA,seval,zA,qA,qC,wN];refine X1 c2 rfl ?_;simp only[↓X4,wA,seval,zA,qA,qC,wN];refine X1 co rfl ?_;simp only[↓X4,wA,seval,zA,qA,qC,wN];exact Q7 rfl XR rfl rfl rfl hk sR ⟨Weak.rfl' _,Weak.rfl' _,Weak.rfl' _,Qu _ _,trivial⟩
  ·simp only[h1,decide_false]at co
   have hk:=k2 h1;refine Fq Tryz.call80 Tryz.func80 10 [] [] [] (by simp[Kc,Xa,Xh]) (Xk ?_);simp(maxSteps:=999999)only[AS.start,↓X4,wA,seval,zA,qA,qC,wN];simp only[zp,zq,f1,f3,↓X4,wA,seval,zA,qA,qC,wN];refine X1 cg rfl ?_;simp only[↓X4,wA,seval,zA,qA,qC,wN];refine X1 c1 rfl ?_;simp only[↓X4,wA,seval,zA,qA,qC,wN];refine X1 c2 rfl ?_;simp only[↓X4,wA,seval,zA,qA,qC,wN];refine X1 co rfl ?_;simp only[↓X4,wA,seval,zA,qA,qC,wN];exact J2 rfl XR rfl rfl rfl sR (by rw[hk];rfl)
theorem XP (p q:Int)(hp:BS p)(hq:BS q):Fn Tryz.prog 20 [I p,I q] (qA (Rat.divInt p q)):=by
 obtain⟨R,hR⟩:∃R,R=qA (Rat.divInt p q):=⟨_,rfl⟩
 have sR:Settled R:=hR▸Xa _;have cm:=EP p q (by have:=Zt hp;omega) (by have:=Zt hq;omega);rw[←hR]at cm ⊢;refine Fq Tryz.call20 Tryz.func20 5 [] [] [] (by simp[Kc,Xa,Xh]) (Xk ?_);simp(maxSteps:=999999)only[AS.start,↓X4,wA,seval,zA,qA,qC,wN];refine X1 (DA p hp) rfl ?_;simp only[↓X4,wA,seval,zA,qA,qC,wN];refine X1 (DA q hq) rfl ?_;simp only[↓X4,wA,seval,zA,qA,qC,wN];refine X1 cm rfl ?_;simp only[hR,↓X4,wA,seval,zA,qA,qC,wN];exact J2 rfl XR rfl rfl rfl sR (hR.trans rfl)
structure V2 where
 x:Rat
 y:Rat
def vC (v:V2):List AV:=[.bool (decide (v.x.num<0)),X8 (X9 v.x.num.natAbs),.bool false,X8 (X9 (qd v.x)),.bool (decide (v.y.num<0)),X8 (X9 v.y.num.natAbs),.bool false,X8 (X9 (qd v.y))]
def vA (v:V2):AV:=.agg (vC v)
theorem Xt (v:V2):Settled (vA v):=Qr (by simp[vC,Xc,X5])
def vb (v:V2):Nat:=max (qb v.x) (qb v.y)
theorem J8 (v:V2):qb v.x≤vb v:=Nat.le_max_left _ _
theorem J4 (v:V2):qb v.y≤vb v:=Nat.le_max_right _ _
def V2.sub (a b:V2):V2:=⟨a.x-b.x,a.y-b.y⟩
def V2.add (a b:V2):V2:=⟨a.x+b.x,a.y+b.y⟩
def Xp (a b:V2):Rat:=a.x*b.y-a.y*b.x
def Q8 (a b:V2):Rat:=a.x*b.x+a.y*b.y
def JX (a b c:V2):Int:=(Xp (b.sub a) (c.sub a)).num.sign
theorem QO (a b:V2):vb (a.sub b)≤vb a+vb b+1:=by
 have:=Cy a.x b.x;have:=Cy a.y b.y;have:=J8 a;have:=J8 b;have:=J4 a;have:=J4 b;unfold V2.sub;show max (qb (a.x-b.x)) (qb (a.y-b.y))≤_;omega
theorem ZD (a b:V2):vb (a.add b)≤vb a+vb b+1:=by
 have:=ZA a.x b.x;have:=ZA a.y b.y;have:=J8 a;have:=J8 b;have:=J4 a;have:=J4 b;unfold V2.add;show max (qb (a.x+b.x)) (qb (a.y+b.y))≤_;omega
theorem JT (a b:V2):qb (Xp a b)≤2*(vb a+vb b)+1:=by
 have:=Qk a.x b.y;have:=Qk a.y b.x;have:=J8 a;have:=J8 b;have:=J4 a;have:=J4 b;have:=Cy (a.x*b.y) (a.y*b.x);unfold Xp;omega
theorem KO (a b:V2):qb (Q8 a b)≤2*(vb a+vb b)+1:=by
 have:=Qk a.x b.x;have:=Qk a.y b.y;have:=J8 a;have:=J8 b;have:=J4 a;have:=J4 b;have:=ZA (a.x*b.x) (a.y*b.y);unfold Q8;omega
theorem AY:qb 0≤1:=jt 0 1 (Nat.le_refl _) (by unfold bl;simp[Qj])
theorem BJ {H:List AO}{a b:AV}(h:Weak a b):Ke H a b:=fun c v _ _ hv=>h c v hv
theorem Zn {l:List Int}{f:Nat→AV}{t:Bool}(h:l=[]):Weak (.sl 0 0 f t) (X8 l):=by rw[h];exact Qu _ _
theorem We (a b:Rat)(ha:qb a≤30000000)(hb:qb b≤30000000):Fn Tryz.prog 214 [.sl 2 8 (Xf (qC a ++ qC b)) false] (qA (a+b)):=by
 obtain⟨R,hR⟩:∃R,R=qA (a+b):=⟨_,rfl⟩
 have sR:Settled R:=hR▸Xa _;have q0:=AY;have c1:=Bt 0 a (by unfold rm;omega) (by unfold rm;omega);have c2:=Bt a b (by unfold rm;omega) (by unfold rm;omega);rw[Rat.zero_add]at c1;rw[←hR]at c2 ⊢;have hset:Settled (.sl 2 8 (Xf (qC a ++ qC b)) false):=J3 fun j hj=>by
  unfold Xf qC
  match j,hj with
  |0,_=>exact X5 _
  |1,_=>exact Xc _
  |2,_=>exact X5 _
  |3,_=>exact Xc _
  |4,_=>exact X5 _
  |5,_=>exact Xc _
  |6,_=>exact X5 _
  |7,_=>exact Xc _
  |j+8,h=>omega
 have bel2:Jq 2 (.sl 2 8 (Xf (qC a ++ qC b)) false):=X6 hset;simp only[qC,List.cons_append,List.nil_append]at bel2;have z1:((1:Nat):Int)=1:=rfl;have z2:((2:Nat):Int)=2:=rfl;have wr1:IntKind.i64.wrap 1=1:=by rw[IntKind.wrap_i64];omega
 have wr2:IntKind.i64.wrap 2=2:=by rw[IntKind.wrap_i64];omega
 refine Fn.intro (fn:=Tryz.f214) Tryz.call214 Tryz.func214 rfl mixed 6 [6,7,8] [] [] (by kernel_rfl) (Nat.le_of_ble_eq_true rfl) (by simpa using hset) (Xk ?_);simp only[AS.start,↓X4,wA,↓reduceIte,reduceIte,reduceCtorEq,Y1,Y2,Y3,Y4,Y5,Y6,Y7,Y8,Y9,YA,zA,qA,qC,vA,vC,wN];refine Xj (fun i:Nat=>⟨6,[6,7,8],[.any,.any,.ref 0 0 0,.ref 1 0 0,.any,.any],[(6,.sl 2 8 (Xf (qC a ++ qC b)) false),(7,I 2),(8,I i)],
  [.row 0 4 (Xf [.bool false,.sl 0 0 (fun _=>.any) true,.bool false,.sl 0 0 (fun _=>.any) true]),.row 0 4 (Xf (qC (if i=0 then 0 else if i=1 then a else a+b)))]⟩) (fun i=>i≤2) (fun i=>2-i) 0 (by omega) ?_ ?_
 ·refine(Qo 1 (Xf (qC 0)) rfl fun j hj=>?_).trans (Xi rfl (by simp[Xm,qC,X8,Qs]) (by simp[Xw,XA,qC,X8,Qs,I]) (by simp))
  match j,hj with
  |0,_=>exact XL _ _
  |1,_=>exact BJ (Zn (by rw[Rat.zero_num];simp[Qj]))
  |2,_=>exact XL _ _
  |3,_=>exact BJ (Zn (Ma rfl))
  |j+4,h=>omega
 intro i hi next
 rcases(show i=0∨i=1∨i=2 by omega)with rfl |rfl |rfl
 ·refine Xk ?_
  simp only[ite_true,z1,z2,wr1,wr2,Int.reduceLT,Int.reduceAdd,↓X4,wA,↓reduceIte,reduceIte,reduceCtorEq,Y1,Y2,Y3,Y4,Y5,Y6,Y7,Y8,Y9,YA,zA,qA,qC,vA,vC,wN];refine X1 c1 rfl ?_;simp only[z1,z2,wr1,wr2,Int.reduceAdd,↓X4,wA,↓reduceIte,reduceIte,reduceCtorEq,Y1,Y2,Y3,Y4,Y5,Y6,Y7,Y8,Y9,YA,zA,qA,qC,vA,vC,wN];exact next 1 _ (by omega) (by omega) (XT (m:=2) (Nat.zero_le _) rfl (by simp[qC,Xm,X8,Qs,I]) (by simp[qC,Xw,XA,X8,Qs,I]) (by simp[qC,X8,Qs,I]) (by simp[XW]) (by simp[qC,XW,bel2]) (by simp[qC,XW]))
 ·have e1:((1:Nat)=0)=False:=eq_false (by omega)
  refine Xk ?_;simp only[e1,ite_true,ite_false,z1,z2,wr1,wr2,Int.reduceLT,Int.reduceAdd,↓X4,wA,↓reduceIte,reduceIte,reduceCtorEq,Y1,Y2,Y3,Y4,Y5,Y6,Y7,Y8,Y9,YA,zA,qA,qC,vA,vC,wN];refine⟨by omega,X1 c2 rfl ?_⟩;simp only[hR,z1,z2,wr1,wr2,Int.reduceAdd,↓X4,wA,↓reduceIte,reduceIte,reduceCtorEq,Y1,Y2,Y3,Y4,Y5,Y6,Y7,Y8,Y9,YA,zA,qA,qC,vA,vC,wN];exact next 2 _ (by omega) (by omega) (XT (m:=2) (Nat.zero_le _) rfl (by simp[qC,Xm,X8,Qs,I]) (by simp[qC,Xw,XA,X8,Qs,I]) (by simp[qC,X8,Qs,I]) (by simp[XW]) (by simp[qC,XW,bel2]) (by simp[qC,XW]))
 ·have e1:((2:Nat)=0)=False:=eq_false (by omega)
  have e2:((2:Nat)=1)=False:=eq_false (by omega);refine Xk ?_;simp only[e1,e2,ite_false,z1,z2,wr1,wr2,Int.reduceLT,Int.reduceAdd,↓X4,wA,↓reduceIte,reduceIte,reduceCtorEq,Y1,Y2,Y3,Y4,Y5,Y6,Y7,Y8,Y9,YA,zA,qA,qC,vA,vC,wN];exact J2 rfl XR rfl rfl rfl sR (hR.trans rfl)
def vm:Nat:=10000000
theorem A0 {P:Program}{fn:Func}{str hcs:List Nat}{r:AV}{s:AS}{t u id ver n:Nat}{L:List AV}(hr:fn.results=#[.cell t u])(hk:Cc P u=some (some n)) (hs:s.get t=.ref id ver 0)
  (ho:s.h[id]?=some (.row ver n (Xf L))) (hn:L.length=n) (hset:Settled r) (e:r=.agg L):RetOk (Ju P fn str hcs r) s:=Q7 hr hk hs ho hn e hset (X2 L)
theorem AX (a b:V2)(ha:vb a≤rm)(hb:vb b≤rm):Fn Tryz.prog 166 [vA a,vA b] (vA (a.sub b)):=by
 obtain⟨R,hR⟩:∃R,R=vA (a.sub b):=⟨_,rfl⟩
 have sR:Settled R:=hR▸Xt _;have:=J8 a;have:=J8 b;have:=J4 a;have:=J4 b;have c1:=EX a.x b.x (by omega) (by omega);have c2:=EX a.y b.y (by omega) (by omega);rw[←hR];refine Fq Tryz.call166 Tryz.func166 5 [] [] [] (by simp[Xc,Xb,Ko,JA,X5,Kq,XM,Xa,Xt,Xh,Kr,Jp]) (Xk ?_);simp(maxSteps:=999999)only[AS.start,↓X4,wA,↓reduceIte,reduceIte,reduceCtorEq,Y1,Y2,Y3,Y4,Y5,Y6,Y7,Y8,Y9,YA,zA,qA,qC,vA,vC,wN];refine X1 c1 rfl ?_;simp only[↓X4,wA,↓reduceIte,reduceIte,reduceCtorEq,Y1,Y2,Y3,Y4,Y5,Y6,Y7,Y8,Y9,YA,zA,qA,qC,vA,vC,wN];refine X1 c2 rfl ?_;simp only[↓X4,wA,↓reduceIte,reduceIte,reduceCtorEq,Y1,Y2,Y3,Y4,Y5,Y6,Y7,Y8,Y9,YA,zA,qA,qC,vA,vC,wN];exact A0 rfl Jm rfl rfl rfl sR (hR.trans rfl)
theorem AC (a b:V2)(ha:vb a≤vm)(hb:vb b≤vm):Fn Tryz.prog 149 [vA a,vA b] (qA (Xp a b)):=by
 unfold vm at ha hb;obtain⟨R,hR⟩:∃R,R=qA (Xp a b):=⟨_,rfl⟩
 have sR:Settled R:=hR▸Xa _;have:=J8 a;have:=J8 b;have:=J4 a;have:=J4 b;have m1:=Qk a.x b.y;have m2:=Qk a.y b.x;have c1:=Aq a.x b.y (by unfold rm;omega) (by unfold rm;omega);have c2:=Aq a.y b.x (by unfold rm;omega) (by unfold rm;omega);have c3:=KA (a.y*b.x);have c4:=We (a.x*b.y) (-(a.y*b.x)) (by omega) (by rw[Dp];omega);rw[←Rat.sub_eq_add_neg,show a.x*b.y-a.y*b.x=Xp a b from rfl,←hR]at c4;rw[←hR];refine Fq Tryz.call149 Tryz.func149 5 [] [] [] (by simp[Xc,Xb,Ko,JA,X5,Kq,XM,Xa,Xt,Xh,Kr,Jp]) (Xk ?_);simp(maxSteps:=999999)only[AS.start,↓X4,wA,↓reduceIte,reduceIte,reduceCtorEq,Y1,Y2,Y3,Y4,Y5,Y6,Y7,Y8,Y9,YA,zA,qA,qC,vA,vC,wN];refine X1 c1 rfl ?_;simp only[↓X4,wA,↓reduceIte,reduceIte,reduceCtorEq,Y1,Y2,Y3,Y4,Y5,Y6,Y7,Y8,Y9,YA,zA,qA,qC,vA,vC,wN];refine X1 c2 rfl ?_;simp only[↓X4,wA,↓reduceIte,reduceIte,reduceCtorEq,Y1,Y2,Y3,Y4,Y5,Y6,Y7,Y8,Y9,YA,zA,qA,qC,vA,vC,wN];refine X1 c3 rfl ?_;simp only[↓X4,wA,↓reduceIte,reduceIte,reduceCtorEq,Y1,Y2,Y3,Y4,Y5,Y6,Y7,Y8,Y9,YA,zA,qA,qC,vA,vC,wN];refine X1 c4 rfl ?_;simp only[hR,↓X4,wA,↓reduceIte,reduceIte,reduceCtorEq,Y1,Y2,Y3,Y4,Y5,Y6,Y7,Y8,Y9,YA,zA,qA,qC,vA,vC,wN];exact A0 rfl XR rfl rfl rfl sR (hR.trans rfl)
theorem Dm (a b:V2)(ha:vb a≤vm)(hb:vb b≤vm):Fn Tryz.prog 150 [vA a,vA b] (qA (Q8 a b)):=by
 unfold vm at ha hb;obtain⟨R,hR⟩:∃R,R=qA (Q8 a b):=⟨_,rfl⟩
 have sR:Settled R:=hR▸Xa _;have:=J8 a;have:=J8 b;have:=J4 a;have:=J4 b;have m1:=Qk a.x b.x;have m2:=Qk a.y b.y;have c1:=Aq a.x b.x (by unfold rm;omega) (by unfold rm;omega);have c2:=Aq a.y b.y (by unfold rm;omega) (by unfold rm;omega);have c4:=We (a.x*b.x) (a.y*b.y) (by omega) (by omega);rw[show a.x*b.x+a.y*b.y=Q8 a b from rfl,←hR]at c4;rw[←hR];refine Fq Tryz.call150 Tryz.func150 5 [] [] [] (by simp[Xc,Xb,Ko,JA,X5,Kq,XM,Xa,Xt,Xh,Kr,Jp]) (Xk ?_);simp(maxSteps:=999999)only[AS.start,↓X4,wA,↓reduceIte,reduceIte,reduceCtorEq,Y1,Y2,Y3,Y4,Y5,Y6,Y7,Y8,Y9,YA,zA,qA,qC,vA,vC,wN];refine X1 c1 rfl ?_;simp only[↓X4,wA,↓reduceIte,reduceIte,reduceCtorEq,Y1,Y2,Y3,Y4,Y5,Y6,Y7,Y8,Y9,YA,zA,qA,qC,vA,vC,wN];refine X1 c2 rfl ?_;simp only[↓X4,wA,↓reduceIte,reduceIte,reduceCtorEq,Y1,Y2,Y3,Y4,Y5,Y6,Y7,Y8,Y9,YA,zA,qA,qC,vA,vC,wN];refine X1 c4 rfl ?_;simp only[hR,↓X4,wA,↓reduceIte,reduceIte,reduceCtorEq,Y1,Y2,Y3,Y4,Y5,Y6,Y7,Y8,Y9,YA,zA,qA,qC,vA,vC,wN];exact A0 rfl XR rfl rfl rfl sR (hR.trans rfl)
def vs:Nat:=100000
theorem BZ (a b c:V2)(ha:vb a≤vs)(hb:vb b≤vs)(hc:vb c≤vs):Fn Tryz.prog 143 [vA a,vA b,vA c] (I (JX a b c)):=by
 unfold vs at ha hb hc;have m1:=QO b a;have m2:=QO c a;have c1:=AX b a (by unfold rm;omega) (by unfold rm;omega);have c2:=AX c a (by unfold rm;omega) (by unfold rm;omega);have c3:=AC (b.sub a) (c.sub a) (by unfold vm;omega) (by unfold vm;omega);have c4:=Qe (Xp (b.sub a) (c.sub a));refine Fq Tryz.call143 Tryz.func143 7 [] [] [] (by simp[Xc,Xb,Ko,JA,X5,Kq,XM,Xa,Xt,Xh,Kr,Jp]) (Xk ?_);simp(maxSteps:=999999)only[AS.start,↓X4,wA,↓reduceIte,reduceIte,reduceCtorEq,Y1,Y2,Y3,Y4,Y5,Y6,Y7,Y8,Y9,YA,zA,qA,qC,vA,vC,wN];refine X1 c1 rfl ?_;simp only[↓X4,wA,↓reduceIte,reduceIte,reduceCtorEq,Y1,Y2,Y3,Y4,Y5,Y6,Y7,Y8,Y9,YA,zA,qA,qC,vA,vC,wN];refine X1 c2 rfl ?_;simp only[↓X4,wA,↓reduceIte,reduceIte,reduceCtorEq,Y1,Y2,Y3,Y4,Y5,Y6,Y7,Y8,Y9,YA,zA,qA,qC,vA,vC,wN];refine X1 c3 rfl ?_;simp only[↓X4,wA,↓reduceIte,reduceIte,reduceCtorEq,Y1,Y2,Y3,Y4,Y5,Y6,Y7,Y8,Y9,YA,zA,qA,qC,vA,vC,wN];refine X1 c4 rfl ?_;simp only[↓X4,wA,↓reduceIte,reduceIte,reduceCtorEq,Y1,Y2,Y3,Y4,Y5,Y6,Y7,Y8,Y9,YA,zA,qA,qC,vA,vC,wN];exact Xo rfl rfl (Xb _) rfl
def NK (a b p:V2):Bool:=decide (JX a b p=0) && decide ((Q8 (a.sub p) (b.sub p)).num.sign≤0)
theorem W3 (a b p:V2)(ha:vb a≤vs)(hb:vb b≤vs)(hp:vb p≤vs):Fn Tryz.prog 211 [vA a,vA b,vA p] (.bool (NK a b p)):=by
 have c1:=BZ a b p ha hb hp;unfold vs at ha hb hp;have m1:=QO a p;have m2:=QO b p;have c2:=AX a p (by unfold rm;omega) (by unfold rm;omega);have c3:=AX b p (by unfold rm;omega) (by unfold rm;omega);have c4:=Dm (a.sub p) (b.sub p) (by unfold vm;omega) (by unfold vm;omega);have c5:=Qe (Q8 (a.sub p) (b.sub p));obtain⟨V,hV⟩:∃V,V=NK a b p:=⟨_,rfl⟩
 rw[←hV];unfold NK at hV;refine Fq Tryz.call211 Tryz.func211 7 [] [] [] (by simp[Xc,Xb,Ko,JA,X5,Kq,XM,Xa,Xt,Xh,Kr,Jp]) (Xk ?_);simp(maxSteps:=999999)only[AS.start,↓X4,wA,↓reduceIte,reduceIte,reduceCtorEq,Y1,Y2,Y3,Y4,Y5,Y6,Y7,Y8,Y9,YA,zA,qA,qC,vA,vC,wN];refine X1 c1 rfl ?_;by_cases h:JX a b p=0
 ·have f1:(JX a b p=0)=True:=eq_true h
  simp only[f1,↓X4,wA,↓reduceIte,reduceIte,reduceCtorEq,Y1,Y2,Y3,Y4,Y5,Y6,Y7,Y8,Y9,YA,zA,qA,qC,vA,vC,wN];refine X1 c2 rfl ?_;simp only[↓X4,wA,↓reduceIte,reduceIte,reduceCtorEq,Y1,Y2,Y3,Y4,Y5,Y6,Y7,Y8,Y9,YA,zA,qA,qC,vA,vC,wN];refine X1 c3 rfl ?_;simp only[↓X4,wA,↓reduceIte,reduceIte,reduceCtorEq,Y1,Y2,Y3,Y4,Y5,Y6,Y7,Y8,Y9,YA,zA,qA,qC,vA,vC,wN];refine X1 c4 rfl ?_;simp only[↓X4,wA,↓reduceIte,reduceIte,reduceCtorEq,Y1,Y2,Y3,Y4,Y5,Y6,Y7,Y8,Y9,YA,zA,qA,qC,vA,vC,wN];refine X1 c5 rfl ?_;simp only[↓X4,wA,↓reduceIte,reduceIte,reduceCtorEq,Y1,Y2,Y3,Y4,Y5,Y6,Y7,Y8,Y9,YA,zA,qA,qC,vA,vC,wN];exact Xo rfl rfl (X5 _) (by rw[hV,decide_eq_true h];rfl)
 ·have f1:(JX a b p=0)=False:=eq_false h
  simp only[f1,↓X4,wA,↓reduceIte,reduceIte,reduceCtorEq,Y1,Y2,Y3,Y4,Y5,Y6,Y7,Y8,Y9,YA,zA,qA,qC,vA,vC,wN];exact Xo rfl rfl (X5 _) (by rw[hV,decide_eq_false h];rfl)
def Br (a b c d:V2):Bool:=decide (JX a b c*JX a b d<0) && decide (JX c d a*JX c d b<0)
def Zx (a b c d:V2):Bool:=Br a b c d || NK a b c || NK a b d || NK c d a || NK c d b
theorem GN (a b c:V2):-1≤JX a b c∧JX a b c≤1:=by
 unfold JX;generalize (Xp (b.sub a) (c.sub a)).num=n;rcases Int.lt_trichotomy n 0 with h |h |h
 ·rw[Int.sign_eq_neg_one_of_neg h];omega
 ·rw[h];simp
 ·rw[Int.sign_eq_one_of_pos h];omega
theorem Vt {x y:Int}(hx:-1≤x∧x≤1)(hy:-1≤y∧y≤1):IntKind.i64.wrap (x*y)=x*y:=by
 rcases(show x = -1∨x=0∨x=1 by omega)with rfl |rfl |rfl <;> rw[IntKind.wrap_i64] <;> omega
theorem iQ (a b c d:V2)(ha:vb a≤vs)(hb:vb b≤vs)(hc:vb c≤vs)(hd:vb d≤vs):Fn Tryz.prog 144 [vA a,vA b,vA c,vA d] (.bool (Zx a b c d)):=by
 have c1:=BZ a b c ha hb hc;have c2:=BZ a b d ha hb hd;have c3:=BZ c d a hc hd ha;have c4:=BZ c d b hc hd hb;have d1:=W3 a b c ha hb hc;have d2:=W3 a b d ha hb hd;have d3:=W3 c d a hc hd ha;have d4:=W3 c d b hc hd hb;have w1:=Vt (GN a b c) (GN a b d);have w2:=Vt (GN c d a) (GN c d b);obtain⟨V,hV⟩:∃V,V=Zx a b c d:=⟨_,rfl⟩
 rw[←hV];unfold Zx Br at hV;have fin:∀ {s:AS} {v:Bool},s.get 8=.bool v→v=V→RetOk (Ju Tryz.prog Tryz.f144 [] [] (.bool V)) s:=fun h e=>Xo rfl h (X5 _) (by rw[e])
 obtain⟨B1,hB1⟩:∃B,B=NK a b c:=⟨_,rfl⟩
 obtain⟨B2,hB2⟩:∃B,B=NK a b d:=⟨_,rfl⟩
 obtain⟨B3,hB3⟩:∃B,B=NK c d a:=⟨_,rfl⟩
 obtain⟨B4,hB4⟩:∃B,B=NK c d b:=⟨_,rfl⟩
 rw[←hB1]at d1 hV;rw[←hB2]at d2 hV;rw[←hB3]at d3 hV;rw[←hB4]at d4 hV;refine Fq Tryz.call144 Tryz.func144 9 [] [] [] (by simp[Xc,Xb,Ko,JA,X5,Kq,XM,Xa,Xt,Xh,Kr,Jp]) (Xk ?_);simp(maxSteps:=999999)only[AS.start,↓X4,wA,↓reduceIte,reduceIte,reduceCtorEq,Y1,Y2,Y3,Y4,Y5,Y6,Y7,Y8,Y9,YA,zA,qA,qC,vA,vC,wN];refine X1 c1 rfl ?_;simp only[↓X4,wA,↓reduceIte,reduceIte,reduceCtorEq,Y1,Y2,Y3,Y4,Y5,Y6,Y7,Y8,Y9,YA,zA,qA,qC,vA,vC,wN];refine X1 c2 rfl ?_;by_cases h1:JX a b c*JX a b d<0
 ·have f1:(JX a b c*JX a b d<0)=True:=eq_true h1
  simp only[w1,f1,↓X4,wA,↓reduceIte,reduceIte,reduceCtorEq,Y1,Y2,Y3,Y4,Y5,Y6,Y7,Y8,Y9,YA,zA,qA,qC,vA,vC,wN];refine X1 c3 rfl ?_;simp only[↓X4,wA,↓reduceIte,reduceIte,reduceCtorEq,Y1,Y2,Y3,Y4,Y5,Y6,Y7,Y8,Y9,YA,zA,qA,qC,vA,vC,wN];refine X1 c4 rfl ?_;by_cases h2:JX c d a*JX c d b<0
  ·have f2:(JX c d a*JX c d b<0)=True:=eq_true h2
   simp only[w2,f2,↓X4,wA,↓reduceIte,reduceIte,reduceCtorEq,Y1,Y2,Y3,Y4,Y5,Y6,Y7,Y8,Y9,YA,zA,qA,qC,vA,vC,wN];exact fin rfl (by rw[hV,decide_eq_true h1,decide_eq_true h2];rfl)
  ·have f2:(JX c d a*JX c d b<0)=False:=eq_false h2
   simp only[w2,f2,↓X4,wA,↓reduceIte,reduceIte,reduceCtorEq,Y1,Y2,Y3,Y4,Y5,Y6,Y7,Y8,Y9,YA,zA,qA,qC,vA,vC,wN];rw[decide_eq_true h1,decide_eq_false h2]at hV;refine X1 d1 rfl ?_;cases B1
   rotate_left
   ·simp only[↓X4,wA,↓reduceIte,reduceIte,reduceCtorEq,Y1,Y2,Y3,Y4,Y5,Y6,Y7,Y8,Y9,YA,zA,qA,qC,vA,vC,wN]
    exact fin rfl (by rw[hV];simp)
   simp only[↓X4,wA,↓reduceIte,reduceIte,reduceCtorEq,Y1,Y2,Y3,Y4,Y5,Y6,Y7,Y8,Y9,YA,zA,qA,qC,vA,vC,wN];refine X1 d2 rfl ?_;cases B2
   rotate_left
   ·simp only[↓X4,wA,↓reduceIte,reduceIte,reduceCtorEq,Y1,Y2,Y3,Y4,Y5,Y6,Y7,Y8,Y9,YA,zA,qA,qC,vA,vC,wN]
    exact fin rfl (by rw[hV];simp)
   simp only[↓X4,wA,↓reduceIte,reduceIte,reduceCtorEq,Y1,Y2,Y3,Y4,Y5,Y6,Y7,Y8,Y9,YA,zA,qA,qC,vA,vC,wN];refine X1 d3 rfl ?_;cases B3
   rotate_left
   ·simp only[↓X4,wA,↓reduceIte,reduceIte,reduceCtorEq,Y1,Y2,Y3,Y4,Y5,Y6,Y7,Y8,Y9,YA,zA,qA,qC,vA,vC,wN]
    exact fin rfl (by rw[hV];simp)
   simp only[↓X4,wA,↓reduceIte,reduceIte,reduceCtorEq,Y1,Y2,Y3,Y4,Y5,Y6,Y7,Y8,Y9,YA,zA,qA,qC,vA,vC,wN];refine X1 d4 rfl ?_;simp only[↓X4,wA,↓reduceIte,reduceIte,reduceCtorEq,Y1,Y2,Y3,Y4,Y5,Y6,Y7,Y8,Y9,YA,zA,qA,qC,vA,vC,wN];exact fin rfl (by rw[hV];simp)
 ·have f1:(JX a b c*JX a b d<0)=False:=eq_false h1
  simp only[w1,f1,↓X4,wA,↓reduceIte,reduceIte,reduceCtorEq,Y1,Y2,Y3,Y4,Y5,Y6,Y7,Y8,Y9,YA,zA,qA,qC,vA,vC,wN];rw[decide_eq_false h1]at hV;refine X1 d1 rfl ?_;cases B1
  rotate_left
  ·simp only[↓X4,wA,↓reduceIte,reduceIte,reduceCtorEq,Y1,Y2,Y3,Y4,Y5,Y6,Y7,Y8,Y9,YA,zA,qA,qC,vA,vC,wN]
   exact fin rfl (by rw[hV];simp)
  simp only[↓X4,wA,↓reduceIte,reduceIte,reduceCtorEq,Y1,Y2,Y3,Y4,Y5,Y6,Y7,Y8,Y9,YA,zA,qA,qC,vA,vC,wN];refine X1 d2 rfl ?_;cases B2
  rotate_left
  ·simp only[↓X4,wA,↓reduceIte,reduceIte,reduceCtorEq,Y1,Y2,Y3,Y4,Y5,Y6,Y7,Y8,Y9,YA,zA,qA,qC,vA,vC,wN]
   exact fin rfl (by rw[hV];simp)
  simp only[↓X4,wA,↓reduceIte,reduceIte,reduceCtorEq,Y1,Y2,Y3,Y4,Y5,Y6,Y7,Y8,Y9,YA,zA,qA,qC,vA,vC,wN];refine X1 d3 rfl ?_;cases B3
  rotate_left
  ·simp only[↓X4,wA,↓reduceIte,reduceIte,reduceCtorEq,Y1,Y2,Y3,Y4,Y5,Y6,Y7,Y8,Y9,YA,zA,qA,qC,vA,vC,wN]
   exact fin rfl (by rw[hV];simp)
  simp only[↓X4,wA,↓reduceIte,reduceIte,reduceCtorEq,Y1,Y2,Y3,Y4,Y5,Y6,Y7,Y8,Y9,YA,zA,qA,qC,vA,vC,wN];refine X1 d4 rfl ?_;simp only[↓X4,wA,↓reduceIte,reduceIte,reduceCtorEq,Y1,Y2,Y3,Y4,Y5,Y6,Y7,Y8,Y9,YA,zA,qA,qC,vA,vC,wN];exact fin rfl (by rw[hV];simp)
def v0:V2:=⟨0,0⟩
def Ql (l:List V2):AV:=jX vC 8 v0 l
theorem Xq (l:List V2):Settled (Ql l):=Z5 fun a x hx=>by
 have:∀x∈vC a,Settled x:=by simp[vC,Xc,X5]
 exact this x hx
theorem X7 (l:List V2):Ql l=.sl l.length (l.length*8) (XD vC 8 v0 l) false:=nrfl rfl
theorem vF (l:List V2)(i:Nat):XD vC 8 v0 l (i*8)=.bool (decide ((l.getD i v0).x.num<0))∧XD vC 8 v0 l (i*8+1)=X8 (X9 (l.getD i v0).x.num.natAbs)∧XD vC 8 v0 l (i*8+2)=.bool false∧XD vC 8 v0 l (i*8+3)=X8 (X9 (qd (l.getD i v0).x)) ∧
  XD vC 8 v0 l (i*8+4)=.bool (decide ((l.getD i v0).y.num<0))∧XD vC 8 v0 l (i*8+5)=X8 (X9 (l.getD i v0).y.num.natAbs)∧XD vC 8 v0 l (i*8+6)=.bool false∧XD vC 8 v0 l (i*8+7)=X8 (X9 (qd (l.getD i v0).y)):=by
 refine⟨?_,?_,?_,?_,?_,?_,?_,?_⟩
 ·rw[Z7 _ _ _ _ _ (by omega)];rfl
 all_goals rw[KS _ _ _ _ _ _ (by omega)];rfl
theorem jV (l:List V2):Fn Tryz.prog 212 [Ql l] (.fn 236 [.ptr 1 (Xf [Ql l]) 0]):=by
 have hset:Settled (.fn 236 [.ptr 1 (Xf [Ql l]) 0]):=Jg (by
  intro a ha;simp only[List.mem_cons,List.not_mem_nil,or_false]at ha;rw[ha];exact XI fun j hj=>by
    obtain rfl:j=0:=by omega
    exact Xq l)
 refine Fq Tryz.call212 Tryz.func212 4 [] [] [] (by simp[Xq]) (Xk ?_);simp only[AS.start,X7,↓X4,wA,seval,zA,qA,qC,vA,vC,Jb,wN];refine C4 rfl (oP ⟨jT (.inl rfl) (by omega) fun j hj=>?_,trivial⟩);obtain rfl:j=0:=by omega
 exact(Xq l).sees _
theorem UZ (L:List V2)(t:Tok)(A B:Nat→AO)(hL:L.length<1000000)(hy:∀i,i<L.length→YCall Tryz.prog t [vA (L.getD i v0),vA (L.getD ((i+1)%L.length) v0)] [A i,B i] (.bool true) [A (i+1),B (i+1)])
  (hA:∀i,Qa 2 (A i)∧A i≠.unborn∧∀v n f,A i≠.con v n f) (hB:∀i,Qa 2 (B i)∧B i≠.unborn∧∀v n f,B i≠.con v n f) (hce:t.ce.H.length≤2) :
  ICall Tryz.prog t 236 [.yld t.l,.ptr 1 (Xf [Ql L]) 0] [A 0,B 0] [A L.length,B L.length]:=by
 have hAO:∀i,Qa 2 (A i)=True:=fun i=>eq_true (hA i).1
 have hBO:∀i,Qa 2 (B i)=True:=fun i=>eq_true (hB i).1
 refine ICall.intro (fn:=Tryz.f236) Tryz.call236 Tryz.func236 rfl mixed 5 [5,6,7] [3,40000004] [3] (by kernel_rfl) (Nat.le_of_ble_eq_true rfl) hce (by simp[hAO,hBO]) (Xk ?_);simp only[AS.start,X7,↓X4,wA,seval,zA,qA,qC,vA,vC,Jb,wN];refine Xj (fun i:Nat=>⟨5,[5,6,7],[.yld t.l,.ptr 1 (Xf [Ql L]) 0,.any,.any,.any],[(5,Ql L),(6,I L.length),(7,I i)],[A i,B i]⟩) (fun i=>i≤L.length) (fun i=>L.length-i) 0 (by omega)
  (Xi rfl (by simp[Xm,X7]) (by simp[Xw,XA,X7,I]) rfl) ?_
 intro i hi next
 have w1:=wj i (by omega);by_cases hi2:i<L.length
 ·have f1:((i:Int)<L.length)=True:=eq_true (by omega)
  have f2:(i<L.length)=True:=eq_true hi2;have f3:(i*8+8≤L.length*8)=True:=eq_true (by omega);have hm:((i+1:Nat):Int).tmod L.length=(((i+1)%L.length:Nat):Int):=rfl;have hml:(i+1)%L.length<L.length:=Nat.mod_lt _ (by omega);have f4:((i+1)%L.length<L.length)=True:=eq_true hml;have f5:((i+1)%L.length*8+8≤L.length*8)=True:=eq_true (by omega);have f6:((L.length:Int)=0)=False:=eq_false (by omega);have f6':(L.length=0)=False:=eq_false (by omega);have v1:=vF L i;have v2:=vF L ((i+1)%L.length);refine Xk ?_;simp only[X7,w1,f1,f2,f3,f4,f5,f6,f6',hm,v1,v2,Int.toNat_natCast,↓X4,wA,seval,zA,qA,qC,vA,vC,Jb,wN];refine TV (t:=t) (H1:=[A i,B i]) (H1':=[A (i+1),B (i+1)]) rfl rfl (List.mem_singleton.2 rfl) (hy i hi2) rfl rfl hce ?_ ?_ ?_ ?_ ?_ ⟨Weak.rfl' _,Weak.rfl' _,trivial⟩ ?_
  ·intro a ha
   simp only[List.mem_cons,List.not_mem_nil,or_false]at ha;rcases ha with rfl |rfl <;> exact X6 (Xt _)
  ·intro o ho
   simp only[List.mem_cons,List.not_mem_nil,or_false]at ho;rcases ho with rfl |rfl
   ·exact(hA i).1
   ·exact(hB i).1
  ·intro o ho
   simp only[List.mem_cons,List.not_mem_nil,or_false]at ho;rcases ho with rfl |rfl
   ·exact(hA i).2.1
   ·exact(hB i).2.1
  ·intro o ho
   simp only[List.mem_cons,List.not_mem_nil,or_false]at ho;rcases ho with rfl |rfl
   ·exact(hA (i+1)).2.1
   ·exact(hB (i+1)).2.1
  ·refine Ll ?_ ?_
   ·intro o ho
    simp only[List.mem_cons,List.not_mem_nil,or_false]at ho;rcases ho with rfl |rfl
    ·exact(hA i).2.2
    ·exact(hB i).2.2
   ·intro o ho
    simp only[List.mem_cons,List.not_mem_nil,or_false]at ho;rcases ho with rfl |rfl
    ·exact(hA (i+1)).2.2
    ·exact(hB (i+1)).2.2
  simp only[X7,w1,↓X4,wA,seval,zA,qA,qC,vA,vC,Jb,wN];have hbv:Jq 2 (Ql L)=True:=eq_true (X6 (Xq L));have hbp:Jq 2 (.ptr 1 (Xf [Ql L]) 0)=True:=eq_true (X6 (XI fun j hj=>by
    obtain rfl:j=0:=by omega
    exact Xq L))
  have hby:Jq 2 (.yld t.l)=True:=eq_true fun c v hv=>by cases hv;exact .yld _
  exact next (i+1) _ (by omega) (by omega) (XT (m:=2) (Nat.le_refl 2) rfl (by simp[X7,Xm,X8,Qs,I]) (by simp[X7,Xw,XA,I]) rfl (by simp[hby,hbp,XW]) (by simp[hbv,XW]) (by simp[hAO,hBO]))
 ·obtain rfl:i=L.length:=by omega
  refine Xk ?_;simp only[X7,Int.lt_irrefl,Nat.lt_irrefl,↓X4,wA,seval,zA,qA,qC,vA,vC,Jb,wN];exact vn rfl rfl
def Au (L:List V2):Nat→Rat
 |0=>0
 |i+1=>Au L i+Xp (L.getD i v0) (L.getD ((i+1)%L.length) v0)
def KT (L:List V2):Rat:=Au L L.length*Rat.divInt 1 2
def QN (L:List V2)(k:Nat):Prop:=∀i,vb (L.getD i v0)≤k
theorem FX (L:List V2)(k:Nat)(h:QN L k):∀i,qb (Au L i)≤(4*k+2)*i+1
 |0=>by have:=AY;simp only[Au];omega
 |i+1=>by
  have ih:=FX L k h i;have h1:=JT (L.getD i v0) (L.getD ((i+1)%L.length) v0);have h2:=h i;have h3:=h ((i+1)%L.length);have h4:=ZA (Au L i) (Xp (L.getD i v0) (L.getD ((i+1)%L.length) v0));have e:(4*k+2)*(i+1)=(4*k+2)*i+(4*k+2):=Nat.mul_succ _ _;simp only[Au];omega
theorem Vl (L:List V2)(k:Nat)(h:QN L k)(hk:k≤1000)(hl:L.length≤1000):qb (Au L L.length)≤10000000∧qb (KT L)≤10000000:=by
 have h1:=FX L k h L.length;have h2:(4*k+2)*L.length≤4002*1000:=Nat.mul_le_mul (by omega) hl;have h3:=Qk (Au L L.length) (Rat.divInt 1 2);have h4:qb (Rat.divInt 1 2)≤3:=KK _ _ _ (by omega) (Zt ⟨by omega,by omega⟩) (Zt ⟨by omega,by omega⟩);unfold KT;omega
def KQ:AO:=.row 0 4 (Xf [.bool false,.sl 0 0 (fun _=>.any) true,.bool false,.sl 0 0 (fun _=>.any) true])
def CG (L:List V2)(i:Nat):AO:=.row 0 4 (Xf (qC (Au L i)))
theorem mb (L:List V2)(k:Nat)(h:QN L k)(hk:k≤1000)(hl:L.length≤1000):Fn Tryz.prog 145 [Ql L] (qA (KT L)):=by
 obtain⟨R,hR⟩:∃R,R=qA (KT L):=⟨_,rfl⟩
 have sR:Settled R:=hR▸Xa _;obtain⟨q1,q2⟩:=Vl L k h hk hl;have cs:=jV L;rw[←hR];refine Fq Tryz.call145 Tryz.func145 6 [8,9] [] [] (by simp[Xq]) (Xk ?_);simp only[AS.start,X7,↓X4,wA,seval,zA,qA,qC,vA,vC,Jb,wN];refine X1 cs rfl ?_;simp only[↓X4,wA,seval,zA,qA,qC,vA,vC,Jb,wN];have bA:Qa 2 KQ∧KQ≠.unborn∧∀v n f,KQ≠.con v n f:=⟨by simp[KQ,XW],by simp[KQ],by simp[KQ]⟩
 have bB:∀i,Qa 2 (CG L i)∧CG L i≠.unborn∧∀v n f,CG L i≠.con v n f:=fun i=>⟨by simp[CG,qC,XW],by simp[CG],by simp[CG]⟩
 refine Run.sub (s':=⟨6,[8,9],[Ql L,.any,.ref 0 0 0,.ref 1 0 0,.any,.any],[(7,.fn 236 [.ptr 1 (Xf [Ql L]) 0])],[KQ,CG L 0]⟩) ?_ ((Qo 1 (Xf (qC 0)) rfl fun j hj=>?_).trans (Xi rfl (by simp[Xm,X7]) (by simp[Xw,XA]) (by simp[KQ,CG,Au])))
 rotate_left
 ·match j,hj with
  |0,_=>exact XL _ _
  |1,_=>exact BJ (Zn (by rw[Rat.zero_num];simp[Qj]))
  |2,_=>exact XL _ _
  |3,_=>exact BJ (Zn (Ma rfl))
  |j+4,h=>omega
 refine Fs (gf:=236) (caps:=[.ptr 1 (Xf [Ql L]) 0]) (Hn:=[KQ,CG L L.length]) rfl rfl rfl (fun t ht=>?_) ?_
 ·refine UZ L t (fun _=>KQ) (CG L) (by omega) (fun i hi=>?_) (fun _=>bA) bB (by rw[ht.ch];exact Nat.le_refl _)
  have hc:=AC (L.getD i v0) (L.getD ((i+1)%L.length) v0) (by have:=h i;unfold vm;omega) (by have:=h ((i+1)%L.length);unfold vm;omega);have b1:=FX L k h i;have b2:(4*k+2)*i≤4002*1000:=Nat.mul_le_mul (by omega) (by omega);have b3:=JT (L.getD i v0) (L.getD ((i+1)%L.length) v0);have b4:=h i;have b5:=h ((i+1)%L.length);have ha:=Bt (Au L i) (Xp (L.getD i v0) (L.getD ((i+1)%L.length) v0)) (by unfold rm;omega) (by unfold rm;omega);refine Tf (str:=[]) (hcs:=[]) ht mixed (by kernel_rfl) (by kernel_rfl) rfl (fun p hp=>?_) (fun o ho=>?_) (fun l r hr=>?_)
  ·have hp':p=8∨p=9:=by simpa using hp
   rcases hp' with rfl |rfl <;> exact Nat.le_of_ble_eq_true rfl
  ·simp only[List.mem_cons,List.not_mem_nil,or_false]at ho
   rcases ho with rfl |rfl
   ·exact bA.1
   ·exact(bB (i+1)).1
  show Run _ _ ⟨6,[8,9],[Ql L,.any,.ref 0 0 0,.ref 1 0 0,.any,.any],[(9,vA (L.getD ((i+1)%L.length) v0)),(8,vA (L.getD i v0)),(7,.fn 236 [.ptr 1 (Xf [Ql L]) 0])],[KQ,CG L i]⟩;refine Xk ?_;simp only[KQ,CG,↓X4,wA,seval,zA,qA,qC,vA,vC,Jb,wN];refine U8 hr ?_;refine Xk ?_;simp only[↓X4,wA,seval,zA,qA,qC,vA,vC,Jb,wN];refine X1 hc rfl ?_;simp only[↓X4,wA,seval,zA,qA,qC,vA,vC,Jb,wN];refine X1 ha rfl ?_;simp only[↓X4,wA,seval,zA,qA,qC,vA,vC,Jb,wN];exact wu rfl
 ·refine Xk ?_
  simp only[KQ,CG,↓X4,wA,seval,zA,qA,qC,vA,vC,Jb,wN];refine X1 (Cz 1 2 ⟨by omega,by omega⟩ ⟨by omega,by omega⟩) rfl ?_;simp only[↓X4,wA,seval,zA,qA,qC,vA,vC,Jb,wN];have hm:=Aq (Au L L.length) (Rat.divInt 1 2) (by unfold rm;omega) (by
   have:qb (Rat.divInt 1 2)≤3:=KK _ _ _ (by omega) (Zt ⟨by omega,by omega⟩) (Zt ⟨by omega,by omega⟩);unfold rm;omega)
  rw[show Au L L.length*Rat.divInt 1 2=KT L from rfl,←hR]at hm;refine X1 hm rfl ?_;simp only[hR,↓X4,wA,seval,zA,qA,qC,vA,vC,Jb,wN];exact J2 rfl XR rfl rfl rfl sR (hR.trans rfl)
theorem ug (L:List V2)(i:Nat)(hn:L.length<1000000)(h0:L.length≠0)(hi:i<1000000000) :
  Fn Tryz.prog 142 [I i,.ptr 1 (Xf [Ql L]) 0,.ptr 1 (Xf [I L.length]) 0] (vA (L.getD (i%L.length) v0)):=by
 obtain⟨R,hR⟩:∃R,R=vA (L.getD (i%L.length) v0):=⟨_,rfl⟩
 have sR:Settled R:=hR▸Xt _;have hm:(i:Int).tmod L.length=((i%L.length:Nat):Int):=rfl;have hml:i%L.length<L.length:=Nat.mod_lt _ (by omega);have f4:(i%L.length<L.length)=True:=eq_true hml;have f5:(i%L.length*8+8≤L.length*8)=True:=eq_true (by omega);have f6:((L.length:Int)=0)=False:=eq_false (by omega);have f6':(L.length=0)=False:=eq_false h0;have v1:=vF L (i%L.length);have hs0:Settled (.ptr 1 (Xf [Ql L]) 0):=XI fun j hj=>by
   obtain rfl:j=0:=by omega
   exact Xq L
 have hs1:Settled (.ptr 1 (Xf [I L.length]) 0):=XI fun j hj=>by
   obtain rfl:j=0:=by omega
   exact Xb _
 rw[←hR];refine Fq Tryz.call142 Tryz.func142 5 [] [] [] (by simp[Xb,hs0,hs1]) (Xk ?_);simp only[AS.start,X7,f4,f5,f6,f6',hm,v1,Int.toNat_natCast,↓X4,wA,seval,zA,qA,qC,vA,vC,Jb,wN];exact A0 rfl Jm rfl rfl rfl sR (hR.trans rfl)
def atF (L:List V2)(i:Nat):V2:=L.getD (i%L.length) v0
def Vs (L:List V2)(i:Nat):Prop:=JX (atF L i) (atF L (i+1)) (atF L (i+2))=0
def Vr (L:List V2)(i k:Nat):Prop:=(k+1)%L.length≠i∧Zx (atF L i) (atF L (i+1)) (atF L k) (atF L (k+1))=true
def ie (L:List V2)(i:Nat):Prop:=¬Vs L i∧∀k,i+2≤k→k<L.length→¬Vr L i k
def Bk (L:List V2):Prop:=(3≤L.length∧L.length≤12)∧(∀i,i<L.length→ie L i)∧0<(KT L).num.sign
theorem Hx (L:List V2)(h:QN L 1000)(hl:L.length<1000000):Fn Tryz.prog 62 [Ql L] (.bool (decide (Bk L))):=by
 obtain⟨V,hV⟩:∃V,V=decide (Bk L):=⟨_,rfl⟩
 rw[←hV];have fin:∀ {s:AS} {v:Bool},s.get 2=.bool v→v=V→RetOk (Ju Tryz.prog Tryz.f62 [] [] (.bool V)) s:=fun h e=>Xo rfl h (X5 _) (by rw[e])
 have hs0:Settled (.ptr 1 (Xf [Ql L]) 0):=XI fun j hj=>by
   obtain rfl:j=0:=by omega
   exact Xq L
 have hs1:Settled (.ptr 1 (Xf [I L.length]) 0):=XI fun j hj=>by
   obtain rfl:j=0:=by omega
   exact Xb _
 have sm:∀i,vb (atF L i)≤vs:=fun i=>by have:=h (i%L.length);unfold atF vs;omega
 refine Fq Tryz.call62 Tryz.func62 9 [17,18,19,35,36] [] [] (by simp[Xq]) (Xk ?_);by_cases hlo:(L.length:Int)<3
 ·have f1:((L.length:Int)<3)=True:=eq_true hlo
  simp only[AS.start,X7,f1,↓X4,wA,seval,zA,qA,qC,vA,vC,Jb,wN];exact fin rfl (by rw[hV,decide_eq_false];unfold Bk;omega)
 have f1:((L.length:Int)<3)=False:=eq_false hlo;by_cases hhi:(12:Int)<L.length
 ·have f2:((12:Int)<L.length)=True:=eq_true hhi
  simp only[AS.start,X7,f1,f2,↓X4,wA,seval,zA,qA,qC,vA,vC,Jb,wN];exact fin rfl (by rw[hV,decide_eq_false];unfold Bk;omega)
 have f2:((12:Int)<L.length)=False:=eq_false hhi;simp only[AS.start,X7,f1,f2,↓X4,wA,seval,zA,qA,qC,vA,vC,Jb,wN];have b0:Jq 0 (.ptr 1 (Xf [Ql L]) 0)=True:=eq_true (X6 hs0);have b1:Jq 0 (.ptr 1 (Xf [I L.length]) 0)=True:=eq_true (X6 hs1);have b2:Jq 0 (Ql L)=True:=eq_true (X6 (Xq L));refine Xj (fun i:Nat=>⟨9,[17,18,19,35,36],[.any,.ptr 1 (Xf [Ql L]) 0,.bool false,.ptr 1 (Xf [I L.length]) 0,.any,.any,.any,.any,.any],[(17,Ql L),(18,I L.length),(19,I i)],[]⟩) (fun i=>i≤L.length) (fun i=>L.length-i) 0 (by omega)
  ((XC 0 rfl).trans ((XC 1 rfl).trans ((Xy 1 rfl rfl (by omega)).trans ((Xy 3 rfl rfl (by omega)).trans (XT (m:=0) (Nat.zero_le _) rfl (by simp[AS.put,X7,Xm,X8,Qs,I]) (by simp[AS.put,X7,Xw,XA,I]) rfl (by simp[b0,b1,XW]) (by simp[b2,XW]) (by simp)))))) ?_
 intro i hi next
 have w1:=wj i (by omega);have rv:∀r:Rat,qb r≤1000→Fn Tryz.prog 141 [qA r] (.bool true):=fun r hr=>by
  have h1:=RQ.of_sz r;have:=O5 (RQ.of r) (by omega);rwa[decide_eq_true ⟨r,rfl⟩]at this
 by_cases hi2:i<L.length
 ·have f3:((i:Int)<L.length)=True:=eq_true (by omega)
  have f4:(i<L.length)=True:=eq_true hi2;have f5:(i*8+8≤L.length*8)=True:=eq_true (by omega);have v1:=vF L i;have hx:=J8 (L.getD i v0);have hy:=J4 (L.getD i v0);have hb:=h i;refine Xk ?_;simp only[X7,w1,f3,f4,f5,v1,Int.toNat_natCast,↓X4,wA,seval,zA,qA,qC,vA,vC,Jb,wN];refine X1 (rv (L.getD i v0).x (by omega)) rfl ?_;simp only[↓X4,wA,seval,zA,qA,qC,vA,vC,Jb,wN];refine X1 (rv (L.getD i v0).y (by omega)) rfl ?_;simp only[w1,↓X4,wA,seval,zA,qA,qC,vA,vC,Jb,wN];exact next (i+1) _ (by omega) (by omega) (XT (m:=0) (Nat.zero_le _) rfl (by simp[X7,Xm,X8,Qs,I]) (by simp[X7,Xw,XA,I]) rfl (by simp[b0,b1,XW]) (by simp[b2,XW]) (by simp))
 obtain rfl:i=L.length:=by omega
 refine Xk ?_;simp only[X7,Int.lt_irrefl,Nat.lt_irrefl,↓X4,wA,seval,zA,qA,qC,vA,vC,Jb,wN];have hn0:L.length≠0:=by omega
 have cat:∀j:Nat,j<1000000000→Fn Tryz.prog 142 [I j,.ptr 1 (Xf [Ql L]) 0,.ptr 1 (Xf [I L.length]) 0] (vA (atF L j)):=fun j hj=>ug L j hl hn0 hj
 have b3:Jq 0 (.fn 142 [.ptr 1 (Xf [Ql L]) 0,.ptr 1 (Xf [I L.length]) 0])=True:=eq_true (X6 (Jg (by
  intro a ha;simp only[List.mem_cons,List.not_mem_nil,or_false]at ha;rcases ha with rfl |rfl
  ·exact hs0
  ·exact hs1)))
 refine Xj (fun i:Nat=>⟨9,[17,18,19,35,36],[.any,.ptr 1 (Xf [Ql L]) 0,.bool false,.ptr 1 (Xf [I L.length]) 0,.any,.any,.fn 142 [.ptr 1 (Xf [Ql L]) 0,.ptr 1 (Xf [I L.length]) 0],.any,.any],[(35,I L.length),(36,I i)],[]⟩) (fun i=>i≤L.length∧∀j,j<i→ie L j) (fun i=>L.length-i) 0 ⟨by omega,by omega⟩
  (XT (m:=0) (Nat.zero_le _) rfl (by simp[X7,Xm,X8,Qs,I]) (by simp[X7,Xw,XA,I]) rfl (by simp[b0,b1,b3,XW]) (by simp[b2,XW]) (by simp)) ?_
 rintro i ⟨hi,hgood⟩ next
 have w1:=wj i (by omega);have w2:IntKind.i64.wrap ((i:Int)+2)=((i+2:Nat):Int):=by rw[IntKind.wrap_i64];omega
 by_cases hi2:i<L.length
 rotate_left
 ·obtain rfl:i=L.length:=by omega
  refine Xk ?_;simp only[X7,Int.lt_irrefl,Nat.lt_irrefl,↓X4,wA,seval,zA,qA,qC,vA,vC,Jb,wN];have ca:=mb L 1000 h (by omega) (by omega);have cs:=Qe (KT L);refine X1 ca rfl ?_;simp only[↓X4,wA,seval,zA,qA,qC,vA,vC,Jb,wN];refine X1 cs rfl ?_;simp only[↓X4,wA,seval,zA,qA,qC,vA,vC,Jb,wN];exact fin rfl (by rw[hV,decide_eq_decide];unfold Bk;exact⟨fun h=>⟨by omega,hgood,h⟩,fun h=>h.2.2⟩)
 have f3:((i:Int)<L.length)=True:=eq_true (by omega);have f4:(i<L.length)=True:=eq_true hi2;refine Xk ?_;simp only[w1,w2,f3,f4,Int.toNat_natCast,↓X4,wA,seval,zA,qA,qC,vA,vC,Jb,wN];refine X1 (cat i (by omega)) rfl ?_;simp only[w1,w2,↓X4,wA,seval,zA,qA,qC,vA,vC,Jb,wN];refine X1 (cat (i+1) (by omega)) rfl ?_;simp only[w1,w2,↓X4,wA,seval,zA,qA,qC,vA,vC,Jb,wN];refine X1 (cat (i+2) (by omega)) rfl ?_;simp only[w1,w2,↓X4,wA,seval,zA,qA,qC,vA,vC,Jb,wN];refine X1 (BZ _ _ _ (sm _) (sm _) (sm _)) rfl ?_;by_cases hs:JX (atF L i) (atF L (i+1)) (atF L (i+2))=0
 ·have f5:(JX (atF L i) (atF L (i+1)) (atF L (i+2))=0)=True:=eq_true hs
  simp only[f5,↓X4,wA,seval,zA,qA,qC,vA,vC,Jb,wN];exact fin rfl (by rw[hV,decide_eq_false];exact fun hp=>(hp.2.1 i hi2).1 hs)
 have f5:(JX (atF L i) (atF L (i+1)) (atF L (i+2))=0)=False:=eq_false hs;simp only[f5,w1,w2,↓X4,wA,seval,zA,qA,qC,vA,vC,Jb,wN];refine Xj (fun k:Nat=>⟨9,[17,18,19,35,36],[.any,.ptr 1 (Xf [Ql L]) 0,.bool false,.ptr 1 (Xf [I L.length]) 0,.any,.any,.fn 142 [.ptr 1 (Xf [Ql L]) 0,.ptr 1 (Xf [I L.length]) 0],I i,I k],[(35,I L.length),(36,I i)],[]⟩) (fun k=>i+2≤k∧k≤L.length+2∧∀j,i+2≤j→j<k→j<L.length→¬Vr L i j) (fun k=>L.length+2-k) (i+2) ⟨by omega,by omega,by omega⟩
  (Xi rfl (by simp[Xm,I]) (by simp[Xw,XA,I]) rfl) ?_
 rintro k ⟨hk1,hk2,hpair⟩ nextk;have u1:=wj k (by omega);by_cases hk3:k<L.length
 rotate_left
 ·have g3:((k:Int)<L.length)=False:=eq_false (by omega)
  have g4:(k<L.length)=False:=eq_false hk3;refine Xk ?_;simp only[g3,g4,w1,↓X4,wA,seval,zA,qA,qC,vA,vC,Jb,wN];refine next (i+1) _ ⟨by omega,fun j hj=>?_⟩ (by omega) (Xi rfl (by simp[Xm,I]) (by simp[Xw,XA,I]) rfl)
  by_cases hji:j<i
  ·exact hgood j hji
  ·obtain rfl:j=i:=by omega
   exact⟨hs,fun q hq1 hq2=>hpair q hq1 (by omega) hq2⟩
 have g3:((k:Int)<L.length)=True:=eq_true (by omega);have g4:(k<L.length)=True:=eq_true hk3;have hm:((k+1:Nat):Int).tmod L.length=(((k+1)%L.length:Nat):Int):=rfl;have f6:((L.length:Int)=0)=False:=eq_false (by omega);have f6':(L.length=0)=False:=eq_false hn0;by_cases hne:(k+1)%L.length=i
 ·have g5:((k+1)%L.length=i)=True:=eq_true hne
  have g6:((((k+1)%L.length:Nat):Int)=(i:Int))=True:=eq_true (by omega);refine Xk ?_;simp only[g3,g4,g5,g6,w1,u1,hm,f6,f6',↓X4,wA,seval,zA,qA,qC,vA,vC,Jb,wN];exact nextk (k+1) _ ⟨by omega,by omega,fun j h1 h2 h3=>by
   by_cases hjk:j<k
   ·exact hpair j h1 hjk h3
   ·obtain rfl:j=k:=by omega
    exact fun hb=>hb.1 hne⟩ (by omega) (Xi rfl (by simp[Xm,I]) (by simp[Xw,XA,I]) rfl)
 have g5:((k+1)%L.length=i)=False:=eq_false hne;have g6:((((k+1)%L.length:Nat):Int)=(i:Int))=False:=eq_false (by omega);refine Xk ?_;simp only[g3,g4,g5,g6,w1,u1,hm,f6,f6',↓X4,wA,seval,zA,qA,qC,vA,vC,Jb,wN];refine X1 (cat i (by omega)) rfl ?_;simp only[g5,g6,w1,u1,↓X4,wA,seval,zA,qA,qC,vA,vC,Jb,wN];refine X1 (cat (i+1) (by omega)) rfl ?_;simp only[g5,g6,w1,u1,↓X4,wA,seval,zA,qA,qC,vA,vC,Jb,wN];refine X1 (cat k (by omega)) rfl ?_;simp only[g5,g6,w1,u1,↓X4,wA,seval,zA,qA,qC,vA,vC,Jb,wN];refine X1 (cat (k+1) (by omega)) rfl ?_;simp only[g5,g6,w1,u1,↓X4,wA,seval,zA,qA,qC,vA,vC,Jb,wN];refine X1 (iQ _ _ _ _ (sm _) (sm _) (sm _) (sm _)) rfl ?_;by_cases hmt:Zx (atF L i) (atF L (i+1)) (atF L k) (atF L (k+1))=true
 ·rw[hmt]
  simp only[g5,g6,↓X4,wA,seval,zA,qA,qC,vA,vC,Jb,wN];exact fin rfl (by rw[hV,decide_eq_false];exact fun hp=>(hp.2.1 i hi2).2 k hk1 hk3 ⟨hne,hmt⟩)
 ·have hmf:=Bool.not_eq_true _▸hmt
  rw[hmf];simp only[g5,g6,u1,↓X4,wA,seval,zA,qA,qC,vA,vC,Jb,wN];exact nextk (k+1) _ ⟨by omega,by omega,fun j h1 h2 h3=>by
   by_cases hjk:j<k
   ·exact hpair j h1 hjk h3
   ·obtain rfl:j=k:=by omega
    exact fun hb=>hmt hb.2⟩ (by omega) (Xi rfl (by simp[Xm,I]) (by simp[Xw,XA,I]) rfl)
def vR (p:Int×Int):List AV:=[I p.1,I p.2]
def wK (l:List (Int×Int)):AV:=jX vR 2 (0,0) l
theorem SC (l:List (Int×Int)):Settled (wK l):=Z5 fun a x hx=>by
 have:∀x∈vR a,Settled x:=by simp[vR,Xb]
 exact this x hx
theorem ow (l:List (Int×Int)):wK l=.sl l.length (l.length*2) (XD vR 2 (0,0) l) false:=nrfl rfl
theorem Yn (l:List Bool):Cf l=.sl l.length l.length (QL AV.bool false l) false:=nrfl rfl
theorem Xl (l:List Int):X8 l=.sl l.length l.length (QL I 0 l) false:=nrfl rfl
theorem rf (f:Nat→AV)(m:Nat)(g:Nat→AV)(j:Nat):Qf 0 f m g j=if j<m then g j else f j:=by simp[Qf]
theorem Yw {P:Program}{fn:Func}{str hcs:List Nat}{s:AS}{t n m es ver id:Nat}{f g:Nat→AV}(hr:fn.results=#[.tmp t])(hs:s.get t=.osl id ver es 0 n)(ho:s.h[id]?=some (.row ver m (Qf 0 f m g))) (hn:n=0→m=0) (hg:∀j,j<m→Settled (g j)) :
  RetOk (Ju P fn str hcs (.sl n m g false)) s:=by
 refine C4 hr ?_;rw[hs];refine Z2 (.inl ho) (by omega) hn fun j hj=>?_
 rw[Nat.zero_add,rf,if_pos hj];exact(hg j hj).sees _
theorem TZ {P:Program}{fn:Func}{str hcs:List Nat}{s:AS}{t:Nat}{f g:Nat→AV}{b:Bool}(hr:fn.results=#[.tmp t])(hs:s.get t=.sl 0 0 f b):RetOk (Ju P fn str hcs (.sl 0 0 g false)) s:=by
 refine C4 hr ?_;rw[hs];exact US
theorem wC (z:Int):zA z=.agg [.bool (decide (z<0)),X8 (X9 z.natAbs)]:=nrfl rfl
theorem wB (v:V2):vC v=[.bool (decide (v.x.num<0)),X8 (X9 v.x.num.natAbs),.bool false,X8 (X9 (qd v.x)),.bool (decide (v.y.num<0)),X8 (X9 v.y.num.natAbs),.bool false,X8 (X9 (qd v.y))]:=nrfl rfl
theorem wz (v:V2):vA v=.agg (vC v):=nrfl rfl
theorem ws (r:Rat):qC r=[.bool (decide (r.num<0)),X8 (X9 r.num.natAbs),.bool false,X8 (X9 (qd r))]:=nrfl rfl
theorem wr (r:Rat):qA r=.agg (qC r):=nrfl rfl
set_option linter.defProp false in
def wS:=And.intro Kc (And.intro @Xa (And.intro @Xt (And.intro @Xh (And.intro @SC @N8))))
set_option linter.defProp false in
def wE:=And.intro @wC (And.intro @wB (And.intro @wz (And.intro @ws (And.intro @wr (And.intro @ow (And.intro @Yn (And.intro Jb wN)))))))
set_option linter.defProp false in
def wF:=And.intro wA wE
end
end Go.Ab.N
namespace Go.Ab.N
open Go Go.RowKit Go.Proofs
noncomputable section
set_option maxRecDepth 10000
set_option maxHeartbeats 4000000
open Classical
theorem wR {a b:Int}(h:a<b):(a<b)=True:=eq_true h
theorem wa {a b:Int}(h:b≤a):(a<b)=False:=eq_false (by omega)
theorem wP {a b:Int}(h:a≤b):(a≤b)=True:=eq_true h
theorem vZ {a b:Int}(h:b<a):(a≤b)=False:=eq_false (by omega)
theorem wO {a b:Int}(h:a=b):(a=b)=True:=eq_true h
theorem vY {a b:Int}(h:a≠b):(a=b)=False:=eq_false h
theorem wV {a b:Nat}(h:a<b):(a<b)=True:=eq_true h
theorem wn {a b:Nat}(h:b≤a):(a<b)=False:=eq_false (by omega)
theorem wU {a b:Nat}(h:a≤b):(a≤b)=True:=eq_true h
theorem wk {a b:Nat}(h:b<a):(a≤b)=False:=eq_false (by omega)
theorem wg {a b:Nat}(h:a=b):(a=b)=True:=eq_true h
theorem wh {a b:Nat}(h:a≠b):(a=b)=False:=eq_false h
theorem uG {x:Int}(h:-9223372036854775808≤x∧x<9223372036854775808):IntKind.i64.wrap x=x:=by rw[IntKind.wrap_i64];omega
theorem wb {n:Nat}:(n:Int).toNat=n:=Int.toNat_natCast n
theorem vG (f:Nat→AV)(i:Nat)(v:AV)(j:Nat):DS f i v j=if j=i then v else f j:=nrfl rfl
def bW (l:List AV)(i:Nat)(a:AV):Nat→AV:=DS (Xf l) i a
def Vx (x:AV)(f:Nat→AV):Nat→AV:=fun j=>match j with |0=>x |j+1=>f j
theorem tH (l:List AV)(i:Nat)(a:AV):DS (Xf l) i a=bW l i a:=nrfl rfl
theorem tJ (x a:AV)(l:List AV):bW (x :: l) 0 a=Xf (a :: l):=by
 funext j;unfold bW DS Xf;cases j <;> simp
theorem tI (x a:AV)(l:List AV)(n:Nat):bW (x :: l) (n+1) a=Vx x (bW l n a):=by
 funext j;unfold bW DS Xf Vx;cases j <;> simp
theorem mQ (x:AV)(l:List AV):Vx x (Xf l)=Xf (x :: l):=by
 funext j;unfold Xf Vx;cases j <;> simp
def sg (x:Rat):Bool:=decide (x.num<0)
theorem ww (x:Rat):decide (x.num<0)=sg x:=nrfl rfl
set_option linter.defProp false in
def wD:=And.intro @vG (And.intro @tH <| And.intro @tJ <| And.intro @tI <| And.intro @mQ <| And.intro @wR (And.intro @wa (And.intro @wP (And.intro @vZ (And.intro @wO (And.intro @vY (And.intro @wV (And.intro @wn (And.intro @wU (And.intro @wk (And.intro @wg (And.intro @wh (And.intro @uG @wb)))))))))))))
set_option linter.defProp false in
def Xd:=And.intro @ww X4
set_option linter.defProp false in
def wG:=And.intro wD wF
theorem QX {m v n:Nat}{L:List AV}(h:∀x∈L,Settled x):Qa m (.row v n (Xf L)):=fun j _=>X6 (Xe h j)
theorem JB (f:Nat→AV)(t:Bool):Settled (.sl 0 0 f t):=J3 fun j hj=>absurd hj (Nat.not_lt_zero j)
theorem GO (q:Rat):q.num.sign<0↔q<0:=by rw[Int.sign_neg_iff,Rat.lt_iff];simp
theorem DG (q:Rat):0<q.num.sign↔0<q:=by rw[Int.sign_pos_iff,Rat.lt_iff];simp
theorem Wv (q:Rat):q.num.sign=0↔q=0:=by rw[Int.sign_eq_zero_iff_zero];exact Rat.num_eq_zero
end
end Go.Ab.N
namespace Go.Ab.N
open Go Go.RowKit Go.Proofs
noncomputable section
set_option maxRecDepth 10000
set_option maxHeartbeats 2000000
open Classical
theorem NZ (a b:Int)(la:bl a<4611686018427387904)(lb:bl b<4611686018427387904):Fn Tryz.prog 169 [zA a,zA b] (I (a-b).sign):=by
 unfold bl at la lb;have c1:=B7 (X9 b.natAbs) (X9 a.natAbs) (XV _) (XV _) lb;have c2:=B7 (X9 a.natAbs) (X9 b.natAbs) (XV _) (XV _) la;rw[Xx,Xx]at c1 c2;obtain⟨V,hV⟩:∃V,V=(a-b).sign:=⟨_,rfl⟩
 rw[←hV];have fin:∀ {s:AS} {v:Int},s.get 4=I v→v=V→RetOk (Ju Tryz.prog Tryz.f169 [] [] (I V)) s:=fun h e=>Xo rfl h (Xb _) (by rw[e])
 refine Fq Tryz.call169 Tryz.func169 5 [] [] [] (by simp[XM]) (Xk ?_);by_cases ha:a<0
 ·have f1:(a<0)=True:=eq_true ha
  by_cases hb:b<0
  ·have f2:(b<0)=True:=eq_true hb
   simp only[AS.start,f1,f2,qs,↓X4,wF,seval];refine X1 c1 rfl ?_;simp only[↓X4,wF,seval];refine fin rfl ?_;rw[hV];congr 1;omega
  ·have f2:(b<0)=False:=eq_false hb
   simp only[AS.start,f1,f2,qr,↓X4,wF,seval];refine fin rfl ?_;rw[hV,Int.sign_eq_neg_one_of_neg (by omega)]
 ·have f1:(a<0)=False:=eq_false ha
  by_cases hb:b<0
  ·have f2:(b<0)=True:=eq_true hb
   simp only[AS.start,f1,f2,qp,↓X4,wF,seval];refine fin rfl ?_;rw[hV,Int.sign_eq_one_of_pos (by omega)]
  ·have f2:(b<0)=False:=eq_false hb
   simp only[AS.start,f1,f2,qo,↓X4,wF,seval];refine X1 c2 rfl ?_;simp only[↓X4,wF,seval];refine fin rfl ?_;rw[hV];congr 1;omega
theorem UM (a:Int)(la:bl a<4611686018427387904):Fn Tryz.prog 89 [zA a] (I a.sign):=by
 have c:=NZ a 0 la (by unfold bl;rw[Int.natAbs_zero,Qj];decide);rw[Int.sub_zero]at c;refine Fq Tryz.call89 Tryz.func89 3 [] [] [] (by simp[wS]) (Xk ?_);simp(maxSteps:=999999)only[AS.start,↓X4,wF,seval];refine X0 c ⟨Weak.rfl' _,?_,trivial⟩ ?_
 ·exact ZR ⟨Weak.rfl' _,Zn (by rw[Int.natAbs_zero,Qj]),trivial⟩
 simp only[↓X4,wF,seval];exact Xo rfl rfl (Xb _) rfl
theorem Ac (r:Rat):Fn Tryz.prog 79 [qA r] (zA r.den):=by
 obtain⟨R,hR⟩:∃R,R=zA r.den:=⟨_,rfl⟩
 have sR:Settled R:=hR▸XM _;rw[←hR];rw[kZ]at hR;by_cases h:r.den=1
 ·have f1:((X9 (qd r)).length=0)=True:=eq_true ((Ds r).2 h)
  have f2:(((X9 (qd r)).length:Int)=0)=True:=eq_true (by have:=(Ds r).2 h;omega);refine Fq Tryz.call79 Tryz.func79 3 [] [] [] (by simp[wS]) (Xk ?_);simp(maxSteps:=999999)only[AS.start,↓X4,wF,seval];simp only[f1,f2,↓X4,wF,seval];refine X1 (DA 1 ⟨by omega,by omega⟩) rfl ?_;simp only[↓X4,wF,seval];exact J2 rfl XX rfl rfl rfl sR (by rw[hR,h];rfl)
 ·have f1:((X9 (qd r)).length=0)=False:=eq_false fun e=>h ((Ds r).1 e)
  have f2:(((X9 (qd r)).length:Int)=0)=False:=eq_false fun e=>h ((Ds r).1 (by omega))
  refine Fq Tryz.call79 Tryz.func79 3 [] [] [] (by simp[wS]) (Xk ?_);simp(maxSteps:=999999)only[AS.start,↓X4,wF,seval];simp only[f1,f2,↓X4,wF,seval];exact J2 rfl XX rfl rfl rfl sR (by rw[hR,ju h];rfl)
theorem JU (r:Rat)(h:qb r≤rm):Fn Tryz.prog 25 [qA r] (I r.num.sign):=by
 have h1:=Jz r;have c:=UM r.num (by unfold rm at h;omega);refine Fq Tryz.call25 Tryz.func25 3 [] [] [] (by simp[wS]) (Xk ?_);simp(maxSteps:=999999)only[AS.start,↓X4,wF,seval];refine X1 c rfl ?_;simp only[↓X4,wF,seval];exact Xo rfl rfl (Xb _) rfl
theorem Z1 (a b:Rat)(ha:qb a≤rm)(hb:qb b≤rm):Fn Tryz.prog 87 [qA a,qA b] (I (Bs a b)):=by
 unfold rm at ha hb;have a1:=Jz a;have a2:=JG a;have b1:=Jz b;have b2:=JG b;have m1:=ZO a.num b.den (by unfold room;omega) (by unfold room;omega);have m2:=ZO b.num a.den (by unfold room;omega) (by unfold room;omega);have n1:=JE a.num b.den;have n2:=JE b.num a.den;have c:=NZ (a.num*b.den) (b.num*a.den) (by omega) (by omega);have d1:=Ac a;have d2:=Ac b;obtain⟨V,hV⟩:∃V,V=Bs a b:=⟨_,rfl⟩
 rw[show(a.num*b.den-b.num*a.den).sign=V from hV.symm]at c;rw[←hV];refine Fq Tryz.call87 Tryz.func87 5 [] [] [] (by simp[wS]) (Xk ?_);simp(maxSteps:=999999)only[AS.start,↓X4,wF,seval];refine X1 d2 rfl ?_;simp only[↓X4,wF,seval];refine X1 m1 rfl ?_;simp only[↓X4,wF,seval];refine X1 d1 rfl ?_;simp only[↓X4,wF,seval];refine X1 m2 rfl ?_;simp only[↓X4,wF,seval];refine X1 c rfl ?_;simp only[↓X4,wF,seval];exact Xo rfl rfl (Xb _) rfl
theorem K5 (a b:Rat)(ha:qb a≤rm)(hb:qb b≤rm):Fn Tryz.prog 19 [qA a,qA b] (qA (a+b)):=by
 unfold rm at ha hb;have a1:=Jz a;have a2:=JG a;have b1:=Jz b;have b2:=JG b;have m1:=ZO a.num b.den (by unfold room;omega) (by unfold room;omega);have m2:=ZO b.num a.den (by unfold room;omega) (by unfold room;omega);have m3:=ZO a.den b.den (by unfold room;omega) (by unfold room;omega);have n1:=JE a.num b.den;have n2:=JE b.num a.den;have n3:=JE a.den b.den;have n4:=TS (a.num*b.den) (b.num*a.den);have s1:=S9 (a.num*b.den) (b.num*a.den) (by unfold room;omega) (by unfold room;omega);have k:=EP (a.num*b.den+b.num*a.den) (a.den*b.den) (by omega) (by omega);have e0:a+b=Rat.divInt (a.num*b.den+b.num*a.den) (a.den*b.den):=by
  rw[Rat.add_def',Zi];push_cast;rfl
 rw[←e0]at k;have d1:=Ac a;have d2:=Ac b;obtain⟨R,hR⟩:∃R,R=qA (a+b):=⟨_,rfl⟩
 have sR:Settled R:=hR▸Xa _;rw[←hR]at k ⊢;refine Fq Tryz.call19 Tryz.func19 7 [] [1,2,3,20000002,20000003,30000002,30000003,40000002,40000003,40000005,40000006] [] (by simp[wS]) (Xk ?_);simp(maxSteps:=999999)only[AS.start,↓X4,wF,seval];refine X1 d2 rfl ?_;simp only[↓X4,wF,seval];refine X1 m1 rfl ?_;simp only[↓X4,wF,seval];refine X1 d1 rfl ?_;simp only[↓X4,wF,seval];refine X1 m2 rfl ?_;simp only[↓X4,wF,seval];refine X1 s1 rfl ?_;simp only[↓X4,wF,seval];refine X1 d1 rfl ?_;simp only[↓X4,wF,seval];refine X1 d2 rfl ?_;simp only[↓X4,wF,seval];refine X1 m3 rfl ?_;simp only[↓X4,wF,seval];refine X1 k rfl ?_;simp only[hR,↓X4,wF,seval];exact J2 rfl XR rfl rfl rfl sR (hR.trans rfl)
theorem J1 (a b:Rat)(ha:qb a≤rm)(hb:qb b≤rm):Fn Tryz.prog 93 [qA a,qA b] (qA (a*b)):=by
 unfold rm at ha hb;have a1:=Jz a;have a2:=JG a;have b1:=Jz b;have b2:=JG b;have m1:=ZO a.num b.num (by unfold room;omega) (by unfold room;omega);have m3:=ZO a.den b.den (by unfold room;omega) (by unfold room;omega);have n1:=JE a.num b.num;have n3:=JE a.den b.den;have k:=EP (a.num*b.num) (a.den*b.den) (by omega) (by omega);have e0:a*b=Rat.divInt (a.num*b.num) (a.den*b.den):=by
  rw[Rat.mul_def',Zi];push_cast;rfl
 rw[←e0]at k;have d1:=Ac a;have d2:=Ac b;obtain⟨R,hR⟩:∃R,R=qA (a*b):=⟨_,rfl⟩
 have sR:Settled R:=hR▸Xa _;rw[←hR]at k ⊢;refine Fq Tryz.call93 Tryz.func93 5 [] [] [] (by simp[wS]) (Xk ?_);simp(maxSteps:=999999)only[AS.start,↓X4,wF,seval];refine X1 m1 rfl ?_;simp only[↓X4,wF,seval];refine X1 d1 rfl ?_;simp only[↓X4,wF,seval];refine X1 d2 rfl ?_;simp only[↓X4,wF,seval];refine X1 m3 rfl ?_;simp only[↓X4,wF,seval];refine X1 k rfl ?_;simp only[hR,↓X4,wF,seval];exact J2 rfl XR rfl rfl rfl sR (hR.trans rfl)
theorem sT (r:Rat):qd (-r)=qd r:=by unfold qd;rw[Rat.neg_den]
theorem Jw (r:Rat)(h:qb r≤rm):Fn Tryz.prog 106 [qA r] (qA (-r)):=by
 unfold rm at h;have h1:=Jz r;have c:=Mo r.num (by unfold room;omega);have e:qA (-r)=.agg [.bool (decide (-r.num<0)),X8 (X9 (-r.num).natAbs),.bool false,X8 (X9 (qd r))]:=by
  unfold qA qC;rw[sT,Rat.neg_num]
 obtain⟨R,hR⟩:∃R,R=qA (-r):=⟨_,rfl⟩
 have sR:Settled R:=hR▸Xa _;rw[←hR];refine Fq Tryz.call106 Tryz.func106 3 [] [] [] (by simp[wS]) (Xk ?_);simp(maxSteps:=999999)only[AS.start,↓X4,wF,seval];refine X1 c rfl ?_;simp only[↓X4,wF,seval];exact J2 rfl XR rfl rfl rfl sR (hR.trans e)
theorem Dq (r:Rat):qb (-r)=qb r:=by
 unfold qb bl;rw[Rat.neg_den,Rat.neg_num,Int.natAbs_neg]
theorem C2 (a b:Rat)(ha:qb a≤rm)(hb:qb b≤rm):Fn Tryz.prog 176 [qA a,qA b] (qA (a-b)):=by
 have c:=Jw b hb;have k:=K5 a (-b) ha (by rw[Dq];exact hb);rw[←Rat.sub_eq_add_neg]at k;obtain⟨R,hR⟩:∃R,R=qA (a-b):=⟨_,rfl⟩
 have sR:Settled R:=hR▸Xa _;rw[←hR]at k ⊢;refine Fq Tryz.call176 Tryz.func176 5 [] [] [] (by simp[wS]) (Xk ?_);simp(maxSteps:=999999)only[AS.start,↓X4,wF,seval];refine X1 c rfl ?_;simp only[↓X4,wF,seval];refine X1 k rfl ?_;simp only[hR,↓X4,wF,seval];exact J2 rfl XR rfl rfl rfl sR (hR.trans rfl)
theorem GD (neg:Bool)(d:List Int)(hl:d.length<4611686018427387904):Fn Tryz.prog 168 [zR neg d] (.bool (Kn neg d)):=by
 obtain⟨V,hV⟩:∃V,V=Kn neg d:=⟨_,rfl⟩
 rw[←hV];unfold Kn at hV;have fin:∀ {s:AS} {v:Bool},s.get 2=.bool v→v=V→RetOk (Ju Tryz.prog Tryz.f168 [] [] (.bool V)) s:=fun h e=>Xo rfl h (X5 _) (by rw[e])
 refine Fq Tryz.call168 Tryz.func168 4 [] [] [] (by simp[Xh]) (Xk ?_);simp only[AS.start,zR,↓X4,wF,seval];refine Xj (fun i:Nat=>⟨4,[],[.any,.ref 0 0 0,.bool false,I i],[],[.row 0 2 (Xf [.bool neg,X8 d])]⟩) (fun i=>i≤d.length∧∀j,j<i→FZ (d.getD j 0)=false) (fun i=>d.length-i) 0 ⟨by omega,by omega⟩
  (BA (by simp[Xm,I]) (by simp[Xl])) ?_
 rintro i ⟨hi,hok⟩ next
 have w1:=wj i (by omega);by_cases hi2:i<d.length
 ·have f1:((i:Int)<d.length)=True:=eq_true (by omega)
  have f2:(i<d.length)=True:=eq_true hi2;have bad:FZ (d.getD i 0)=true→false=V:=fun h=>by
   have:d.any FZ=true:=List.any_eq_true.2 ⟨d.getD i 0,Gh hi2,h⟩;rw[hV,this];rfl
  by_cases g1:d.getD i 0<0
  ·have k1:(d.getD i 0<0)=True:=eq_true g1
   refine Xk ?_;simp only[Xl,w1,f1,f2,k1,Int.toNat_natCast,↓X4,wF,seval];exact fin rfl (bad (by unfold FZ;rw[decide_eq_true g1];rfl))
  have k1:(d.getD i 0<0)=False:=eq_false g1;by_cases g2:1000000000≤d.getD i 0
  ·have k2:(1000000000≤d.getD i 0)=True:=eq_true g2
   refine Xk ?_;simp only[Xl,w1,f1,f2,k1,k2,Int.toNat_natCast,↓X4,wF,seval];exact fin rfl (bad (by unfold FZ;rw[decide_eq_true g2];simp))
  have k2:(1000000000≤d.getD i 0)=False:=eq_false g2;refine Xk ?_;simp only[Xl,w1,f1,f2,k1,k2,Int.toNat_natCast,↓X4,wF,seval];refine next (i+1) _ ⟨by omega,fun j hj=>?_⟩ (by omega) (BA (by simp[Xm,I]) (by simp[Xl]))
  by_cases e:j<i
  ·exact hok j e
  ·obtain rfl:j=i:=by omega
   unfold FZ;rw[decide_eq_false g1,decide_eq_false g2];rfl
 obtain rfl:i=d.length:=by omega
 have hall:d.any FZ=false:=by
  rw[List.any_eq_false];intro x hx;obtain⟨k,hk,rfl⟩:=List.getElem_of_mem hx;have:=hok k hk;rw[List.getD_eq_getElem?_getD,List.getElem?_eq_getElem hk]at this
  simpa using this
 rw[hall]at hV;by_cases h0:d.length=0
 ·have f1:(d.length=0)=True:=eq_true h0
  have f2:((d.length:Int)=0)=True:=eq_true (by omega);refine Xk ?_;simp only[Xl,f1,f2,Int.lt_irrefl,Nat.lt_irrefl,↓X4,wF,seval];exact fin rfl (by rw[hV,if_pos h0];simp)
 ·have f1:(d.length=0)=False:=eq_false h0
  have f2:((d.length:Int)=0)=False:=eq_false (by omega);have f3:(0<d.length)=True:=eq_true (by omega);have f4:(0<(d.length:Int))=True:=eq_true (by omega);have w2:IntKind.i64.wrap ((d.length:Int)-1)=((d.length-1:Nat):Int):=by rw[IntKind.wrap_i64];omega
  have f5:(d.length-1<d.length)=True:=eq_true (by omega);refine Xk ?_;simp only[Xl,f1,f2,f3,f4,f5,w2,Int.toNat_natCast,Int.lt_irrefl,Nat.lt_irrefl,↓X4,wF,seval];exact fin rfl (by rw[hV,if_neg h0];simp)
theorem GF (x:RQ)(hx:x.sz<1000000000):Fn Tryz.prog 86 [x.A] (.bool (decide x.ok)):=by
 unfold RQ.sz at hx;obtain⟨V,hV⟩:∃V,V=decide x.ok:=⟨_,rfl⟩
 have c1:=GD x.pn x.pd (by omega);have c2:=GD x.qn x.qd (by omega);have c3:=RL x.qn x.qd;have bad1:Kn x.pn x.pd=false→V=false:=fun h=>by
  rw[hV];refine decide_eq_false ?_;rintro⟨r,rfl⟩;have:Kn (RQ.of r).pn (RQ.of r).pd=true:=(Za _ _).2 ⟨r.num,rfl,rfl⟩;rw[this]at h;cases h
 have bad2:Kn x.qn x.qd=false→V=false:=fun h=>by
  rw[hV];refine decide_eq_false ?_;rintro⟨r,rfl⟩;have:Kn (RQ.of r).qn (RQ.of r).qd=true:=(Za _ _).2 ⟨(Ab.N.qd r:Int),by unfold RQ.of;simp,by unfold RQ.of;simp⟩;rw[this]at h;cases h
 have fin:∀ {s:AS} {v:Bool},s.get 2=.bool v→v=V→RetOk (Ju Tryz.prog Tryz.f86 [] [] (.bool V)) s:=fun h e=>Xo rfl h (X5 _) (by rw[e])
 rw[←hV];refine Fq Tryz.call86 Tryz.func86 3 [] [] [] (by simp[C6]) (Xk ?_);simp only[AS.start,RQ.A,RQ.L,↓X4,wF,seval];refine X1 c1 rfl ?_;by_cases v1:Kn x.pn x.pd=true
 rotate_left
 ·rw[Bool.not_eq_true]at v1
  rw[v1];simp only[↓X4,wF,seval];exact fin rfl (bad1 v1).symm
 rw[v1];simp only[↓X4,wF,seval];refine X1 c2 rfl ?_;by_cases v2:Kn x.qn x.qd=true
 rotate_left
 ·rw[Bool.not_eq_true]at v2
  rw[v2];simp only[↓X4,wF,seval];exact fin rfl (bad2 v2).symm
 rw[v2];obtain⟨p,p1,p2⟩:=(Za _ _).1 v1;obtain⟨q,q1,q2⟩:=(Za _ _).1 v2;have hok:=RQ.ok_iff x p q p1 p2 q1 q2;have lp:bl p<1000000000:=by unfold bl;rw[←p2];omega
 have lq:bl q<1000000000:=by unfold bl;rw[←q2];omega
 rw[q1,q2,Pn]at c3;have cg:=Sk p q lp lq;have cu:=P8 (Int.gcd p q);rw[p1,p2,q1,q2];have hl:((X9 q.natAbs).length=0)=(q=0):=propext (digs_len_zero.trans (by omega));have hlN:(X9 q.natAbs).length=0↔q=0:=digs_len_zero.trans (by omega);have hlI:(((X9 q.natAbs).length:Int)=0)=(q=0):=propext (by omega);by_cases h1:q<0
 ·have f1:(q<0)=True:=eq_true h1
  simp only[f1,↓X4,wF,seval];exact fin rfl (by rw[hV,decide_eq_false (by rw[hok];exact fun h=>h.1 h1)])
 have f1:(q<0)=False:=eq_false h1;simp only[f1,↓X4,wF,seval];have c3':=c3;rw[decide_eq_false h1]at c3';refine X1 c3' rfl ?_;by_cases h2:q=1
 ·have f2:(q=1)=True:=eq_true h2
  simp only[f1,f2,↓X4,wF,seval];exact fin rfl (by rw[hV,decide_eq_false (by rw[hok];exact fun h=>h.2.1 h2)])
 have f2:(q=1)=False:=eq_false h2;by_cases h0:q=0
 ·have f3:(q=0)=True:=eq_true h0
  simp only[f1,f2,f3,hl,hlI,↓X4,wF,seval];exact fin rfl (by rw[hV,decide_eq_true (hok.2 ⟨h1,h2,.inl h0⟩)])
 have f3:(q=0)=False:=eq_false h0;simp only[f1,f2,f3,hl,hlI,↓X4,wF,seval];rw[WK h1]at cg;refine X1 cg rfl ?_;simp only[↓X4,wF,seval];refine X1 cu rfl ?_;simp only[↓X4,wF,seval];refine fin rfl ?_;rw[hV,decide_eq_decide,hok];constructor
 ·intro h;exact⟨h1,h2,.inr (by omega)⟩
 ·rintro⟨_,_,h |h⟩
  ·exact absurd h h0
  ·rw[h];rfl
theorem Kh (x y:Int)(hx:BS x)(hy:BS y):Fn Tryz.prog 53 [I x,I y] (vA ⟨x,y⟩):=by
 have e:∀n:Int,Rat.divInt n 1=(n:Rat):=fun n=>by
  rw[show(1:Int)=((1:Nat):Int)from rfl,Rat.divInt_ofNat];have:=Rat.mkRat_self (n:Rat);rwa[Rat.num_intCast,Rat.den_intCast]at this
 obtain⟨R,hR⟩:∃R,R=vA ⟨x,y⟩:=⟨_,rfl⟩
 have sR:Settled R:=hR▸Xt _;have c1:=XP x 1 hx ⟨by omega,by omega⟩;have c2:=XP y 1 hy ⟨by omega,by omega⟩;rw[e]at c1 c2;rw[←hR];refine Fq Tryz.call53 Tryz.func53 5 [] [] [] (by simp[wS]) (Xk ?_);simp(maxSteps:=999999)only[AS.start,↓X4,wF,seval];refine X1 c1 rfl ?_;simp only[↓X4,wF,seval];refine X1 c2 rfl ?_;simp only[↓X4,wF,seval];exact A0 rfl Jm rfl rfl rfl sR (hR.trans rfl)
theorem QM (a b:V2)(ha:vb a≤rm)(hb:vb b≤rm):Fn Tryz.prog 97 [vA a,vA b] (vA (a.sub b)):=by
 obtain⟨R,hR⟩:∃R,R=vA (a.sub b):=⟨_,rfl⟩
 have sR:Settled R:=hR▸Xt _;have:=J8 a;have:=J8 b;have:=J4 a;have:=J4 b;have c1:=C2 a.x b.x (by omega) (by omega);have c2:=C2 a.y b.y (by omega) (by omega);rw[←hR];refine Fq Tryz.call97 Tryz.func97 5 [] [] [] (by simp[wS]) (Xk ?_);simp(maxSteps:=999999)only[AS.start,↓X4,wF,seval];refine X1 c1 rfl ?_;simp only[↓X4,wF,seval];refine X1 c2 rfl ?_;simp only[↓X4,wF,seval];exact A0 rfl Jm rfl rfl rfl sR (hR.trans rfl)
theorem Ky (a b:V2)(ha:vb a≤vm)(hb:vb b≤vm):Fn Tryz.prog 96 [vA a,vA b] (qA (Xp a b)):=by
 unfold vm at ha hb;obtain⟨R,hR⟩:∃R,R=qA (Xp a b):=⟨_,rfl⟩
 have sR:Settled R:=hR▸Xa _;have:=J8 a;have:=J8 b;have:=J4 a;have:=J4 b;have m1:=Qk a.x b.y;have m2:=Qk a.y b.x;have c1:=J1 a.x b.y (by unfold rm;omega) (by unfold rm;omega);have c2:=J1 a.y b.x (by unfold rm;omega) (by unfold rm;omega);have c4:=C2 (a.x*b.y) (a.y*b.x) (by unfold rm;omega) (by unfold rm;omega);rw[show a.x*b.y-a.y*b.x=Xp a b from rfl,←hR]at c4;rw[←hR];refine Fq Tryz.call96 Tryz.func96 5 [] [] [] (by simp[wS]) (Xk ?_);simp(maxSteps:=999999)only[AS.start,↓X4,wF,seval];refine X1 c1 rfl ?_;simp only[↓X4,wF,seval];refine X1 c2 rfl ?_;simp only[↓X4,wF,seval];refine X1 c4 rfl ?_;simp only[hR,↓X4,wF,seval];exact A0 rfl XR rfl rfl rfl sR (hR.trans rfl)
theorem K4 (a b:V2)(ha:vb a≤vm)(hb:vb b≤vm):Fn Tryz.prog 117 [vA a,vA b] (qA (Q8 a b)):=by
 unfold vm at ha hb;obtain⟨R,hR⟩:∃R,R=qA (Q8 a b):=⟨_,rfl⟩
 have sR:Settled R:=hR▸Xa _;have:=J8 a;have:=J8 b;have:=J4 a;have:=J4 b;have m1:=Qk a.x b.x;have m2:=Qk a.y b.y;have c1:=J1 a.x b.x (by unfold rm;omega) (by unfold rm;omega);have c2:=J1 a.y b.y (by unfold rm;omega) (by unfold rm;omega);have c4:=K5 (a.x*b.x) (a.y*b.y) (by unfold rm;omega) (by unfold rm;omega);rw[show a.x*b.x+a.y*b.y=Q8 a b from rfl,←hR]at c4;rw[←hR];refine Fq Tryz.call117 Tryz.func117 5 [] [] [] (by simp[wS]) (Xk ?_);simp(maxSteps:=999999)only[AS.start,↓X4,wF,seval];refine X1 c1 rfl ?_;simp only[↓X4,wF,seval];refine X1 c2 rfl ?_;simp only[↓X4,wF,seval];refine X1 c4 rfl ?_;simp only[hR,↓X4,wF,seval];exact A0 rfl XR rfl rfl rfl sR (hR.trans rfl)
theorem Sg (a b c:V2)(ha:vb a≤vs)(hb:vb b≤vs)(hc:vb c≤vs):Fn Tryz.prog 152 [vA a,vA b,vA c] (I (JX a b c)):=by
 unfold vs at ha hb hc;have m1:=QO b a;have m2:=QO c a;have c1:=QM b a (by unfold rm;omega) (by unfold rm;omega);have c2:=QM c a (by unfold rm;omega) (by unfold rm;omega);have c3:=Ky (b.sub a) (c.sub a) (by unfold vm;omega) (by unfold vm;omega);have q:=JT (b.sub a) (c.sub a);have c4:=JU (Xp (b.sub a) (c.sub a)) (by unfold rm;omega);refine Fq Tryz.call152 Tryz.func152 7 [] [] [] (by simp[wS]) (Xk ?_);simp(maxSteps:=999999)only[AS.start,↓X4,wF,seval];refine X1 c1 rfl ?_;simp only[↓X4,wF,seval];refine X1 c2 rfl ?_;simp only[↓X4,wF,seval];refine X1 c3 rfl ?_;simp only[↓X4,wF,seval];refine X1 c4 rfl ?_;simp only[↓X4,wF,seval];exact Xo rfl rfl (Xb _) rfl
end
end Go.Ab.N
