/- Contracts of functions, for every argument that fits. -/
import Derived.Test.YtcmfnmceomhgcaaGreatC4
import Derived.Test.YtcmfnmceomhgcaaGreatAb4
open And renaming intro → XB
set_option linter.unusedSimpArgs false
set_option linter.unusedVariables false
open Nat renaming reducePow → Y1, reduceLT → Y2, reduceLeDiff → Y3, reduceEqDiff → Y4, reduceAdd → Y5, reduceMul → Y6, reduceSub → Y7, reduceBEq → Y8, reduceDiv → Y9, reduceMod → YA
namespace Go.Ab.N
open Go Go.RowKit Go.Proofs
noncomputable section
set_option maxRecDepth 10000
set_option maxHeartbeats 2000000
open Classical
theorem Ms (x y:Int)(hx:bl x<1000000000)(hy:bl y<1000000000)(hy0:y≠0):Fn Tryz.prog 158 [zA x,zA y] (.tup [zA (x/y),zA (x%y)]):=by
 obtain⟨L,dL,vL,lL,cd⟩:=Uk x.natAbs y.natAbs hx hy (by omega);obtain⟨q,hq⟩:∃q,q=x.natAbs/y.natAbs:=⟨_,rfl⟩
 obtain⟨r,hr⟩:∃r,r=x.natAbs%y.natAbs:=⟨_,rfl⟩
 have hry:r<y.natAbs:=by rw[hr];exact Nat.mod_lt _ (by omega)
 have hqx:q≤x.natAbs:=by rw[hq];exact Nat.div_le_self _ _
 rw[←hq]at vL;rw[←hr]at cd;have lr:(X9 r).length<1000000000:=by
  have:=QU (y:=(r:Int)) (z:=y) (by omega);rw[K4]at this;omega
 have ly:(X9 y.natAbs).length<1000000000:=hy;have lry:(X9 r).length≤(X9 y.natAbs).length:=by
  have:=QU (y:=(r:Int)) (z:=y) (by omega);rw[K4]at this;exact this
 have y1:((X9 y.natAbs).length=0)=False:=eq_false (fun h=>by have:=digs_len_zero.1 h;omega);have y2:(((X9 y.natAbs).length:Int)=0)=False:=eq_false (fun h=>by have:=digs_len_zero.1 (show(X9 y.natAbs).length=0 by omega);omega);obtain⟨q1,r1,h1⟩:∃q1 r1,if x<0∧r≠0 then q1=q+1∧r1=y.natAbs-r else q1=q∧r1=r:=by
  by_cases h:x<0∧r≠0
  ·exact⟨q+1,y.natAbs-r,by rw[if_pos h];exact⟨rfl,rfl⟩⟩
  ·exact⟨q,r,by rw[if_neg h];exact⟨rfl,rfl⟩⟩
 obtain⟨e1,e2⟩:=Ly x y hy0 q r hq hr q1 r1 h1;obtain⟨s,hsg⟩:∃s,s=(decide (x<0) != decide (y<0)):=⟨_,rfl⟩
 have hsg':(!(decide (x<0) == decide (y<0)))=s:=by rw[hsg];cases decide (x<0) <;> cases decide (y<0) <;> rfl
 have c1:=JU s L dL (by omega);rw[vL]at c1;have c2:=JU false (X9 r) (XJ r) (by omega);rw[Xx,show KC false (r:Int)=(r:Int)from rfl,QO]at c2;obtain⟨Q,hQ⟩:∃Q,Q=zA (x/y):=⟨_,rfl⟩
 obtain⟨R,hR⟩:∃R,R=zA (x%y):=⟨_,rfl⟩
 have sQ:Settled Q:=hQ▸XE _;have sR:Settled R:=hR▸XE _;rw[←hQ,←hR];rw[e1,←hsg]at hQ;rw[e2,QO]at hR;have g1:∀n:Nat,(0<(X9 n).length)=(n≠0):=fun n=>propext (by have:=@digs_len_zero n;omega)
 have fin:∀ {s':AS},Zt Tryz.prog s' (.cell 4 26)=some (zA (KC s q1))→Zt Tryz.prog s' (.cell 5 26)=some (.agg [.bool false,X8 (X9 r1)]) →
   RetOk (Jv Tryz.prog Tryz.f158 [9,10000,100000009] [] (.tup [Q,R])) s':=fun h1 h2=>EW rfl h1 h2 (Qa sQ hQ.symm) (Qa sR hR.symm)
 by_cases hc:x<0∧r≠0
 ·obtain⟨hx0,hr0⟩:=hc
  rw[if_pos ⟨hx0,hr0⟩]at h1;obtain⟨rfl,rfl⟩:=h1;have c3:=JU s [1] (Z0.2 ⟨⟨by omega,by omega⟩,Cd⟩) (by simp);rw[show val [(1:Int)]=1 by simp[val]]at c3;have bq:bl (KC s (q:Int))<room:=by
   have h2:=QU (y:=KC s (q:Int)) (z:=x) (by unfold KC;split <;> omega);unfold room;omega
  have c4:=Su (KC s (q:Int)) (KC s 1) bq (by
   have:=Zw (n:=KC s 1) (by unfold KC;split <;> exact⟨by omega,by omega⟩);unfold room;omega)
  rw[show KC s (q:Int)+KC s 1=KC s ((q+1:Nat):Int)by unfold KC;split <;> omega]at c4;have cm:=EX (X9 y.natAbs) (X9 r) (XJ _) (XJ _) (by omega) lry (by rw[Xx,Xx];omega);have vm:=BQ (XJ y.natAbs) (XJ r) lry (by rw[Xx,Xx];omega);rw[Xx,Xx]at vm;have c5:=JU false (ZA (X9 y.natAbs) (X9 r)) (BP (XJ _) (XJ _)) (by unfold ZA;rw[Qc];omega);rw[vm,show KC false ((y.natAbs:Int)-r)=((y.natAbs-r:Nat):Int)by unfold KC;simp;omega,QO]at c5;have f1:(x<0)=True:=eq_true hx0;have f2:(0<(X9 r).length)=True:=eq_true (by rw[g1];exact hr0);have f3:(0<((X9 r).length:Int))=True:=eq_true (by have:=of_eq_true f2;omega);have hsT:(!(true == decide (y<0)))=s:=by rw[←hsg',decide_eq_true hx0]
  refine Fq Tryz.call158 Tryz.func158 10 [] [9,10000,100000009] [] (by simp[Kf,Xb,Xh]) (Xl ?_);simp(maxSteps:=999999)only[AS.start,↓X6,wA,seval,zA,qA,qC,wN];simp only[y1,y2,f1,↓X6,wA,seval,zA,qA,qC,wN];refine X1 cd rfl ?_;simp only[f1,decide_true,hsT,↓X6,wA,seval,zA,qA,qC,wN];refine X1 c1 rfl ?_;simp only[f1,f2,f3,decide_true,↓X6,wA,seval,zA,qA,qC,wN];refine X1 c2 rfl ?_;simp only[f1,f2,f3,hsT,decide_true,↓X6,wA,seval,zA,qA,qC,wN];refine X0 c3 ⟨Weak.rfl' _,BH rfl rfl,trivial⟩ ?_;simp only[↓X6,wA,seval,zA,qA,qC,wN];refine X1 c4 rfl ?_;simp only[↓X6,wA,seval,zA,qA,qC,wN];refine X1 cm rfl ?_;simp only[↓X6,wA,seval,zA,qA,qC,wN];refine X1 c5 rfl ?_;simp only[↓X6,wA,seval,zA,qA,qC,wN];exact fin (Xt XW rfl rfl rfl) (Xt XW rfl rfl rfl)
 rw[if_neg hc]at h1;obtain⟨rfl,rfl⟩:=h1;have zr:x<0→(0<(X9 r1).length)=False:=fun h=>eq_false (by rw[g1];exact fun h2=>hc ⟨h,h2⟩)
 by_cases hx0:x<0
 ·have f1:(x<0)=True:=eq_true hx0
  have f2:=zr hx0;have f3:(0<((X9 r1).length:Int))=False:=eq_false (by have:=of_eq_false f2;omega);have hsT:(!(true == decide (y<0)))=s:=by rw[←hsg',decide_eq_true hx0]
  refine Fq Tryz.call158 Tryz.func158 10 [] [9,10000,100000009] [] (by simp[Kf,Xb,Xh]) (Xl ?_);simp(maxSteps:=999999)only[AS.start,↓X6,wA,seval,zA,qA,qC,wN];simp only[y1,y2,f1,↓X6,wA,seval,zA,qA,qC,wN];refine X1 cd rfl ?_;simp only[f1,f2,f3,decide_true,hsT,↓X6,wA,seval,zA,qA,qC,wN];refine X1 c1 rfl ?_;simp only[f1,f2,f3,decide_true,↓X6,wA,seval,zA,qA,qC,wN];refine X1 c2 rfl ?_;simp only[f1,f2,f3,decide_true,↓X6,wA,seval,zA,qA,qC,wN];exact fin (Xt XW rfl rfl rfl) (Xt XW rfl rfl rfl)
 ·have f1:(x<0)=False:=eq_false hx0
  have hsT:(!(false == decide (y<0)))=s:=by rw[←hsg',decide_eq_false hx0]
  refine Fq Tryz.call158 Tryz.func158 10 [] [9,10000,100000009] [] (by simp[Kf,Xb,Xh]) (Xl ?_);simp(maxSteps:=999999)only[AS.start,↓X6,wA,seval,zA,qA,qC,wN];simp only[y1,y2,f1,↓X6,wA,seval,zA,qA,qC,wN];refine X1 cd rfl ?_;simp only[f1,decide_false,hsT,↓X6,wA,seval,zA,qA,qC,wN];refine X1 c1 rfl ?_;simp only[f1,decide_false,↓X6,wA,seval,zA,qA,qC,wN];refine X1 c2 rfl ?_;simp only[f1,decide_false,↓X6,wA,seval,zA,qA,qC,wN];exact fin (Xt XW rfl rfl rfl) (Xt XW rfl rfl rfl)
def Kz (x y:Int)(p:Nat×Nat):AS :=
  ⟨12,[],[.any,.any,.ref 0 0 0,.ref 1 0 0,.ref 2 0 0,.ref 3 0 0,.ref 4 0 0,.any,.any,.any,.any,.any],[],
    [.row 0 2 (Xg [.bool (decide (x<0)),X8 (X9 x.natAbs)]),.row 0 2 (Xg [.bool (decide (y<0)),X8 (X9 y.natAbs)]),.row 0 2 (Xg [.bool false,.sl 0 0 (fun _=>.any) true]),
     .row 0 2 (Xg [.bool false,X8 (X9 p.1)]),.row 0 2 (Xg [.bool false,X8 (X9 p.2)])]⟩
def DC (x y:Int)(A B:Nat)(p:Nat×Nat):AS :=
  ⟨12,[],[.any,.any,.ref 0 0 0,.ref 1 0 0,.ref 2 0 0,.ref 3 0 0,.ref 4 0 0,I p.1,I p.2,.any,.any,.any],[],
    [.row 0 2 (Xg [.bool (decide (x<0)),X8 (X9 x.natAbs)]),.row 0 2 (Xg [.bool (decide (y<0)),X8 (X9 y.natAbs)]),.row 0 2 (Xg [.bool false,.sl 0 0 (fun _=>.any) true]),
     .row 0 2 (Xg [.bool false,X8 (X9 A)]),.row 0 2 (Xg [.bool false,X8 (X9 B)])]⟩
theorem SF (x y:Int)(hx:bl x<1000000000)(hy:bl y<1000000000):Fn Tryz.prog 157 [zA x,zA y] (zA (Int.gcd x y)):=by
 have ofC:∀n:Nat,(X9 n).length<1000000002→Fn Tryz.prog 156 [.bool false,X8 (X9 n)] (.agg [.bool false,X8 (X9 n)]):=fun n h=>by
  have:=JU false (X9 n) (XJ n) (by omega);rw[Xx]at this;rw[←QO];exact this
 unfold bl at hx hy;have cx:=ofC x.natAbs (by omega);have cy:=ofC y.natAbs (by omega);obtain⟨R,hR⟩:∃R,R=zA (Int.gcd x y):=⟨_,rfl⟩
 have sR:Settled R:=hR▸XE _;rw[←hR];rw[QO]at hR;refine Fq Tryz.call157 Tryz.func157 12 [] [] [] (by simp[Kf,Xb,Xh]) (Xl ?_);simp(maxSteps:=999999)only[AS.start,↓X6,wA,seval,zA,qA,qC,wN];refine X1 cx rfl ?_;simp only[↓X6,wA,seval,zA,qA,qC,wN];refine X1 cy rfl ?_;simp only[↓X6,wA,seval,zA,qA,qC,wN];refine Xj (Kz x y) (oI x y) (fun p=>p.2) (x.natAbs,y.natAbs) ⟨rfl,hx,hy⟩ ?_ ?_
 ·exact Xi rfl (by simp[Kz,Xm]) (by simp[Kz,Xy]) rfl
 rintro⟨A,B⟩ ⟨g1,g2,g3⟩ next
 simp only at g1 g2 g3;by_cases hB:B=0
 ·have f1:(0<(X9 B).length)=False:=eq_false (by have:=@digs_len_zero B;omega)
  have f2:(0<((X9 B).length:Int))=False:=eq_false (by have:=@digs_len_zero B;omega);refine Xl ?_;simp only[Kz,f1,f2,↓X6,wA,seval,zA,qA,qC,wN];refine Q9 rfl XW rfl rfl rfl hR sR ?_;rw[hB,Nat.gcd_zero_right]at g1;rw[←g1];exact⟨Weak.rfl' _,Weak.rfl' _,trivial⟩
 have f1:(0<(X9 B).length)=True:=eq_true (by have:=@digs_len_zero B;omega);have f2:(0<((X9 B).length:Int))=True:=eq_true (by have:=@digs_len_zero B;omega);by_cases hAB:(X9 A).length≤2∧(X9 B).length≤2
 ·have c1:=IP _ (XJ A) hAB.1
  have c2:=IP _ (XJ B) hAB.2;rw[Xx]at c1 c2;have k1:(((X9 A).length:Int)≤2)=True:=eq_true (by omega);have k2:(((X9 B).length:Int)≤2)=True:=eq_true (by omega);have l1:=A5 hAB.1;have l2:=A5 hAB.2;refine Xl ?_;simp only[Kz,f1,f2,k1,k2,↓X6,wA,seval,zA,qA,qC,wN];refine X1 c1 rfl ?_;simp only[↓X6,wA,seval,zA,qA,qC,wN];refine X1 c2 rfl ?_;simp only[↓X6,wA,seval,zA,qA,qC,wN];refine Xj (DC x y A B) (fun p=>Nat.gcd p.1 p.2=Int.gcd x y∧(p.1:Int)<1000000000000000000∧(p.2:Int)<1000000000000000000) (fun p=>p.2) (A,B) ⟨g1,l1,l2⟩ (Xi rfl (by simp[DC,Xm,I]) (by simp[DC,Xy]) rfl) ?_;rintro⟨m,n⟩ ⟨h1,h2,h3⟩ next2;simp only at h1 h2 h3;by_cases hn:n=0
  ·have j1:(0<(n:Int))=False:=eq_false (by omega)
   have j1':(0<n)=False:=eq_false (by omega);have hm:m=Int.gcd x y:=by rw[hn,Nat.gcd_zero_right]at h1;exact h1
   have cu:=DE (m:Int) ⟨by omega,by omega⟩;rw[QO]at cu;refine Xl ?_;simp only[DC,j1,j1',↓X6,wA,seval,zA,qA,qC,wN];refine X1 cu rfl ?_;simp only[↓X6,wA,seval,zA,qA,qC,wN];refine Q9 rfl XW rfl rfl rfl hR sR ?_;rw[←hm];exact⟨Weak.rfl' _,Weak.rfl' _,trivial⟩
  ·have j1:(0<(n:Int))=True:=eq_true (by omega)
   have j1':(0<n)=True:=eq_true (by omega);have j2:((n:Int)=0)=False:=eq_false (by omega);have e2:(m:Int).tmod n=((m%n:Nat):Int):=rfl;have hlt:m%n<n:=Nat.mod_lt _ (by omega);refine Xl ?_;simp only[DC,j1,j1',j2,e2,↓X6,wA,seval,zA,qA,qC,wN];refine next2 (n,m%n) _ ⟨?_,h3,by simp only;omega⟩ hlt (Xi rfl (by simp[DC,Xm,I]) (by simp[DC,Xy]) rfl);simp only;rw[←h1,Nat.gcd_comm m n,Nat.gcd_rec n m,Nat.gcd_comm]
 ·have cd:=Ms (A:Int) (B:Int) (by rw[K4];exact g2) (by rw[K4];exact g3) (by omega)
  rw[show(A:Int)/B=((A/B:Nat):Int)from rfl,show(A:Int)%B=((A%B:Nat):Int)from rfl,QO,QO,QO,QO]at cd;have hlt:A%B<B:=Nat.mod_lt _ (by omega);have gnew:oI x y (B,A%B):=by
   refine⟨?_,g3,?_⟩
   ·simp only
    rw[←g1,Nat.gcd_comm A B,Nat.gcd_rec B A,Nat.gcd_comm]
   ·have:=QU (y:=((A%B:Nat):Int)) (z:=(B:Int)) (by omega)
    rw[K4,K4]at this;simp only;omega
  by_cases hA2:(X9 A).length≤2
  ·have k1:(((X9 A).length:Int)≤2)=True:=eq_true (by omega)
   have k2:(((X9 B).length:Int)≤2)=False:=eq_false fun h=>hAB ⟨hA2,by omega⟩
   refine Xl ?_;simp only[Kz,f1,f2,k1,k2,↓X6,wA,seval,zA,qA,qC,wN];refine X1 cd rfl ?_;simp only[↓X6,wA,seval,zA,qA,qC,wN];exact next (B,A%B) _ gnew hlt (XQ (m:=5) (Nat.zero_le _) rfl (by simp[zA,qA,qC,wN,Kz,Xm,X8,Qs,I]) (by simp[zA,qA,qC,wN,Kz,Xy]) (by simp[zA,qA,qC,wN,Kz,X8,Qs,I]) (by simp[zA,qA,qC,wN,Kz,XO]) (by simp[zA,qA,qC,wN,Kz,XO]) (by simp[zA,qA,qC,wN,Kz,XO]))
  ·have k1:(((X9 A).length:Int)≤2)=False:=eq_false (by omega)
   refine Xl ?_;simp only[Kz,f1,f2,k1,↓X6,wA,seval,zA,qA,qC,wN];refine X1 cd rfl ?_;simp only[↓X6,wA,seval,zA,qA,qC,wN];exact next (B,A%B) _ gnew hlt (XQ (m:=5) (Nat.zero_le _) rfl (by simp[zA,qA,qC,wN,Kz,Xm,X8,Qs,I]) (by simp[zA,qA,qC,wN,Kz,Xy]) (by simp[zA,qA,qC,wN,Kz,X8,Qs,I]) (by simp[zA,qA,qC,wN,Kz,XO]) (by simp[zA,qA,qC,wN,Kz,XO]) (by simp[zA,qA,qC,wN,Kz,XO]))
theorem SS (n1 n2:Bool)(a b:List Int)(la:a.length<4611686018427387904)(lb:b.length<4611686018427387904):Fn Tryz.prog 90 [zR n1 a,zR n2 b] (.bool (decide (n1=n2) && decide (a=b))):=by
 obtain⟨V,hV⟩:∃V,V=(decide (n1=n2) && decide (a=b)):=⟨_,rfl⟩
 rw[←hV];have fin:∀ {s:AS} {v:Bool},s.get 4=.bool v→v=V→RetOk (Jv Tryz.prog Tryz.f90 [] [] (.bool V)) s:=fun h e=>Xk rfl h (X5 _) (by rw[e])
 refine Fq Tryz.call90 Tryz.func90 6 [] [] [] (by simp[Xh]) (Xl ?_);by_cases hn:n1=n2
 rotate_left
 ·have hb:(!(n1 == n2))=true:=by simp[hn]
  simp only[AS.start,zR,hb,↓X6,wA,seval,zA,qA,qC,wN];exact fin rfl (by rw[hV,decide_eq_false hn];rfl)
 subst hn;have hb:(!(n1 == n1))=false:=by simp
 by_cases hl:a.length=b.length
 rotate_left
 ·have f1:((a.length:Int)=b.length)=False:=eq_false (by omega)
  have f1':(a.length=b.length)=False:=eq_false hl;simp only[AS.start,zR,hb,f1,f1',↓X6,wA,seval,zA,qA,qC,wN];exact fin rfl (by rw[hV,decide_eq_false (show ¬a=b from fun e=>hl (by rw[e])),Bool.and_false])
 have f1:((a.length:Int)=b.length)=True:=eq_true (by omega);have f1':(a.length=b.length)=True:=eq_true hl;simp only[AS.start,zR,hb,f1,f1',↓X6,wA,seval,zA,qA,qC,wN];refine Xj (fun j:Nat=>⟨6,[],[.any,.any,.ref 0 0 0,.ref 1 0 0,.any,I j],[],[.row 0 2 (Xg [.bool n1,X8 a]),.row 0 2 (Xg [.bool n1,X8 b])]⟩) (fun j=>j≤a.length∧∀i,i<j→a.getD i 0=b.getD i 0) (fun j=>a.length-j) 0 ⟨by omega,by omega⟩
  (Aw (by simp[Xm,X8,Qs,I]) rfl) ?_
 rintro j ⟨hj,hno⟩ next
 have w1:=wj j (by omega);by_cases hj2:j<a.length
 ·have f2:((j:Int)<a.length)=True:=eq_true (by omega)
  have f3:(j<a.length)=True:=eq_true hj2;have f4:(j<b.length)=True:=eq_true (by omega);refine Xl ?_;simp only[w1,f2,f3,f4,↓X6,wA,seval,zA,qA,qC,wN];refine⟨fun h=>fin rfl ?_,fun h=>next (j+1) _ ⟨by omega,fun i hi=>?_⟩ (by omega) (Aw (by simp[Xm,X8,Qs,I]) rfl)⟩
  ·rw[hV,decide_eq_false (show ¬a=b from fun e=>h (by rw[e])),Bool.and_false]
  ·by_cases e:i=j
   ·rw[e];exact h
   ·exact hno i (by omega)
 ·have f2:((j:Int)<a.length)=False:=eq_false (by omega)
  have f3:(j<a.length)=False:=eq_false hj2;refine Xl ?_;simp only[w1,f2,f3,↓X6,wA,seval,zA,qA,qC,wN];refine fin rfl ?_;have:a=b:=List.ext_getElem hl fun i h1 h2=>by
   have:=hno i (by omega);rw[List.getD_eq_getElem?_getD,List.getElem?_eq_getElem h1,List.getD_eq_getElem?_getD,List.getElem?_eq_getElem h2]at this;exact this
  rw[hV,decide_eq_true this];simp
theorem Ot (x y:RQ)(hx:x.sz<4611686018427387904)(hy:y.sz<4611686018427387904):Fn Tryz.prog 26 [x.A,y.A] (.bool (decide (x=y))):=by
 have c1:=SS x.pn y.pn x.pd y.pd (by unfold RQ.sz at hx;omega) (by unfold RQ.sz at hy;omega);have c2:=SS x.qn y.qn x.qd y.qd (by unfold RQ.sz at hx;omega) (by unfold RQ.sz at hy;omega);obtain⟨V,hV⟩:∃V,V=decide (x=y):=⟨_,rfl⟩
 rw[←hV];have e:=RQ.eq_iff x y;obtain⟨B1,hB1⟩:∃B,B=(decide (x.pn=y.pn) && decide (x.pd=y.pd)):=⟨_,rfl⟩
 obtain⟨B2,hB2⟩:∃B,B=(decide (x.qn=y.qn) && decide (x.qd=y.qd)):=⟨_,rfl⟩
 rw[←hB1]at c1;rw[←hB2]at c2;have hVB:V=(B1 && B2):=by
  rw[hV,hB1,hB2];simp only[e,Bool.decide_and]
 refine Fq Tryz.call26 Tryz.func26 5 [] [] [] (by simp[C3]) (Xl ?_);simp only[AS.start,RQ.A,RQ.L,↓X6,wA,seval,zA,qA,qC,wN];refine X1 c1 rfl ?_;cases B1
 ·simp only[↓X6,wA,seval,zA,qA,qC,wN]
  exact Xk (v:=.bool false) rfl rfl (X5 _) (by rw[hVB];rfl)
 ·simp only[↓X6,wA,seval,zA,qA,qC,wN]
  refine X1 c2 rfl ?_;simp only[↓X6,wA,seval,zA,qA,qC,wN];exact Xk (v:=.bool B2) rfl rfl (X5 _) (by rw[hVB];rfl)
theorem DG (a b:Rat)(ha:qb a≤rm)(hb:qb b≤rm):Fn Tryz.prog 26 [qA a,qA b] (.bool (decide (a=b))):=by
 unfold rm at ha hb;have h1:=RQ.of_sz a;have h2:=RQ.of_sz b;have:=Ot (RQ.of a) (RQ.of b) (by omega) (by omega);rw[show decide (RQ.of a=RQ.of b)=decide (a=b)from decide_eq_decide.2 ⟨RQ.of_inj,fun h=>by rw[h]⟩]at this;exact this
theorem Sg (neg:Bool)(d:List Int):Fn Tryz.prog 160 [zR neg d] (.bool (!neg && decide (d=[1]))):=by
 have hone:(d=[1])↔d.length=1∧d.getD 0 0=1:=by
  constructor
  ·rintro rfl;exact⟨rfl,rfl⟩
  ·rintro⟨h1,h2⟩
   obtain⟨x,rfl⟩:=List.length_eq_one_iff.1 h1;rw[show x=1 from h2]
 obtain⟨V,hV⟩:∃V,V=(!neg && decide (d=[1])):=⟨_,rfl⟩
 rw[←hV];have fin:∀ {s:AS} {v:Bool},s.get 2=.bool v→v=V→RetOk (Jv Tryz.prog Tryz.f160 [] [] (.bool V)) s:=fun h e=>Xk rfl h (X5 _) (by rw[e])
 by_cases h0:d.length=1
 ·have f1:(d.length=1)=True:=eq_true h0
  have f2:((d.length:Int)=1)=True:=eq_true (by omega);have f3:(0<d.length)=True:=eq_true (by omega);have f4:(0<(d.length:Int))=True:=eq_true (by omega);refine Fq Tryz.call160 Tryz.func160 3 [] [] [] (by simp[Xh]) (Xl ?_);cases neg
  all_goals
   simp only[AS.start,zR,f1,f2,f3,f4,↓X6,wA,seval,zA,qA,qC,wN];exact fin rfl (by rw[hV];simp[hone,h0])
 ·have f1:(d.length=1)=False:=eq_false h0
  have f2:((d.length:Int)=1)=False:=eq_false (by omega);have hne:¬d=[1]:=fun h=>h0 (hone.1 h).1
  refine Fq Tryz.call160 Tryz.func160 3 [] [] [] (by simp[Xh]) (Xl ?_);cases neg
  all_goals
   simp only[AS.start,zR,f1,f2,↓X6,wA,seval,zA,qA,qC,wN];exact fin rfl (by rw[hV];simp[hne])
theorem Pl (z:Int):Fn Tryz.prog 160 [zA z] (.bool (decide (z=1))):=by
 have:=Sg (decide (z<0)) (X9 z.natAbs);rw[PH]at this;exact this
theorem CT (p q:Int)(hp:bl p<1000000000)(hq:bl q<1000000000):Fn Tryz.prog 80 [zA p,zA q] (qA (Rat.divInt p q)):=by
 obtain⟨R,hR⟩:∃R,R=qA (Rat.divInt p q):=⟨_,rfl⟩
 have sR:Settled R:=hR▸Xb _;have zp:(((X9 p.natAbs).length:Int)=0)=(p=0):=propext (by have:=@digs_len_zero p.natAbs;omega);have zq:(((X9 q.natAbs).length:Int)=0)=(q=0):=propext (by have:=@digs_len_zero q.natAbs;omega);have z0:p=0∨q=0→R=.agg [.bool false,X8 [],.bool false,X8 []]:=by
  intro h;rw[hR,←Po];rcases h with rfl |rfl
  ·rw[Rat.zero_divInt]
  ·rw[Rat.divInt_zero]
 rw[←hR];by_cases hq0:q=0
 ·have f1:(q=0)=True:=eq_true hq0
  refine Fq Tryz.call80 Tryz.func80 10 [] [] [] (by simp[Kf,Xb,Xh]) (Xl ?_);simp(maxSteps:=999999)only[AS.start,↓X6,wA,seval,zA,qA,qC,wN];simp only[zq,f1,↓X6,wA,seval,zA,qA,qC,wN];exact Q9 rfl XT rfl rfl rfl (z0 (.inr hq0)) sR ⟨Weak.rfl' _,Qu _ _,Weak.rfl' _,Qu _ _,trivial⟩
 have f1:(q=0)=False:=eq_false hq0;by_cases hp0:p=0
 ·have f3:(p=0)=True:=eq_true hp0
  refine Fq Tryz.call80 Tryz.func80 10 [] [] [] (by simp[Kf,Xb,Xh]) (Xl ?_);simp(maxSteps:=999999)only[AS.start,↓X6,wA,seval,zA,qA,qC,wN];simp only[zp,zq,f1,f3,↓X6,wA,seval,zA,qA,qC,wN];exact Q9 rfl XT rfl rfl rfl (z0 (.inl hp0)) sR ⟨Weak.rfl' _,Qu _ _,Weak.rfl' _,Qu _ _,trivial⟩
 have f3:(p=0)=False:=eq_false hp0;have cg:=SF p q hp hq;obtain⟨g,hg⟩:∃g:Int,g=Int.gcd p q:=⟨_,rfl⟩
 have hg0:0<Int.gcd p q:=Int.gcd_pos_of_ne_zero_right _ hq0;have hgq:bl g≤bl q:=QU (by
  have:=Nat.le_of_dvd (by omega) (Int.gcd_dvd_natAbs_right p q);omega)
 rw[←hg]at cg;obtain⟨d1,d2,d3⟩:=DQ p q hq0 g hg;have c1:=Ms p g hp (by omega) (by omega);have c2:=Ms q g hq (by omega) (by omega);obtain⟨u,hu⟩:∃u,u=p/g:=⟨_,rfl⟩
 obtain⟨v,hv⟩:∃v,v=q/g:=⟨_,rfl⟩
 have hub:bl u≤bl p:=QU (by rw[hu];exact Int.natAbs_ediv_le_natAbs p g);have hvb:bl v≤bl q:=QU (by rw[hv];exact Int.natAbs_ediv_le_natAbs q g);rw[←hu]at c1 d1 d2;rw[←hv]at c2 d1 d2 d3;obtain⟨e1,e2⟩:=Lx u v d3 d2;have key:∀p' q':Int,p'=v.sign*u→q'=v.natAbs→(q'=1→R=.agg [.bool (decide (p'<0)),X8 (X9 p'.natAbs),.bool false,X8 []])∧(¬q'=1→R=.agg [.bool (decide (p'<0)),X8 (X9 p'.natAbs),.bool false,X8 (X9 q'.natAbs)]):=by
  intro p' q' hp' hq';constructor
  ·intro h
   rw[hR,←d1,Mo (by omega),e1,hp']
  ·intro h
   rw[hR,←d1,WD (by omega),e1,hp',e2,hq',Int.natAbs_natCast]
 by_cases hneg:v<0
 ·have g1:(v<0)=True:=eq_true hneg
  obtain⟨k1,k2⟩:=key (-u) (-v) (by rw[Int.sign_eq_neg_one_of_neg hneg];omega) (by omega);have co:=Pl (-v);have cn1:=GC u (by unfold room;omega);have cn2:=GC v (by unfold room;omega);rw[rD hneg]at cn2 c2;have f5:decide (-v<0)=false:=decide_eq_false (by omega);by_cases h1:-v=1
  ·simp only[h1,decide_true]at co
   have hk:=k1 h1;rw[h1]at cn2;refine Fq Tryz.call80 Tryz.func80 10 [] [] [] (by simp[Kf,Xb,Xh]) (Xl ?_);simp(maxSteps:=999999)only[AS.start,↓X6,wA,seval,zA,qA,qC,wN];simp only[zp,zq,f1,f3,↓X6,wA,seval,zA,qA,qC,wN];refine X1 cg rfl ?_;simp only[↓X6,wA,seval,zA,qA,qC,wN];refine X1 c1 rfl ?_;simp only[↓X6,wA,seval,zA,qA,qC,wN];refine X1 c2 rfl ?_;simp only[↓X6,wA,seval,zA,qA,qC,wN];refine X1 cn1 rfl ?_;simp only[↓X6,wA,seval,zA,qA,qC,wN];refine X1 cn2 rfl ?_;simp only[↓X6,wA,seval,zA,qA,qC,wN];refine X1 co rfl ?_;simp only[↓X6,wA,seval,zA,qA,qC,wN];exact Q9 rfl XT rfl rfl rfl hk sR ⟨Weak.rfl' _,Weak.rfl' _,Weak.rfl' _,Qu _ _,trivial⟩
  ·simp only[h1,decide_false]at co
   have hk:=k2 h1;refine Fq Tryz.call80 Tryz.func80 10 [] [] [] (by simp[Kf,Xb,Xh]) (Xl ?_);simp(maxSteps:=999999)only[AS.start,↓X6,wA,seval,zA,qA,qC,wN];simp only[zp,zq,f1,f3,↓X6,wA,seval,zA,qA,qC,wN];refine X1 cg rfl ?_;simp only[↓X6,wA,seval,zA,qA,qC,wN];refine X1 c1 rfl ?_;simp only[↓X6,wA,seval,zA,qA,qC,wN];refine X1 c2 rfl ?_;simp only[↓X6,wA,seval,zA,qA,qC,wN];refine X1 cn1 rfl ?_;simp only[↓X6,wA,seval,zA,qA,qC,wN];refine X1 cn2 rfl ?_;simp only[↓X6,wA,seval,zA,qA,qC,wN];refine X1 co rfl ?_;simp only[↓X6,wA,seval,zA,qA,qC,wN];exact J7 rfl XT rfl rfl rfl sR (by rw[hk,f5];rfl)
 ·have g1:(v<0)=False:=eq_false hneg
  obtain⟨k1,k2⟩:=key u v (by rw[Int.sign_eq_one_of_pos (by omega)];omega) (by omega);have co:=Pl v;rw[Yi hneg]at co c2;by_cases h1:v=1
  ·simp only[h1,decide_true]at co
   have hk:=k1 h1;rw[h1]at c2;refine Fq Tryz.call80 Tryz.func80 10 [] [] [] (by simp[Kf,Xb,Xh]) (Xl ?_);simp(maxSteps:=999999)only[AS.start,↓X6,wA,seval,zA,qA,qC,wN];simp only[zp,zq,f1,f3,↓X6,wA,seval,zA,qA,qC,wN];refine X1 cg rfl ?_;simp only[↓X6,wA,seval,zA,qA,qC,wN];refine X1 c1 rfl ?_;simp only[↓X6,wA,seval,zA,qA,qC,wN];refine X1 c2 rfl ?_;simp only[↓X6,wA,seval,zA,qA,qC,wN];refine X1 co rfl ?_;simp only[↓X6,wA,seval,zA,qA,qC,wN];exact Q9 rfl XT rfl rfl rfl hk sR ⟨Weak.rfl' _,Weak.rfl' _,Weak.rfl' _,Qu _ _,trivial⟩
  ·simp only[h1,decide_false]at co
   have hk:=k2 h1;refine Fq Tryz.call80 Tryz.func80 10 [] [] [] (by simp[Kf,Xb,Xh]) (Xl ?_);simp(maxSteps:=999999)only[AS.start,↓X6,wA,seval,zA,qA,qC,wN];simp only[zp,zq,f1,f3,↓X6,wA,seval,zA,qA,qC,wN];refine X1 cg rfl ?_;simp only[↓X6,wA,seval,zA,qA,qC,wN];refine X1 c1 rfl ?_;simp only[↓X6,wA,seval,zA,qA,qC,wN];refine X1 c2 rfl ?_;simp only[↓X6,wA,seval,zA,qA,qC,wN];refine X1 co rfl ?_;simp only[↓X6,wA,seval,zA,qA,qC,wN];exact J7 rfl XT rfl rfl rfl sR (by rw[hk];rfl)
theorem XS (p q:Int)(hp:KT p)(hq:KT q):Fn Tryz.prog 20 [I p,I q] (qA (Rat.divInt p q)):=by
 obtain⟨R,hR⟩:∃R,R=qA (Rat.divInt p q):=⟨_,rfl⟩
 have sR:Settled R:=hR▸Xb _;have cm:=CT p q (by have:=Zw hp;omega) (by have:=Zw hq;omega);rw[←hR]at cm ⊢;refine Fq Tryz.call20 Tryz.func20 5 [] [] [] (by simp[Kf,Xb,Xh]) (Xl ?_);simp(maxSteps:=999999)only[AS.start,↓X6,wA,seval,zA,qA,qC,wN];refine X1 (DE p hp) rfl ?_;simp only[↓X6,wA,seval,zA,qA,qC,wN];refine X1 (DE q hq) rfl ?_;simp only[↓X6,wA,seval,zA,qA,qC,wN];refine X1 cm rfl ?_;simp only[hR,↓X6,wA,seval,zA,qA,qC,wN];exact J7 rfl XT rfl rfl rfl sR (hR.trans rfl)
structure V2 where
 x:Rat
 y:Rat
def vC (v:V2):List AV:=[.bool (decide (v.x.num<0)),X8 (X9 v.x.num.natAbs),.bool false,X8 (X9 (qd v.x)),.bool (decide (v.y.num<0)),X8 (X9 v.y.num.natAbs),.bool false,X8 (X9 (qd v.y))]
def vA (v:V2):AV:=.agg (vC v)
theorem Xr (v:V2):Settled (vA v):=Xw (by simp[vC,Xc,X5])
def vb (v:V2):Nat:=max (qb v.x) (qb v.y)
theorem QS (v:V2):qb v.x≤vb v:=Nat.le_max_left _ _
theorem QN (v:V2):qb v.y≤vb v:=Nat.le_max_right _ _
def V2.sub (a b:V2):V2:=⟨a.x-b.x,a.y-b.y⟩
def V2.add (a b:V2):V2:=⟨a.x+b.x,a.y+b.y⟩
def Xp (a b:V2):Rat:=a.x*b.y-a.y*b.x
def XY (a b:V2):Rat:=a.x*b.x+a.y*b.y
def K0 (a b c:V2):Int:=(Xp (b.sub a) (c.sub a)).num.sign
theorem QX (a b:V2):vb (a.sub b)≤vb a+vb b+1:=by
 have:=Du a.x b.x;have:=Du a.y b.y;have:=QS a;have:=QS b;have:=QN a;have:=QN b;unfold V2.sub;show max (qb (a.x-b.x)) (qb (a.y-b.y))≤_;omega
theorem AU (a b:V2):vb (a.add b)≤vb a+vb b+1:=by
 have:=An a.x b.x;have:=An a.y b.y;have:=QS a;have:=QS b;have:=QN a;have:=QN b;unfold V2.add;show max (qb (a.x+b.x)) (qb (a.y+b.y))≤_;omega
theorem Ao (a b:V2):qb (Xp a b)≤2*(vb a+vb b)+1:=by
 have:=Qq a.x b.y;have:=Qq a.y b.x;have:=QS a;have:=QS b;have:=QN a;have:=QN b;have:=Du (a.x*b.y) (a.y*b.x);unfold Xp;omega
theorem Ky (a b:V2):qb (XY a b)≤2*(vb a+vb b)+1:=by
 have:=Qq a.x b.x;have:=Qq a.y b.y;have:=QS a;have:=QS b;have:=QN a;have:=QN b;have:=An (a.x*b.x) (a.y*b.y);unfold XY;omega
theorem Dv:qb 0≤1:=jS 0 1 (Nat.le_refl _) (by unfold bl;simp[Qi])
theorem BG {H:List AO}{a b:AV}(h:Weak a b):KR H a b:=fun c v _ _ hv=>h c v hv
theorem Zq {l:List Int}{f:Nat→AV}{t:Bool}(h:l=[]):Weak (.sl 0 0 f t) (X8 l):=by rw[h];exact Qu _ _
theorem Wz (a b:Rat)(ha:qb a≤30000000)(hb:qb b≤30000000):Fn Tryz.prog 214 [.sl 2 8 (Xg (qC a ++ qC b)) false] (qA (a+b)):=by
 obtain⟨R,hR⟩:∃R,R=qA (a+b):=⟨_,rfl⟩
 have sR:Settled R:=hR▸Xb _;have q0:=Dv;have c1:=Bt 0 a (by unfold rm;omega) (by unfold rm;omega);have c2:=Bt a b (by unfold rm;omega) (by unfold rm;omega);rw[Rat.zero_add]at c1;rw[←hR]at c2 ⊢;have hset:Settled (.sl 2 8 (Xg (qC a ++ qC b)) false):=Qk fun j hj=>by
  unfold Xg qC
  match j,hj with
  |0,_=>exact X5 _
  |1,_=>exact Xc _
  |2,_=>exact X5 _
  |3,_=>exact Xc _
  |4,_=>exact X5 _
  |5,_=>exact Xc _
  |6,_=>exact X5 _
  |7,_=>exact Xc _
  |j+8,h=>omega
 have bel2:Jo 2 (.sl 2 8 (Xg (qC a ++ qC b)) false):=X7 hset;simp only[qC,List.cons_append,List.nil_append]at bel2;have z1:((1:Nat):Int)=1:=rfl;have z2:((2:Nat):Int)=2:=rfl;have wr1:IntKind.i64.wrap 1=1:=by rw[IntKind.wrap_i64];omega
 have wr2:IntKind.i64.wrap 2=2:=by rw[IntKind.wrap_i64];omega
 refine Fn.intro (fn:=Tryz.f214) Tryz.call214 Tryz.func214 rfl mixed 6 [6,7,8] [] [] (by kernel_rfl) (Nat.le_of_ble_eq_true rfl) (by simpa using hset) (Xl ?_);simp only[AS.start,↓X6,wA,↓reduceIte,reduceIte,reduceCtorEq,Y1,Y2,Y3,Y4,Y5,Y6,Y7,Y8,Y9,YA,zA,qA,qC,vA,vC,wN];refine Xj (fun i:Nat=>⟨6,[6,7,8],[.any,.any,.ref 0 0 0,.ref 1 0 0,.any,.any],[(6,.sl 2 8 (Xg (qC a ++ qC b)) false),(7,I 2),(8,I i)],
  [.row 0 4 (Xg [.bool false,.sl 0 0 (fun _=>.any) true,.bool false,.sl 0 0 (fun _=>.any) true]),.row 0 4 (Xg (qC (if i=0 then 0 else if i=1 then a else a+b)))]⟩) (fun i=>i≤2) (fun i=>2-i) 0 (by omega) ?_ ?_
 ·refine(QL 1 (Xg (qC 0)) rfl fun j hj=>?_).trans (Xi rfl (by simp[Xm,qC,X8,Qs]) (by simp[Xy,Xz,qC,X8,Qs,I]) (by simp))
  match j,hj with
  |0,_=>exact XR _ _
  |1,_=>exact BG (Zq (by rw[Rat.zero_num];simp[Qi]))
  |2,_=>exact XR _ _
  |3,_=>exact BG (Zq (Mp rfl))
  |j+4,h=>omega
 intro i hi next
 rcases(show i=0∨i=1∨i=2 by omega)with rfl |rfl |rfl
 ·refine Xl ?_
  simp only[ite_true,z1,z2,wr1,wr2,Int.reduceLT,Int.reduceAdd,↓X6,wA,↓reduceIte,reduceIte,reduceCtorEq,Y1,Y2,Y3,Y4,Y5,Y6,Y7,Y8,Y9,YA,zA,qA,qC,vA,vC,wN];refine X1 c1 rfl ?_;simp only[z1,z2,wr1,wr2,Int.reduceAdd,↓X6,wA,↓reduceIte,reduceIte,reduceCtorEq,Y1,Y2,Y3,Y4,Y5,Y6,Y7,Y8,Y9,YA,zA,qA,qC,vA,vC,wN];exact next 1 _ (by omega) (by omega) (XQ (m:=2) (Nat.zero_le _) rfl (by simp[qC,Xm,X8,Qs,I]) (by simp[qC,Xy,Xz,X8,Qs,I]) (by simp[qC,X8,Qs,I]) (by simp[XO]) (by simp[qC,XO,bel2]) (by simp[qC,XO]))
 ·have e1:((1:Nat)=0)=False:=eq_false (by omega)
  refine Xl ?_;simp only[e1,ite_true,ite_false,z1,z2,wr1,wr2,Int.reduceLT,Int.reduceAdd,↓X6,wA,↓reduceIte,reduceIte,reduceCtorEq,Y1,Y2,Y3,Y4,Y5,Y6,Y7,Y8,Y9,YA,zA,qA,qC,vA,vC,wN];refine⟨by omega,X1 c2 rfl ?_⟩;simp only[hR,z1,z2,wr1,wr2,Int.reduceAdd,↓X6,wA,↓reduceIte,reduceIte,reduceCtorEq,Y1,Y2,Y3,Y4,Y5,Y6,Y7,Y8,Y9,YA,zA,qA,qC,vA,vC,wN];exact next 2 _ (by omega) (by omega) (XQ (m:=2) (Nat.zero_le _) rfl (by simp[qC,Xm,X8,Qs,I]) (by simp[qC,Xy,Xz,X8,Qs,I]) (by simp[qC,X8,Qs,I]) (by simp[XO]) (by simp[qC,XO,bel2]) (by simp[qC,XO]))
 ·have e1:((2:Nat)=0)=False:=eq_false (by omega)
  have e2:((2:Nat)=1)=False:=eq_false (by omega);refine Xl ?_;simp only[e1,e2,ite_false,z1,z2,wr1,wr2,Int.reduceLT,Int.reduceAdd,↓X6,wA,↓reduceIte,reduceIte,reduceCtorEq,Y1,Y2,Y3,Y4,Y5,Y6,Y7,Y8,Y9,YA,zA,qA,qC,vA,vC,wN];exact J7 rfl XT rfl rfl rfl sR (hR.trans rfl)
def vm:Nat:=10000000
theorem Zn {P:Program}{fn:Func}{str hcs:List Nat}{r:AV}{s:AS}{t u id ver n:Nat}{L:List AV}(hr:fn.results=#[.cell t u])(hk:C8 P u=some (some n)) (hs:s.get t=.ref id ver 0)
  (ho:s.h[id]?=some (.row ver n (Xg L))) (hn:L.length=n) (hset:Settled r) (e:r=.agg L):RetOk (Jv P fn str hcs r) s:=Q9 hr hk hs ho hn e hset (X2 L)
theorem AZ (a b:V2)(ha:vb a≤rm)(hb:vb b≤rm):Fn Tryz.prog 166 [vA a,vA b] (vA (a.sub b)):=by
 obtain⟨R,hR⟩:∃R,R=vA (a.sub b):=⟨_,rfl⟩
 have sR:Settled R:=hR▸Xr _;have:=QS a;have:=QS b;have:=QN a;have:=QN b;have c1:=EY a.x b.x (by omega) (by omega);have c2:=EY a.y b.y (by omega) (by omega);rw[←hR];refine Fq Tryz.call166 Tryz.func166 5 [] [] [] (by simp[Xc,Xa,Kq,JC,X5,Kr,XE,Xb,Xr,Xh,Ks,J0]) (Xl ?_);simp(maxSteps:=999999)only[AS.start,↓X6,wA,↓reduceIte,reduceIte,reduceCtorEq,Y1,Y2,Y3,Y4,Y5,Y6,Y7,Y8,Y9,YA,zA,qA,qC,vA,vC,wN];refine X1 c1 rfl ?_;simp only[↓X6,wA,↓reduceIte,reduceIte,reduceCtorEq,Y1,Y2,Y3,Y4,Y5,Y6,Y7,Y8,Y9,YA,zA,qA,qC,vA,vC,wN];refine X1 c2 rfl ?_;simp only[↓X6,wA,↓reduceIte,reduceIte,reduceCtorEq,Y1,Y2,Y3,Y4,Y5,Y6,Y7,Y8,Y9,YA,zA,qA,qC,vA,vC,wN];exact Zn rfl J6 rfl rfl rfl sR (hR.trans rfl)
theorem AD (a b:V2)(ha:vb a≤vm)(hb:vb b≤vm):Fn Tryz.prog 149 [vA a,vA b] (qA (Xp a b)):=by
 unfold vm at ha hb;obtain⟨R,hR⟩:∃R,R=qA (Xp a b):=⟨_,rfl⟩
 have sR:Settled R:=hR▸Xb _;have:=QS a;have:=QS b;have:=QN a;have:=QN b;have m1:=Qq a.x b.y;have m2:=Qq a.y b.x;have c1:=Ar a.x b.y (by unfold rm;omega) (by unfold rm;omega);have c2:=Ar a.y b.x (by unfold rm;omega) (by unfold rm;omega);have c3:=JX (a.y*b.x);have c4:=Wz (a.x*b.y) (-(a.y*b.x)) (by omega) (by rw[Dt];omega);rw[←Rat.sub_eq_add_neg,show a.x*b.y-a.y*b.x=Xp a b from rfl,←hR]at c4;rw[←hR];refine Fq Tryz.call149 Tryz.func149 5 [] [] [] (by simp[Xc,Xa,Kq,JC,X5,Kr,XE,Xb,Xr,Xh,Ks,J0]) (Xl ?_);simp(maxSteps:=999999)only[AS.start,↓X6,wA,↓reduceIte,reduceIte,reduceCtorEq,Y1,Y2,Y3,Y4,Y5,Y6,Y7,Y8,Y9,YA,zA,qA,qC,vA,vC,wN];refine X1 c1 rfl ?_;simp only[↓X6,wA,↓reduceIte,reduceIte,reduceCtorEq,Y1,Y2,Y3,Y4,Y5,Y6,Y7,Y8,Y9,YA,zA,qA,qC,vA,vC,wN];refine X1 c2 rfl ?_;simp only[↓X6,wA,↓reduceIte,reduceIte,reduceCtorEq,Y1,Y2,Y3,Y4,Y5,Y6,Y7,Y8,Y9,YA,zA,qA,qC,vA,vC,wN];refine X1 c3 rfl ?_;simp only[↓X6,wA,↓reduceIte,reduceIte,reduceCtorEq,Y1,Y2,Y3,Y4,Y5,Y6,Y7,Y8,Y9,YA,zA,qA,qC,vA,vC,wN];refine X1 c4 rfl ?_;simp only[hR,↓X6,wA,↓reduceIte,reduceIte,reduceCtorEq,Y1,Y2,Y3,Y4,Y5,Y6,Y7,Y8,Y9,YA,zA,qA,qC,vA,vC,wN];exact Zn rfl XT rfl rfl rfl sR (hR.trans rfl)
theorem Dr (a b:V2)(ha:vb a≤vm)(hb:vb b≤vm):Fn Tryz.prog 150 [vA a,vA b] (qA (XY a b)):=by
 unfold vm at ha hb;obtain⟨R,hR⟩:∃R,R=qA (XY a b):=⟨_,rfl⟩
 have sR:Settled R:=hR▸Xb _;have:=QS a;have:=QS b;have:=QN a;have:=QN b;have m1:=Qq a.x b.x;have m2:=Qq a.y b.y;have c1:=Ar a.x b.x (by unfold rm;omega) (by unfold rm;omega);have c2:=Ar a.y b.y (by unfold rm;omega) (by unfold rm;omega);have c4:=Wz (a.x*b.x) (a.y*b.y) (by omega) (by omega);rw[show a.x*b.x+a.y*b.y=XY a b from rfl,←hR]at c4;rw[←hR];refine Fq Tryz.call150 Tryz.func150 5 [] [] [] (by simp[Xc,Xa,Kq,JC,X5,Kr,XE,Xb,Xr,Xh,Ks,J0]) (Xl ?_);simp(maxSteps:=999999)only[AS.start,↓X6,wA,↓reduceIte,reduceIte,reduceCtorEq,Y1,Y2,Y3,Y4,Y5,Y6,Y7,Y8,Y9,YA,zA,qA,qC,vA,vC,wN];refine X1 c1 rfl ?_;simp only[↓X6,wA,↓reduceIte,reduceIte,reduceCtorEq,Y1,Y2,Y3,Y4,Y5,Y6,Y7,Y8,Y9,YA,zA,qA,qC,vA,vC,wN];refine X1 c2 rfl ?_;simp only[↓X6,wA,↓reduceIte,reduceIte,reduceCtorEq,Y1,Y2,Y3,Y4,Y5,Y6,Y7,Y8,Y9,YA,zA,qA,qC,vA,vC,wN];refine X1 c4 rfl ?_;simp only[hR,↓X6,wA,↓reduceIte,reduceIte,reduceCtorEq,Y1,Y2,Y3,Y4,Y5,Y6,Y7,Y8,Y9,YA,zA,qA,qC,vA,vC,wN];exact Zn rfl XT rfl rfl rfl sR (hR.trans rfl)
def vs:Nat:=100000
theorem BS (a b c:V2)(ha:vb a≤vs)(hb:vb b≤vs)(hc:vb c≤vs):Fn Tryz.prog 143 [vA a,vA b,vA c] (I (K0 a b c)):=by
 unfold vs at ha hb hc;have m1:=QX b a;have m2:=QX c a;have c1:=AZ b a (by unfold rm;omega) (by unfold rm;omega);have c2:=AZ c a (by unfold rm;omega) (by unfold rm;omega);have c3:=AD (b.sub a) (c.sub a) (by unfold vm;omega) (by unfold vm;omega);have c4:=Qj (Xp (b.sub a) (c.sub a));refine Fq Tryz.call143 Tryz.func143 7 [] [] [] (by simp[Xc,Xa,Kq,JC,X5,Kr,XE,Xb,Xr,Xh,Ks,J0]) (Xl ?_);simp(maxSteps:=999999)only[AS.start,↓X6,wA,↓reduceIte,reduceIte,reduceCtorEq,Y1,Y2,Y3,Y4,Y5,Y6,Y7,Y8,Y9,YA,zA,qA,qC,vA,vC,wN];refine X1 c1 rfl ?_;simp only[↓X6,wA,↓reduceIte,reduceIte,reduceCtorEq,Y1,Y2,Y3,Y4,Y5,Y6,Y7,Y8,Y9,YA,zA,qA,qC,vA,vC,wN];refine X1 c2 rfl ?_;simp only[↓X6,wA,↓reduceIte,reduceIte,reduceCtorEq,Y1,Y2,Y3,Y4,Y5,Y6,Y7,Y8,Y9,YA,zA,qA,qC,vA,vC,wN];refine X1 c3 rfl ?_;simp only[↓X6,wA,↓reduceIte,reduceIte,reduceCtorEq,Y1,Y2,Y3,Y4,Y5,Y6,Y7,Y8,Y9,YA,zA,qA,qC,vA,vC,wN];refine X1 c4 rfl ?_;simp only[↓X6,wA,↓reduceIte,reduceIte,reduceCtorEq,Y1,Y2,Y3,Y4,Y5,Y6,Y7,Y8,Y9,YA,zA,qA,qC,vA,vC,wN];exact Xk rfl rfl (Xa _) rfl
def O1 (a b p:V2):Bool:=decide (K0 a b p=0) && decide ((XY (a.sub p) (b.sub p)).num.sign≤0)
theorem Wm (a b p:V2)(ha:vb a≤vs)(hb:vb b≤vs)(hp:vb p≤vs):Fn Tryz.prog 211 [vA a,vA b,vA p] (.bool (O1 a b p)):=by
 have c1:=BS a b p ha hb hp;unfold vs at ha hb hp;have m1:=QX a p;have m2:=QX b p;have c2:=AZ a p (by unfold rm;omega) (by unfold rm;omega);have c3:=AZ b p (by unfold rm;omega) (by unfold rm;omega);have c4:=Dr (a.sub p) (b.sub p) (by unfold vm;omega) (by unfold vm;omega);have c5:=Qj (XY (a.sub p) (b.sub p));obtain⟨V,hV⟩:∃V,V=O1 a b p:=⟨_,rfl⟩
 rw[←hV];unfold O1 at hV;refine Fq Tryz.call211 Tryz.func211 7 [] [] [] (by simp[Xc,Xa,Kq,JC,X5,Kr,XE,Xb,Xr,Xh,Ks,J0]) (Xl ?_);simp(maxSteps:=999999)only[AS.start,↓X6,wA,↓reduceIte,reduceIte,reduceCtorEq,Y1,Y2,Y3,Y4,Y5,Y6,Y7,Y8,Y9,YA,zA,qA,qC,vA,vC,wN];refine X1 c1 rfl ?_;by_cases h:K0 a b p=0
 ·have f1:(K0 a b p=0)=True:=eq_true h
  simp only[f1,↓X6,wA,↓reduceIte,reduceIte,reduceCtorEq,Y1,Y2,Y3,Y4,Y5,Y6,Y7,Y8,Y9,YA,zA,qA,qC,vA,vC,wN];refine X1 c2 rfl ?_;simp only[↓X6,wA,↓reduceIte,reduceIte,reduceCtorEq,Y1,Y2,Y3,Y4,Y5,Y6,Y7,Y8,Y9,YA,zA,qA,qC,vA,vC,wN];refine X1 c3 rfl ?_;simp only[↓X6,wA,↓reduceIte,reduceIte,reduceCtorEq,Y1,Y2,Y3,Y4,Y5,Y6,Y7,Y8,Y9,YA,zA,qA,qC,vA,vC,wN];refine X1 c4 rfl ?_;simp only[↓X6,wA,↓reduceIte,reduceIte,reduceCtorEq,Y1,Y2,Y3,Y4,Y5,Y6,Y7,Y8,Y9,YA,zA,qA,qC,vA,vC,wN];refine X1 c5 rfl ?_;simp only[↓X6,wA,↓reduceIte,reduceIte,reduceCtorEq,Y1,Y2,Y3,Y4,Y5,Y6,Y7,Y8,Y9,YA,zA,qA,qC,vA,vC,wN];exact Xk rfl rfl (X5 _) (by rw[hV,decide_eq_true h];rfl)
 ·have f1:(K0 a b p=0)=False:=eq_false h
  simp only[f1,↓X6,wA,↓reduceIte,reduceIte,reduceCtorEq,Y1,Y2,Y3,Y4,Y5,Y6,Y7,Y8,Y9,YA,zA,qA,qC,vA,vC,wN];exact Xk rfl rfl (X5 _) (by rw[hV,decide_eq_false h];rfl)
def Br (a b c d:V2):Bool:=decide (K0 a b c*K0 a b d<0) && decide (K0 c d a*K0 c d b<0)
def Zz (a b c d:V2):Bool:=Br a b c d || O1 a b c || O1 a b d || O1 c d a || O1 c d b
theorem GL (a b c:V2):-1≤K0 a b c∧K0 a b c≤1:=by
 unfold K0;generalize (Xp (b.sub a) (c.sub a)).num=n;rcases Int.lt_trichotomy n 0 with h |h |h
 ·rw[Int.sign_eq_neg_one_of_neg h];omega
 ·rw[h];simp
 ·rw[Int.sign_eq_one_of_pos h];omega
theorem VL {x y:Int}(hx:-1≤x∧x≤1)(hy:-1≤y∧y≤1):IntKind.i64.wrap (x*y)=x*y:=by
 rcases(show x = -1∨x=0∨x=1 by omega)with rfl |rfl |rfl <;> rw[IntKind.wrap_i64] <;> omega
theorem jo (a b c d:V2)(ha:vb a≤vs)(hb:vb b≤vs)(hc:vb c≤vs)(hd:vb d≤vs):Fn Tryz.prog 144 [vA a,vA b,vA c,vA d] (.bool (Zz a b c d)):=by
 have c1:=BS a b c ha hb hc;have c2:=BS a b d ha hb hd;have c3:=BS c d a hc hd ha;have c4:=BS c d b hc hd hb;have d1:=Wm a b c ha hb hc;have d2:=Wm a b d ha hb hd;have d3:=Wm c d a hc hd ha;have d4:=Wm c d b hc hd hb;have w1:=VL (GL a b c) (GL a b d);have w2:=VL (GL c d a) (GL c d b);obtain⟨V,hV⟩:∃V,V=Zz a b c d:=⟨_,rfl⟩
 rw[←hV];unfold Zz Br at hV;have fin:∀ {s:AS} {v:Bool},s.get 8=.bool v→v=V→RetOk (Jv Tryz.prog Tryz.f144 [] [] (.bool V)) s:=fun h e=>Xk rfl h (X5 _) (by rw[e])
 obtain⟨B1,hB1⟩:∃B,B=O1 a b c:=⟨_,rfl⟩
 obtain⟨B2,hB2⟩:∃B,B=O1 a b d:=⟨_,rfl⟩
 obtain⟨B3,hB3⟩:∃B,B=O1 c d a:=⟨_,rfl⟩
 obtain⟨B4,hB4⟩:∃B,B=O1 c d b:=⟨_,rfl⟩
 rw[←hB1]at d1 hV;rw[←hB2]at d2 hV;rw[←hB3]at d3 hV;rw[←hB4]at d4 hV;refine Fq Tryz.call144 Tryz.func144 9 [] [] [] (by simp[Xc,Xa,Kq,JC,X5,Kr,XE,Xb,Xr,Xh,Ks,J0]) (Xl ?_);simp(maxSteps:=999999)only[AS.start,↓X6,wA,↓reduceIte,reduceIte,reduceCtorEq,Y1,Y2,Y3,Y4,Y5,Y6,Y7,Y8,Y9,YA,zA,qA,qC,vA,vC,wN];refine X1 c1 rfl ?_;simp only[↓X6,wA,↓reduceIte,reduceIte,reduceCtorEq,Y1,Y2,Y3,Y4,Y5,Y6,Y7,Y8,Y9,YA,zA,qA,qC,vA,vC,wN];refine X1 c2 rfl ?_;by_cases h1:K0 a b c*K0 a b d<0
 ·have f1:(K0 a b c*K0 a b d<0)=True:=eq_true h1
  simp only[w1,f1,↓X6,wA,↓reduceIte,reduceIte,reduceCtorEq,Y1,Y2,Y3,Y4,Y5,Y6,Y7,Y8,Y9,YA,zA,qA,qC,vA,vC,wN];refine X1 c3 rfl ?_;simp only[↓X6,wA,↓reduceIte,reduceIte,reduceCtorEq,Y1,Y2,Y3,Y4,Y5,Y6,Y7,Y8,Y9,YA,zA,qA,qC,vA,vC,wN];refine X1 c4 rfl ?_;by_cases h2:K0 c d a*K0 c d b<0
  ·have f2:(K0 c d a*K0 c d b<0)=True:=eq_true h2
   simp only[w2,f2,↓X6,wA,↓reduceIte,reduceIte,reduceCtorEq,Y1,Y2,Y3,Y4,Y5,Y6,Y7,Y8,Y9,YA,zA,qA,qC,vA,vC,wN];exact fin rfl (by rw[hV,decide_eq_true h1,decide_eq_true h2];rfl)
  ·have f2:(K0 c d a*K0 c d b<0)=False:=eq_false h2
   simp only[w2,f2,↓X6,wA,↓reduceIte,reduceIte,reduceCtorEq,Y1,Y2,Y3,Y4,Y5,Y6,Y7,Y8,Y9,YA,zA,qA,qC,vA,vC,wN];rw[decide_eq_true h1,decide_eq_false h2]at hV;refine X1 d1 rfl ?_;cases B1
   rotate_left
   ·simp only[↓X6,wA,↓reduceIte,reduceIte,reduceCtorEq,Y1,Y2,Y3,Y4,Y5,Y6,Y7,Y8,Y9,YA,zA,qA,qC,vA,vC,wN]
    exact fin rfl (by rw[hV];simp)
   simp only[↓X6,wA,↓reduceIte,reduceIte,reduceCtorEq,Y1,Y2,Y3,Y4,Y5,Y6,Y7,Y8,Y9,YA,zA,qA,qC,vA,vC,wN];refine X1 d2 rfl ?_;cases B2
   rotate_left
   ·simp only[↓X6,wA,↓reduceIte,reduceIte,reduceCtorEq,Y1,Y2,Y3,Y4,Y5,Y6,Y7,Y8,Y9,YA,zA,qA,qC,vA,vC,wN]
    exact fin rfl (by rw[hV];simp)
   simp only[↓X6,wA,↓reduceIte,reduceIte,reduceCtorEq,Y1,Y2,Y3,Y4,Y5,Y6,Y7,Y8,Y9,YA,zA,qA,qC,vA,vC,wN];refine X1 d3 rfl ?_;cases B3
   rotate_left
   ·simp only[↓X6,wA,↓reduceIte,reduceIte,reduceCtorEq,Y1,Y2,Y3,Y4,Y5,Y6,Y7,Y8,Y9,YA,zA,qA,qC,vA,vC,wN]
    exact fin rfl (by rw[hV];simp)
   simp only[↓X6,wA,↓reduceIte,reduceIte,reduceCtorEq,Y1,Y2,Y3,Y4,Y5,Y6,Y7,Y8,Y9,YA,zA,qA,qC,vA,vC,wN];refine X1 d4 rfl ?_;simp only[↓X6,wA,↓reduceIte,reduceIte,reduceCtorEq,Y1,Y2,Y3,Y4,Y5,Y6,Y7,Y8,Y9,YA,zA,qA,qC,vA,vC,wN];exact fin rfl (by rw[hV];simp)
 ·have f1:(K0 a b c*K0 a b d<0)=False:=eq_false h1
  simp only[w1,f1,↓X6,wA,↓reduceIte,reduceIte,reduceCtorEq,Y1,Y2,Y3,Y4,Y5,Y6,Y7,Y8,Y9,YA,zA,qA,qC,vA,vC,wN];rw[decide_eq_false h1]at hV;refine X1 d1 rfl ?_;cases B1
  rotate_left
  ·simp only[↓X6,wA,↓reduceIte,reduceIte,reduceCtorEq,Y1,Y2,Y3,Y4,Y5,Y6,Y7,Y8,Y9,YA,zA,qA,qC,vA,vC,wN]
   exact fin rfl (by rw[hV];simp)
  simp only[↓X6,wA,↓reduceIte,reduceIte,reduceCtorEq,Y1,Y2,Y3,Y4,Y5,Y6,Y7,Y8,Y9,YA,zA,qA,qC,vA,vC,wN];refine X1 d2 rfl ?_;cases B2
  rotate_left
  ·simp only[↓X6,wA,↓reduceIte,reduceIte,reduceCtorEq,Y1,Y2,Y3,Y4,Y5,Y6,Y7,Y8,Y9,YA,zA,qA,qC,vA,vC,wN]
   exact fin rfl (by rw[hV];simp)
  simp only[↓X6,wA,↓reduceIte,reduceIte,reduceCtorEq,Y1,Y2,Y3,Y4,Y5,Y6,Y7,Y8,Y9,YA,zA,qA,qC,vA,vC,wN];refine X1 d3 rfl ?_;cases B3
  rotate_left
  ·simp only[↓X6,wA,↓reduceIte,reduceIte,reduceCtorEq,Y1,Y2,Y3,Y4,Y5,Y6,Y7,Y8,Y9,YA,zA,qA,qC,vA,vC,wN]
   exact fin rfl (by rw[hV];simp)
  simp only[↓X6,wA,↓reduceIte,reduceIte,reduceCtorEq,Y1,Y2,Y3,Y4,Y5,Y6,Y7,Y8,Y9,YA,zA,qA,qC,vA,vC,wN];refine X1 d4 rfl ?_;simp only[↓X6,wA,↓reduceIte,reduceIte,reduceCtorEq,Y1,Y2,Y3,Y4,Y5,Y6,Y7,Y8,Y9,YA,zA,qA,qC,vA,vC,wN];exact fin rfl (by rw[hV];simp)
def v0:V2:=⟨0,0⟩
def Q6 (l:List V2):AV:=cS vC 8 v0 l
theorem Xn (l:List V2):Settled (Q6 l):=JZ fun a x hx=>by
 have:∀x∈vC a,Settled x:=by simp[vC,Xc,X5]
 exact this x hx
theorem X4 (l:List V2):Q6 l=.sl l.length (l.length*8) (XA vC 8 v0 l) false:=nrfl rfl
theorem vF (l:List V2)(i:Nat):XA vC 8 v0 l (i*8)=.bool (decide ((l.getD i v0).x.num<0))∧XA vC 8 v0 l (i*8+1)=X8 (X9 (l.getD i v0).x.num.natAbs)∧XA vC 8 v0 l (i*8+2)=.bool false∧XA vC 8 v0 l (i*8+3)=X8 (X9 (qd (l.getD i v0).x)) ∧
  XA vC 8 v0 l (i*8+4)=.bool (decide ((l.getD i v0).y.num<0))∧XA vC 8 v0 l (i*8+5)=X8 (X9 (l.getD i v0).y.num.natAbs)∧XA vC 8 v0 l (i*8+6)=.bool false∧XA vC 8 v0 l (i*8+7)=X8 (X9 (qd (l.getD i v0).y)):=by
 refine⟨?_,?_,?_,?_,?_,?_,?_,?_⟩
 ·rw[Km _ _ _ _ _ (by omega)];rfl
 all_goals rw[JK _ _ _ _ _ _ (by omega)];rfl
theorem kH (l:List V2):Fn Tryz.prog 212 [Q6 l] (.fn 236 [.ptr 1 (Xg [Q6 l]) 0]):=by
 have hset:Settled (.fn 236 [.ptr 1 (Xg [Q6 l]) 0]):=JI (by
  intro a ha;simp only[List.mem_cons,List.not_mem_nil,or_false]at ha;rw[ha];exact XN fun j hj=>by
    obtain rfl:j=0:=by omega
    exact Xn l)
 refine Fq Tryz.call212 Tryz.func212 4 [] [] [] (by simp[Xn]) (Xl ?_);simp only[AS.start,X4,↓X6,wA,seval,zA,qA,qC,vA,vC,J9,wN];refine ZP rfl (pH ⟨kF (.inl rfl) (by omega) fun j hj=>?_,trivial⟩);obtain rfl:j=0:=by omega
 exact(Xn l).sees _
theorem Ve (L:List V2)(t:Tok)(A B:Nat→AO)(hL:L.length<1000000)(hy:∀i,i<L.length→YCall Tryz.prog t [vA (L.getD i v0),vA (L.getD ((i+1)%L.length) v0)] [A i,B i] (.bool true) [A (i+1),B (i+1)])
  (hA:∀i,Qo 2 (A i)∧A i≠.unborn∧∀v n f,A i≠.con v n f) (hB:∀i,Qo 2 (B i)∧B i≠.unborn∧∀v n f,B i≠.con v n f) (hce:t.ce.H.length≤2) :
  ICall Tryz.prog t 236 [.yld t.l,.ptr 1 (Xg [Q6 L]) 0] [A 0,B 0] [A L.length,B L.length]:=by
 have hAO:∀i,Qo 2 (A i)=True:=fun i=>eq_true (hA i).1
 have hBO:∀i,Qo 2 (B i)=True:=fun i=>eq_true (hB i).1
 refine ICall.intro (fn:=Tryz.f236) Tryz.call236 Tryz.func236 rfl mixed 5 [5,6,7] [3,40000004] [3] (by kernel_rfl) (Nat.le_of_ble_eq_true rfl) hce (by simp[hAO,hBO]) (Xl ?_);simp only[AS.start,X4,↓X6,wA,seval,zA,qA,qC,vA,vC,J9,wN];refine Xj (fun i:Nat=>⟨5,[5,6,7],[.yld t.l,.ptr 1 (Xg [Q6 L]) 0,.any,.any,.any],[(5,Q6 L),(6,I L.length),(7,I i)],[A i,B i]⟩) (fun i=>i≤L.length) (fun i=>L.length-i) 0 (by omega)
  (Xi rfl (by simp[Xm,X4]) (by simp[Xy,Xz,X4,I]) rfl) ?_
 intro i hi next
 have w1:=wj i (by omega);by_cases hi2:i<L.length
 ·have f1:((i:Int)<L.length)=True:=eq_true (by omega)
  have f2:(i<L.length)=True:=eq_true hi2;have f3:(i*8+8≤L.length*8)=True:=eq_true (by omega);have hm:((i+1:Nat):Int).tmod L.length=(((i+1)%L.length:Nat):Int):=rfl;have hml:(i+1)%L.length<L.length:=Nat.mod_lt _ (by omega);have f4:((i+1)%L.length<L.length)=True:=eq_true hml;have f5:((i+1)%L.length*8+8≤L.length*8)=True:=eq_true (by omega);have f6:((L.length:Int)=0)=False:=eq_false (by omega);have f6':(L.length=0)=False:=eq_false (by omega);have v1:=vF L i;have v2:=vF L ((i+1)%L.length);refine Xl ?_;simp only[X4,w1,f1,f2,f3,f4,f5,f6,f6',hm,v1,v2,Int.toNat_natCast,↓X6,wA,seval,zA,qA,qC,vA,vC,J9,wN];refine Ue (t:=t) (H1:=[A i,B i]) (H1':=[A (i+1),B (i+1)]) rfl rfl (List.mem_singleton.2 rfl) (hy i hi2) rfl rfl hce ?_ ?_ ?_ ?_ ?_ ⟨Weak.rfl' _,Weak.rfl' _,trivial⟩ ?_
  ·intro a ha
   simp only[List.mem_cons,List.not_mem_nil,or_false]at ha;rcases ha with rfl |rfl <;> exact X7 (Xr _)
  ·intro o ho
   simp only[List.mem_cons,List.not_mem_nil,or_false]at ho;rcases ho with rfl |rfl
   ·exact(hA i).1
   ·exact(hB i).1
  ·intro o ho
   simp only[List.mem_cons,List.not_mem_nil,or_false]at ho;rcases ho with rfl |rfl
   ·exact(hA i).2.1
   ·exact(hB i).2.1
  ·intro o ho
   simp only[List.mem_cons,List.not_mem_nil,or_false]at ho;rcases ho with rfl |rfl
   ·exact(hA (i+1)).2.1
   ·exact(hB (i+1)).2.1
  ·refine Lr ?_ ?_
   ·intro o ho
    simp only[List.mem_cons,List.not_mem_nil,or_false]at ho;rcases ho with rfl |rfl
    ·exact(hA i).2.2
    ·exact(hB i).2.2
   ·intro o ho
    simp only[List.mem_cons,List.not_mem_nil,or_false]at ho;rcases ho with rfl |rfl
    ·exact(hA (i+1)).2.2
    ·exact(hB (i+1)).2.2
  simp only[X4,w1,↓X6,wA,seval,zA,qA,qC,vA,vC,J9,wN];have hbv:Jo 2 (Q6 L)=True:=eq_true (X7 (Xn L));have hbp:Jo 2 (.ptr 1 (Xg [Q6 L]) 0)=True:=eq_true (X7 (XN fun j hj=>by
    obtain rfl:j=0:=by omega
    exact Xn L))
  have hby:Jo 2 (.yld t.l)=True:=eq_true fun c v hv=>by cases hv;exact .yld _
  exact next (i+1) _ (by omega) (by omega) (XQ (m:=2) (Nat.le_refl 2) rfl (by simp[X4,Xm,X8,Qs,I]) (by simp[X4,Xy,Xz,I]) rfl (by simp[hby,hbp,XO]) (by simp[hbv,XO]) (by simp[hAO,hBO]))
 ·obtain rfl:i=L.length:=by omega
  refine Xl ?_;simp only[X4,Int.lt_irrefl,Nat.lt_irrefl,↓X6,wA,seval,zA,qA,qC,vA,vC,J9,wN];exact wL rfl rfl
def B5 (L:List V2):Nat→Rat
 |0=>0
 |i+1=>B5 L i+Xp (L.getD i v0) (L.getD ((i+1)%L.length) v0)
def CG (L:List V2):Rat:=B5 L L.length*Rat.divInt 1 2
def Qp (L:List V2)(k:Nat):Prop:=∀i,vb (L.getD i v0)≤k
theorem Lb (L:List V2)(k:Nat)(h:Qp L k):∀i,qb (B5 L i)≤(4*k+2)*i+1
 |0=>by have:=Dv;simp only[B5];omega
 |i+1=>by
  have ih:=Lb L k h i;have h1:=Ao (L.getD i v0) (L.getD ((i+1)%L.length) v0);have h2:=h i;have h3:=h ((i+1)%L.length);have h4:=An (B5 L i) (Xp (L.getD i v0) (L.getD ((i+1)%L.length) v0));have e:(4*k+2)*(i+1)=(4*k+2)*i+(4*k+2):=Nat.mul_succ _ _;simp only[B5];omega
theorem VC (L:List V2)(k:Nat)(h:Qp L k)(hk:k≤1000)(hl:L.length≤1000):qb (B5 L L.length)≤10000000∧qb (CG L)≤10000000:=by
 have h1:=Lb L k h L.length;have h2:(4*k+2)*L.length≤4002*1000:=Nat.mul_le_mul (by omega) hl;have h3:=Qq (B5 L L.length) (Rat.divInt 1 2);have h4:qb (Rat.divInt 1 2)≤3:=KM _ _ _ (by omega) (Zw ⟨by omega,by omega⟩) (Zw ⟨by omega,by omega⟩);unfold CG;omega
def KW:AO:=.row 0 4 (Xg [.bool false,.sl 0 0 (fun _=>.any) true,.bool false,.sl 0 0 (fun _=>.any) true])
def CF (L:List V2)(i:Nat):AO:=.row 0 4 (Xg (qC (B5 L i)))
theorem mJ (L:List V2)(k:Nat)(h:Qp L k)(hk:k≤1000)(hl:L.length≤1000):Fn Tryz.prog 145 [Q6 L] (qA (CG L)):=by
 obtain⟨R,hR⟩:∃R,R=qA (CG L):=⟨_,rfl⟩
 have sR:Settled R:=hR▸Xb _;obtain⟨q1,q2⟩:=VC L k h hk hl;have cs:=kH L;rw[←hR];refine Fq Tryz.call145 Tryz.func145 6 [8,9] [] [] (by simp[Xn]) (Xl ?_);simp only[AS.start,X4,↓X6,wA,seval,zA,qA,qC,vA,vC,J9,wN];refine X1 cs rfl ?_;simp only[↓X6,wA,seval,zA,qA,qC,vA,vC,J9,wN];have bA:Qo 2 KW∧KW≠.unborn∧∀v n f,KW≠.con v n f:=⟨by simp[KW,XO],by simp[KW],by simp[KW]⟩
 have bB:∀i,Qo 2 (CF L i)∧CF L i≠.unborn∧∀v n f,CF L i≠.con v n f:=fun i=>⟨by simp[CF,qC,XO],by simp[CF],by simp[CF]⟩
 refine Run.sub (s':=⟨6,[8,9],[Q6 L,.any,.ref 0 0 0,.ref 1 0 0,.any,.any],[(7,.fn 236 [.ptr 1 (Xg [Q6 L]) 0])],[KW,CF L 0]⟩) ?_ ((QL 1 (Xg (qC 0)) rfl fun j hj=>?_).trans (Xi rfl (by simp[Xm,X4]) (by simp[Xy,Xz]) (by simp[KW,CF,B5])))
 rotate_left
 ·match j,hj with
  |0,_=>exact XR _ _
  |1,_=>exact BG (Zq (by rw[Rat.zero_num];simp[Qi]))
  |2,_=>exact XR _ _
  |3,_=>exact BG (Zq (Mp rfl))
  |j+4,h=>omega
 refine Fs (gf:=236) (caps:=[.ptr 1 (Xg [Q6 L]) 0]) (Hn:=[KW,CF L L.length]) rfl rfl rfl (fun t ht=>?_) ?_
 ·refine Ve L t (fun _=>KW) (CF L) (by omega) (fun i hi=>?_) (fun _=>bA) bB (by rw[ht.ch];exact Nat.le_refl _)
  have hc:=AD (L.getD i v0) (L.getD ((i+1)%L.length) v0) (by have:=h i;unfold vm;omega) (by have:=h ((i+1)%L.length);unfold vm;omega);have b1:=Lb L k h i;have b2:(4*k+2)*i≤4002*1000:=Nat.mul_le_mul (by omega) (by omega);have b3:=Ao (L.getD i v0) (L.getD ((i+1)%L.length) v0);have b4:=h i;have b5:=h ((i+1)%L.length);have ha:=Bt (B5 L i) (Xp (L.getD i v0) (L.getD ((i+1)%L.length) v0)) (by unfold rm;omega) (by unfold rm;omega);refine TA (str:=[]) (hcs:=[]) ht mixed (by kernel_rfl) (by kernel_rfl) rfl (fun p hp=>?_) (fun o ho=>?_) (fun l r hr=>?_)
  ·have hp':p=8∨p=9:=by simpa using hp
   rcases hp' with rfl |rfl <;> exact Nat.le_of_ble_eq_true rfl
  ·simp only[List.mem_cons,List.not_mem_nil,or_false]at ho
   rcases ho with rfl |rfl
   ·exact bA.1
   ·exact(bB (i+1)).1
  show Run _ _ ⟨6,[8,9],[Q6 L,.any,.ref 0 0 0,.ref 1 0 0,.any,.any],[(9,vA (L.getD ((i+1)%L.length) v0)),(8,vA (L.getD i v0)),(7,.fn 236 [.ptr 1 (Xg [Q6 L]) 0])],[KW,CF L i]⟩;refine Xl ?_;simp only[KW,CF,↓X6,wA,seval,zA,qA,qC,vA,vC,J9,wN];refine Up hr ?_;refine Xl ?_;simp only[↓X6,wA,seval,zA,qA,qC,vA,vC,J9,wN];refine X1 hc rfl ?_;simp only[↓X6,wA,seval,zA,qA,qC,vA,vC,J9,wN];refine X1 ha rfl ?_;simp only[↓X6,wA,seval,zA,qA,qC,vA,vC,J9,wN];exact xA rfl
 ·refine Xl ?_
  simp only[KW,CF,↓X6,wA,seval,zA,qA,qC,vA,vC,J9,wN];refine X1 (Cy 1 2 ⟨by omega,by omega⟩ ⟨by omega,by omega⟩) rfl ?_;simp only[↓X6,wA,seval,zA,qA,qC,vA,vC,J9,wN];have hm:=Ar (B5 L L.length) (Rat.divInt 1 2) (by unfold rm;omega) (by
   have:qb (Rat.divInt 1 2)≤3:=KM _ _ _ (by omega) (Zw ⟨by omega,by omega⟩) (Zw ⟨by omega,by omega⟩);unfold rm;omega)
  rw[show B5 L L.length*Rat.divInt 1 2=CG L from rfl,←hR]at hm;refine X1 hm rfl ?_;simp only[hR,↓X6,wA,seval,zA,qA,qC,vA,vC,J9,wN];exact J7 rfl XT rfl rfl rfl sR (hR.trans rfl)
theorem ve (L:List V2)(i:Nat)(hn:L.length<1000000)(h0:L.length≠0)(hi:i<1000000000) :
  Fn Tryz.prog 142 [I i,.ptr 1 (Xg [Q6 L]) 0,.ptr 1 (Xg [I L.length]) 0] (vA (L.getD (i%L.length) v0)):=by
 obtain⟨R,hR⟩:∃R,R=vA (L.getD (i%L.length) v0):=⟨_,rfl⟩
 have sR:Settled R:=hR▸Xr _;have hm:(i:Int).tmod L.length=((i%L.length:Nat):Int):=rfl;have hml:i%L.length<L.length:=Nat.mod_lt _ (by omega);have f4:(i%L.length<L.length)=True:=eq_true hml;have f5:(i%L.length*8+8≤L.length*8)=True:=eq_true (by omega);have f6:((L.length:Int)=0)=False:=eq_false (by omega);have f6':(L.length=0)=False:=eq_false h0;have v1:=vF L (i%L.length);have hs0:Settled (.ptr 1 (Xg [Q6 L]) 0):=XN fun j hj=>by
   obtain rfl:j=0:=by omega
   exact Xn L
 have hs1:Settled (.ptr 1 (Xg [I L.length]) 0):=XN fun j hj=>by
   obtain rfl:j=0:=by omega
   exact Xa _
 rw[←hR];refine Fq Tryz.call142 Tryz.func142 5 [] [] [] (by simp[Xa,hs0,hs1]) (Xl ?_);simp only[AS.start,X4,f4,f5,f6,f6',hm,v1,Int.toNat_natCast,↓X6,wA,seval,zA,qA,qC,vA,vC,J9,wN];exact Zn rfl J6 rfl rfl rfl sR (hR.trans rfl)
def atF (L:List V2)(i:Nat):V2:=L.getD (i%L.length) v0
def VJ (L:List V2)(i:Nat):Prop:=K0 (atF L i) (atF L (i+1)) (atF L (i+2))=0
def VI (L:List V2)(i k:Nat):Prop:=(k+1)%L.length≠i∧Zz (atF L i) (atF L (i+1)) (atF L k) (atF L (k+1))=true
def iS (L:List V2)(i:Nat):Prop:=¬VJ L i∧∀k,i+2≤k→k<L.length→¬VI L i k
def Am (L:List V2):Prop:=(3≤L.length∧L.length≤12)∧(∀i,i<L.length→iS L i)∧0<(CG L).num.sign
theorem EV (L:List V2)(h:Qp L 1000)(hl:L.length<1000000):Fn Tryz.prog 62 [Q6 L] (.bool (decide (Am L))):=by
 obtain⟨V,hV⟩:∃V,V=decide (Am L):=⟨_,rfl⟩
 rw[←hV];have fin:∀ {s:AS} {v:Bool},s.get 2=.bool v→v=V→RetOk (Jv Tryz.prog Tryz.f62 [] [] (.bool V)) s:=fun h e=>Xk rfl h (X5 _) (by rw[e])
 have hs0:Settled (.ptr 1 (Xg [Q6 L]) 0):=XN fun j hj=>by
   obtain rfl:j=0:=by omega
   exact Xn L
 have hs1:Settled (.ptr 1 (Xg [I L.length]) 0):=XN fun j hj=>by
   obtain rfl:j=0:=by omega
   exact Xa _
 have sm:∀i,vb (atF L i)≤vs:=fun i=>by have:=h (i%L.length);unfold atF vs;omega
 refine Fq Tryz.call62 Tryz.func62 9 [17,18,19,35,36] [] [] (by simp[Xn]) (Xl ?_);by_cases hlo:(L.length:Int)<3
 ·have f1:((L.length:Int)<3)=True:=eq_true hlo
  simp only[AS.start,X4,f1,↓X6,wA,seval,zA,qA,qC,vA,vC,J9,wN];exact fin rfl (by rw[hV,decide_eq_false];unfold Am;omega)
 have f1:((L.length:Int)<3)=False:=eq_false hlo;by_cases hhi:(12:Int)<L.length
 ·have f2:((12:Int)<L.length)=True:=eq_true hhi
  simp only[AS.start,X4,f1,f2,↓X6,wA,seval,zA,qA,qC,vA,vC,J9,wN];exact fin rfl (by rw[hV,decide_eq_false];unfold Am;omega)
 have f2:((12:Int)<L.length)=False:=eq_false hhi;simp only[AS.start,X4,f1,f2,↓X6,wA,seval,zA,qA,qC,vA,vC,J9,wN];have b0:Jo 0 (.ptr 1 (Xg [Q6 L]) 0)=True:=eq_true (X7 hs0);have b1:Jo 0 (.ptr 1 (Xg [I L.length]) 0)=True:=eq_true (X7 hs1);have b2:Jo 0 (Q6 L)=True:=eq_true (X7 (Xn L));refine Xj (fun i:Nat=>⟨9,[17,18,19,35,36],[.any,.ptr 1 (Xg [Q6 L]) 0,.bool false,.ptr 1 (Xg [I L.length]) 0,.any,.any,.any,.any,.any],[(17,Q6 L),(18,I L.length),(19,I i)],[]⟩) (fun i=>i≤L.length) (fun i=>L.length-i) 0 (by omega)
  ((Q0 0 rfl).trans ((Q0 1 rfl).trans ((Q5 1 rfl rfl (by omega)).trans ((Q5 3 rfl rfl (by omega)).trans (XQ (m:=0) (Nat.zero_le _) rfl (by simp[AS.put,X4,Xm,X8,Qs,I]) (by simp[AS.put,X4,Xy,Xz,I]) rfl (by simp[b0,b1,XO]) (by simp[b2,XO]) (by simp)))))) ?_
 intro i hi next
 have w1:=wj i (by omega);have rv:∀r:Rat,qb r≤1000→Fn Tryz.prog 141 [qA r] (.bool true):=fun r hr=>by
  have h1:=RQ.of_sz r;have:=F0 (RQ.of r) (by omega);rwa[decide_eq_true ⟨r,rfl⟩]at this
 by_cases hi2:i<L.length
 ·have f3:((i:Int)<L.length)=True:=eq_true (by omega)
  have f4:(i<L.length)=True:=eq_true hi2;have f5:(i*8+8≤L.length*8)=True:=eq_true (by omega);have v1:=vF L i;have hx:=QS (L.getD i v0);have hy:=QN (L.getD i v0);have hb:=h i;refine Xl ?_;simp only[X4,w1,f3,f4,f5,v1,Int.toNat_natCast,↓X6,wA,seval,zA,qA,qC,vA,vC,J9,wN];refine X1 (rv (L.getD i v0).x (by omega)) rfl ?_;simp only[↓X6,wA,seval,zA,qA,qC,vA,vC,J9,wN];refine X1 (rv (L.getD i v0).y (by omega)) rfl ?_;simp only[w1,↓X6,wA,seval,zA,qA,qC,vA,vC,J9,wN];exact next (i+1) _ (by omega) (by omega) (XQ (m:=0) (Nat.zero_le _) rfl (by simp[X4,Xm,X8,Qs,I]) (by simp[X4,Xy,Xz,I]) rfl (by simp[b0,b1,XO]) (by simp[b2,XO]) (by simp))
 obtain rfl:i=L.length:=by omega
 refine Xl ?_;simp only[X4,Int.lt_irrefl,Nat.lt_irrefl,↓X6,wA,seval,zA,qA,qC,vA,vC,J9,wN];have hn0:L.length≠0:=by omega
 have cat:∀j:Nat,j<1000000000→Fn Tryz.prog 142 [I j,.ptr 1 (Xg [Q6 L]) 0,.ptr 1 (Xg [I L.length]) 0] (vA (atF L j)):=fun j hj=>ve L j hl hn0 hj
 have b3:Jo 0 (.fn 142 [.ptr 1 (Xg [Q6 L]) 0,.ptr 1 (Xg [I L.length]) 0])=True:=eq_true (X7 (JI (by
  intro a ha;simp only[List.mem_cons,List.not_mem_nil,or_false]at ha;rcases ha with rfl |rfl
  ·exact hs0
  ·exact hs1)))
 refine Xj (fun i:Nat=>⟨9,[17,18,19,35,36],[.any,.ptr 1 (Xg [Q6 L]) 0,.bool false,.ptr 1 (Xg [I L.length]) 0,.any,.any,.fn 142 [.ptr 1 (Xg [Q6 L]) 0,.ptr 1 (Xg [I L.length]) 0],.any,.any],[(35,I L.length),(36,I i)],[]⟩) (fun i=>i≤L.length∧∀j,j<i→iS L j) (fun i=>L.length-i) 0 ⟨by omega,by omega⟩
  (XQ (m:=0) (Nat.zero_le _) rfl (by simp[X4,Xm,X8,Qs,I]) (by simp[X4,Xy,Xz,I]) rfl (by simp[b0,b1,b3,XO]) (by simp[b2,XO]) (by simp)) ?_
 rintro i ⟨hi,hgood⟩ next
 have w1:=wj i (by omega);have w2:IntKind.i64.wrap ((i:Int)+2)=((i+2:Nat):Int):=by rw[IntKind.wrap_i64];omega
 by_cases hi2:i<L.length
 rotate_left
 ·obtain rfl:i=L.length:=by omega
  refine Xl ?_;simp only[X4,Int.lt_irrefl,Nat.lt_irrefl,↓X6,wA,seval,zA,qA,qC,vA,vC,J9,wN];have ca:=mJ L 1000 h (by omega) (by omega);have cs:=Qj (CG L);refine X1 ca rfl ?_;simp only[↓X6,wA,seval,zA,qA,qC,vA,vC,J9,wN];refine X1 cs rfl ?_;simp only[↓X6,wA,seval,zA,qA,qC,vA,vC,J9,wN];exact fin rfl (by rw[hV,decide_eq_decide];unfold Am;exact⟨fun h=>⟨by omega,hgood,h⟩,fun h=>h.2.2⟩)
 have f3:((i:Int)<L.length)=True:=eq_true (by omega);have f4:(i<L.length)=True:=eq_true hi2;refine Xl ?_;simp only[w1,w2,f3,f4,Int.toNat_natCast,↓X6,wA,seval,zA,qA,qC,vA,vC,J9,wN];refine X1 (cat i (by omega)) rfl ?_;simp only[w1,w2,↓X6,wA,seval,zA,qA,qC,vA,vC,J9,wN];refine X1 (cat (i+1) (by omega)) rfl ?_;simp only[w1,w2,↓X6,wA,seval,zA,qA,qC,vA,vC,J9,wN];refine X1 (cat (i+2) (by omega)) rfl ?_;simp only[w1,w2,↓X6,wA,seval,zA,qA,qC,vA,vC,J9,wN];refine X1 (BS _ _ _ (sm _) (sm _) (sm _)) rfl ?_;by_cases hs:K0 (atF L i) (atF L (i+1)) (atF L (i+2))=0
 ·have f5:(K0 (atF L i) (atF L (i+1)) (atF L (i+2))=0)=True:=eq_true hs
  simp only[f5,↓X6,wA,seval,zA,qA,qC,vA,vC,J9,wN];exact fin rfl (by rw[hV,decide_eq_false];exact fun hp=>(hp.2.1 i hi2).1 hs)
 have f5:(K0 (atF L i) (atF L (i+1)) (atF L (i+2))=0)=False:=eq_false hs;simp only[f5,w1,w2,↓X6,wA,seval,zA,qA,qC,vA,vC,J9,wN];refine Xj (fun k:Nat=>⟨9,[17,18,19,35,36],[.any,.ptr 1 (Xg [Q6 L]) 0,.bool false,.ptr 1 (Xg [I L.length]) 0,.any,.any,.fn 142 [.ptr 1 (Xg [Q6 L]) 0,.ptr 1 (Xg [I L.length]) 0],I i,I k],[(35,I L.length),(36,I i)],[]⟩) (fun k=>i+2≤k∧k≤L.length+2∧∀j,i+2≤j→j<k→j<L.length→¬VI L i j) (fun k=>L.length+2-k) (i+2) ⟨by omega,by omega,by omega⟩
  (Xi rfl (by simp[Xm,I]) (by simp[Xy,Xz,I]) rfl) ?_
 rintro k ⟨hk1,hk2,hpair⟩ nextk;have u1:=wj k (by omega);by_cases hk3:k<L.length
 rotate_left
 ·have g3:((k:Int)<L.length)=False:=eq_false (by omega)
  have g4:(k<L.length)=False:=eq_false hk3;refine Xl ?_;simp only[g3,g4,w1,↓X6,wA,seval,zA,qA,qC,vA,vC,J9,wN];refine next (i+1) _ ⟨by omega,fun j hj=>?_⟩ (by omega) (Xi rfl (by simp[Xm,I]) (by simp[Xy,Xz,I]) rfl)
  by_cases hji:j<i
  ·exact hgood j hji
  ·obtain rfl:j=i:=by omega
   exact⟨hs,fun q hq1 hq2=>hpair q hq1 (by omega) hq2⟩
 have g3:((k:Int)<L.length)=True:=eq_true (by omega);have g4:(k<L.length)=True:=eq_true hk3;have hm:((k+1:Nat):Int).tmod L.length=(((k+1)%L.length:Nat):Int):=rfl;have f6:((L.length:Int)=0)=False:=eq_false (by omega);have f6':(L.length=0)=False:=eq_false hn0;by_cases hne:(k+1)%L.length=i
 ·have g5:((k+1)%L.length=i)=True:=eq_true hne
  have g6:((((k+1)%L.length:Nat):Int)=(i:Int))=True:=eq_true (by omega);refine Xl ?_;simp only[g3,g4,g5,g6,w1,u1,hm,f6,f6',↓X6,wA,seval,zA,qA,qC,vA,vC,J9,wN];exact nextk (k+1) _ ⟨by omega,by omega,fun j h1 h2 h3=>by
   by_cases hjk:j<k
   ·exact hpair j h1 hjk h3
   ·obtain rfl:j=k:=by omega
    exact fun hb=>hb.1 hne⟩ (by omega) (Xi rfl (by simp[Xm,I]) (by simp[Xy,Xz,I]) rfl)
 have g5:((k+1)%L.length=i)=False:=eq_false hne;have g6:((((k+1)%L.length:Nat):Int)=(i:Int))=False:=eq_false (by omega);refine Xl ?_;simp only[g3,g4,g5,g6,w1,u1,hm,f6,f6',↓X6,wA,seval,zA,qA,qC,vA,vC,J9,wN];refine X1 (cat i (by omega)) rfl ?_;simp only[g5,g6,w1,u1,↓X6,wA,seval,zA,qA,qC,vA,vC,J9,wN];refine X1 (cat (i+1) (by omega)) rfl ?_;simp only[g5,g6,w1,u1,↓X6,wA,seval,zA,qA,qC,vA,vC,J9,wN];refine X1 (cat k (by omega)) rfl ?_;simp only[g5,g6,w1,u1,↓X6,wA,seval,zA,qA,qC,vA,vC,J9,wN];refine X1 (cat (k+1) (by omega)) rfl ?_;simp only[g5,g6,w1,u1,↓X6,wA,seval,zA,qA,qC,vA,vC,J9,wN];refine X1 (jo _ _ _ _ (sm _) (sm _) (sm _) (sm _)) rfl ?_;by_cases hmt:Zz (atF L i) (atF L (i+1)) (atF L k) (atF L (k+1))=true
 ·rw[hmt]
  simp only[g5,g6,↓X6,wA,seval,zA,qA,qC,vA,vC,J9,wN];exact fin rfl (by rw[hV,decide_eq_false];exact fun hp=>(hp.2.1 i hi2).2 k hk1 hk3 ⟨hne,hmt⟩)
 ·have hmf:=Bool.not_eq_true _▸hmt
  rw[hmf];simp only[g5,g6,u1,↓X6,wA,seval,zA,qA,qC,vA,vC,J9,wN];exact nextk (k+1) _ ⟨by omega,by omega,fun j h1 h2 h3=>by
   by_cases hjk:j<k
   ·exact hpair j h1 hjk h3
   ·obtain rfl:j=k:=by omega
    exact fun hb=>hmt hb.2⟩ (by omega) (Xi rfl (by simp[Xm,I]) (by simp[Xy,Xz,I]) rfl)
def x6 (p:Int×Int):List AV:=[I p.1,I p.2]
def xN (l:List (Int×Int)):AV:=cS x6 2 (0,0) l
theorem SW (l:List (Int×Int)):Settled (xN l):=JZ fun a x hx=>by
 have:∀x∈x6 a,Settled x:=by simp[x6,Xa]
 exact this x hx
theorem pq (l:List (Int×Int)):xN l=.sl l.length (l.length*2) (XA x6 2 (0,0) l) false:=nrfl rfl
theorem YN (l:List Bool):Cc l=.sl l.length l.length (QM AV.bool false l) false:=nrfl rfl
theorem Xu (l:List Int):X8 l=.sl l.length l.length (QM I 0 l) false:=nrfl rfl
theorem sc (f:Nat→AV)(m:Nat)(g:Nat→AV)(j:Nat):Qd 0 f m g j=if j<m then g j else f j:=by simp[Qd]
theorem YV {P:Program}{fn:Func}{str hcs:List Nat}{s:AS}{t n m es ver id:Nat}{f g:Nat→AV}(hr:fn.results=#[.tmp t])(hs:s.get t=.osl id ver es 0 n)(ho:s.h[id]?=some (.row ver m (Qd 0 f m g))) (hn:n=0→m=0) (hg:∀j,j<m→Settled (g j)) :
  RetOk (Jv P fn str hcs (.sl n m g false)) s:=by
 refine ZP hr ?_;rw[hs];refine ZR (.inl ho) (by omega) hn fun j hj=>?_
 rw[Nat.zero_add,sc,if_pos hj];exact(hg j hj).sees _
theorem Ug {P:Program}{fn:Func}{str hcs:List Nat}{s:AS}{t:Nat}{f g:Nat→AV}{b:Bool}(hr:fn.results=#[.tmp t])(hs:s.get t=.sl 0 0 f b):RetOk (Jv P fn str hcs (.sl 0 0 g false)) s:=by
 refine ZP hr ?_;rw[hs];exact V6
theorem xJ (z:Int):zA z=.agg [.bool (decide (z<0)),X8 (X9 z.natAbs)]:=nrfl rfl
theorem xI (v:V2):vC v=[.bool (decide (v.x.num<0)),X8 (X9 v.x.num.natAbs),.bool false,X8 (X9 (qd v.x)),.bool (decide (v.y.num<0)),X8 (X9 v.y.num.natAbs),.bool false,X8 (X9 (qd v.y))]:=nrfl rfl
theorem xH (v:V2):vA v=.agg (vC v):=nrfl rfl
theorem xy (r:Rat):qC r=[.bool (decide (r.num<0)),X8 (X9 r.num.natAbs),.bool false,X8 (X9 (qd r))]:=nrfl rfl
theorem xx (r:Rat):qA r=.agg (qC r):=nrfl rfl
set_option linter.defProp false in
def wS:=XB Kf (XB @Xb (XB @Xr (XB @Xh (XB @SW @Nn))))
set_option linter.defProp false in
def wE:=XB @xJ (XB @xI (XB @xH (XB @xy (XB @xx (XB @pq (XB @YN (XB J9 wN)))))))
set_option linter.defProp false in
def wF:=XB wA wE
end
end Go.Ab.N
namespace Go.Ab.N
open Go Go.RowKit Go.Proofs
noncomputable section
set_option maxRecDepth 10000
set_option maxHeartbeats 4000000
open Classical
theorem xU {a b:Int}(h:a<b):(a<b)=True:=eq_true h
theorem xj {a b:Int}(h:b≤a):(a<b)=False:=eq_false (by omega)
theorem xT {a b:Int}(h:a≤b):(a≤b)=True:=eq_true h
theorem xi {a b:Int}(h:b<a):(a≤b)=False:=eq_false (by omega)
theorem xS {a b:Int}(h:a=b):(a=b)=True:=eq_true h
theorem xh {a b:Int}(h:a≠b):(a=b)=False:=eq_false h
theorem xX {a b:Nat}(h:a<b):(a<b)=True:=eq_true h
theorem xv {a b:Nat}(h:b≤a):(a<b)=False:=eq_false (by omega)
theorem xW {a b:Nat}(h:a≤b):(a≤b)=True:=eq_true h
theorem xu {a b:Nat}(h:b<a):(a≤b)=False:=eq_false (by omega)
theorem xp {a b:Nat}(h:a=b):(a=b)=True:=eq_true h
theorem xq {a b:Nat}(h:a≠b):(a=b)=False:=eq_false h
theorem vV {x:Int}(h:-9223372036854775808≤x∧x<9223372036854775808):IntKind.i64.wrap x=x:=by rw[IntKind.wrap_i64];omega
theorem xk {n:Nat}:(n:Int).toNat=n:=Int.toNat_natCast n
theorem wU (f:Nat→AV)(i:Nat)(v:AV)(j:Nat):DW f i v j=if j=i then v else f j:=nrfl rfl
def dk (l:List AV)(i:Nat)(a:AV):Nat→AV:=DW (Xg l) i a
def VQ (x:AV)(f:Nat→AV):Nat→AV:=fun j=>match j with |0=>x |j+1=>f j
theorem uI (l:List AV)(i:Nat)(a:AV):DW (Xg l) i a=dk l i a:=nrfl rfl
theorem uK (x a:AV)(l:List AV):dk (x :: l) 0 a=Xg (a :: l):=by
 funext j;unfold dk DW Xg;cases j <;> simp
theorem uJ (x a:AV)(l:List AV)(n:Nat):dk (x :: l) (n+1) a=VQ x (dk l n a):=by
 funext j;unfold dk DW Xg VQ;cases j <;> simp
theorem nI (x:AV)(l:List AV):VQ x (Xg l)=Xg (x :: l):=by
 funext j;unfold Xg VQ;cases j <;> simp
def sg (x:Rat):Bool:=decide (x.num<0)
theorem xD (x:Rat):decide (x.num<0)=sg x:=nrfl rfl
set_option linter.defProp false in
def wD:=XB @wU (XB @uI <| XB @uK <| XB @uJ <| XB @nI <| XB @xU (XB @xj (XB @xT (XB @xi (XB @xS (XB @xh (XB @xX (XB @xv (XB @xW (XB @xu (XB @xp (XB @xq (XB @vV @xk)))))))))))))
set_option linter.defProp false in
def Xd:=XB @xD X6
set_option linter.defProp false in
def wG:=XB wD wF
theorem JS {m v n:Nat}{L:List AV}(h:∀x∈L,Settled x):Qo m (.row v n (Xg L)):=fun j _=>X7 (Xe h j)
theorem Zb (f:Nat→AV)(t:Bool):Settled (.sl 0 0 f t):=Qk fun j hj=>absurd hj (Nat.not_lt_zero j)
theorem GM (q:Rat):q.num.sign<0↔q<0:=by rw[Int.sign_neg_iff,Rat.lt_iff];simp
theorem DJ (q:Rat):0<q.num.sign↔0<q:=by rw[Int.sign_pos_iff,Rat.lt_iff];simp
theorem WR (q:Rat):q.num.sign=0↔q=0:=by rw[Int.sign_eq_zero_iff_zero];exact Rat.num_eq_zero
end
end Go.Ab.N
namespace Go.Ab.N
open Go Go.RowKit Go.Proofs
noncomputable section
set_option maxRecDepth 10000
set_option maxHeartbeats 2000000
open Classical
theorem Oh (a b:Int)(la:bl a<4611686018427387904)(lb:bl b<4611686018427387904):Fn Tryz.prog 169 [zA a,zA b] (I (a-b).sign):=by
 unfold bl at la lb;have c1:=B9 (X9 b.natAbs) (X9 a.natAbs) (XV _) (XV _) lb;have c2:=B9 (X9 a.natAbs) (X9 b.natAbs) (XV _) (XV _) la;rw[Xx,Xx]at c1 c2;obtain⟨V,hV⟩:∃V,V=(a-b).sign:=⟨_,rfl⟩
 rw[←hV];have fin:∀ {s:AS} {v:Int},s.get 4=I v→v=V→RetOk (Jv Tryz.prog Tryz.f169 [] [] (I V)) s:=fun h e=>Xk rfl h (Xa _) (by rw[e])
 refine Fq Tryz.call169 Tryz.func169 5 [] [] [] (by simp[XE]) (Xl ?_);by_cases ha:a<0
 ·have f1:(a<0)=True:=eq_true ha
  by_cases hb:b<0
  ·have f2:(b<0)=True:=eq_true hb
   simp only[AS.start,f1,f2,rh,↓X6,wF,seval];refine X1 c1 rfl ?_;simp only[↓X6,wF,seval];refine fin rfl ?_;rw[hV];congr 1;omega
  ·have f2:(b<0)=False:=eq_false hb
   simp only[AS.start,f1,f2,rg,↓X6,wF,seval];refine fin rfl ?_;rw[hV,Int.sign_eq_neg_one_of_neg (by omega)]
 ·have f1:(a<0)=False:=eq_false ha
  by_cases hb:b<0
  ·have f2:(b<0)=True:=eq_true hb
   simp only[AS.start,f1,f2,rf,↓X6,wF,seval];refine fin rfl ?_;rw[hV,Int.sign_eq_one_of_pos (by omega)]
  ·have f2:(b<0)=False:=eq_false hb
   simp only[AS.start,f1,f2,re,↓X6,wF,seval];refine X1 c2 rfl ?_;simp only[↓X6,wF,seval];refine fin rfl ?_;rw[hV];congr 1;omega
theorem UY (a:Int)(la:bl a<4611686018427387904):Fn Tryz.prog 89 [zA a] (I a.sign):=by
 have c:=Oh a 0 la (by unfold bl;rw[Int.natAbs_zero,Qi];decide);rw[Int.sub_zero]at c;refine Fq Tryz.call89 Tryz.func89 3 [] [] [] (by simp[wS]) (Xl ?_);simp(maxSteps:=999999)only[AS.start,↓X6,wF,seval];refine X0 c ⟨Weak.rfl' _,?_,trivial⟩ ?_
 ·exact ZS ⟨Weak.rfl' _,Zq (by rw[Int.natAbs_zero,Qi]),trivial⟩
 simp only[↓X6,wF,seval];exact Xk rfl rfl (Xa _) rfl
theorem KN (r:Rat):Fn Tryz.prog 79 [qA r] (zA r.den):=by
 obtain⟨R,hR⟩:∃R,R=zA r.den:=⟨_,rfl⟩
 have sR:Settled R:=hR▸XE _;rw[←hR];rw[lO]at hR;by_cases h:r.den=1
 ·have f1:((X9 (qd r)).length=0)=True:=eq_true ((Dx r).2 h)
  have f2:(((X9 (qd r)).length:Int)=0)=True:=eq_true (by have:=(Dx r).2 h;omega);refine Fq Tryz.call79 Tryz.func79 3 [] [] [] (by simp[wS]) (Xl ?_);simp(maxSteps:=999999)only[AS.start,↓X6,wF,seval];simp only[f1,f2,↓X6,wF,seval];refine X1 (DE 1 ⟨by omega,by omega⟩) rfl ?_;simp only[↓X6,wF,seval];exact J7 rfl XW rfl rfl rfl sR (by rw[hR,h];rfl)
 ·have f1:((X9 (qd r)).length=0)=False:=eq_false fun e=>h ((Dx r).1 e)
  have f2:(((X9 (qd r)).length:Int)=0)=False:=eq_false fun e=>h ((Dx r).1 (by omega))
  refine Fq Tryz.call79 Tryz.func79 3 [] [] [] (by simp[wS]) (Xl ?_);simp(maxSteps:=999999)only[AS.start,↓X6,wF,seval];simp only[f1,f2,↓X6,wF,seval];exact J7 rfl XW rfl rfl rfl sR (by rw[hR,jT h];rfl)
theorem JV (r:Rat)(h:qb r≤rm):Fn Tryz.prog 25 [qA r] (I r.num.sign):=by
 have h1:=J2 r;have c:=UY r.num (by unfold rm at h;omega);refine Fq Tryz.call25 Tryz.func25 3 [] [] [] (by simp[wS]) (Xl ?_);simp(maxSteps:=999999)only[AS.start,↓X6,wF,seval];refine X1 c rfl ?_;simp only[↓X6,wF,seval];exact Xk rfl rfl (Xa _) rfl
theorem Z7 (a b:Rat)(ha:qb a≤rm)(hb:qb b≤rm):Fn Tryz.prog 87 [qA a,qA b] (I (BV a b)):=by
 unfold rm at ha hb;have a1:=J2 a;have a2:=Jx a;have b1:=J2 b;have b2:=Jx b;have m1:=KH a.num b.den (by unfold room;omega) (by unfold room;omega);have m2:=KH b.num a.den (by unfold room;omega) (by unfold room;omega);have n1:=Jt a.num b.den;have n2:=Jt b.num a.den;have c:=Oh (a.num*b.den) (b.num*a.den) (by omega) (by omega);have d1:=KN a;have d2:=KN b;obtain⟨V,hV⟩:∃V,V=BV a b:=⟨_,rfl⟩
 rw[show(a.num*b.den-b.num*a.den).sign=V from hV.symm]at c;rw[←hV];refine Fq Tryz.call87 Tryz.func87 5 [] [] [] (by simp[wS]) (Xl ?_);simp(maxSteps:=999999)only[AS.start,↓X6,wF,seval];refine X1 d2 rfl ?_;simp only[↓X6,wF,seval];refine X1 m1 rfl ?_;simp only[↓X6,wF,seval];refine X1 d1 rfl ?_;simp only[↓X6,wF,seval];refine X1 m2 rfl ?_;simp only[↓X6,wF,seval];refine X1 c rfl ?_;simp only[↓X6,wF,seval];exact Xk rfl rfl (Xa _) rfl
theorem Z6 (a b:Rat)(ha:qb a≤rm)(hb:qb b≤rm):Fn Tryz.prog 19 [qA a,qA b] (qA (a+b)):=by
 unfold rm at ha hb;have a1:=J2 a;have a2:=Jx a;have b1:=J2 b;have b2:=Jx b;have m1:=KH a.num b.den (by unfold room;omega) (by unfold room;omega);have m2:=KH b.num a.den (by unfold room;omega) (by unfold room;omega);have m3:=KH a.den b.den (by unfold room;omega) (by unfold room;omega);have n1:=Jt a.num b.den;have n2:=Jt b.num a.den;have n3:=Jt a.den b.den;have n4:=Ub (a.num*b.den) (b.num*a.den);have s1:=Su (a.num*b.den) (b.num*a.den) (by unfold room;omega) (by unfold room;omega);have k:=CT (a.num*b.den+b.num*a.den) (a.den*b.den) (by omega) (by omega);have e0:a+b=Rat.divInt (a.num*b.den+b.num*a.den) (a.den*b.den):=by
  rw[Rat.add_def',Kw];push_cast;rfl
 rw[←e0]at k;have d1:=KN a;have d2:=KN b;obtain⟨R,hR⟩:∃R,R=qA (a+b):=⟨_,rfl⟩
 have sR:Settled R:=hR▸Xb _;rw[←hR]at k ⊢;refine Fq Tryz.call19 Tryz.func19 7 [] [1,2,3,20000002,20000003,30000002,30000003,40000002,40000003,40000005,40000006] [] (by simp[wS]) (Xl ?_);simp(maxSteps:=999999)only[AS.start,↓X6,wF,seval];refine X1 d2 rfl ?_;simp only[↓X6,wF,seval];refine X1 m1 rfl ?_;simp only[↓X6,wF,seval];refine X1 d1 rfl ?_;simp only[↓X6,wF,seval];refine X1 m2 rfl ?_;simp only[↓X6,wF,seval];refine X1 s1 rfl ?_;simp only[↓X6,wF,seval];refine X1 d1 rfl ?_;simp only[↓X6,wF,seval];refine X1 d2 rfl ?_;simp only[↓X6,wF,seval];refine X1 m3 rfl ?_;simp only[↓X6,wF,seval];refine X1 k rfl ?_;simp only[hR,↓X6,wF,seval];exact J7 rfl XT rfl rfl rfl sR (hR.trans rfl)
theorem Jy (a b:Rat)(ha:qb a≤rm)(hb:qb b≤rm):Fn Tryz.prog 93 [qA a,qA b] (qA (a*b)):=by
 unfold rm at ha hb;have a1:=J2 a;have a2:=Jx a;have b1:=J2 b;have b2:=Jx b;have m1:=KH a.num b.num (by unfold room;omega) (by unfold room;omega);have m3:=KH a.den b.den (by unfold room;omega) (by unfold room;omega);have n1:=Jt a.num b.num;have n3:=Jt a.den b.den;have k:=CT (a.num*b.num) (a.den*b.den) (by omega) (by omega);have e0:a*b=Rat.divInt (a.num*b.num) (a.den*b.den):=by
  rw[Rat.mul_def',Kw];push_cast;rfl
 rw[←e0]at k;have d1:=KN a;have d2:=KN b;obtain⟨R,hR⟩:∃R,R=qA (a*b):=⟨_,rfl⟩
 have sR:Settled R:=hR▸Xb _;rw[←hR]at k ⊢;refine Fq Tryz.call93 Tryz.func93 5 [] [] [] (by simp[wS]) (Xl ?_);simp(maxSteps:=999999)only[AS.start,↓X6,wF,seval];refine X1 m1 rfl ?_;simp only[↓X6,wF,seval];refine X1 d1 rfl ?_;simp only[↓X6,wF,seval];refine X1 d2 rfl ?_;simp only[↓X6,wF,seval];refine X1 m3 rfl ?_;simp only[↓X6,wF,seval];refine X1 k rfl ?_;simp only[hR,↓X6,wF,seval];exact J7 rfl XT rfl rfl rfl sR (hR.trans rfl)
theorem jU (r:Rat):qd (-r)=qd r:=by unfold qd;rw[Rat.neg_den]
theorem BW (r:Rat)(h:qb r≤rm):Fn Tryz.prog 106 [qA r] (qA (-r)):=by
 unfold rm at h;have h1:=J2 r;have c:=GC r.num (by unfold room;omega);have e:qA (-r)=.agg [.bool (decide (-r.num<0)),X8 (X9 (-r.num).natAbs),.bool false,X8 (X9 (qd r))]:=by
  unfold qA qC;rw[jU,Rat.neg_num]
 obtain⟨R,hR⟩:∃R,R=qA (-r):=⟨_,rfl⟩
 have sR:Settled R:=hR▸Xb _;rw[←hR];refine Fq Tryz.call106 Tryz.func106 3 [] [] [] (by simp[wS]) (Xl ?_);simp(maxSteps:=999999)only[AS.start,↓X6,wF,seval];refine X1 c rfl ?_;simp only[↓X6,wF,seval];exact J7 rfl XT rfl rfl rfl sR (hR.trans e)
theorem Gy (r:Rat):qb (-r)=qb r:=by
 unfold qb bl;rw[Rat.neg_den,Rat.neg_num,Int.natAbs_neg]
theorem BX (a b:Rat)(ha:qb a≤rm)(hb:qb b≤rm):Fn Tryz.prog 176 [qA a,qA b] (qA (a-b)):=by
 have c:=BW b hb;have k:=Z6 a (-b) ha (by rw[Gy];exact hb);rw[←Rat.sub_eq_add_neg]at k;obtain⟨R,hR⟩:∃R,R=qA (a-b):=⟨_,rfl⟩
 have sR:Settled R:=hR▸Xb _;rw[←hR]at k ⊢;refine Fq Tryz.call176 Tryz.func176 5 [] [] [] (by simp[wS]) (Xl ?_);simp(maxSteps:=999999)only[AS.start,↓X6,wF,seval];refine X1 c rfl ?_;simp only[↓X6,wF,seval];refine X1 k rfl ?_;simp only[hR,↓X6,wF,seval];exact J7 rfl XT rfl rfl rfl sR (hR.trans rfl)
theorem GA (neg:Bool)(d:List Int)(hl:d.length<4611686018427387904):Fn Tryz.prog 168 [zR neg d] (.bool (Ko neg d)):=by
 obtain⟨V,hV⟩:∃V,V=Ko neg d:=⟨_,rfl⟩
 rw[←hV];unfold Ko at hV;have fin:∀ {s:AS} {v:Bool},s.get 2=.bool v→v=V→RetOk (Jv Tryz.prog Tryz.f168 [] [] (.bool V)) s:=fun h e=>Xk rfl h (X5 _) (by rw[e])
 refine Fq Tryz.call168 Tryz.func168 4 [] [] [] (by simp[Xh]) (Xl ?_);simp only[AS.start,zR,↓X6,wF,seval];refine Xj (fun i:Nat=>⟨4,[],[.any,.ref 0 0 0,.bool false,I i],[],[.row 0 2 (Xg [.bool neg,X8 d])]⟩) (fun i=>i≤d.length∧∀j,j<i→FY (d.getD j 0)=false) (fun i=>d.length-i) 0 ⟨by omega,by omega⟩
  (Aw (by simp[Xm,I]) (by simp[Xu])) ?_
 rintro i ⟨hi,hok⟩ next
 have w1:=wj i (by omega);by_cases hi2:i<d.length
 ·have f1:((i:Int)<d.length)=True:=eq_true (by omega)
  have f2:(i<d.length)=True:=eq_true hi2;have bad:FY (d.getD i 0)=true→false=V:=fun h=>by
   have:d.any FY=true:=List.any_eq_true.2 ⟨d.getD i 0,Gd hi2,h⟩;rw[hV,this];rfl
  by_cases g1:d.getD i 0<0
  ·have k1:(d.getD i 0<0)=True:=eq_true g1
   refine Xl ?_;simp only[Xu,w1,f1,f2,k1,Int.toNat_natCast,↓X6,wF,seval];exact fin rfl (bad (by unfold FY;rw[decide_eq_true g1];rfl))
  have k1:(d.getD i 0<0)=False:=eq_false g1;by_cases g2:1000000000≤d.getD i 0
  ·have k2:(1000000000≤d.getD i 0)=True:=eq_true g2
   refine Xl ?_;simp only[Xu,w1,f1,f2,k1,k2,Int.toNat_natCast,↓X6,wF,seval];exact fin rfl (bad (by unfold FY;rw[decide_eq_true g2];simp))
  have k2:(1000000000≤d.getD i 0)=False:=eq_false g2;refine Xl ?_;simp only[Xu,w1,f1,f2,k1,k2,Int.toNat_natCast,↓X6,wF,seval];refine next (i+1) _ ⟨by omega,fun j hj=>?_⟩ (by omega) (Aw (by simp[Xm,I]) (by simp[Xu]))
  by_cases e:j<i
  ·exact hok j e
  ·obtain rfl:j=i:=by omega
   unfold FY;rw[decide_eq_false g1,decide_eq_false g2];rfl
 obtain rfl:i=d.length:=by omega
 have hall:d.any FY=false:=by
  rw[List.any_eq_false];intro x hx;obtain⟨k,hk,rfl⟩:=List.getElem_of_mem hx;have:=hok k hk;rw[List.getD_eq_getElem?_getD,List.getElem?_eq_getElem hk]at this
  simpa using this
 rw[hall]at hV;by_cases h0:d.length=0
 ·have f1:(d.length=0)=True:=eq_true h0
  have f2:((d.length:Int)=0)=True:=eq_true (by omega);refine Xl ?_;simp only[Xu,f1,f2,Int.lt_irrefl,Nat.lt_irrefl,↓X6,wF,seval];exact fin rfl (by rw[hV,if_pos h0];simp)
 ·have f1:(d.length=0)=False:=eq_false h0
  have f2:((d.length:Int)=0)=False:=eq_false (by omega);have f3:(0<d.length)=True:=eq_true (by omega);have f4:(0<(d.length:Int))=True:=eq_true (by omega);have w2:IntKind.i64.wrap ((d.length:Int)-1)=((d.length-1:Nat):Int):=by rw[IntKind.wrap_i64];omega
  have f5:(d.length-1<d.length)=True:=eq_true (by omega);refine Xl ?_;simp only[Xu,f1,f2,f3,f4,f5,w2,Int.toNat_natCast,Int.lt_irrefl,Nat.lt_irrefl,↓X6,wF,seval];exact fin rfl (by rw[hV,if_neg h0];simp)
theorem Bv (x:RQ)(hx:x.sz<1000000000):Fn Tryz.prog 86 [x.A] (.bool (decide x.ok)):=by
 unfold RQ.sz at hx;obtain⟨V,hV⟩:∃V,V=decide x.ok:=⟨_,rfl⟩
 have c1:=GA x.pn x.pd (by omega);have c2:=GA x.qn x.qd (by omega);have c3:=Sg x.qn x.qd;have bad1:Ko x.pn x.pd=false→V=false:=fun h=>by
  rw[hV];refine decide_eq_false ?_;rintro⟨r,rfl⟩;have:Ko (RQ.of r).pn (RQ.of r).pd=true:=(Ze _ _).2 ⟨r.num,rfl,rfl⟩;rw[this]at h;cases h
 have bad2:Ko x.qn x.qd=false→V=false:=fun h=>by
  rw[hV];refine decide_eq_false ?_;rintro⟨r,rfl⟩;have:Ko (RQ.of r).qn (RQ.of r).qd=true:=(Ze _ _).2 ⟨(Ab.N.qd r:Int),by unfold RQ.of;simp,by unfold RQ.of;simp⟩;rw[this]at h;cases h
 have fin:∀ {s:AS} {v:Bool},s.get 2=.bool v→v=V→RetOk (Jv Tryz.prog Tryz.f86 [] [] (.bool V)) s:=fun h e=>Xk rfl h (X5 _) (by rw[e])
 rw[←hV];refine Fq Tryz.call86 Tryz.func86 3 [] [] [] (by simp[C3]) (Xl ?_);simp only[AS.start,RQ.A,RQ.L,↓X6,wF,seval];refine X1 c1 rfl ?_;by_cases v1:Ko x.pn x.pd=true
 rotate_left
 ·rw[Bool.not_eq_true]at v1
  rw[v1];simp only[↓X6,wF,seval];exact fin rfl (bad1 v1).symm
 rw[v1];simp only[↓X6,wF,seval];refine X1 c2 rfl ?_;by_cases v2:Ko x.qn x.qd=true
 rotate_left
 ·rw[Bool.not_eq_true]at v2
  rw[v2];simp only[↓X6,wF,seval];exact fin rfl (bad2 v2).symm
 rw[v2];obtain⟨p,p1,p2⟩:=(Ze _ _).1 v1;obtain⟨q,q1,q2⟩:=(Ze _ _).1 v2;have hok:=RQ.ok_iff x p q p1 p2 q1 q2;have lp:bl p<1000000000:=by unfold bl;rw[←p2];omega
 have lq:bl q<1000000000:=by unfold bl;rw[←q2];omega
 rw[q1,q2,PH]at c3;have cg:=SF p q lp lq;have cu:=Pl (Int.gcd p q);rw[p1,p2,q1,q2];have hl:((X9 q.natAbs).length=0)=(q=0):=propext (digs_len_zero.trans (by omega));have hlN:(X9 q.natAbs).length=0↔q=0:=digs_len_zero.trans (by omega);have hlI:(((X9 q.natAbs).length:Int)=0)=(q=0):=propext (by omega);by_cases h1:q<0
 ·have f1:(q<0)=True:=eq_true h1
  simp only[f1,↓X6,wF,seval];exact fin rfl (by rw[hV,decide_eq_false (by rw[hok];exact fun h=>h.1 h1)])
 have f1:(q<0)=False:=eq_false h1;simp only[f1,↓X6,wF,seval];have c3':=c3;rw[decide_eq_false h1]at c3';refine X1 c3' rfl ?_;by_cases h2:q=1
 ·have f2:(q=1)=True:=eq_true h2
  simp only[f1,f2,↓X6,wF,seval];exact fin rfl (by rw[hV,decide_eq_false (by rw[hok];exact fun h=>h.2.1 h2)])
 have f2:(q=1)=False:=eq_false h2;by_cases h0:q=0
 ·have f3:(q=0)=True:=eq_true h0
  simp only[f1,f2,f3,hl,hlI,↓X6,wF,seval];exact fin rfl (by rw[hV,decide_eq_true (hok.2 ⟨h1,h2,.inl h0⟩)])
 have f3:(q=0)=False:=eq_false h0;simp only[f1,f2,f3,hl,hlI,↓X6,wF,seval];rw[Yi h1]at cg;refine X1 cg rfl ?_;simp only[↓X6,wF,seval];refine X1 cu rfl ?_;simp only[↓X6,wF,seval];refine fin rfl ?_;rw[hV,decide_eq_decide,hok];constructor
 ·intro h;exact⟨h1,h2,.inr (by omega)⟩
 ·rintro⟨_,_,h |h⟩
  ·exact absurd h h0
  ·rw[h];rfl
theorem Kj (x y:Int)(hx:KT x)(hy:KT y):Fn Tryz.prog 53 [I x,I y] (vA ⟨x,y⟩):=by
 have e:∀n:Int,Rat.divInt n 1=(n:Rat):=fun n=>by
  rw[show(1:Int)=((1:Nat):Int)from rfl,Rat.divInt_ofNat];have:=Rat.mkRat_self (n:Rat);rwa[Rat.num_intCast,Rat.den_intCast]at this
 obtain⟨R,hR⟩:∃R,R=vA ⟨x,y⟩:=⟨_,rfl⟩
 have sR:Settled R:=hR▸Xr _;have c1:=XS x 1 hx ⟨by omega,by omega⟩;have c2:=XS y 1 hy ⟨by omega,by omega⟩;rw[e]at c1 c2;rw[←hR];refine Fq Tryz.call53 Tryz.func53 5 [] [] [] (by simp[wS]) (Xl ?_);simp(maxSteps:=999999)only[AS.start,↓X6,wF,seval];refine X1 c1 rfl ?_;simp only[↓X6,wF,seval];refine X1 c2 rfl ?_;simp only[↓X6,wF,seval];exact Zn rfl J6 rfl rfl rfl sR (hR.trans rfl)
theorem Jd (a b:V2)(ha:vb a≤rm)(hb:vb b≤rm):Fn Tryz.prog 97 [vA a,vA b] (vA (a.sub b)):=by
 obtain⟨R,hR⟩:∃R,R=vA (a.sub b):=⟨_,rfl⟩
 have sR:Settled R:=hR▸Xr _;have:=QS a;have:=QS b;have:=QN a;have:=QN b;have c1:=BX a.x b.x (by omega) (by omega);have c2:=BX a.y b.y (by omega) (by omega);rw[←hR];refine Fq Tryz.call97 Tryz.func97 5 [] [] [] (by simp[wS]) (Xl ?_);simp(maxSteps:=999999)only[AS.start,↓X6,wF,seval];refine X1 c1 rfl ?_;simp only[↓X6,wF,seval];refine X1 c2 rfl ?_;simp only[↓X6,wF,seval];exact Zn rfl J6 rfl rfl rfl sR (hR.trans rfl)
theorem Dz (a b:V2)(ha:vb a≤vm)(hb:vb b≤vm):Fn Tryz.prog 96 [vA a,vA b] (qA (Xp a b)):=by
 unfold vm at ha hb;obtain⟨R,hR⟩:∃R,R=qA (Xp a b):=⟨_,rfl⟩
 have sR:Settled R:=hR▸Xb _;have:=QS a;have:=QS b;have:=QN a;have:=QN b;have m1:=Qq a.x b.y;have m2:=Qq a.y b.x;have c1:=Jy a.x b.y (by unfold rm;omega) (by unfold rm;omega);have c2:=Jy a.y b.x (by unfold rm;omega) (by unfold rm;omega);have c4:=BX (a.x*b.y) (a.y*b.x) (by unfold rm;omega) (by unfold rm;omega);rw[show a.x*b.y-a.y*b.x=Xp a b from rfl,←hR]at c4;rw[←hR];refine Fq Tryz.call96 Tryz.func96 5 [] [] [] (by simp[wS]) (Xl ?_);simp(maxSteps:=999999)only[AS.start,↓X6,wF,seval];refine X1 c1 rfl ?_;simp only[↓X6,wF,seval];refine X1 c2 rfl ?_;simp only[↓X6,wF,seval];refine X1 c4 rfl ?_;simp only[hR,↓X6,wF,seval];exact Zn rfl XT rfl rfl rfl sR (hR.trans rfl)
theorem JG (a b:V2)(ha:vb a≤vm)(hb:vb b≤vm):Fn Tryz.prog 117 [vA a,vA b] (qA (XY a b)):=by
 unfold vm at ha hb;obtain⟨R,hR⟩:∃R,R=qA (XY a b):=⟨_,rfl⟩
 have sR:Settled R:=hR▸Xb _;have:=QS a;have:=QS b;have:=QN a;have:=QN b;have m1:=Qq a.x b.x;have m2:=Qq a.y b.y;have c1:=Jy a.x b.x (by unfold rm;omega) (by unfold rm;omega);have c2:=Jy a.y b.y (by unfold rm;omega) (by unfold rm;omega);have c4:=Z6 (a.x*b.x) (a.y*b.y) (by unfold rm;omega) (by unfold rm;omega);rw[show a.x*b.x+a.y*b.y=XY a b from rfl,←hR]at c4;rw[←hR];refine Fq Tryz.call117 Tryz.func117 5 [] [] [] (by simp[wS]) (Xl ?_);simp(maxSteps:=999999)only[AS.start,↓X6,wF,seval];refine X1 c1 rfl ?_;simp only[↓X6,wF,seval];refine X1 c2 rfl ?_;simp only[↓X6,wF,seval];refine X1 c4 rfl ?_;simp only[hR,↓X6,wF,seval];exact Zn rfl XT rfl rfl rfl sR (hR.trans rfl)
theorem SA (a b c:V2)(ha:vb a≤vs)(hb:vb b≤vs)(hc:vb c≤vs):Fn Tryz.prog 152 [vA a,vA b,vA c] (I (K0 a b c)):=by
 unfold vs at ha hb hc;have m1:=QX b a;have m2:=QX c a;have c1:=Jd b a (by unfold rm;omega) (by unfold rm;omega);have c2:=Jd c a (by unfold rm;omega) (by unfold rm;omega);have c3:=Dz (b.sub a) (c.sub a) (by unfold vm;omega) (by unfold vm;omega);have q:=Ao (b.sub a) (c.sub a);have c4:=JV (Xp (b.sub a) (c.sub a)) (by unfold rm;omega);refine Fq Tryz.call152 Tryz.func152 7 [] [] [] (by simp[wS]) (Xl ?_);simp(maxSteps:=999999)only[AS.start,↓X6,wF,seval];refine X1 c1 rfl ?_;simp only[↓X6,wF,seval];refine X1 c2 rfl ?_;simp only[↓X6,wF,seval];refine X1 c3 rfl ?_;simp only[↓X6,wF,seval];refine X1 c4 rfl ?_;simp only[↓X6,wF,seval];exact Xk rfl rfl (Xa _) rfl
end
end Go.Ab.N
