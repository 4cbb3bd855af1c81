/- Own texts. -/
import Derived.Test.YtefjhgcndhepeaaGreatC4
import Derived.Test.YtefjhgcndhepeaaGreatAb4
set_option linter.unusedSimpArgs false
set_option linter.unusedVariables false
open Nat renaming reducePow → Y1, reduceLT → Y2, reduceLeDiff → Y3, reduceEqDiff → Y4, reduceAdd → Y5, reduceMul → Y6, reduceSub → Y7, reduceBEq → Y8, reduceDiv → Y9, reduceMod → YA
namespace Go.Ab.N
open Go Go.RowKit Go.Proofs
noncomputable section
set_option maxRecDepth 10000
set_option maxHeartbeats 2000000
open Classical
theorem LW (x y:Int) (hx:bl x<1000000000) (hy:bl y<1000000000) (hy0:y≠0):Fn Tryz.prog 165 [zA x,zA y] (.tup [zA (x / y),zA (x % y)]):=by
 obtain ⟨L,dL,vL,lL,cd⟩:=Uw x.natAbs y.natAbs hx hy (by omega)
 obtain ⟨q,hq⟩:∃ q,q=x.natAbs / y.natAbs:=⟨_,rfl⟩
 obtain ⟨r,hr⟩:∃ r,r=x.natAbs % y.natAbs:=⟨_,rfl⟩
 have hry:r<y.natAbs:=by rw [hr]; exact Nat.mod_lt _ (by omega)
 have hqx:q≤x.natAbs:=by rw [hq]; exact Nat.div_le_self _ _
 rw [← hq] at vL
 rw [← hr] at cd
 have lr:(X8 r).length<1000000000:=by
  have:=Jj (y:=(r:Int)) (z:=y) (by omega)
  rw [Kj] at this; omega
 have ly:(X8 y.natAbs).length<1000000000:=hy
 have lry:(X8 r).length≤(X8 y.natAbs).length:=by
  have:=Jj (y:=(r:Int)) (z:=y) (by omega)
  rw [Kj] at this; exact this
 have y1:((X8 y.natAbs).length=0)=False:=eq_false (fun h=>by have:=digs_len_zero.1 h; omega)
 have y2:(((X8 y.natAbs).length:Int)=0)=False:=eq_false (fun h=>by have:=digs_len_zero.1 (show (X8 y.natAbs).length=0 by omega); omega)
 obtain ⟨q1,r1,h1⟩:∃ q1 r1,if x<0∧r≠0 then q1=q+1∧r1=y.natAbs - r else q1=q∧r1=r:=by
  by_cases h:x<0∧r≠0
  ·exact ⟨q+1,y.natAbs - r,by rw [if_pos h]; exact ⟨rfl,rfl⟩⟩
  ·exact ⟨q,r,by rw [if_neg h]; exact ⟨rfl,rfl⟩⟩
 obtain ⟨e1,e2⟩:=Lm x y hy0 q r hq hr q1 r1 h1
 obtain ⟨s,hsg⟩:∃ s,s=(decide (x<0) != decide (y<0)):=⟨_,rfl⟩
 have hsg':(!(decide (x<0) == decide (y<0)))=s:=by rw [hsg]; cases decide (x<0) <;> cases decide (y<0) <;> rfl
 have c1:=K6 s L dL (by omega)
 rw [vL] at c1
 have c2:=K6 false (X8 r) (XL r) (by omega)
 rw [XC,show KI false (r:Int)=(r:Int) from rfl,J3] at c2
 obtain ⟨Q,hQ⟩:∃ Q,Q=zA (x / y):=⟨_,rfl⟩
 obtain ⟨R,hR⟩:∃ R,R=zA (x % y):=⟨_,rfl⟩
 have sQ:Settled Q:=hQ▸XK _
 have sR:Settled R:=hR▸XK _
 rw [← hQ,← hR]
 rw [e1,← hsg] at hQ
 rw [e2,J3] at hR
 have g1:∀ n:Nat,(0<(X8 n).length)=(n≠0):=fun n=>propext (by have:=@digs_len_zero n; omega)
 have fin:∀ {s':AS},QH Tryz.prog s' (.cell 4 26)=some (zA (KI s q1))→QH Tryz.prog s' (.cell 5 26)=some (.agg [.bool false,X7 (X8 r1)]) →
   RetOk (QJ Tryz.prog Tryz.f165 [9,10000,100000009] [] (.tup [Q,R])) s':=fun h1 h2=>J2 rfl h1 h2 (QL sQ hQ.symm) (QL sR hR.symm)
 by_cases hc:x<0∧r≠0
 ·obtain ⟨hx0,hr0⟩:=hc
  rw [if_pos ⟨hx0,hr0⟩] at h1
  obtain ⟨rfl,rfl⟩:=h1
  have c3:=K6 s [1] (Z2.2 ⟨⟨by omega,by omega⟩,C6⟩) (by simp)
  rw [show val [(1:Int)]=1 by simp [val]] at c3
  have bq:bl (KI s (q:Int))<room:=by
   have h2:=Jj (y:=KI s (q:Int)) (z:=x) (by unfold KI; split <;> omega)
   unfold room; omega
  have c4:=SA (KI s (q:Int)) (KI s 1) bq (by
   have:=Qy (n:=KI s 1) (by unfold KI; split <;> exact ⟨by omega,by omega⟩)
   unfold room; omega)
  rw [show KI s (q:Int)+KI s 1=KI s ((q+1:Nat):Int) by unfold KI; split <;> omega] at c4
  have cm:=EM (X8 y.natAbs) (X8 r) (XL _) (XL _) (by omega) lry (by rw [XC,XC]; omega)
  have vm:=BG (XL y.natAbs) (XL r) lry (by rw [XC,XC]; omega)
  rw [XC,XC] at vm
  have c5:=K6 false (Zy (X8 y.natAbs) (X8 r)) (BF (XL _) (XL _)) (by unfold Zy; rw [Qd]; omega)
  rw [vm,show KI false ((y.natAbs:Int) - r)=((y.natAbs - r:Nat):Int) by unfold KI; simp; omega,J3] at c5
  have f1:(x<0)=True:=eq_true hx0
  have f2:(0<(X8 r).length)=True:=eq_true (by rw [g1]; exact hr0)
  have f3:(0<((X8 r).length:Int))=True:=eq_true (by have:=of_eq_true f2; omega)
  have hsT:(!(true == decide (y<0)))=s:=by rw [← hsg',decide_eq_true hx0]
  refine Fq Tryz.call165 Tryz.func165 10 [] [9,10000,100000009] [] (by simp [Kn,Xa,Xh]) (Xl ?_); simp (maxSteps:=999999) only [AS.start,↓X1,wA,seval,zA,qA,qC,wN]
  simp only [y1,y2,f1,↓X1,wA,seval,zA,qA,qC,wN]
  refine X0 cd rfl ?_
  simp only [f1,decide_true,hsT,↓X1,wA,seval,zA,qA,qC,wN]
  refine X0 c1 rfl ?_
  simp only [f1,f2,f3,decide_true,↓X1,wA,seval,zA,qA,qC,wN]
  refine X0 c2 rfl ?_
  simp only [f1,f2,f3,hsT,decide_true,↓X1,wA,seval,zA,qA,qC,wN]
  refine XW c3 ⟨Weak.rfl' _,A6 rfl rfl,trivial⟩ ?_
  simp only [↓X1,wA,seval,zA,qA,qC,wN]
  refine X0 c4 rfl ?_
  simp only [↓X1,wA,seval,zA,qA,qC,wN]
  refine X0 cm rfl ?_
  simp only [↓X1,wA,seval,zA,qA,qC,wN]
  refine X0 c5 rfl ?_
  simp only [↓X1,wA,seval,zA,qA,qC,wN]
  exact fin (Xo XV rfl rfl rfl) (Xo XV rfl rfl rfl)
 rw [if_neg hc] at h1
 obtain ⟨rfl,rfl⟩:=h1
 have zr:x<0→(0<(X8 r1).length)=False:=fun h=>eq_false (by rw [g1]; exact fun h2=>hc ⟨h,h2⟩)
 by_cases hx0:x<0
 ·have f1:(x<0)=True:=eq_true hx0
  have f2:=zr hx0
  have f3:(0<((X8 r1).length:Int))=False:=eq_false (by have:=of_eq_false f2; omega)
  have hsT:(!(true == decide (y<0)))=s:=by rw [← hsg',decide_eq_true hx0]
  refine Fq Tryz.call165 Tryz.func165 10 [] [9,10000,100000009] [] (by simp [Kn,Xa,Xh]) (Xl ?_); simp (maxSteps:=999999) only [AS.start,↓X1,wA,seval,zA,qA,qC,wN]
  simp only [y1,y2,f1,↓X1,wA,seval,zA,qA,qC,wN]
  refine X0 cd rfl ?_
  simp only [f1,f2,f3,decide_true,hsT,↓X1,wA,seval,zA,qA,qC,wN]
  refine X0 c1 rfl ?_
  simp only [f1,f2,f3,decide_true,↓X1,wA,seval,zA,qA,qC,wN]
  refine X0 c2 rfl ?_
  simp only [f1,f2,f3,decide_true,↓X1,wA,seval,zA,qA,qC,wN]
  exact fin (Xo XV rfl rfl rfl) (Xo XV rfl rfl rfl)
 ·have f1:(x<0)=False:=eq_false hx0
  have hsT:(!(false == decide (y<0)))=s:=by rw [← hsg',decide_eq_false hx0]
  refine Fq Tryz.call165 Tryz.func165 10 [] [9,10000,100000009] [] (by simp [Kn,Xa,Xh]) (Xl ?_); simp (maxSteps:=999999) only [AS.start,↓X1,wA,seval,zA,qA,qC,wN]
  simp only [y1,y2,f1,↓X1,wA,seval,zA,qA,qC,wN]
  refine X0 cd rfl ?_
  simp only [f1,decide_false,hsT,↓X1,wA,seval,zA,qA,qC,wN]
  refine X0 c1 rfl ?_
  simp only [f1,decide_false,↓X1,wA,seval,zA,qA,qC,wN]
  refine X0 c2 rfl ?_
  simp only [f1,decide_false,↓X1,wA,seval,zA,qA,qC,wN]
  exact fin (Xo XV rfl rfl rfl) (Xo XV rfl rfl rfl)
def KF (x y:Int) (p:Nat×Nat):AS :=
  ⟨12,[],[.any,.any,.ref 0 0 0,.ref 1 0 0,.ref 2 0 0,.ref 3 0 0,.ref 4 0 0,.any,.any,.any,.any,.any],[],
    [.row 0 2 (Xn [.bool (decide (x<0)),X7 (X8 x.natAbs)]),.row 0 2 (Xn [.bool (decide (y<0)),X7 (X8 y.natAbs)]),.row 0 2 (Xn [.bool false,.sl 0 0 (fun _=>.any) true]),
     .row 0 2 (Xn [.bool false,X7 (X8 p.1)]),.row 0 2 (Xn [.bool false,X7 (X8 p.2)])]⟩
def Dd (x y:Int) (A B:Nat) (p:Nat×Nat):AS :=
  ⟨12,[],[.any,.any,.ref 0 0 0,.ref 1 0 0,.ref 2 0 0,.ref 3 0 0,.ref 4 0 0,I p.1,I p.2,.any,.any,.any],[],
    [.row 0 2 (Xn [.bool (decide (x<0)),X7 (X8 x.natAbs)]),.row 0 2 (Xn [.bool (decide (y<0)),X7 (X8 y.natAbs)]),.row 0 2 (Xn [.bool false,.sl 0 0 (fun _=>.any) true]),
     .row 0 2 (Xn [.bool false,X7 (X8 A)]),.row 0 2 (Xn [.bool false,X7 (X8 B)])]⟩
theorem SL (x y:Int) (hx:bl x<1000000000) (hy:bl y<1000000000):Fn Tryz.prog 164 [zA x,zA y] (zA (Int.gcd x y)):=by
 have ofC:∀ n:Nat,(X8 n).length<1000000002→Fn Tryz.prog 168 [.bool false,X7 (X8 n)] (.agg [.bool false,X7 (X8 n)]):=fun n h=>by
  have:=K6 false (X8 n) (XL n) (by omega)
  rw [XC] at this
  rw [← J3]; exact this
 unfold bl at hx hy
 have cx:=ofC x.natAbs (by omega)
 have cy:=ofC y.natAbs (by omega)
 obtain ⟨R,hR⟩:∃ R,R=zA (Int.gcd x y):=⟨_,rfl⟩
 have sR:Settled R:=hR▸XK _
 rw [← hR]
 rw [J3] at hR
 refine Fq Tryz.call164 Tryz.func164 12 [] [] [] (by simp [Kn,Xa,Xh]) (Xl ?_); simp (maxSteps:=999999) only [AS.start,↓X1,wA,seval,zA,qA,qC,wN]
 refine X0 cx rfl ?_
 simp only [↓X1,wA,seval,zA,qA,qC,wN]
 refine X0 cy rfl ?_
 simp only [↓X1,wA,seval,zA,qA,qC,wN]
 refine Xe (KF x y) (nP x y) (fun p=>p.2) (x.natAbs,y.natAbs) ⟨rfl,hx,hy⟩ ?_ ?_
 ·exact Xi rfl (by simp [KF,Xf]) (by simp [KF,Xq]) rfl
 rintro ⟨A,B⟩ ⟨g1,g2,g3⟩ next
 simp only at g1 g2 g3
 by_cases hB:B=0
 ·have f1:(0<(X8 B).length)=False:=eq_false (by have:=@digs_len_zero B; omega)
  have f2:(0<((X8 B).length:Int))=False:=eq_false (by have:=@digs_len_zero B; omega)
  refine Xl ?_
  simp only [KF,f1,f2,↓X1,wA,seval,zA,qA,qC,wN]
  refine Qg rfl XV rfl rfl rfl hR sR ?_
  rw [hB,Nat.gcd_zero_right] at g1
  rw [← g1]
  exact ⟨Weak.rfl' _,Weak.rfl' _,trivial⟩
 have f1:(0<(X8 B).length)=True:=eq_true (by have:=@digs_len_zero B; omega)
 have f2:(0<((X8 B).length:Int))=True:=eq_true (by have:=@digs_len_zero B; omega)
 by_cases hAB:(X8 A).length≤2∧(X8 B).length≤2
 ·have c1:=IL _ (XL A) hAB.1
  have c2:=IL _ (XL B) hAB.2
  rw [XC] at c1 c2
  have k1:(((X8 A).length:Int)≤2)=True:=eq_true (by omega)
  have k2:(((X8 B).length:Int)≤2)=True:=eq_true (by omega)
  have l1:=ZX hAB.1
  have l2:=ZX hAB.2
  refine Xl ?_
  simp only [KF,f1,f2,k1,k2,↓X1,wA,seval,zA,qA,qC,wN]
  refine X0 c1 rfl ?_
  simp only [↓X1,wA,seval,zA,qA,qC,wN]
  refine X0 c2 rfl ?_
  simp only [↓X1,wA,seval,zA,qA,qC,wN]
  refine Xe (Dd x y A B) (fun p=>Nat.gcd p.1 p.2=Int.gcd x y∧(p.1:Int)<1000000000000000000∧(p.2:Int)<1000000000000000000) (fun p=>p.2) (A,B) ⟨g1,l1,l2⟩ (Xi rfl (by simp [Dd,Xf,I]) (by simp [Dd,Xq]) rfl) ?_
  rintro ⟨m,n⟩ ⟨h1,h2,h3⟩ next2
  simp only at h1 h2 h3
  by_cases hn:n=0
  ·have j1:(0<(n:Int))=False:=eq_false (by omega)
   have j1':(0<n)=False:=eq_false (by omega)
   have hm:m=Int.gcd x y:=by rw [hn,Nat.gcd_zero_right] at h1; exact h1
   have cu:=Df (m:Int) ⟨by omega,by omega⟩
   rw [J3] at cu
   refine Xl ?_
   simp only [Dd,j1,j1',↓X1,wA,seval,zA,qA,qC,wN]
   refine X0 cu rfl ?_
   simp only [↓X1,wA,seval,zA,qA,qC,wN]
   refine Qg rfl XV rfl rfl rfl hR sR ?_
   rw [← hm]
   exact ⟨Weak.rfl' _,Weak.rfl' _,trivial⟩
  ·have j1:(0<(n:Int))=True:=eq_true (by omega)
   have j1':(0<n)=True:=eq_true (by omega)
   have j2:((n:Int)=0)=False:=eq_false (by omega)
   have e2:(m:Int).tmod n=((m % n:Nat):Int):=rfl
   have hlt:m % n<n:=Nat.mod_lt _ (by omega)
   refine Xl ?_
   simp only [Dd,j1,j1',j2,e2,↓X1,wA,seval,zA,qA,qC,wN]
   refine next2 (n,m % n) _ ⟨?_,h3,by simp only; omega⟩ hlt (Xi rfl (by simp [Dd,Xf,I]) (by simp [Dd,Xq]) rfl)
   simp only
   rw [← h1,Nat.gcd_comm m n,Nat.gcd_rec n m,Nat.gcd_comm]
 ·have cd:=LW (A:Int) (B:Int) (by rw [Kj]; exact g2) (by rw [Kj]; exact g3) (by omega)
  rw [show (A:Int) / B=((A / B:Nat):Int) from rfl,show (A:Int) % B=((A % B:Nat):Int) from rfl,J3,J3,J3,J3] at cd
  have hlt:A % B<B:=Nat.mod_lt _ (by omega)
  have gnew:nP x y (B,A % B):=by
   refine ⟨?_,g3,?_⟩
   ·simp only
    rw [← g1,Nat.gcd_comm A B,Nat.gcd_rec B A,Nat.gcd_comm]
   ·have:=Jj (y:=((A % B:Nat):Int)) (z:=(B:Int)) (by omega)
    rw [Kj,Kj] at this
    simp only; omega
  by_cases hA2:(X8 A).length≤2
  ·have k1:(((X8 A).length:Int)≤2)=True:=eq_true (by omega)
   have k2:(((X8 B).length:Int)≤2)=False:=eq_false fun h=>hAB ⟨hA2,by omega⟩
   refine Xl ?_
   simp only [KF,f1,f2,k1,k2,↓X1,wA,seval,zA,qA,qC,wN]
   refine X0 cd rfl ?_
   simp only [↓X1,wA,seval,zA,qA,qC,wN]
   exact next (B,A % B) _ gnew hlt (XE (m:=5) (Nat.zero_le _) rfl (by simp [zA,qA,qC,wN,KF,Xf,X7,Qu,I]) (by simp [zA,qA,qC,wN,KF,Xq]) (by simp [zA,qA,qC,wN,KF,X7,Qu,I]) (by simp [zA,qA,qC,wN,KF,XA]) (by simp [zA,qA,qC,wN,KF,XA]) (by simp [zA,qA,qC,wN,KF,XA]))
  ·have k1:(((X8 A).length:Int)≤2)=False:=eq_false (by omega)
   refine Xl ?_
   simp only [KF,f1,f2,k1,↓X1,wA,seval,zA,qA,qC,wN]
   refine X0 cd rfl ?_
   simp only [↓X1,wA,seval,zA,qA,qC,wN]
   exact next (B,A % B) _ gnew hlt (XE (m:=5) (Nat.zero_le _) rfl (by simp [zA,qA,qC,wN,KF,Xf,X7,Qu,I]) (by simp [zA,qA,qC,wN,KF,Xq]) (by simp [zA,qA,qC,wN,KF,X7,Qu,I]) (by simp [zA,qA,qC,wN,KF,XA]) (by simp [zA,qA,qC,wN,KF,XA]) (by simp [zA,qA,qC,wN,KF,XA]))
theorem SU (n1 n2:Bool) (a b:List Int) (la:a.length<4611686018427387904) (lb:b.length<4611686018427387904):Fn Tryz.prog 174 [zR n1 a,zR n2 b] (.bool (decide (n1=n2) && decide (a=b))):=by
 obtain ⟨V,hV⟩:∃ V,V=(decide (n1=n2) && decide (a=b)):=⟨_,rfl⟩
 rw [← hV]
 have fin:∀ {s:AS} {v:Bool},s.get 4=.bool v→v=V→RetOk (QJ Tryz.prog Tryz.f174 [] [] (.bool V)) s:=fun h e=>Xt rfl h (X2 _) (by rw [e])
 refine Fq Tryz.call174 Tryz.func174 6 [] [] [] (by simp [Xh]) (Xl ?_)
 by_cases hn:n1=n2
 rotate_left
 ·have hb:(!(n1 == n2))=true:=by simp [hn]
  simp only [AS.start,zR,hb,↓X1,wA,seval,zA,qA,qC,wN]
  exact fin rfl (by rw [hV,decide_eq_false hn]; rfl)
 subst hn
 have hb:(!(n1 == n1))=false:=by simp
 by_cases hl:a.length=b.length
 rotate_left
 ·have f1:((a.length:Int)=b.length)=False:=eq_false (by omega)
  have f1':(a.length=b.length)=False:=eq_false hl
  simp only [AS.start,zR,hb,f1,f1',↓X1,wA,seval,zA,qA,qC,wN]
  exact fin rfl (by rw [hV,decide_eq_false (show ¬ a=b from fun e=>hl (by rw [e])),Bool.and_false])
 have f1:((a.length:Int)=b.length)=True:=eq_true (by omega)
 have f1':(a.length=b.length)=True:=eq_true hl
 simp only [AS.start,zR,hb,f1,f1',↓X1,wA,seval,zA,qA,qC,wN]
 refine Xe (fun j:Nat=>⟨6,[],[.any,.any,.ref 0 0 0,.ref 1 0 0,.any,I j],[],[.row 0 2 (Xn [.bool n1,X7 a]),.row 0 2 (Xn [.bool n1,X7 b])]⟩) (fun j=>j≤a.length∧∀ i,i<j→a.getD i 0=b.getD i 0) (fun j=>a.length - j) 0 ⟨by omega,by omega⟩
  (Jm (by simp [Xf,X7,Qu,I]) rfl) ?_
 rintro j ⟨hj,hno⟩ next
 have w1:=wj j (by omega)
 by_cases hj2:j<a.length
 ·have f2:((j:Int)<a.length)=True:=eq_true (by omega)
  have f3:(j<a.length)=True:=eq_true hj2
  have f4:(j<b.length)=True:=eq_true (by omega)
  refine Xl ?_
  simp only [w1,f2,f3,f4,↓X1,wA,seval,zA,qA,qC,wN]
  refine ⟨fun h=>fin rfl ?_,fun h=>next (j+1) _ ⟨by omega,fun i hi=>?_⟩ (by omega) (Jm (by simp [Xf,X7,Qu,I]) rfl)⟩
  ·rw [hV,decide_eq_false (show ¬ a=b from fun e=>h (by rw [e])),Bool.and_false]
  ·by_cases e:i=j
   ·rw [e]; exact h
   ·exact hno i (by omega)
 ·have f2:((j:Int)<a.length)=False:=eq_false (by omega)
  have f3:(j<a.length)=False:=eq_false hj2
  refine Xl ?_
  simp only [w1,f2,f3,↓X1,wA,seval,zA,qA,qC,wN]
  refine fin rfl ?_
  have:a=b:=List.ext_getElem hl fun i h1 h2=>by
   have:=hno i (by omega)
   rw [List.getD_eq_getElem?_getD,List.getElem?_eq_getElem h1,List.getD_eq_getElem?_getD,List.getElem?_eq_getElem h2] at this
   exact this
  rw [hV,decide_eq_true this]; simp
theorem cU (x y:RQ) (hx:x.sz<4611686018427387904) (hy:y.sz<4611686018427387904):Fn Tryz.prog 86 [x.A,y.A] (.bool (decide (x=y))):=by
 have c1:=SU x.pn y.pn x.pd y.pd (by unfold RQ.sz at hx; omega) (by unfold RQ.sz at hy; omega)
 have c2:=SU x.qn y.qn x.qd y.qd (by unfold RQ.sz at hx; omega) (by unfold RQ.sz at hy; omega)
 obtain ⟨V,hV⟩:∃ V,V=decide (x=y):=⟨_,rfl⟩
 rw [← hV]
 have e:=RQ.eq_iff x y
 obtain ⟨B1,hB1⟩:∃ B,B=(decide (x.pn=y.pn) && decide (x.pd=y.pd)):=⟨_,rfl⟩
 obtain ⟨B2,hB2⟩:∃ B,B=(decide (x.qn=y.qn) && decide (x.qd=y.qd)):=⟨_,rfl⟩
 rw [← hB1] at c1
 rw [← hB2] at c2
 have hVB:V=(B1 && B2):=by
  rw [hV,hB1,hB2]
  simp only [e,Bool.decide_and]
 refine Fq Tryz.call86 Tryz.func86 5 [] [] [] (by simp [Dh]) (Xl ?_)
 simp only [AS.start,RQ.A,RQ.L,↓X1,wA,seval,zA,qA,qC,wN]
 refine X0 c1 rfl ?_
 cases B1
 ·simp only [↓X1,wA,seval,zA,qA,qC,wN]
  exact Xt (v:=.bool false) rfl rfl (X2 _) (by rw [hVB]; rfl)
 ·simp only [↓X1,wA,seval,zA,qA,qC,wN]
  refine X0 c2 rfl ?_
  simp only [↓X1,wA,seval,zA,qA,qC,wN]
  exact Xt (v:=.bool B2) rfl rfl (X2 _) (by rw [hVB]; rfl)
theorem Se (neg:Bool) (d:List Int):Fn Tryz.prog 167 [zR neg d] (.bool (!neg && decide (d=[1]))):=by
 have hone:(d=[1])↔d.length=1∧d.getD 0 0=1:=by
  constructor
  ·rintro rfl; exact ⟨rfl,rfl⟩
  ·rintro ⟨h1,h2⟩
   obtain ⟨x,rfl⟩:=List.length_eq_one_iff.1 h1
   rw [show x=1 from h2]
 obtain ⟨V,hV⟩:∃ V,V=(!neg && decide (d=[1])):=⟨_,rfl⟩
 rw [← hV]
 have fin:∀ {s:AS} {v:Bool},s.get 2=.bool v→v=V→RetOk (QJ Tryz.prog Tryz.f167 [] [] (.bool V)) s:=fun h e=>Xt rfl h (X2 _) (by rw [e])
 by_cases h0:d.length=1
 ·have f1:(d.length=1)=True:=eq_true h0
  have f2:((d.length:Int)=1)=True:=eq_true (by omega)
  have f3:(0<d.length)=True:=eq_true (by omega)
  have f4:(0<(d.length:Int))=True:=eq_true (by omega)
  refine Fq Tryz.call167 Tryz.func167 3 [] [] [] (by simp [Xh]) (Xl ?_)
  cases neg
  all_goals
   simp only [AS.start,zR,f1,f2,f3,f4,↓X1,wA,seval,zA,qA,qC,wN]
   exact fin rfl (by rw [hV]; simp [hone,h0])
 ·have f1:(d.length=1)=False:=eq_false h0
  have f2:((d.length:Int)=1)=False:=eq_false (by omega)
  have hne:¬ d=[1]:=fun h=>h0 (hone.1 h).1
  refine Fq Tryz.call167 Tryz.func167 3 [] [] [] (by simp [Xh]) (Xl ?_)
  cases neg
  all_goals
   simp only [AS.start,zR,f1,f2,↓X1,wA,seval,zA,qA,qC,wN]
   exact fin rfl (by rw [hV]; simp [hne])
theorem OW (z:Int):Fn Tryz.prog 167 [zA z] (.bool (decide (z=1))):=by
 have:=Se (decide (z<0)) (X8 z.natAbs)
 rw [Po] at this; exact this
theorem Ez (p q:Int) (hp:bl p<1000000000) (hq:bl q<1000000000):Fn Tryz.prog 77 [zA p,zA q] (qA (Rat.divInt p q)):=by
 obtain ⟨R,hR⟩:∃ R,R=qA (Rat.divInt p q):=⟨_,rfl⟩
 have sR:Settled R:=hR▸Xa _
 have zp:(((X8 p.natAbs).length:Int)=0)=(p=0):=propext (by have:=@digs_len_zero p.natAbs; omega)
 have zq:(((X8 q.natAbs).length:Int)=0)=(q=0):=propext (by have:=@digs_len_zero q.natAbs; omega)
 have z0:p=0∨q=0→R=.agg [.bool false,X7 [],.bool false,X7 []]:=by
  intro h
  rw [hR,← P0]
  rcases h with rfl | rfl
  ·rw [Rat.zero_divInt]
  ·rw [Rat.divInt_zero]
 rw [← hR]
 by_cases hq0:q=0
 ·have f1:(q=0)=True:=eq_true hq0
  refine Fq Tryz.call77 Tryz.func77 10 [] [] [] (by simp [Kn,Xa,Xh]) (Xl ?_); simp (maxSteps:=999999) only [AS.start,↓X1,wA,seval,zA,qA,qC,wN]
  simp only [zq,f1,↓X1,wA,seval,zA,qA,qC,wN]
  exact Qg rfl Qa rfl rfl rfl (z0 (.inr hq0)) sR ⟨Weak.rfl' _,Qo _ _,Weak.rfl' _,Qo _ _,trivial⟩
 have f1:(q=0)=False:=eq_false hq0
 by_cases hp0:p=0
 ·have f3:(p=0)=True:=eq_true hp0
  refine Fq Tryz.call77 Tryz.func77 10 [] [] [] (by simp [Kn,Xa,Xh]) (Xl ?_); simp (maxSteps:=999999) only [AS.start,↓X1,wA,seval,zA,qA,qC,wN]
  simp only [zp,zq,f1,f3,↓X1,wA,seval,zA,qA,qC,wN]
  exact Qg rfl Qa rfl rfl rfl (z0 (.inl hp0)) sR ⟨Weak.rfl' _,Qo _ _,Weak.rfl' _,Qo _ _,trivial⟩
 have f3:(p=0)=False:=eq_false hp0
 have cg:=SL p q hp hq
 obtain ⟨g,hg⟩:∃ g:Int,g=Int.gcd p q:=⟨_,rfl⟩
 have hg0:0<Int.gcd p q:=Int.gcd_pos_of_ne_zero_right _ hq0
 have hgq:bl g≤bl q:=Jj (by
  have:=Nat.le_of_dvd (by omega) (Int.gcd_dvd_natAbs_right p q)
  omega)
 rw [← hg] at cg
 obtain ⟨d1,d2,d3⟩:=Dn p q hq0 g hg
 have c1:=LW p g hp (by omega) (by omega)
 have c2:=LW q g hq (by omega) (by omega)
 obtain ⟨u,hu⟩:∃ u,u=p / g:=⟨_,rfl⟩
 obtain ⟨v,hv⟩:∃ v,v=q / g:=⟨_,rfl⟩
 have hub:bl u≤bl p:=Jj (by rw [hu]; exact Int.natAbs_ediv_le_natAbs p g)
 have hvb:bl v≤bl q:=Jj (by rw [hv]; exact Int.natAbs_ediv_le_natAbs q g)
 rw [← hu] at c1 d1 d2
 rw [← hv] at c2 d1 d2 d3
 obtain ⟨e1,e2⟩:=Lk u v d3 d2
 have key:∀ p' q':Int,p'=v.sign*u→q'=v.natAbs→(q'=1→R=.agg [.bool (decide (p'<0)),X7 (X8 p'.natAbs),.bool false,X7 []])∧(¬ q'=1→R=.agg [.bool (decide (p'<0)),X7 (X8 p'.natAbs),.bool false,X7 (X8 q'.natAbs)]):=by
  intro p' q' hp' hq'
  constructor
  ·intro h
   rw [hR,← d1,LQ (by omega),e1,hp']
  ·intro h
   rw [hR,← d1,WE (by omega),e1,hp',e2,hq',Int.natAbs_natCast]
 by_cases hneg:v<0
 ·have g1:(v<0)=True:=eq_true hneg
  obtain ⟨k1,k2⟩:=key (-u) (-v) (by rw [Int.sign_eq_neg_one_of_neg hneg]; omega) (by omega)
  have co:=OW (-v)
  have cn1:=M4 u (by unfold room; omega)
  have cn2:=M4 v (by unfold room; omega)
  rw [qy hneg] at cn2 c2
  have f5:decide (-v<0)=false:=decide_eq_false (by omega)
  by_cases h1:-v=1
  ·simp only [h1,decide_true] at co
   have hk:=k1 h1
   rw [h1] at cn2
   refine Fq Tryz.call77 Tryz.func77 10 [] [] [] (by simp [Kn,Xa,Xh]) (Xl ?_); simp (maxSteps:=999999) only [AS.start,↓X1,wA,seval,zA,qA,qC,wN]
   simp only [zp,zq,f1,f3,↓X1,wA,seval,zA,qA,qC,wN]
   refine X0 cg rfl ?_
   simp only [↓X1,wA,seval,zA,qA,qC,wN]
   refine X0 c1 rfl ?_
   simp only [↓X1,wA,seval,zA,qA,qC,wN]
   refine X0 c2 rfl ?_
   simp only [↓X1,wA,seval,zA,qA,qC,wN]
   refine X0 cn1 rfl ?_
   simp only [↓X1,wA,seval,zA,qA,qC,wN]
   refine X0 cn2 rfl ?_
   simp only [↓X1,wA,seval,zA,qA,qC,wN]
   refine X0 co rfl ?_
   simp only [↓X1,wA,seval,zA,qA,qC,wN]
   exact Qg rfl Qa rfl rfl rfl hk sR ⟨Weak.rfl' _,Weak.rfl' _,Weak.rfl' _,Qo _ _,trivial⟩
  ·simp only [h1,decide_false] at co
   have hk:=k2 h1
   refine Fq Tryz.call77 Tryz.func77 10 [] [] [] (by simp [Kn,Xa,Xh]) (Xl ?_); simp (maxSteps:=999999) only [AS.start,↓X1,wA,seval,zA,qA,qC,wN]
   simp only [zp,zq,f1,f3,↓X1,wA,seval,zA,qA,qC,wN]
   refine X0 cg rfl ?_
   simp only [↓X1,wA,seval,zA,qA,qC,wN]
   refine X0 c1 rfl ?_
   simp only [↓X1,wA,seval,zA,qA,qC,wN]
   refine X0 c2 rfl ?_
   simp only [↓X1,wA,seval,zA,qA,qC,wN]
   refine X0 cn1 rfl ?_
   simp only [↓X1,wA,seval,zA,qA,qC,wN]
   refine X0 cn2 rfl ?_
   simp only [↓X1,wA,seval,zA,qA,qC,wN]
   refine X0 co rfl ?_
   simp only [↓X1,wA,seval,zA,qA,qC,wN]
   exact JH rfl Qa rfl rfl rfl sR (by rw [hk,f5]; rfl)
 ·have g1:(v<0)=False:=eq_false hneg
  obtain ⟨k1,k2⟩:=key u v (by rw [Int.sign_eq_one_of_pos (by omega)]; omega) (by omega)
  have co:=OW v
  rw [Yb hneg] at co c2
  by_cases h1:v=1
  ·simp only [h1,decide_true] at co
   have hk:=k1 h1
   rw [h1] at c2
   refine Fq Tryz.call77 Tryz.func77 10 [] [] [] (by simp [Kn,Xa,Xh]) (Xl ?_); simp (maxSteps:=999999) only [AS.start,↓X1,wA,seval,zA,qA,qC,wN]
   simp only [zp,zq,f1,f3,↓X1,wA,seval,zA,qA,qC,wN]
   refine X0 cg rfl ?_
   simp only [↓X1,wA,seval,zA,qA,qC,wN]
   refine X0 c1 rfl ?_
   simp only [↓X1,wA,seval,zA,qA,qC,wN]
   refine X0 c2 rfl ?_
   simp only [↓X1,wA,seval,zA,qA,qC,wN]
   refine X0 co rfl ?_
   simp only [↓X1,wA,seval,zA,qA,qC,wN]
   exact Qg rfl Qa rfl rfl rfl hk sR ⟨Weak.rfl' _,Weak.rfl' _,Weak.rfl' _,Qo _ _,trivial⟩
  ·simp only [h1,decide_false] at co
   have hk:=k2 h1
   refine Fq Tryz.call77 Tryz.func77 10 [] [] [] (by simp [Kn,Xa,Xh]) (Xl ?_); simp (maxSteps:=999999) only [AS.start,↓X1,wA,seval,zA,qA,qC,wN]
   simp only [zp,zq,f1,f3,↓X1,wA,seval,zA,qA,qC,wN]
   refine X0 cg rfl ?_
   simp only [↓X1,wA,seval,zA,qA,qC,wN]
   refine X0 c1 rfl ?_
   simp only [↓X1,wA,seval,zA,qA,qC,wN]
   refine X0 c2 rfl ?_
   simp only [↓X1,wA,seval,zA,qA,qC,wN]
   refine X0 co rfl ?_
   simp only [↓X1,wA,seval,zA,qA,qC,wN]
   exact JH rfl Qa rfl rfl rfl sR (by rw [hk]; rfl)
theorem QV (p q:Int) (hp:KM p) (hq:KM q):Fn Tryz.prog 16 [I p,I q] (qA (Rat.divInt p q)):=by
 obtain ⟨R,hR⟩:∃ R,R=qA (Rat.divInt p q):=⟨_,rfl⟩
 have sR:Settled R:=hR▸Xa _
 have cm:=Ez p q (by have:=Qy hp; omega) (by have:=Qy hq; omega)
 rw [← hR] at cm ⊢
 refine Fq Tryz.call16 Tryz.func16 5 [] [] [] (by simp [Kn,Xa,Xh]) (Xl ?_); simp (maxSteps:=999999) only [AS.start,↓X1,wA,seval,zA,qA,qC,wN]
 refine X0 (Df p hp) rfl ?_
 simp only [↓X1,wA,seval,zA,qA,qC,wN]
 refine X0 (Df q hq) rfl ?_
 simp only [↓X1,wA,seval,zA,qA,qC,wN]
 refine X0 cm rfl ?_
 simp only [hR,↓X1,wA,seval,zA,qA,qC,wN]
 exact JH rfl Qa rfl rfl rfl sR (hR.trans rfl)
structure V2 where
 x:Rat
 y:Rat
def vC (v:V2):List AV:=[.bool (decide (v.x.num<0)),X7 (X8 v.x.num.natAbs),.bool false,X7 (X8 (qd v.x)),.bool (decide (v.y.num<0)),X7 (X8 v.y.num.natAbs),.bool false,X7 (X8 (qd v.y))]
def vA (v:V2):AV:=.agg (vC v)
theorem Xk (v:V2):Settled (vA v):=Qn (by simp [vC,X6,X2])
def vb (v:V2):Nat:=max (qb v.x) (qb v.y)
theorem Qv (v:V2):qb v.x≤vb v:=Nat.le_max_left _ _
theorem Qm (v:V2):qb v.y≤vb v:=Nat.le_max_right _ _
def V2.sub (a b:V2):V2:=⟨a.x - b.x,a.y - b.y⟩
def V2.add (a b:V2):V2:=⟨a.x+b.x,a.y+b.y⟩
def Qe (a b:V2):Rat:=a.x*b.y - a.y*b.x
def XS (a b:V2):Rat:=a.x*b.x+a.y*b.y
def Ji (a b c:V2):Int:=(Qe (b.sub a) (c.sub a)).num.sign
theorem Km (a b:V2):vb (a.sub b)≤vb a+vb b+1:=by
 have:=FA a.x b.x; have:=FA a.y b.y
 have:=Qv a; have:=Qv b; have:=Qm a; have:=Qm b
 unfold V2.sub
 show max (qb (a.x - b.x)) (qb (a.y - b.y))≤_
 omega
theorem Be (a b:V2):vb (a.add b)≤vb a+vb b+1:=by
 have:=K2 a.x b.x; have:=K2 a.y b.y
 have:=Qv a; have:=Qv b; have:=Qm a; have:=Qm b
 unfold V2.add
 show max (qb (a.x+b.x)) (qb (a.y+b.y))≤_
 omega
theorem CG (a b:V2):qb (Qe a b)≤2*(vb a+vb b)+1:=by
 have:=Qz a.x b.y; have:=Qz a.y b.x
 have:=Qv a; have:=Qv b; have:=Qm a; have:=Qm b
 have:=FA (a.x*b.y) (a.y*b.x)
 unfold Qe; omega
theorem Ai (a b:V2):qb (XS a b)≤2*(vb a+vb b)+1:=by
 have:=Qz a.x b.x; have:=Qz a.y b.y
 have:=Qv a; have:=Qv b; have:=Qm a; have:=Qm b
 have:=K2 (a.x*b.x) (a.y*b.y)
 unfold XS; omega
theorem Aj:qb 0≤1:=Z7 0 1 (Nat.le_refl _) (by unfold bl; simp [Q1])
theorem Zo {H:List AO} {a b:AV} (h:Weak a b):ZQ H a b:=fun c v _ _ hv=>h c v hv
theorem Qw {l:List Int} {f:Nat→AV} {t:Bool} (h:l=[]):Weak (.sl 0 0 f t) (X7 l):=by rw [h]; exact Qo _ _
theorem Gt (a b:Rat) (ha:qb a≤10000000) (hb:qb b≤10000000):Fn Tryz.prog 117 [.sl 2 8 (Xn (qC a ++ qC b)) false] (qA (a+b)):=by
 obtain ⟨R,hR⟩:∃ R,R=qA (a+b):=⟨_,rfl⟩
 have sR:Settled R:=hR▸Xa _
 have q0:=Aj
 have c1:=Bl 0 a (by unfold rm; omega) (by unfold rm; omega)
 have c2:=Bl a b (by unfold rm; omega) (by unfold rm; omega)
 rw [Rat.zero_add] at c1
 rw [← hR] at c2 ⊢
 have hset:Settled (.sl 2 8 (Xn (qC a ++ qC b)) false):=J8 fun j hj=>by
  unfold Xn qC
  match j,hj with
  | 0,_=>exact X2 _
  | 1,_=>exact X6 _
  | 2,_=>exact X2 _
  | 3,_=>exact X6 _
  | 4,_=>exact X2 _
  | 5,_=>exact X6 _
  | 6,_=>exact X2 _
  | 7,_=>exact X6 _
  | j+8,h=>omega
 have bel2:JO 2 (.sl 2 8 (Xn (qC a ++ qC b)) false):=X5 hset
 simp only [qC,List.cons_append,List.nil_append] at bel2
 have z1:((1:Nat):Int)=1:=rfl
 have z2:((2:Nat):Int)=2:=rfl
 have wr1:IntKind.i64.wrap 1=1:=by rw [IntKind.wrap_i64]; omega
 have wr2:IntKind.i64.wrap 2=2:=by rw [IntKind.wrap_i64]; omega
 refine Fn.intro (fn:=Tryz.f117) Tryz.call117 Tryz.func117 rfl mixed 6 [6,7,8] [] [] (by kernel_rfl) (Nat.le_of_ble_eq_true rfl) (by simpa using hset) (Xl ?_)
 simp only [AS.start,↓X1,wA,↓reduceIte,reduceIte,reduceCtorEq,Y1,Y2,Y3,Y4,Y5,Y6,Y7,Y8,Y9,YA,zA,qA,qC,vA,vC,wN]
 refine Xe (fun i:Nat=>⟨6,[6,7,8],[.any,.any,.ref 0 0 0,.ref 1 0 0,.any,.any],[(6,.sl 2 8 (Xn (qC a ++ qC b)) false),(7,I 2),(8,I i)],
  [.row 0 4 (Xn [.bool false,.sl 0 0 (fun _=>.any) true,.bool false,.sl 0 0 (fun _=>.any) true]),.row 0 4 (Xn (qC (if i=0 then 0 else if i=1 then a else a+b)))]⟩) (fun i=>i≤2) (fun i=>2 - i) 0 (by omega) ?_ ?_
 ·refine (ZM 1 (Xn (qC 0)) rfl fun j hj=>?_).trans (Xi rfl (by simp [Xf,qC,X7,Qu]) (by simp [Xq,Xw,qC,X7,Qu,I]) (by simp))
  match j,hj with
  | 0,_=>exact QZ _ _
  | 1,_=>exact Zo (Qw (by rw [Rat.zero_num]; simp [Q1]))
  | 2,_=>exact QZ _ _
  | 3,_=>exact Zo (Qw (Da rfl))
  | j+4,h=>omega
 intro i hi next
 rcases (show i=0∨i=1∨i=2 by omega) with rfl | rfl | rfl
 ·refine Xl ?_
  simp only [ite_true,z1,z2,wr1,wr2,Int.reduceLT,Int.reduceAdd,↓X1,wA,↓reduceIte,reduceIte,reduceCtorEq,Y1,Y2,Y3,Y4,Y5,Y6,Y7,Y8,Y9,YA,zA,qA,qC,vA,vC,wN]
  refine X0 c1 rfl ?_
  simp only [z1,z2,wr1,wr2,Int.reduceAdd,↓X1,wA,↓reduceIte,reduceIte,reduceCtorEq,Y1,Y2,Y3,Y4,Y5,Y6,Y7,Y8,Y9,YA,zA,qA,qC,vA,vC,wN]
  exact next 1 _ (by omega) (by omega) (XE (m:=2) (Nat.zero_le _) rfl (by simp [qC,Xf,X7,Qu,I]) (by simp [qC,Xq,Xw,X7,Qu,I]) (by simp [qC,X7,Qu,I]) (by simp [XA]) (by simp [qC,XA,bel2]) (by simp [qC,XA]))
 ·have e1:((1:Nat)=0)=False:=eq_false (by omega)
  refine Xl ?_
  simp only [e1,ite_true,ite_false,z1,z2,wr1,wr2,Int.reduceLT,Int.reduceAdd,↓X1,wA,↓reduceIte,reduceIte,reduceCtorEq,Y1,Y2,Y3,Y4,Y5,Y6,Y7,Y8,Y9,YA,zA,qA,qC,vA,vC,wN]
  refine ⟨by omega,X0 c2 rfl ?_⟩
  simp only [hR,z1,z2,wr1,wr2,Int.reduceAdd,↓X1,wA,↓reduceIte,reduceIte,reduceCtorEq,Y1,Y2,Y3,Y4,Y5,Y6,Y7,Y8,Y9,YA,zA,qA,qC,vA,vC,wN]
  exact next 2 _ (by omega) (by omega) (XE (m:=2) (Nat.zero_le _) rfl (by simp [qC,Xf,X7,Qu,I]) (by simp [qC,Xq,Xw,X7,Qu,I]) (by simp [qC,X7,Qu,I]) (by simp [XA]) (by simp [qC,XA,bel2]) (by simp [qC,XA]))
 ·have e1:((2:Nat)=0)=False:=eq_false (by omega)
  have e2:((2:Nat)=1)=False:=eq_false (by omega)
  refine Xl ?_
  simp only [e1,e2,ite_false,z1,z2,wr1,wr2,Int.reduceLT,Int.reduceAdd,↓X1,wA,↓reduceIte,reduceIte,reduceCtorEq,Y1,Y2,Y3,Y4,Y5,Y6,Y7,Y8,Y9,YA,zA,qA,qC,vA,vC,wN]
  exact JH rfl Qa rfl rfl rfl sR (hR.trans rfl)
def vm:Nat:=1000000
theorem Zm {P:Program} {fn:Func} {str hcs:List Nat} {r:AV} {s:AS} {t u id ver n:Nat} {L:List AV} (hr:fn.results=#[.cell t u]) (hk:C8 P u=some (some n)) (hs:s.get t=.ref id ver 0)
  (ho:s.h[id]?=some (.row ver n (Xn L))) (hn:L.length=n) (hset:Settled r) (e:r=.agg L):RetOk (QJ P fn str hcs r) s:=Qg hr hk hs ho hn e hset (XZ L)
theorem D7 (a b:V2) (ha:vb a≤rm) (hb:vb b≤rm):Fn Tryz.prog 44 [vA a,vA b] (vA (a.sub b)):=by
 obtain ⟨R,hR⟩:∃ R,R=vA (a.sub b):=⟨_,rfl⟩
 have sR:Settled R:=hR▸Xk _
 have:=Qv a; have:=Qv b; have:=Qm a; have:=Qm b
 have c1:=Pd a.x b.x (by omega) (by omega)
 have c2:=Pd a.y b.y (by omega) (by omega)
 rw [← hR]
 refine Fq Tryz.call44 Tryz.func44 5 [] [] [] (by simp [X6,X9,K9,Jr,X2,Kc,XK,Xa,Xk,Xh,Kd,Jw]) (Xl ?_); simp (maxSteps:=999999) only [AS.start,↓X1,wA,↓reduceIte,reduceIte,reduceCtorEq,Y1,Y2,Y3,Y4,Y5,Y6,Y7,Y8,Y9,YA,zA,qA,qC,vA,vC,wN]
 refine X0 c1 rfl ?_
 simp only [↓X1,wA,↓reduceIte,reduceIte,reduceCtorEq,Y1,Y2,Y3,Y4,Y5,Y6,Y7,Y8,Y9,YA,zA,qA,qC,vA,vC,wN]
 refine X0 c2 rfl ?_
 simp only [↓X1,wA,↓reduceIte,reduceIte,reduceCtorEq,Y1,Y2,Y3,Y4,Y5,Y6,Y7,Y8,Y9,YA,zA,qA,qC,vA,vC,wN]
 exact Zm rfl Ju rfl rfl rfl sR (hR.trans rfl)
theorem Hj (x y:Int) (hx:KM x) (hy:KM y):Fn Tryz.prog 120 [I x,I y] (vA ⟨x,y⟩):=by
 have e:∀ n:Int,Rat.divInt n 1=(n:Rat):=fun n=>by
  rw [show (1:Int)=((1:Nat):Int) from rfl,Rat.divInt_ofNat]
  have:=Rat.mkRat_self (n:Rat)
  rwa [Rat.num_intCast,Rat.den_intCast] at this
 obtain ⟨R,hR⟩:∃ R,R=vA ⟨x,y⟩:=⟨_,rfl⟩
 have sR:Settled R:=hR▸Xk _
 have c1:=FC x 1 hx ⟨by omega,by omega⟩
 have c2:=FC y 1 hy ⟨by omega,by omega⟩
 rw [e] at c1 c2
 rw [← hR]
 refine Fq Tryz.call120 Tryz.func120 5 [] [] [] (by simp [X6,X9,K9,Jr,X2,Kc,XK,Xa,Xk,Xh,Kd,Jw]) (Xl ?_); simp (maxSteps:=999999) only [AS.start,↓X1,wA,↓reduceIte,reduceIte,reduceCtorEq,Y1,Y2,Y3,Y4,Y5,Y6,Y7,Y8,Y9,YA,zA,qA,qC,vA,vC,wN]
 refine X0 c1 rfl ?_
 simp only [↓X1,wA,↓reduceIte,reduceIte,reduceCtorEq,Y1,Y2,Y3,Y4,Y5,Y6,Y7,Y8,Y9,YA,zA,qA,qC,vA,vC,wN]
 refine X0 c2 rfl ?_
 simp only [↓X1,wA,↓reduceIte,reduceIte,reduceCtorEq,Y1,Y2,Y3,Y4,Y5,Y6,Y7,Y8,Y9,YA,zA,qA,qC,vA,vC,wN]
 exact Zm rfl Ju rfl rfl rfl sR (hR.trans rfl)
theorem Hi (a b:V2) (ha:vb a≤vm) (hb:vb b≤vm):Fn Tryz.prog 159 [vA a,vA b] (qA (Qe a b)):=by
 unfold vm at ha hb
 obtain ⟨R,hR⟩:∃ R,R=qA (Qe a b):=⟨_,rfl⟩
 have sR:Settled R:=hR▸Xa _
 have:=Qv a; have:=Qv b; have:=Qm a; have:=Qm b
 have m1:=Qz a.x b.y; have m2:=Qz a.y b.x
 have c1:=KH a.x b.y (by unfold rm; omega) (by unfold rm; omega)
 have c2:=KH a.y b.x (by unfold rm; omega) (by unfold rm; omega)
 have c3:=Cf (a.y*b.x)
 have c4:=Gt (a.x*b.y) (-(a.y*b.x)) (by omega) (by rw [BK]; omega)
 rw [← Rat.sub_eq_add_neg,show a.x*b.y - a.y*b.x=Qe a b from rfl,← hR] at c4
 rw [← hR]
 refine Fq Tryz.call159 Tryz.func159 5 [] [] [] (by simp [X6,X9,K9,Jr,X2,Kc,XK,Xa,Xk,Xh,Kd,Jw]) (Xl ?_); simp (maxSteps:=999999) only [AS.start,↓X1,wA,↓reduceIte,reduceIte,reduceCtorEq,Y1,Y2,Y3,Y4,Y5,Y6,Y7,Y8,Y9,YA,zA,qA,qC,vA,vC,wN]
 refine X0 c1 rfl ?_
 simp only [↓X1,wA,↓reduceIte,reduceIte,reduceCtorEq,Y1,Y2,Y3,Y4,Y5,Y6,Y7,Y8,Y9,YA,zA,qA,qC,vA,vC,wN]
 refine X0 c2 rfl ?_
 simp only [↓X1,wA,↓reduceIte,reduceIte,reduceCtorEq,Y1,Y2,Y3,Y4,Y5,Y6,Y7,Y8,Y9,YA,zA,qA,qC,vA,vC,wN]
 refine X0 c3 rfl ?_
 simp only [↓X1,wA,↓reduceIte,reduceIte,reduceCtorEq,Y1,Y2,Y3,Y4,Y5,Y6,Y7,Y8,Y9,YA,zA,qA,qC,vA,vC,wN]
 refine X0 c4 rfl ?_
 simp only [hR,↓X1,wA,↓reduceIte,reduceIte,reduceCtorEq,Y1,Y2,Y3,Y4,Y5,Y6,Y7,Y8,Y9,YA,zA,qA,qC,vA,vC,wN]
 exact Zm rfl Qa rfl rfl rfl sR (hR.trans rfl)
theorem Gp (a b:V2) (ha:vb a≤vm) (hb:vb b≤vm):Fn Tryz.prog 191 [vA a,vA b] (qA (XS a b)):=by
 unfold vm at ha hb
 obtain ⟨R,hR⟩:∃ R,R=qA (XS a b):=⟨_,rfl⟩
 have sR:Settled R:=hR▸Xa _
 have:=Qv a; have:=Qv b; have:=Qm a; have:=Qm b
 have m1:=Qz a.x b.x; have m2:=Qz a.y b.y
 have c1:=KH a.x b.x (by unfold rm; omega) (by unfold rm; omega)
 have c2:=KH a.y b.y (by unfold rm; omega) (by unfold rm; omega)
 have c4:=Gt (a.x*b.x) (a.y*b.y) (by omega) (by omega)
 rw [show a.x*b.x+a.y*b.y=XS a b from rfl,← hR] at c4
 rw [← hR]
 refine Fq Tryz.call191 Tryz.func191 5 [] [] [] (by simp [X6,X9,K9,Jr,X2,Kc,XK,Xa,Xk,Xh,Kd,Jw]) (Xl ?_); simp (maxSteps:=999999) only [AS.start,↓X1,wA,↓reduceIte,reduceIte,reduceCtorEq,Y1,Y2,Y3,Y4,Y5,Y6,Y7,Y8,Y9,YA,zA,qA,qC,vA,vC,wN]
 refine X0 c1 rfl ?_
 simp only [↓X1,wA,↓reduceIte,reduceIte,reduceCtorEq,Y1,Y2,Y3,Y4,Y5,Y6,Y7,Y8,Y9,YA,zA,qA,qC,vA,vC,wN]
 refine X0 c2 rfl ?_
 simp only [↓X1,wA,↓reduceIte,reduceIte,reduceCtorEq,Y1,Y2,Y3,Y4,Y5,Y6,Y7,Y8,Y9,YA,zA,qA,qC,vA,vC,wN]
 refine X0 c4 rfl ?_
 simp only [hR,↓X1,wA,↓reduceIte,reduceIte,reduceCtorEq,Y1,Y2,Y3,Y4,Y5,Y6,Y7,Y8,Y9,YA,zA,qA,qC,vA,vC,wN]
 exact Zm rfl Qa rfl rfl rfl sR (hR.trans rfl)
def vs:Nat:=100000
theorem ZH (a b c:V2) (ha:vb a≤vs) (hb:vb b≤vs) (hc:vb c≤vs):Fn Tryz.prog 179 [vA a,vA b,vA c] (I (Ji a b c)):=by
 unfold vs at ha hb hc
 have m1:=Km b a; have m2:=Km c a
 have c1:=D7 b a (by unfold rm; omega) (by unfold rm; omega)
 have c2:=D7 c a (by unfold rm; omega) (by unfold rm; omega)
 have c3:=Hi (b.sub a) (c.sub a) (by unfold vm; omega) (by unfold vm; omega)
 have c4:=Ks (Qe (b.sub a) (c.sub a))
 refine Fq Tryz.call179 Tryz.func179 7 [] [] [] (by simp [X6,X9,K9,Jr,X2,Kc,XK,Xa,Xk,Xh,Kd,Jw]) (Xl ?_); simp (maxSteps:=999999) only [AS.start,↓X1,wA,↓reduceIte,reduceIte,reduceCtorEq,Y1,Y2,Y3,Y4,Y5,Y6,Y7,Y8,Y9,YA,zA,qA,qC,vA,vC,wN]
 refine X0 c1 rfl ?_
 simp only [↓X1,wA,↓reduceIte,reduceIte,reduceCtorEq,Y1,Y2,Y3,Y4,Y5,Y6,Y7,Y8,Y9,YA,zA,qA,qC,vA,vC,wN]
 refine X0 c2 rfl ?_
 simp only [↓X1,wA,↓reduceIte,reduceIte,reduceCtorEq,Y1,Y2,Y3,Y4,Y5,Y6,Y7,Y8,Y9,YA,zA,qA,qC,vA,vC,wN]
 refine X0 c3 rfl ?_
 simp only [↓X1,wA,↓reduceIte,reduceIte,reduceCtorEq,Y1,Y2,Y3,Y4,Y5,Y6,Y7,Y8,Y9,YA,zA,qA,qC,vA,vC,wN]
 refine X0 c4 rfl ?_
 simp only [↓X1,wA,↓reduceIte,reduceIte,reduceCtorEq,Y1,Y2,Y3,Y4,Y5,Y6,Y7,Y8,Y9,YA,zA,qA,qC,vA,vC,wN]
 exact Xt rfl rfl (X9 _) rfl
def Wr (a b p:V2):Bool:=decide (Ji a b p=0) && decide ((XS (a.sub p) (b.sub p)).num.sign≤0)
theorem Ws (a b p:V2) (ha:vb a≤vs) (hb:vb b≤vs) (hp:vb p≤vs):Fn Tryz.prog 228 [vA a,vA b,vA p] (.bool (Wr a b p)):=by
 have c1:=ZH a b p ha hb hp
 unfold vs at ha hb hp
 have m1:=Km a p; have m2:=Km b p
 have c2:=D7 a p (by unfold rm; omega) (by unfold rm; omega)
 have c3:=D7 b p (by unfold rm; omega) (by unfold rm; omega)
 have c4:=Gp (a.sub p) (b.sub p) (by unfold vm; omega) (by unfold vm; omega)
 have c5:=Ks (XS (a.sub p) (b.sub p))
 obtain ⟨V,hV⟩:∃ V,V=Wr a b p:=⟨_,rfl⟩
 rw [← hV]
 unfold Wr at hV
 refine Fq Tryz.call228 Tryz.func228 7 [] [] [] (by simp [X6,X9,K9,Jr,X2,Kc,XK,Xa,Xk,Xh,Kd,Jw]) (Xl ?_); simp (maxSteps:=999999) only [AS.start,↓X1,wA,↓reduceIte,reduceIte,reduceCtorEq,Y1,Y2,Y3,Y4,Y5,Y6,Y7,Y8,Y9,YA,zA,qA,qC,vA,vC,wN]
 refine X0 c1 rfl ?_
 by_cases h:Ji a b p=0
 ·have f1:(Ji a b p=0)=True:=eq_true h
  simp only [f1,↓X1,wA,↓reduceIte,reduceIte,reduceCtorEq,Y1,Y2,Y3,Y4,Y5,Y6,Y7,Y8,Y9,YA,zA,qA,qC,vA,vC,wN]
  refine X0 c2 rfl ?_
  simp only [↓X1,wA,↓reduceIte,reduceIte,reduceCtorEq,Y1,Y2,Y3,Y4,Y5,Y6,Y7,Y8,Y9,YA,zA,qA,qC,vA,vC,wN]
  refine X0 c3 rfl ?_
  simp only [↓X1,wA,↓reduceIte,reduceIte,reduceCtorEq,Y1,Y2,Y3,Y4,Y5,Y6,Y7,Y8,Y9,YA,zA,qA,qC,vA,vC,wN]
  refine X0 c4 rfl ?_
  simp only [↓X1,wA,↓reduceIte,reduceIte,reduceCtorEq,Y1,Y2,Y3,Y4,Y5,Y6,Y7,Y8,Y9,YA,zA,qA,qC,vA,vC,wN]
  refine X0 c5 rfl ?_
  simp only [↓X1,wA,↓reduceIte,reduceIte,reduceCtorEq,Y1,Y2,Y3,Y4,Y5,Y6,Y7,Y8,Y9,YA,zA,qA,qC,vA,vC,wN]
  exact Xt rfl rfl (X2 _) (by rw [hV,decide_eq_true h]; rfl)
 ·have f1:(Ji a b p=0)=False:=eq_false h
  simp only [f1,↓X1,wA,↓reduceIte,reduceIte,reduceCtorEq,Y1,Y2,Y3,Y4,Y5,Y6,Y7,Y8,Y9,YA,zA,qA,qC,vA,vC,wN]
  exact Xt rfl rfl (X2 _) (by rw [hV,decide_eq_false h]; rfl)
def Iz (a b c d:V2):Bool:=decide (Ji a b c*Ji a b d<0) && decide (Ji c d a*Ji c d b<0)
def D3 (a b c d:V2):Bool:=Iz a b c d || Wr a b c || Wr a b d || Wr c d a || Wr c d b
theorem GG (a b c:V2):-1≤Ji a b c∧Ji a b c≤1:=by
 unfold Ji
 generalize (Qe (b.sub a) (c.sub a)).num=n
 rcases Int.lt_trichotomy n 0 with h | h | h
 ·rw [Int.sign_eq_neg_one_of_neg h]; omega
 ·rw [h]; simp
 ·rw [Int.sign_eq_one_of_pos h]; omega
theorem VX {x y:Int} (hx:-1≤x∧x≤1) (hy:-1≤y∧y≤1):IntKind.i64.wrap (x*y)=x*y:=by
 rcases (show x = -1∨x=0∨x=1 by omega) with rfl | rfl | rfl <;> rw [IntKind.wrap_i64] <;> omega
theorem iN (a b c d:V2) (ha:vb a≤vs) (hb:vb b≤vs) (hc:vb c≤vs) (hd:vb d≤vs):Fn Tryz.prog 180 [vA a,vA b,vA c,vA d] (.bool (D3 a b c d)):=by
 have c1:=ZH a b c ha hb hc
 have c2:=ZH a b d ha hb hd
 have c3:=ZH c d a hc hd ha
 have c4:=ZH c d b hc hd hb
 have d1:=Ws a b c ha hb hc
 have d2:=Ws a b d ha hb hd
 have d3:=Ws c d a hc hd ha
 have d4:=Ws c d b hc hd hb
 have w1:=VX (GG a b c) (GG a b d)
 have w2:=VX (GG c d a) (GG c d b)
 obtain ⟨V,hV⟩:∃ V,V=D3 a b c d:=⟨_,rfl⟩
 rw [← hV]
 unfold D3 Iz at hV
 have fin:∀ {s:AS} {v:Bool},s.get 8=.bool v→v=V→RetOk (QJ Tryz.prog Tryz.f180 [] [] (.bool V)) s:=fun h e=>Xt rfl h (X2 _) (by rw [e])
 obtain ⟨B1,hB1⟩:∃ B,B=Wr a b c:=⟨_,rfl⟩
 obtain ⟨B2,hB2⟩:∃ B,B=Wr a b d:=⟨_,rfl⟩
 obtain ⟨B3,hB3⟩:∃ B,B=Wr c d a:=⟨_,rfl⟩
 obtain ⟨B4,hB4⟩:∃ B,B=Wr c d b:=⟨_,rfl⟩
 rw [← hB1] at d1 hV
 rw [← hB2] at d2 hV
 rw [← hB3] at d3 hV
 rw [← hB4] at d4 hV
 refine Fq Tryz.call180 Tryz.func180 9 [] [] [] (by simp [X6,X9,K9,Jr,X2,Kc,XK,Xa,Xk,Xh,Kd,Jw]) (Xl ?_); simp (maxSteps:=999999) only [AS.start,↓X1,wA,↓reduceIte,reduceIte,reduceCtorEq,Y1,Y2,Y3,Y4,Y5,Y6,Y7,Y8,Y9,YA,zA,qA,qC,vA,vC,wN]
 refine X0 c1 rfl ?_
 simp only [↓X1,wA,↓reduceIte,reduceIte,reduceCtorEq,Y1,Y2,Y3,Y4,Y5,Y6,Y7,Y8,Y9,YA,zA,qA,qC,vA,vC,wN]
 refine X0 c2 rfl ?_
 by_cases h1:Ji a b c*Ji a b d<0
 ·have f1:(Ji a b c*Ji a b d<0)=True:=eq_true h1
  simp only [w1,f1,↓X1,wA,↓reduceIte,reduceIte,reduceCtorEq,Y1,Y2,Y3,Y4,Y5,Y6,Y7,Y8,Y9,YA,zA,qA,qC,vA,vC,wN]
  refine X0 c3 rfl ?_
  simp only [↓X1,wA,↓reduceIte,reduceIte,reduceCtorEq,Y1,Y2,Y3,Y4,Y5,Y6,Y7,Y8,Y9,YA,zA,qA,qC,vA,vC,wN]
  refine X0 c4 rfl ?_
  by_cases h2:Ji c d a*Ji c d b<0
  ·have f2:(Ji c d a*Ji c d b<0)=True:=eq_true h2
   simp only [w2,f2,↓X1,wA,↓reduceIte,reduceIte,reduceCtorEq,Y1,Y2,Y3,Y4,Y5,Y6,Y7,Y8,Y9,YA,zA,qA,qC,vA,vC,wN]
   exact fin rfl (by rw [hV,decide_eq_true h1,decide_eq_true h2]; rfl)
  ·have f2:(Ji c d a*Ji c d b<0)=False:=eq_false h2
   simp only [w2,f2,↓X1,wA,↓reduceIte,reduceIte,reduceCtorEq,Y1,Y2,Y3,Y4,Y5,Y6,Y7,Y8,Y9,YA,zA,qA,qC,vA,vC,wN]
   rw [decide_eq_true h1,decide_eq_false h2] at hV
   refine X0 d1 rfl ?_
   cases B1
   rotate_left
   ·simp only [↓X1,wA,↓reduceIte,reduceIte,reduceCtorEq,Y1,Y2,Y3,Y4,Y5,Y6,Y7,Y8,Y9,YA,zA,qA,qC,vA,vC,wN]
    exact fin rfl (by rw [hV]; simp)
   simp only [↓X1,wA,↓reduceIte,reduceIte,reduceCtorEq,Y1,Y2,Y3,Y4,Y5,Y6,Y7,Y8,Y9,YA,zA,qA,qC,vA,vC,wN]
   refine X0 d2 rfl ?_
   cases B2
   rotate_left
   ·simp only [↓X1,wA,↓reduceIte,reduceIte,reduceCtorEq,Y1,Y2,Y3,Y4,Y5,Y6,Y7,Y8,Y9,YA,zA,qA,qC,vA,vC,wN]
    exact fin rfl (by rw [hV]; simp)
   simp only [↓X1,wA,↓reduceIte,reduceIte,reduceCtorEq,Y1,Y2,Y3,Y4,Y5,Y6,Y7,Y8,Y9,YA,zA,qA,qC,vA,vC,wN]
   refine X0 d3 rfl ?_
   cases B3
   rotate_left
   ·simp only [↓X1,wA,↓reduceIte,reduceIte,reduceCtorEq,Y1,Y2,Y3,Y4,Y5,Y6,Y7,Y8,Y9,YA,zA,qA,qC,vA,vC,wN]
    exact fin rfl (by rw [hV]; simp)
   simp only [↓X1,wA,↓reduceIte,reduceIte,reduceCtorEq,Y1,Y2,Y3,Y4,Y5,Y6,Y7,Y8,Y9,YA,zA,qA,qC,vA,vC,wN]
   refine X0 d4 rfl ?_
   simp only [↓X1,wA,↓reduceIte,reduceIte,reduceCtorEq,Y1,Y2,Y3,Y4,Y5,Y6,Y7,Y8,Y9,YA,zA,qA,qC,vA,vC,wN]
   exact fin rfl (by rw [hV]; simp)
 ·have f1:(Ji a b c*Ji a b d<0)=False:=eq_false h1
  simp only [w1,f1,↓X1,wA,↓reduceIte,reduceIte,reduceCtorEq,Y1,Y2,Y3,Y4,Y5,Y6,Y7,Y8,Y9,YA,zA,qA,qC,vA,vC,wN]
  rw [decide_eq_false h1] at hV
  refine X0 d1 rfl ?_
  cases B1
  rotate_left
  ·simp only [↓X1,wA,↓reduceIte,reduceIte,reduceCtorEq,Y1,Y2,Y3,Y4,Y5,Y6,Y7,Y8,Y9,YA,zA,qA,qC,vA,vC,wN]
   exact fin rfl (by rw [hV]; simp)
  simp only [↓X1,wA,↓reduceIte,reduceIte,reduceCtorEq,Y1,Y2,Y3,Y4,Y5,Y6,Y7,Y8,Y9,YA,zA,qA,qC,vA,vC,wN]
  refine X0 d2 rfl ?_
  cases B2
  rotate_left
  ·simp only [↓X1,wA,↓reduceIte,reduceIte,reduceCtorEq,Y1,Y2,Y3,Y4,Y5,Y6,Y7,Y8,Y9,YA,zA,qA,qC,vA,vC,wN]
   exact fin rfl (by rw [hV]; simp)
  simp only [↓X1,wA,↓reduceIte,reduceIte,reduceCtorEq,Y1,Y2,Y3,Y4,Y5,Y6,Y7,Y8,Y9,YA,zA,qA,qC,vA,vC,wN]
  refine X0 d3 rfl ?_
  cases B3
  rotate_left
  ·simp only [↓X1,wA,↓reduceIte,reduceIte,reduceCtorEq,Y1,Y2,Y3,Y4,Y5,Y6,Y7,Y8,Y9,YA,zA,qA,qC,vA,vC,wN]
   exact fin rfl (by rw [hV]; simp)
  simp only [↓X1,wA,↓reduceIte,reduceIte,reduceCtorEq,Y1,Y2,Y3,Y4,Y5,Y6,Y7,Y8,Y9,YA,zA,qA,qC,vA,vC,wN]
  refine X0 d4 rfl ?_
  simp only [↓X1,wA,↓reduceIte,reduceIte,reduceCtorEq,Y1,Y2,Y3,Y4,Y5,Y6,Y7,Y8,Y9,YA,zA,qA,qC,vA,vC,wN]
  exact fin rfl (by rw [hV]; simp)
def v0:V2:=⟨0,0⟩
def Xp (l:List V2):AV:=tL vC 8 v0 l
theorem Xc (l:List V2):Settled (Xp l):=Ec fun a x hx=>by
 have:∀ x∈vC a,Settled x:=by simp [vC,X6,X2]
 exact this x hx
theorem X4 (l:List V2):Xp l=.sl l.length (l.length*8) (Xs vC 8 v0 l) false:=nrfl rfl
theorem vF (l:List V2) (i:Nat):Xs vC 8 v0 l (i*8)=.bool (decide ((l.getD i v0).x.num<0))∧Xs vC 8 v0 l (i*8+1)=X7 (X8 (l.getD i v0).x.num.natAbs)∧Xs vC 8 v0 l (i*8+2)=.bool false∧Xs vC 8 v0 l (i*8+3)=X7 (X8 (qd (l.getD i v0).x)) ∧
  Xs vC 8 v0 l (i*8+4)=.bool (decide ((l.getD i v0).y.num<0))∧Xs vC 8 v0 l (i*8+5)=X7 (X8 (l.getD i v0).y.num.natAbs)∧Xs vC 8 v0 l (i*8+6)=.bool false∧Xs vC 8 v0 l (i*8+7)=X7 (X8 (qd (l.getD i v0).y)):=by
 refine ⟨?_,?_,?_,?_,?_,?_,?_,?_⟩
 ·rw [Kv _ _ _ _ _ (by omega)]; rfl
 all_goals rw [Kg _ _ _ _ _ _ (by omega)]; rfl
theorem jS (l:List V2):Fn Tryz.prog 158 [Xp l] (.fn 218 [.ptr 1 (Xn [Xp l]) 0]):=by
 have hset:Settled (.fn 218 [.ptr 1 (Xn [Xp l]) 0]):=Jq (by
  intro a ha
  simp only [List.mem_cons,List.not_mem_nil,or_false] at ha
  rw [ha]
  exact J0 fun j hj=>by
    obtain rfl:j=0:=by omega
    exact Xc l)
 refine Fq Tryz.call158 Tryz.func158 4 [] [] [] (by simp [Xc]) (Xl ?_)
 simp only [AS.start,X4,↓X1,wA,seval,zA,qA,qC,vA,vC,Ky,wN]
 refine Bm rfl (Cg ⟨Za (.inl rfl) (by omega) fun j hj=>?_,trivial⟩)
 obtain rfl:j=0:=by omega
 exact (Xc l).sees _
theorem Vq (L:List V2) (t:Tok) (A B:Nat→AO) (hL:L.length<1000000) (hy:∀ i,i<L.length→YCall Tryz.prog t [vA (L.getD i v0),vA (L.getD ((i+1) % L.length) v0)] [A i,B i] (.bool true) [A (i+1),B (i+1)])
  (hA:∀ i,XI 2 (A i)∧A i≠.unborn∧∀ v n f,A i≠.con v n f) (hB:∀ i,XI 2 (B i)∧B i≠.unborn∧∀ v n f,B i≠.con v n f) (hce:t.ce.H.length≤2) :
  ICall Tryz.prog t 218 [.yld t.l,.ptr 1 (Xn [Xp L]) 0] [A 0,B 0] [A L.length,B L.length]:=by
 have hAO:∀ i,XI 2 (A i)=True:=fun i=>eq_true (hA i).1
 have hBO:∀ i,XI 2 (B i)=True:=fun i=>eq_true (hB i).1
 refine ICall.intro (fn:=Tryz.f218) Tryz.call218 Tryz.func218 rfl mixed 5 [5,6,7] [3,40000004] [3] (by kernel_rfl) (Nat.le_of_ble_eq_true rfl) hce (by simp [hAO,hBO]) (Xl ?_)
 simp only [AS.start,X4,↓X1,wA,seval,zA,qA,qC,vA,vC,Ky,wN]
 refine Xe (fun i:Nat=>⟨5,[5,6,7],[.yld t.l,.ptr 1 (Xn [Xp L]) 0,.any,.any,.any],[(5,Xp L),(6,I L.length),(7,I i)],[A i,B i]⟩) (fun i=>i≤L.length) (fun i=>L.length - i) 0 (by omega)
  (Xi rfl (by simp [Xf,X4]) (by simp [Xq,Xw,X4,I]) rfl) ?_
 intro i hi next
 have w1:=wj i (by omega)
 by_cases hi2:i<L.length
 ·have f1:((i:Int)<L.length)=True:=eq_true (by omega)
  have f2:(i<L.length)=True:=eq_true hi2
  have f3:(i*8+8≤L.length*8)=True:=eq_true (by omega)
  have hm:((i+1:Nat):Int).tmod L.length=(((i+1) % L.length:Nat):Int):=rfl
  have hml:(i+1) % L.length<L.length:=Nat.mod_lt _ (by omega)
  have f4:((i+1) % L.length<L.length)=True:=eq_true hml
  have f5:((i+1) % L.length*8+8≤L.length*8)=True:=eq_true (by omega)
  have f6:((L.length:Int)=0)=False:=eq_false (by omega)
  have f6':(L.length=0)=False:=eq_false (by omega)
  have v1:=vF L i
  have v2:=vF L ((i+1) % L.length)
  refine Xl ?_
  simp only [X4,w1,f1,f2,f3,f4,f5,f6,f6',hm,v1,v2,Int.toNat_natCast,↓X1,wA,seval,zA,qA,qC,vA,vC,Ky,wN]
  refine CS (t:=t) (H1:=[A i,B i]) (H1':=[A (i+1),B (i+1)]) rfl rfl (List.mem_singleton.2 rfl) (hy i hi2) rfl rfl hce ?_ ?_ ?_ ?_ ?_ ⟨Weak.rfl' _,Weak.rfl' _,trivial⟩ ?_
  ·intro a ha
   simp only [List.mem_cons,List.not_mem_nil,or_false] at ha
   rcases ha with rfl | rfl <;> exact X5 (Xk _)
  ·intro o ho
   simp only [List.mem_cons,List.not_mem_nil,or_false] at ho
   rcases ho with rfl | rfl
   ·exact (hA i).1
   ·exact (hB i).1
  ·intro o ho
   simp only [List.mem_cons,List.not_mem_nil,or_false] at ho
   rcases ho with rfl | rfl
   ·exact (hA i).2.1
   ·exact (hB i).2.1
  ·intro o ho
   simp only [List.mem_cons,List.not_mem_nil,or_false] at ho
   rcases ho with rfl | rfl
   ·exact (hA (i+1)).2.1
   ·exact (hB (i+1)).2.1
  ·refine QX ?_ ?_
   ·intro o ho
    simp only [List.mem_cons,List.not_mem_nil,or_false] at ho
    rcases ho with rfl | rfl
    ·exact (hA i).2.2
    ·exact (hB i).2.2
   ·intro o ho
    simp only [List.mem_cons,List.not_mem_nil,or_false] at ho
    rcases ho with rfl | rfl
    ·exact (hA (i+1)).2.2
    ·exact (hB (i+1)).2.2
  simp only [X4,w1,↓X1,wA,seval,zA,qA,qC,vA,vC,Ky,wN]
  have hbv:JO 2 (Xp L)=True:=eq_true (X5 (Xc L))
  have hbp:JO 2 (.ptr 1 (Xn [Xp L]) 0)=True:=eq_true (X5 (J0 fun j hj=>by
    obtain rfl:j=0:=by omega
    exact Xc L))
  have hby:JO 2 (.yld t.l)=True:=eq_true fun c v hv=>by cases hv; exact .yld _
  exact next (i+1) _ (by omega) (by omega) (XE (m:=2) (Nat.le_refl 2) rfl (by simp [X4,Xf,X7,Qu,I]) (by simp [X4,Xq,Xw,I]) rfl (by simp [hby,hbp,XA]) (by simp [hbv,XA]) (by simp [hAO,hBO]))
 ·obtain rfl:i=L.length:=by omega
  refine Xl ?_
  simp only [X4,Int.lt_irrefl,Nat.lt_irrefl,↓X1,wA,seval,zA,qA,qC,vA,vC,Ky,wN]
  exact sT rfl rfl
def KW (L:List V2):Nat→Rat
 | 0=>0
 | i+1=>KW L i+Qe (L.getD i v0) (L.getD ((i+1) % L.length) v0)
def ZC (L:List V2):Rat:=KW L L.length*Rat.divInt 1 2
def Q2 (L:List V2) (k:Nat):Prop:=∀ i,vb (L.getD i v0)≤k
theorem L3 (L:List V2) (k:Nat) (h:Q2 L k):∀ i,qb (KW L i)≤(4*k+2)*i+1
 | 0=>by have:=Aj; simp only [KW]; omega
 | i+1=>by
  have ih:=L3 L k h i
  have h1:=CG (L.getD i v0) (L.getD ((i+1) % L.length) v0)
  have h2:=h i
  have h3:=h ((i+1) % L.length)
  have h4:=K2 (KW L i) (Qe (L.getD i v0) (L.getD ((i+1) % L.length) v0))
  have e:(4*k+2)*(i+1)=(4*k+2)*i+(4*k+2):=Nat.mul_succ _ _
  simp only [KW]
  omega
theorem VP (L:List V2) (k:Nat) (h:Q2 L k) (hk:k≤1000) (hl:L.length≤1000):qb (KW L L.length)≤10000000∧qb (ZC L)≤10000000:=by
 have h1:=L3 L k h L.length
 have h2:(4*k+2)*L.length≤4002*1000:=Nat.mul_le_mul (by omega) hl
 have h3:=Qz (KW L L.length) (Rat.divInt 1 2)
 have h4:qb (Rat.divInt 1 2)≤3:=Kr _ _ _ (by omega) (Qy ⟨by omega,by omega⟩) (Qy ⟨by omega,by omega⟩)
 unfold ZC
 omega
def KV:AO:=.row 0 4 (Xn [.bool false,.sl 0 0 (fun _=>.any) true,.bool false,.sl 0 0 (fun _=>.any) true])
def Cu (L:List V2) (i:Nat):AO:=.row 0 4 (Xn (qC (KW L i)))
theorem lF (L:List V2) (k:Nat) (h:Q2 L k) (hk:k≤1000) (hl:L.length≤1000):Fn Tryz.prog 71 [Xp L] (qA (ZC L)):=by
 obtain ⟨R,hR⟩:∃ R,R=qA (ZC L):=⟨_,rfl⟩
 have sR:Settled R:=hR▸Xa _
 obtain ⟨q1,q2⟩:=VP L k h hk hl
 have cs:=jS L
 rw [← hR]
 refine Fq Tryz.call71 Tryz.func71 6 [8,9] [] [] (by simp [Xc]) (Xl ?_)
 simp only [AS.start,X4,↓X1,wA,seval,zA,qA,qC,vA,vC,Ky,wN]
 refine X0 cs rfl ?_
 simp only [↓X1,wA,seval,zA,qA,qC,vA,vC,Ky,wN]
 have bA:XI 2 KV∧KV≠.unborn∧∀ v n f,KV≠.con v n f:=⟨by simp [KV,XA],by simp [KV],by simp [KV]⟩
 have bB:∀ i,XI 2 (Cu L i)∧Cu L i≠.unborn∧∀ v n f,Cu L i≠.con v n f:=fun i=>⟨by simp [Cu,qC,XA],by simp [Cu],by simp [Cu]⟩
 refine Run.sub (s':=⟨6,[8,9],[Xp L,.any,.ref 0 0 0,.ref 1 0 0,.any,.any],[(7,.fn 218 [.ptr 1 (Xn [Xp L]) 0])],[KV,Cu L 0]⟩) ?_ ((ZM 1 (Xn (qC 0)) rfl fun j hj=>?_).trans (Xi rfl (by simp [Xf,X4]) (by simp [Xq,Xw]) (by simp [KV,Cu,KW])))
 rotate_left
 ·match j,hj with
  | 0,_=>exact QZ _ _
  | 1,_=>exact Zo (Qw (by rw [Rat.zero_num]; simp [Q1]))
  | 2,_=>exact QZ _ _
  | 3,_=>exact Zo (Qw (Da rfl))
  | j+4,h=>omega
 refine F4 (gf:=218) (caps:=[.ptr 1 (Xn [Xp L]) 0]) (Hn:=[KV,Cu L L.length]) rfl rfl rfl (fun t ht=>?_) ?_
 ·refine Vq L t (fun _=>KV) (Cu L) (by omega) (fun i hi=>?_) (fun _=>bA) bB (by rw [ht.ch]; exact Nat.le_refl _)
  have hc:=Hi (L.getD i v0) (L.getD ((i+1) % L.length) v0) (by have:=h i; unfold vm; omega) (by have:=h ((i+1) % L.length); unfold vm; omega)
  have b1:=L3 L k h i
  have b2:(4*k+2)*i≤4002*1000:=Nat.mul_le_mul (by omega) (by omega)
  have b3:=CG (L.getD i v0) (L.getD ((i+1) % L.length) v0)
  have b4:=h i
  have b5:=h ((i+1) % L.length)
  have ha:=Bl (KW L i) (Qe (L.getD i v0) (L.getD ((i+1) % L.length) v0)) (by unfold rm; omega) (by unfold rm; omega)
  refine Ek (str:=[]) (hcs:=[]) ht mixed (by kernel_rfl) (by kernel_rfl) rfl (fun p hp=>?_) (fun o ho=>?_) (fun l r hr=>?_)
  ·have hp':p=8∨p=9:=by simpa using hp
   rcases hp' with rfl | rfl <;> exact Nat.le_of_ble_eq_true rfl
  ·simp only [List.mem_cons,List.not_mem_nil,or_false] at ho
   rcases ho with rfl | rfl
   ·exact bA.1
   ·exact (bB (i+1)).1
  show Run _ _ ⟨6,[8,9],[Xp L,.any,.ref 0 0 0,.ref 1 0 0,.any,.any],[(9,vA (L.getD ((i+1) % L.length) v0)),(8,vA (L.getD i v0)),(7,.fn 218 [.ptr 1 (Xn [Xp L]) 0])],[KV,Cu L i]⟩
  refine Xl ?_
  simp only [KV,Cu,↓X1,wA,seval,zA,qA,qC,vA,vC,Ky,wN]
  refine Fj hr ?_
  refine Xl ?_
  simp only [↓X1,wA,seval,zA,qA,qC,vA,vC,Ky,wN]
  refine X0 hc rfl ?_
  simp only [↓X1,wA,seval,zA,qA,qC,vA,vC,Ky,wN]
  refine X0 ha rfl ?_
  simp only [↓X1,wA,seval,zA,qA,qC,vA,vC,Ky,wN]
  exact oJ rfl
 ·refine Xl ?_
  simp only [KV,Cu,↓X1,wA,seval,zA,qA,qC,vA,vC,Ky,wN]
  refine X0 (FC 1 2 ⟨by omega,by omega⟩ ⟨by omega,by omega⟩) rfl ?_
  simp only [↓X1,wA,seval,zA,qA,qC,vA,vC,Ky,wN]
  have hm:=KH (KW L L.length) (Rat.divInt 1 2) (by unfold rm; omega) (by
   have:qb (Rat.divInt 1 2)≤3:=Kr _ _ _ (by omega) (Qy ⟨by omega,by omega⟩) (Qy ⟨by omega,by omega⟩)
   unfold rm; omega)
  rw [show KW L L.length*Rat.divInt 1 2=ZC L from rfl,← hR] at hm
  refine X0 hm rfl ?_
  simp only [hR,↓X1,wA,seval,zA,qA,qC,vA,vC,Ky,wN]
  exact JH rfl Qa rfl rfl rfl sR (hR.trans rfl)
theorem tU (L:List V2) (i:Nat) (hn:L.length<1000000) (h0:L.length≠0) (hi:i<1000000000) :
  Fn Tryz.prog 178 [I i,.ptr 1 (Xn [Xp L]) 0,.ptr 1 (Xn [I L.length]) 0] (vA (L.getD (i % L.length) v0)):=by
 obtain ⟨R,hR⟩:∃ R,R=vA (L.getD (i % L.length) v0):=⟨_,rfl⟩
 have sR:Settled R:=hR▸Xk _
 have hm:(i:Int).tmod L.length=((i % L.length:Nat):Int):=rfl
 have hml:i % L.length<L.length:=Nat.mod_lt _ (by omega)
 have f4:(i % L.length<L.length)=True:=eq_true hml
 have f5:(i % L.length*8+8≤L.length*8)=True:=eq_true (by omega)
 have f6:((L.length:Int)=0)=False:=eq_false (by omega)
 have f6':(L.length=0)=False:=eq_false h0
 have v1:=vF L (i % L.length)
 have hs0:Settled (.ptr 1 (Xn [Xp L]) 0):=J0 fun j hj=>by
   obtain rfl:j=0:=by omega
   exact Xc L
 have hs1:Settled (.ptr 1 (Xn [I L.length]) 0):=J0 fun j hj=>by
   obtain rfl:j=0:=by omega
   exact X9 _
 rw [← hR]
 refine Fq Tryz.call178 Tryz.func178 5 [] [] [] (by simp [X9,hs0,hs1]) (Xl ?_)
 simp only [AS.start,X4,f4,f5,f6,f6',hm,v1,Int.toNat_natCast,↓X1,wA,seval,zA,qA,qC,vA,vC,Ky,wN]
 exact Zm rfl Ju rfl rfl rfl sR (hR.trans rfl)
def atF (L:List V2) (i:Nat):V2:=L.getD (i % L.length) v0
def FU (L:List V2) (i:Nat):Prop:=Ji (atF L i) (atF L (i+1)) (atF L (i+2))=0
def VU (L:List V2) (i k:Nat):Prop:=(k+1) % L.length≠i∧D3 (atF L i) (atF L (i+1)) (atF L k) (atF L (k+1))=true
def iu (L:List V2) (i:Nat):Prop:=¬ FU L i∧∀ k,i+2≤k→k<L.length→¬ VU L i k
def D5 (L:List V2):Prop:=(3≤L.length∧L.length≤12)∧(∀ i,i<L.length→iu L i)∧0<(ZC L).num.sign
theorem cG (L:List V2) (h:Q2 L 1000) (hl:L.length<1000000):Fn Tryz.prog 90 [Xp L] (.bool (decide (D5 L))):=by
 obtain ⟨V,hV⟩:∃ V,V=decide (D5 L):=⟨_,rfl⟩
 rw [← hV]
 have fin:∀ {s:AS} {v:Bool},s.get 2=.bool v→v=V→RetOk (QJ Tryz.prog Tryz.f90 [] [] (.bool V)) s:=fun h e=>Xt rfl h (X2 _) (by rw [e])
 have hs0:Settled (.ptr 1 (Xn [Xp L]) 0):=J0 fun j hj=>by
   obtain rfl:j=0:=by omega
   exact Xc L
 have hs1:Settled (.ptr 1 (Xn [I L.length]) 0):=J0 fun j hj=>by
   obtain rfl:j=0:=by omega
   exact X9 _
 have sm:∀ i,vb (atF L i)≤vs:=fun i=>by have:=h (i % L.length); unfold atF vs; omega
 refine Fq Tryz.call90 Tryz.func90 9 [17,18,19,35,36] [] [] (by simp [Xc]) (Xl ?_)
 by_cases hlo:(L.length:Int)<3
 ·have f1:((L.length:Int)<3)=True:=eq_true hlo
  simp only [AS.start,X4,f1,↓X1,wA,seval,zA,qA,qC,vA,vC,Ky,wN]
  exact fin rfl (by rw [hV,decide_eq_false]; unfold D5; omega)
 have f1:((L.length:Int)<3)=False:=eq_false hlo
 by_cases hhi:(12:Int)<L.length
 ·have f2:((12:Int)<L.length)=True:=eq_true hhi
  simp only [AS.start,X4,f1,f2,↓X1,wA,seval,zA,qA,qC,vA,vC,Ky,wN]
  exact fin rfl (by rw [hV,decide_eq_false]; unfold D5; omega)
 have f2:((12:Int)<L.length)=False:=eq_false hhi
 simp only [AS.start,X4,f1,f2,↓X1,wA,seval,zA,qA,qC,vA,vC,Ky,wN]
 have b0:JO 0 (.ptr 1 (Xn [Xp L]) 0)=True:=eq_true (X5 hs0)
 have b1:JO 0 (.ptr 1 (Xn [I L.length]) 0)=True:=eq_true (X5 hs1)
 have b2:JO 0 (Xp L)=True:=eq_true (X5 (Xc L))
 refine Xe (fun i:Nat=>⟨9,[17,18,19,35,36],[.any,.ptr 1 (Xn [Xp L]) 0,.bool false,.ptr 1 (Xn [I L.length]) 0,.any,.any,.any,.any,.any],[(17,Xp L),(18,I L.length),(19,I i)],[]⟩) (fun i=>i≤L.length) (fun i=>L.length - i) 0 (by omega)
  ((XX 0 rfl).trans ((XX 1 rfl).trans ((CJ 1 rfl rfl (by omega)).trans ((CJ 3 rfl rfl (by omega)).trans (XE (m:=0) (Nat.zero_le _) rfl (by simp [AS.put,X4,Xf,X7,Qu,I]) (by simp [AS.put,X4,Xq,Xw,I]) rfl (by simp [b0,b1,XA]) (by simp [b2,XA]) (by simp)))))) ?_
 intro i hi next
 have w1:=wj i (by omega)
 have rv:∀ r:Rat,qb r≤1000→Fn Tryz.prog 79 [qA r] (.bool true):=fun r hr=>by
  have h1:=RQ.of_sz r
  have:=O1 (RQ.of r) (by omega)
  rwa [decide_eq_true ⟨r,rfl⟩] at this
 by_cases hi2:i<L.length
 ·have f3:((i:Int)<L.length)=True:=eq_true (by omega)
  have f4:(i<L.length)=True:=eq_true hi2
  have f5:(i*8+8≤L.length*8)=True:=eq_true (by omega)
  have v1:=vF L i
  have hx:=Qv (L.getD i v0); have hy:=Qm (L.getD i v0); have hb:=h i
  refine Xl ?_
  simp only [X4,w1,f3,f4,f5,v1,Int.toNat_natCast,↓X1,wA,seval,zA,qA,qC,vA,vC,Ky,wN]
  refine X0 (rv (L.getD i v0).x (by omega)) rfl ?_
  simp only [↓X1,wA,seval,zA,qA,qC,vA,vC,Ky,wN]
  refine X0 (rv (L.getD i v0).y (by omega)) rfl ?_
  simp only [w1,↓X1,wA,seval,zA,qA,qC,vA,vC,Ky,wN]
  exact next (i+1) _ (by omega) (by omega) (XE (m:=0) (Nat.zero_le _) rfl (by simp [X4,Xf,X7,Qu,I]) (by simp [X4,Xq,Xw,I]) rfl (by simp [b0,b1,XA]) (by simp [b2,XA]) (by simp))
 obtain rfl:i=L.length:=by omega
 refine Xl ?_
 simp only [X4,Int.lt_irrefl,Nat.lt_irrefl,↓X1,wA,seval,zA,qA,qC,vA,vC,Ky,wN]
 have hn0:L.length≠0:=by omega
 have cat:∀ j:Nat,j<1000000000→Fn Tryz.prog 178 [I j,.ptr 1 (Xn [Xp L]) 0,.ptr 1 (Xn [I L.length]) 0] (vA (atF L j)):=fun j hj=>tU L j hl hn0 hj
 have b3:JO 0 (.fn 178 [.ptr 1 (Xn [Xp L]) 0,.ptr 1 (Xn [I L.length]) 0])=True:=eq_true (X5 (Jq (by
  intro a ha
  simp only [List.mem_cons,List.not_mem_nil,or_false] at ha
  rcases ha with rfl | rfl
  ·exact hs0
  ·exact hs1)))
 refine Xe (fun i:Nat=>⟨9,[17,18,19,35,36],[.any,.ptr 1 (Xn [Xp L]) 0,.bool false,.ptr 1 (Xn [I L.length]) 0,.any,.any,.fn 178 [.ptr 1 (Xn [Xp L]) 0,.ptr 1 (Xn [I L.length]) 0],.any,.any],[(35,I L.length),(36,I i)],[]⟩) (fun i=>i≤L.length∧∀ j,j<i→iu L j) (fun i=>L.length - i) 0 ⟨by omega,by omega⟩
  (XE (m:=0) (Nat.zero_le _) rfl (by simp [X4,Xf,X7,Qu,I]) (by simp [X4,Xq,Xw,I]) rfl (by simp [b0,b1,b3,XA]) (by simp [b2,XA]) (by simp)) ?_
 rintro i ⟨hi,hgood⟩ next
 have w1:=wj i (by omega)
 have w2:IntKind.i64.wrap ((i:Int)+2)=((i+2:Nat):Int):=by rw [IntKind.wrap_i64]; omega
 by_cases hi2:i<L.length
 rotate_left
 ·obtain rfl:i=L.length:=by omega
  refine Xl ?_
  simp only [X4,Int.lt_irrefl,Nat.lt_irrefl,↓X1,wA,seval,zA,qA,qC,vA,vC,Ky,wN]
  have ca:=lF L 1000 h (by omega) (by omega)
  have cs:=Ks (ZC L)
  refine X0 ca rfl ?_
  simp only [↓X1,wA,seval,zA,qA,qC,vA,vC,Ky,wN]
  refine X0 cs rfl ?_
  simp only [↓X1,wA,seval,zA,qA,qC,vA,vC,Ky,wN]
  exact fin rfl (by rw [hV,decide_eq_decide]; unfold D5; exact ⟨fun h=>⟨by omega,hgood,h⟩,fun h=>h.2.2⟩)
 have f3:((i:Int)<L.length)=True:=eq_true (by omega)
 have f4:(i<L.length)=True:=eq_true hi2
 refine Xl ?_
 simp only [w1,w2,f3,f4,Int.toNat_natCast,↓X1,wA,seval,zA,qA,qC,vA,vC,Ky,wN]
 refine X0 (cat i (by omega)) rfl ?_
 simp only [w1,w2,↓X1,wA,seval,zA,qA,qC,vA,vC,Ky,wN]
 refine X0 (cat (i+1) (by omega)) rfl ?_
 simp only [w1,w2,↓X1,wA,seval,zA,qA,qC,vA,vC,Ky,wN]
 refine X0 (cat (i+2) (by omega)) rfl ?_
 simp only [w1,w2,↓X1,wA,seval,zA,qA,qC,vA,vC,Ky,wN]
 refine X0 (ZH _ _ _ (sm _) (sm _) (sm _)) rfl ?_
 by_cases hs:Ji (atF L i) (atF L (i+1)) (atF L (i+2))=0
 ·have f5:(Ji (atF L i) (atF L (i+1)) (atF L (i+2))=0)=True:=eq_true hs
  simp only [f5,↓X1,wA,seval,zA,qA,qC,vA,vC,Ky,wN]
  exact fin rfl (by rw [hV,decide_eq_false]; exact fun hp=>(hp.2.1 i hi2).1 hs)
 have f5:(Ji (atF L i) (atF L (i+1)) (atF L (i+2))=0)=False:=eq_false hs
 simp only [f5,w1,w2,↓X1,wA,seval,zA,qA,qC,vA,vC,Ky,wN]
 refine Xe (fun k:Nat=>⟨9,[17,18,19,35,36],[.any,.ptr 1 (Xn [Xp L]) 0,.bool false,.ptr 1 (Xn [I L.length]) 0,.any,.any,.fn 178 [.ptr 1 (Xn [Xp L]) 0,.ptr 1 (Xn [I L.length]) 0],I i,I k],[(35,I L.length),(36,I i)],[]⟩) (fun k=>i+2≤k∧k≤L.length+2∧∀ j,i+2≤j→j<k→j<L.length→¬ VU L i j) (fun k=>L.length+2 - k) (i+2) ⟨by omega,by omega,by omega⟩
  (Xi rfl (by simp [Xf,I]) (by simp [Xq,Xw,I]) rfl) ?_
 rintro k ⟨hk1,hk2,hpair⟩ nextk
 have u1:=wj k (by omega)
 by_cases hk3:k<L.length
 rotate_left
 ·have g3:((k:Int)<L.length)=False:=eq_false (by omega)
  have g4:(k<L.length)=False:=eq_false hk3
  refine Xl ?_
  simp only [g3,g4,w1,↓X1,wA,seval,zA,qA,qC,vA,vC,Ky,wN]
  refine next (i+1) _ ⟨by omega,fun j hj=>?_⟩ (by omega) (Xi rfl (by simp [Xf,I]) (by simp [Xq,Xw,I]) rfl)
  by_cases hji:j<i
  ·exact hgood j hji
  ·obtain rfl:j=i:=by omega
   exact ⟨hs,fun q hq1 hq2=>hpair q hq1 (by omega) hq2⟩
 have g3:((k:Int)<L.length)=True:=eq_true (by omega)
 have g4:(k<L.length)=True:=eq_true hk3
 have hm:((k+1:Nat):Int).tmod L.length=(((k+1) % L.length:Nat):Int):=rfl
 have f6:((L.length:Int)=0)=False:=eq_false (by omega)
 have f6':(L.length=0)=False:=eq_false hn0
 by_cases hne:(k+1) % L.length=i
 ·have g5:((k+1) % L.length=i)=True:=eq_true hne
  have g6:((((k+1) % L.length:Nat):Int)=(i:Int))=True:=eq_true (by omega)
  refine Xl ?_
  simp only [g3,g4,g5,g6,w1,u1,hm,f6,f6',↓X1,wA,seval,zA,qA,qC,vA,vC,Ky,wN]
  exact nextk (k+1) _ ⟨by omega,by omega,fun j h1 h2 h3=>by
   by_cases hjk:j<k
   ·exact hpair j h1 hjk h3
   ·obtain rfl:j=k:=by omega
    exact fun hb=>hb.1 hne⟩ (by omega) (Xi rfl (by simp [Xf,I]) (by simp [Xq,Xw,I]) rfl)
 have g5:((k+1) % L.length=i)=False:=eq_false hne
 have g6:((((k+1) % L.length:Nat):Int)=(i:Int))=False:=eq_false (by omega)
 refine Xl ?_
 simp only [g3,g4,g5,g6,w1,u1,hm,f6,f6',↓X1,wA,seval,zA,qA,qC,vA,vC,Ky,wN]
 refine X0 (cat i (by omega)) rfl ?_
 simp only [g5,g6,w1,u1,↓X1,wA,seval,zA,qA,qC,vA,vC,Ky,wN]
 refine X0 (cat (i+1) (by omega)) rfl ?_
 simp only [g5,g6,w1,u1,↓X1,wA,seval,zA,qA,qC,vA,vC,Ky,wN]
 refine X0 (cat k (by omega)) rfl ?_
 simp only [g5,g6,w1,u1,↓X1,wA,seval,zA,qA,qC,vA,vC,Ky,wN]
 refine X0 (cat (k+1) (by omega)) rfl ?_
 simp only [g5,g6,w1,u1,↓X1,wA,seval,zA,qA,qC,vA,vC,Ky,wN]
 refine X0 (iN _ _ _ _ (sm _) (sm _) (sm _) (sm _)) rfl ?_
 by_cases hmt:D3 (atF L i) (atF L (i+1)) (atF L k) (atF L (k+1))=true
 ·rw [hmt]
  simp only [g5,g6,↓X1,wA,seval,zA,qA,qC,vA,vC,Ky,wN]
  exact fin rfl (by rw [hV,decide_eq_false]; exact fun hp=>(hp.2.1 i hi2).2 k hk1 hk3 ⟨hne,hmt⟩)
 ·have hmf:=Bool.not_eq_true _▸hmt
  rw [hmf]
  simp only [g5,g6,u1,↓X1,wA,seval,zA,qA,qC,vA,vC,Ky,wN]
  exact nextk (k+1) _ ⟨by omega,by omega,fun j h1 h2 h3=>by
   by_cases hjk:j<k
   ·exact hpair j h1 hjk h3
   ·obtain rfl:j=k:=by omega
    exact fun hb=>hmt hb.2⟩ (by omega) (Xi rfl (by simp [Xf,I]) (by simp [Xq,Xw,I]) rfl)
def Kq (p:Int×Int):List AV:=[I p.1,I p.2]
def Dz (l:List (Int×Int)):AV:=tL Kq 2 (0,0) l
theorem Jd (l:List (Int×Int)):Settled (Dz l):=Ec fun a x hx=>by
 have:∀ x∈Kq a,Settled x:=by simp [Kq,X9]
 exact this x hx
theorem Xd (l:List (Int×Int)):Dz l=.sl l.length (l.length*2) (Xs Kq 2 (0,0) l) false:=nrfl rfl
theorem Xm (l:List Bool):A9 l=.sl l.length l.length (Q7 AV.bool false l) false:=nrfl rfl
theorem X3 (l:List Int):X7 l=.sl l.length l.length (Q7 I 0 l) false:=nrfl rfl
theorem T7 {α:Type} (e:α→List AV) (s:Nat) (d:α) (l:List α) (j:Nat) (hs:0<s) (he:∀ a,(e a).length=s∧∀ x∈e a,x.one=true):(Xs e s d l j).one=true:=by
 have h:=he (l.getD (j / s) d)
 have hj:j % s<(e (l.getD (j / s) d)).length:=by rw [h.1]; exact Nat.mod_lt _ hs
 unfold Xs
 rw [List.getD_eq_getElem?_getD,List.getElem?_eq_getElem hj]
 exact h.2 _ (List.getElem_mem hj)
theorem KB (p:Int×Int):∀ x∈Kq p,Settled x:=by simp [Kq,X9]
theorem oz (l:List (Int×Int)) (i:Nat):Xs Kq 2 (0,0) l (i*2)=I (l.getD i (0,0)).1∧Xs Kq 2 (0,0) l (i*2+1)=I (l.getD i (0,0)).2:=by
 refine ⟨?_,?_⟩
 ·rw [Kv _ _ _ _ _ (by omega)]; rfl
 ·rw [Kg _ _ _ _ _ _ (by omega)]; rfl
theorem r9 (f:Nat→AV) (m:Nat) (g:Nat→AV) (j:Nat):QR 0 f m g j=if j<m then g j else f j:=by simp [QR]
theorem wt (z:Int):zA z=.agg [.bool (decide (z<0)),X7 (X8 z.natAbs)]:=nrfl rfl
theorem ws (v:V2):vC v=[.bool (decide (v.x.num<0)),X7 (X8 v.x.num.natAbs),.bool false,X7 (X8 (qd v.x)),.bool (decide (v.y.num<0)),X7 (X8 v.y.num.natAbs),.bool false,X7 (X8 (qd v.y))]:=nrfl rfl
theorem wr (v:V2):vA v=.agg (vC v):=nrfl rfl
theorem vZ (r:Rat):qC r=[.bool (decide (r.num<0)),X7 (X8 r.num.natAbs),.bool false,X7 (X8 (qd r))]:=nrfl rfl
theorem vY (r:Rat):qA r=.agg (qC r):=nrfl rfl
set_option linter.defProp false in
def wS:=And.intro Kn (And.intro @Xa (And.intro @Xk (And.intro @Xh (And.intro @Jd @Cp))))
set_option linter.defProp false in
def wE:=And.intro @wt (And.intro @ws (And.intro @wr (And.intro @vZ (And.intro @vY (And.intro @Xd (And.intro @Xm (And.intro Ky wN)))))))
set_option linter.defProp false in
def wF:=And.intro wA wE
structure PV where
 id:Int
 home:Int
 rim:List (Int×Int)
 worn:List Bool
 marks:List Int
 tol:RQ
 light:RQ
 heavy:RQ
 strength:RQ
 rough:RQ
def XG (p:PV):List AV:=[I p.id,I p.home,Dz p.rim,A9 p.worn,X7 p.marks,.bool p.tol.pn,X7 p.tol.pd,.bool p.tol.qn,X7 p.tol.qd,.bool p.light.pn,X7 p.light.pd,.bool p.light.qn,X7 p.light.qd,
 .bool p.heavy.pn,X7 p.heavy.pd,.bool p.heavy.qn,X7 p.heavy.qd,.bool p.strength.pn,X7 p.strength.pd,.bool p.strength.qn,X7 p.strength.qd,.bool p.rough.pn,X7 p.rough.pd,.bool p.rough.qn,X7 p.rough.qd]
def QP (p:PV):AV:=.agg (XG p)
theorem Je (p:PV):Settled (QP p):=Qn (by simp [XG,X9,Jd,Cp,X6,X2])
def PV.num (p:PV):Nat→RQ
 | 0=>p.tol
 | 1=>p.light
 | 2=>p.heavy
 | 3=>p.strength
 | _=>p.rough
theorem XD {m v n:Nat} {L:List AV} (h:∀ x∈L,Settled x):XI m (.row v n (Xn L)):=fun j _=>X5 (Xb h j)
theorem Xy (p:PV):∀ x∈XG p,Settled x:=by simp [XG,X9,Jd,Cp,X6,X2]
def wb (n lo hi:Int):Bool:=decide (lo≤n) && decide (n≤hi)
def LP (c:Int×Int):Bool:=wb c.1 (-65536) 65536 && wb c.2 (-65536) 65536
theorem Fr {f:FuncId} {fn:Func} {body:Code} {args:List AV} {r:AV} (he:A7 Tryz.prog f) (hf:Tryz.prog.funcs[f]?=some fn) (n0:Nat) (hid str hcs:List Nat) (h:QF (BZ (AS.start n0 hid args [])) fun s=>vc (QJ Tryz.prog fn str hcs r) 1000 [.code body] s) (hs:∀ a∈args,Settled a:=by simp [wS,Je]) (hb:fn.body=some body:=by rfl) (hok:Qq fn.ntmps str hcs body=true:=by kernel_rfl) (hlen:args.length≤fn.ntmps:=by exact Nat.le_of_ble_eq_true rfl):Fn Tryz.prog f args r:=Fq he hf n0 hid str hcs hs (Xl h) hb hok hlen
theorem XR {α:Type} (e:α→List AV) (s:Nat) (d:α) (l:List α) (x:α) (hs:0<s):QR (l.length*s) (Xs e s d l) s (Xn (e x))=Xs e s d (l ++ [x]):=by
 funext j
 unfold QR Xs Xn
 by_cases h1:j<l.length*s
 ·have:j / s<l.length:=by rw [Nat.div_lt_iff_lt_mul hs]; exact h1
  have e1:(l ++ [x]).getD (j / s) d=l.getD (j / s) d:=by rw [List.getD_eq_getElem?_getD,List.getD_eq_getElem?_getD,List.getElem?_append_left this]
  rw [if_pos h1,e1]
 ·rw [if_neg h1]
  by_cases h2:j<l.length*s+s
  ·rw [if_pos h2]
   have hj:j / s=l.length:=by
    refine Nat.div_eq_of_lt_le (by omega) ?_
    rw [Nat.add_mul]; omega
   have hm:j % s=j - l.length*s:=by
    have:=Nat.div_add_mod j s
    rw [hj,Nat.mul_comm] at this
    omega
   rw [hj,hm]
   simp
  ·rw [if_neg h2]
   have hj:l.length+1≤j / s:=by
    rw [Nat.le_div_iff_mul_le hs,Nat.add_mul]; omega
   have e1:(l ++ [x]).getD (j / s) d=d:=by rw [List.getD_eq_getElem?_getD,List.getElem?_eq_none (by simp; omega)]; rfl
   have e2:l.getD (j / s) d=d:=by rw [List.getD_eq_getElem?_getD,List.getElem?_eq_none (by omega)]; rfl
   rw [e1,e2]
def Jv (c:Int×Int):V2:=⟨c.1,c.2⟩
def Xz (l:List (Int×Int)):List V2:=l.map Jv
theorem BS {α:Type} (l:List α) (d:α) {i:Nat} (h:i<l.length):l.take (i+1)=l.take i ++ [l.getD i d]:=by
 rw [List.take_succ_eq_append_getElem h,List.getD_eq_getElem?_getD,List.getElem?_eq_getElem h]; rfl
theorem Vi (p:PV) (hl:p.rim.length<1000000) (hr:∀ i,i<p.rim.length→LP (p.rim.getD i (0,0))=true):Fn Tryz.prog 54 [QP p] (Xp (Xz p.rim)):=by
 obtain ⟨R,hR⟩:∃ R,R=Xp (Xz p.rim):=⟨_,rfl⟩
 have sR:Settled R:=hR▸Xc _
 have bp:JO 2 (Dz p.rim)=True:=eq_true (X5 (Jd _))
 have bo:XI 2 (.row 0 25 (Xn (XG p)))=True:=eq_true (XD (Xy p))
 have hvc:∀ a:V2,∀ x∈vC a,Settled x:=fun a=>by simp [vC,X6,X2]
 have br:∀ i l n,XI 2 (.row i n (Xs vC 8 v0 l))=True:=fun i l n=>eq_true fun j _=>X5 (Xb (hvc _) _)
 rw [← hR]
 refine Fr Tryz.call54 Tryz.func54 6 [7,8,9] [] [] ?_
 simp only [AS.start,QP,XG,↓X1,wF,seval]
 refine Xe (fun i:Nat=>⟨6,[7,8,9],[.any,.ref 0 0 0,.any,.osl 1 i 8 0 i,.any,.any],[(7,Dz p.rim),(8,I p.rim.length),(9,I i)],[.row 0 25 (Xn (XG p)),.row i (i*8) (Xs vC 8 v0 (Xz (p.rim.take i)))]⟩) (fun i=>i≤p.rim.length) (fun i=>p.rim.length - i) 0 (by omega)
  ((Q5 3 8 (Xs vC 8 v0 []) rfl).trans (Xi rfl (by simp [AS.put,Xf]) (by simp [AS.put,Xq,Xw,Xd,I]) (by simp [AS.put,XG,Xd,Xm,X3,I,Xz]))) ?_
 intro i hi next
 have w1:=wj i (by omega)
 by_cases hi2:i<p.rim.length
 ·have f1:((i:Int)<p.rim.length)=True:=eq_true (by omega)
  have f2:(i<p.rim.length)=True:=eq_true hi2
  have f3:(i*2+2≤p.rim.length*2)=True:=eq_true (by omega)
  have v1:=oz p.rim i
  have hok:=hr i hi2
  unfold LP wb at hok
  simp only [Bool.and_eq_true,decide_eq_true_eq] at hok
  have c1:=Hj (p.rim.getD i (0,0)).1 (p.rim.getD i (0,0)).2 ⟨by omega,by omega⟩ ⟨by omega,by omega⟩
  refine Xl ?_
  simp only [XG,w1,f1,f2,f3,v1,Int.toNat_natCast,↓X1,wF,seval]
  refine X0 c1 rfl ?_
  simp only [w1,↓X1,wF,seval]
  have hap:=XR vC 8 v0 (Xz (p.rim.take i)) (Jv (p.rim.getD i (0,0))) (by omega)
  have hlen:(Xz (p.rim.take i)).length=i:=by simp [Xz]; omega
  have htk:Xz (p.rim.take i) ++ [Jv (p.rim.getD i (0,0))]=Xz (p.rim.take (i+1)):=by rw [BS _ (0,0) hi2]; simp [Xz]
  rw [hlen,htk] at hap
  refine ⟨⟨fun j hj=>?_,by omega,by omega⟩,next (i+1) _ (by omega) (by omega) (XE (m:=2) (Nat.zero_le _) rfl (by simp [Xf]) (by simp [Xq,Xw,Xd,I]) (by rw [← hap]; rfl) (by simp [XA]) (by simp [XA,bp]) (by simp [bo,br]))⟩
  match j,hj with
  | 0,_=>rfl
  | 1,_=>rfl
  | 2,_=>rfl
  | 3,_=>rfl
  | 4,_=>rfl
  | 5,_=>rfl
  | 6,_=>rfl
  | 7,_=>rfl
  | j+8,h=>omega
 obtain rfl:i=p.rim.length:=by omega
 refine Xl ?_
 simp only [XG,Int.lt_irrefl,Nat.lt_irrefl,↓X1,wF,seval]
 refine Bm rfl ?_
 have hlen:(Xz p.rim).length=p.rim.length:=by simp [Xz]
 rw [hR,X4,hlen]
 refine Qx (n:=p.rim.length) (.inl rfl) (by omega) (fun h=>by rw [h]) fun j hj=>?_
 rw [List.take_length,Nat.zero_add]
 exact (Xb (hvc _) _).sees _
end
end Go.Ab.N
