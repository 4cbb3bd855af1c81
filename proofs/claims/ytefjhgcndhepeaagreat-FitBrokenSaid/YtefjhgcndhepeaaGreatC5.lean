/- Contracts of functions of these chapters, for every argument that fits, and what they need. -/
import Derived.Test.YtefjhgcndhepeaaGreatC4
import Derived.Test.YtefjhgcndhepeaaGreatAb4
set_option linter.unusedSimpArgs false
set_option linter.unusedVariables false
open Nat renaming reducePow → Y1, reduceLT → Y2, reduceLeDiff → Y3, reduceEqDiff → Y4, reduceAdd → Y5, reduceMul → Y6, reduceSub → Y7, reduceBEq → Y8, reduceDiv → Y9, reduceMod → YA
namespace Go.Ab.N
open Go Go.RowKit Go.Proofs
noncomputable section
set_option maxRecDepth 10000
set_option maxHeartbeats 2000000
open Classical
theorem Lg (x y:Int) (hx:bl x<1000000000) (hy:bl y<1000000000) (hy0:y≠0):Fn Tryz.prog 165 [zA x,zA y] (.tup [zA (x / y),zA (x % y)]):=by
 obtain ⟨L,dL,vL,lL,cd⟩:=TY x.natAbs y.natAbs hx hy (by omega)
 obtain ⟨q,hq⟩:∃ q,q=x.natAbs / y.natAbs:=⟨_,rfl⟩
 obtain ⟨r,hr⟩:∃ r,r=x.natAbs % y.natAbs:=⟨_,rfl⟩
 have hry:r<y.natAbs:=by rw [hr]; exact Nat.mod_lt _ (by omega)
 have hqx:q≤x.natAbs:=by rw [hq]; exact Nat.div_le_self _ _
 rw [← hq] at vL
 rw [← hr] at cd
 have lr:(X8 r).length<1000000000:=by
  have:=J5 (y:=(r:Int)) (z:=y) (by omega)
  rw [JU] at this; omega
 have ly:(X8 y.natAbs).length<1000000000:=hy
 have lry:(X8 r).length≤(X8 y.natAbs).length:=by
  have:=J5 (y:=(r:Int)) (z:=y) (by omega)
  rw [JU] at this; exact this
 have y1:((X8 y.natAbs).length=0)=False:=eq_false (fun h=>by have:=digs_len_zero.1 h; omega)
 have y2:(((X8 y.natAbs).length:Int)=0)=False:=eq_false (fun h=>by have:=digs_len_zero.1 (show (X8 y.natAbs).length=0 by omega); omega)
 obtain ⟨q1,r1,h1⟩:∃ q1 r1,if x<0∧r≠0 then q1=q+1∧r1=y.natAbs - r else q1=q∧r1=r:=by
  by_cases h:x<0∧r≠0
  ·exact ⟨q+1,y.natAbs - r,by rw [if_pos h]; exact ⟨rfl,rfl⟩⟩
  ·exact ⟨q,r,by rw [if_neg h]; exact ⟨rfl,rfl⟩⟩
 obtain ⟨e1,e2⟩:=II x y hy0 q r hq hr q1 r1 h1
 obtain ⟨s,hsg⟩:∃ s,s=(decide (x<0) != decide (y<0)):=⟨_,rfl⟩
 have hsg':(!(decide (x<0) == decide (y<0)))=s:=by rw [hsg]; cases decide (x<0) <;> cases decide (y<0) <;> rfl
 have c1:=JM s L dL (by omega)
 rw [vL] at c1
 have c2:=JM false (X8 r) (XF r) (by omega)
 rw [Xw,show Kn false (r:Int)=(r:Int) from rfl,QT] at c2
 obtain ⟨Q,hQ⟩:∃ Q,Q=zA (x / y):=⟨_,rfl⟩
 obtain ⟨R,hR⟩:∃ R,R=zA (x % y):=⟨_,rfl⟩
 have sQ:Settled Q:=hQ▸XC _
 have sR:Settled R:=hR▸XC _
 rw [← hQ,← hR]
 rw [e1,← hsg] at hQ
 rw [e2,QT] at hR
 have g1:∀ n:Nat,(0<(X8 n).length)=(n≠0):=fun n=>propext (by have:=@digs_len_zero n; omega)
 have fin:∀ {s':AS},Jj Tryz.prog s' (.cell 4 26)=some (zA (Kn s q1))→Jj Tryz.prog s' (.cell 5 26)=some (.agg [.bool false,X4 (X8 r1)]) →
   RetOk (QS Tryz.prog Tryz.f165 [9,10000,100000009] [] (.tup [Q,R])) s':=fun h1 h2=>Ki rfl h1 h2 (QE sQ hQ.symm) (QE sR hR.symm)
 by_cases hc:x<0∧r≠0
 ·obtain ⟨hx0,hr0⟩:=hc
  rw [if_pos ⟨hx0,hr0⟩] at h1
  obtain ⟨rfl,rfl⟩:=h1
  have c3:=JM s [1] (Kz.2 ⟨⟨by omega,by omega⟩,Be⟩) (by simp)
  rw [show val [(1:Int)]=1 by simp [val]] at c3
  have bq:bl (Kn s (q:Int))<room:=by
   have h2:=J5 (y:=Kn s (q:Int)) (z:=x) (by unfold Kn; split <;> omega)
   unfold room; omega
  have c4:=Se (Kn s (q:Int)) (Kn s 1) bq (by
   have:=QR (n:=Kn s 1) (by unfold Kn; split <;> exact ⟨by omega,by omega⟩)
   unfold room; omega)
  rw [show Kn s (q:Int)+Kn s 1=Kn s ((q+1:Nat):Int) by unfold Kn; split <;> omega] at c4
  have cm:=E7 (X8 y.natAbs) (X8 r) (XF _) (XF _) (by omega) lry (by rw [Xw,Xw]; omega)
  have vm:=AP (XF y.natAbs) (XF r) lry (by rw [Xw,Xw]; omega)
  rw [Xw,Xw] at vm
  have c5:=JM false (KV (X8 y.natAbs) (X8 r)) (AN (XF _) (XF _)) (by unfold KV; rw [Q3]; omega)
  rw [vm,show Kn false ((y.natAbs:Int) - r)=((y.natAbs - r:Nat):Int) by unfold Kn; simp; omega,QT] at c5
  have f1:(x<0)=True:=eq_true hx0
  have f2:(0<(X8 r).length)=True:=eq_true (by rw [g1]; exact hr0)
  have f3:(0<((X8 r).length:Int))=True:=eq_true (by have:=of_eq_true f2; omega)
  have hsT:(!(true == decide (y<0)))=s:=by rw [← hsg',decide_eq_true hx0]
  refine Fq Tryz.call165 Tryz.func165 10 [] [9,10000,100000009] [] (by simp [JY,Xa,Xc]) (Xj ?_); simp (maxSteps:=999999) only [AS.start,↓X1,wA,seval,zA,qA,qC,wN]
  simp only [y1,y2,f1,↓X1,wA,seval,zA,qA,qC,wN]
  refine X0 cd rfl ?_
  simp only [f1,decide_true,hsT,↓X1,wA,seval,zA,qA,qC,wN]
  refine X0 c1 rfl ?_
  simp only [f1,f2,f3,decide_true,↓X1,wA,seval,zA,qA,qC,wN]
  refine X0 c2 rfl ?_
  simp only [f1,f2,f3,hsT,decide_true,↓X1,wA,seval,zA,qA,qC,wN]
  refine Qm c3 ⟨Weak.rfl' _,Zk rfl rfl,trivial⟩ ?_
  simp only [↓X1,wA,seval,zA,qA,qC,wN]
  refine X0 c4 rfl ?_
  simp only [↓X1,wA,seval,zA,qA,qC,wN]
  refine X0 cm rfl ?_
  simp only [↓X1,wA,seval,zA,qA,qC,wN]
  refine X0 c5 rfl ?_
  simp only [↓X1,wA,seval,zA,qA,qC,wN]
  exact fin (Xn XO rfl rfl rfl) (Xn XO rfl rfl rfl)
 rw [if_neg hc] at h1
 obtain ⟨rfl,rfl⟩:=h1
 have zr:x<0→(0<(X8 r1).length)=False:=fun h=>eq_false (by rw [g1]; exact fun h2=>hc ⟨h,h2⟩)
 by_cases hx0:x<0
 ·have f1:(x<0)=True:=eq_true hx0
  have f2:=zr hx0
  have f3:(0<((X8 r1).length:Int))=False:=eq_false (by have:=of_eq_false f2; omega)
  have hsT:(!(true == decide (y<0)))=s:=by rw [← hsg',decide_eq_true hx0]
  refine Fq Tryz.call165 Tryz.func165 10 [] [9,10000,100000009] [] (by simp [JY,Xa,Xc]) (Xj ?_); simp (maxSteps:=999999) only [AS.start,↓X1,wA,seval,zA,qA,qC,wN]
  simp only [y1,y2,f1,↓X1,wA,seval,zA,qA,qC,wN]
  refine X0 cd rfl ?_
  simp only [f1,f2,f3,decide_true,hsT,↓X1,wA,seval,zA,qA,qC,wN]
  refine X0 c1 rfl ?_
  simp only [f1,f2,f3,decide_true,↓X1,wA,seval,zA,qA,qC,wN]
  refine X0 c2 rfl ?_
  simp only [f1,f2,f3,decide_true,↓X1,wA,seval,zA,qA,qC,wN]
  exact fin (Xn XO rfl rfl rfl) (Xn XO rfl rfl rfl)
 ·have f1:(x<0)=False:=eq_false hx0
  have hsT:(!(false == decide (y<0)))=s:=by rw [← hsg',decide_eq_false hx0]
  refine Fq Tryz.call165 Tryz.func165 10 [] [9,10000,100000009] [] (by simp [JY,Xa,Xc]) (Xj ?_); simp (maxSteps:=999999) only [AS.start,↓X1,wA,seval,zA,qA,qC,wN]
  simp only [y1,y2,f1,↓X1,wA,seval,zA,qA,qC,wN]
  refine X0 cd rfl ?_
  simp only [f1,decide_false,hsT,↓X1,wA,seval,zA,qA,qC,wN]
  refine X0 c1 rfl ?_
  simp only [f1,decide_false,↓X1,wA,seval,zA,qA,qC,wN]
  refine X0 c2 rfl ?_
  simp only [f1,decide_false,↓X1,wA,seval,zA,qA,qC,wN]
  exact fin (Xn XO rfl rfl rfl) (Xn XO rfl rfl rfl)
def Kj (x y:Int) (p:Nat×Nat):AS :=
  ⟨12,[],[.any,.any,.ref 0 0 0,.ref 1 0 0,.ref 2 0 0,.ref 3 0 0,.ref 4 0 0,.any,.any,.any,.any,.any],[],
    [.row 0 2 (Xk [.bool (decide (x<0)),X4 (X8 x.natAbs)]),.row 0 2 (Xk [.bool (decide (y<0)),X4 (X8 y.natAbs)]),.row 0 2 (Xk [.bool false,.sl 0 0 (fun _=>.any) true]),
     .row 0 2 (Xk [.bool false,X4 (X8 p.1)]),.row 0 2 (Xk [.bool false,X4 (X8 p.2)])]⟩
def Cs (x y:Int) (A B:Nat) (p:Nat×Nat):AS :=
  ⟨12,[],[.any,.any,.ref 0 0 0,.ref 1 0 0,.ref 2 0 0,.ref 3 0 0,.ref 4 0 0,I p.1,I p.2,.any,.any,.any],[],
    [.row 0 2 (Xk [.bool (decide (x<0)),X4 (X8 x.natAbs)]),.row 0 2 (Xk [.bool (decide (y<0)),X4 (X8 y.natAbs)]),.row 0 2 (Xk [.bool false,.sl 0 0 (fun _=>.any) true]),
     .row 0 2 (Xk [.bool false,X4 (X8 A)]),.row 0 2 (Xk [.bool false,X4 (X8 B)])]⟩
theorem Sl (x y:Int) (hx:bl x<1000000000) (hy:bl y<1000000000):Fn Tryz.prog 164 [zA x,zA y] (zA (Int.gcd x y)):=by
 have ofC:∀ n:Nat,(X8 n).length<1000000002→Fn Tryz.prog 168 [.bool false,X4 (X8 n)] (.agg [.bool false,X4 (X8 n)]):=fun n h=>by
  have:=JM false (X8 n) (XF n) (by omega)
  rw [Xw] at this
  rw [← QT]; exact this
 unfold bl at hx hy
 have cx:=ofC x.natAbs (by omega)
 have cy:=ofC y.natAbs (by omega)
 obtain ⟨R,hR⟩:∃ R,R=zA (Int.gcd x y):=⟨_,rfl⟩
 have sR:Settled R:=hR▸XC _
 rw [← hR]
 rw [QT] at hR
 refine Fq Tryz.call164 Tryz.func164 12 [] [] [] (by simp [JY,Xa,Xc]) (Xj ?_); simp (maxSteps:=999999) only [AS.start,↓X1,wA,seval,zA,qA,qC,wN]
 refine X0 cx rfl ?_
 simp only [↓X1,wA,seval,zA,qA,qC,wN]
 refine X0 cy rfl ?_
 simp only [↓X1,wA,seval,zA,qA,qC,wN]
 refine Xd (Kj x y) (nD x y) (fun p=>p.2) (x.natAbs,y.natAbs) ⟨rfl,hx,hy⟩ ?_ ?_
 ·exact Xg rfl (by simp [Kj,Xf]) (by simp [Kj,Xm]) rfl
 rintro ⟨A,B⟩ ⟨g1,g2,g3⟩ next
 simp only at g1 g2 g3
 by_cases hB:B=0
 ·have f1:(0<(X8 B).length)=False:=eq_false (by have:=@digs_len_zero B; omega)
  have f2:(0<((X8 B).length:Int))=False:=eq_false (by have:=@digs_len_zero B; omega)
  refine Xj ?_
  simp only [Kj,f1,f2,↓X1,wA,seval,zA,qA,qC,wN]
  refine Q9 rfl XO rfl rfl rfl hR sR ?_
  rw [hB,Nat.gcd_zero_right] at g1
  rw [← g1]
  exact ⟨Weak.rfl' _,Weak.rfl' _,trivial⟩
 have f1:(0<(X8 B).length)=True:=eq_true (by have:=@digs_len_zero B; omega)
 have f2:(0<((X8 B).length:Int))=True:=eq_true (by have:=@digs_len_zero B; omega)
 by_cases hAB:(X8 A).length≤2∧(X8 B).length≤2
 ·have c1:=Ia _ (XF A) hAB.1
  have c2:=Ia _ (XF B) hAB.2
  rw [Xw] at c1 c2
  have k1:(((X8 A).length:Int)≤2)=True:=eq_true (by omega)
  have k2:(((X8 B).length:Int)≤2)=True:=eq_true (by omega)
  have l1:=Zc hAB.1
  have l2:=Zc hAB.2
  refine Xj ?_
  simp only [Kj,f1,f2,k1,k2,↓X1,wA,seval,zA,qA,qC,wN]
  refine X0 c1 rfl ?_
  simp only [↓X1,wA,seval,zA,qA,qC,wN]
  refine X0 c2 rfl ?_
  simp only [↓X1,wA,seval,zA,qA,qC,wN]
  refine Xd (Cs x y A B) (fun p=>Nat.gcd p.1 p.2=Int.gcd x y∧(p.1:Int)<1000000000000000000∧(p.2:Int)<1000000000000000000) (fun p=>p.2) (A,B) ⟨g1,l1,l2⟩ (Xg rfl (by simp [Cs,Xf,I]) (by simp [Cs,Xm]) rfl) ?_
  rintro ⟨m,n⟩ ⟨h1,h2,h3⟩ next2
  simp only at h1 h2 h3
  by_cases hn:n=0
  ·have j1:(0<(n:Int))=False:=eq_false (by omega)
   have j1':(0<n)=False:=eq_false (by omega)
   have hm:m=Int.gcd x y:=by rw [hn,Nat.gcd_zero_right] at h1; exact h1
   have cu:=Cv (m:Int) ⟨by omega,by omega⟩
   rw [QT] at cu
   refine Xj ?_
   simp only [Cs,j1,j1',↓X1,wA,seval,zA,qA,qC,wN]
   refine X0 cu rfl ?_
   simp only [↓X1,wA,seval,zA,qA,qC,wN]
   refine Q9 rfl XO rfl rfl rfl hR sR ?_
   rw [← hm]
   exact ⟨Weak.rfl' _,Weak.rfl' _,trivial⟩
  ·have j1:(0<(n:Int))=True:=eq_true (by omega)
   have j1':(0<n)=True:=eq_true (by omega)
   have j2:((n:Int)=0)=False:=eq_false (by omega)
   have e2:(m:Int).tmod n=((m % n:Nat):Int):=rfl
   have hlt:m % n<n:=Nat.mod_lt _ (by omega)
   refine Xj ?_
   simp only [Cs,j1,j1',j2,e2,↓X1,wA,seval,zA,qA,qC,wN]
   refine next2 (n,m % n) _ ⟨?_,h3,by simp only; omega⟩ hlt (Xg rfl (by simp [Cs,Xf,I]) (by simp [Cs,Xm]) rfl)
   simp only
   rw [← h1,Nat.gcd_comm m n,Nat.gcd_rec n m,Nat.gcd_comm]
 ·have cd:=Lg (A:Int) (B:Int) (by rw [JU]; exact g2) (by rw [JU]; exact g3) (by omega)
  rw [show (A:Int) / B=((A / B:Nat):Int) from rfl,show (A:Int) % B=((A % B:Nat):Int) from rfl,QT,QT,QT,QT] at cd
  have hlt:A % B<B:=Nat.mod_lt _ (by omega)
  have gnew:nD x y (B,A % B):=by
   refine ⟨?_,g3,?_⟩
   ·simp only
    rw [← g1,Nat.gcd_comm A B,Nat.gcd_rec B A,Nat.gcd_comm]
   ·have:=J5 (y:=((A % B:Nat):Int)) (z:=(B:Int)) (by omega)
    rw [JU,JU] at this
    simp only; omega
  by_cases hA2:(X8 A).length≤2
  ·have k1:(((X8 A).length:Int)≤2)=True:=eq_true (by omega)
   have k2:(((X8 B).length:Int)≤2)=False:=eq_false fun h=>hAB ⟨hA2,by omega⟩
   refine Xj ?_
   simp only [Kj,f1,f2,k1,k2,↓X1,wA,seval,zA,qA,qC,wN]
   refine X0 cd rfl ?_
   simp only [↓X1,wA,seval,zA,qA,qC,wN]
   exact next (B,A % B) _ gnew hlt (XD (m:=5) (Nat.zero_le _) rfl (by simp [zA,qA,qC,wN,Kj,Xf,X4,Qn,I]) (by simp [zA,qA,qC,wN,Kj,Xm]) (by simp [zA,qA,qC,wN,Kj,X4,Qn,I]) (by simp [zA,qA,qC,wN,Kj,XA]) (by simp [zA,qA,qC,wN,Kj,XA]) (by simp [zA,qA,qC,wN,Kj,XA]))
  ·have k1:(((X8 A).length:Int)≤2)=False:=eq_false (by omega)
   refine Xj ?_
   simp only [Kj,f1,f2,k1,↓X1,wA,seval,zA,qA,qC,wN]
   refine X0 cd rfl ?_
   simp only [↓X1,wA,seval,zA,qA,qC,wN]
   exact next (B,A % B) _ gnew hlt (XD (m:=5) (Nat.zero_le _) rfl (by simp [zA,qA,qC,wN,Kj,Xf,X4,Qn,I]) (by simp [zA,qA,qC,wN,Kj,Xm]) (by simp [zA,qA,qC,wN,Kj,X4,Qn,I]) (by simp [zA,qA,qC,wN,Kj,XA]) (by simp [zA,qA,qC,wN,Kj,XA]) (by simp [zA,qA,qC,wN,Kj,XA]))
theorem Sq (n1 n2:Bool) (a b:List Int) (la:a.length<4611686018427387904) (lb:b.length<4611686018427387904):Fn Tryz.prog 174 [zR n1 a,zR n2 b] (.bool (decide (n1=n2) && decide (a=b))):=by
 obtain ⟨V,hV⟩:∃ V,V=(decide (n1=n2) && decide (a=b)):=⟨_,rfl⟩
 rw [← hV]
 have fin:∀ {s:AS} {v:Bool},s.get 4=.bool v→v=V→RetOk (QS Tryz.prog Tryz.f174 [] [] (.bool V)) s:=fun h e=>Xv rfl h (X2 _) (by rw [e])
 refine Fq Tryz.call174 Tryz.func174 6 [] [] [] (by simp [Xc]) (Xj ?_)
 by_cases hn:n1=n2
 rotate_left
 ·have hb:(!(n1 == n2))=true:=by simp [hn]
  simp only [AS.start,zR,hb,↓X1,wA,seval,zA,qA,qC,wN]
  exact fin rfl (by rw [hV,decide_eq_false hn]; rfl)
 subst hn
 have hb:(!(n1 == n1))=false:=by simp
 by_cases hl:a.length=b.length
 rotate_left
 ·have f1:((a.length:Int)=b.length)=False:=eq_false (by omega)
  have f1':(a.length=b.length)=False:=eq_false hl
  simp only [AS.start,zR,hb,f1,f1',↓X1,wA,seval,zA,qA,qC,wN]
  exact fin rfl (by rw [hV,decide_eq_false (show ¬ a=b from fun e=>hl (by rw [e])),Bool.and_false])
 have f1:((a.length:Int)=b.length)=True:=eq_true (by omega)
 have f1':(a.length=b.length)=True:=eq_true hl
 simp only [AS.start,zR,hb,f1,f1',↓X1,wA,seval,zA,qA,qC,wN]
 refine Xd (fun j:Nat=>⟨6,[],[.any,.any,.ref 0 0 0,.ref 1 0 0,.any,I j],[],[.row 0 2 (Xk [.bool n1,X4 a]),.row 0 2 (Xk [.bool n1,X4 b])]⟩) (fun j=>j≤a.length∧∀ i,i<j→a.getD i 0=b.getD i 0) (fun j=>a.length - j) 0 ⟨by omega,by omega⟩
  (Kq (by simp [Xf,X4,Qn,I]) rfl) ?_
 rintro j ⟨hj,hno⟩ next
 have w1:=wj j (by omega)
 by_cases hj2:j<a.length
 ·have f2:((j:Int)<a.length)=True:=eq_true (by omega)
  have f3:(j<a.length)=True:=eq_true hj2
  have f4:(j<b.length)=True:=eq_true (by omega)
  refine Xj ?_
  simp only [w1,f2,f3,f4,↓X1,wA,seval,zA,qA,qC,wN]
  refine ⟨fun h=>fin rfl ?_,fun h=>next (j+1) _ ⟨by omega,fun i hi=>?_⟩ (by omega) (Kq (by simp [Xf,X4,Qn,I]) rfl)⟩
  ·rw [hV,decide_eq_false (show ¬ a=b from fun e=>h (by rw [e])),Bool.and_false]
  ·by_cases e:i=j
   ·rw [e]; exact h
   ·exact hno i (by omega)
 ·have f2:((j:Int)<a.length)=False:=eq_false (by omega)
  have f3:(j<a.length)=False:=eq_false hj2
  refine Xj ?_
  simp only [w1,f2,f3,↓X1,wA,seval,zA,qA,qC,wN]
  refine fin rfl ?_
  have:a=b:=List.ext_getElem hl fun i h1 h2=>by
   have:=hno i (by omega)
   rw [List.getD_eq_getElem?_getD,List.getElem?_eq_getElem h1,List.getD_eq_getElem?_getD,List.getElem?_eq_getElem h2] at this
   exact this
  rw [hV,decide_eq_true this]; simp
theorem cG (x y:RQ) (hx:x.sz<4611686018427387904) (hy:y.sz<4611686018427387904):Fn Tryz.prog 86 [x.A,y.A] (.bool (decide (x=y))):=by
 have c1:=Sq x.pn y.pn x.pd y.pd (by unfold RQ.sz at hx; omega) (by unfold RQ.sz at hy; omega)
 have c2:=Sq x.qn y.qn x.qd y.qd (by unfold RQ.sz at hx; omega) (by unfold RQ.sz at hy; omega)
 obtain ⟨V,hV⟩:∃ V,V=decide (x=y):=⟨_,rfl⟩
 rw [← hV]
 have e:=RQ.eq_iff x y
 obtain ⟨B1,hB1⟩:∃ B,B=(decide (x.pn=y.pn) && decide (x.pd=y.pd)):=⟨_,rfl⟩
 obtain ⟨B2,hB2⟩:∃ B,B=(decide (x.qn=y.qn) && decide (x.qd=y.qd)):=⟨_,rfl⟩
 rw [← hB1] at c1
 rw [← hB2] at c2
 have hVB:V=(B1 && B2):=by
  rw [hV,hB1,hB2]
  simp only [e,Bool.decide_and]
 refine Fq Tryz.call86 Tryz.func86 5 [] [] [] (by simp [Cy]) (Xj ?_)
 simp only [AS.start,RQ.A,RQ.L,↓X1,wA,seval,zA,qA,qC,wN]
 refine X0 c1 rfl ?_
 cases B1
 ·simp only [↓X1,wA,seval,zA,qA,qC,wN]
  exact Xv (v:=.bool false) rfl rfl (X2 _) (by rw [hVB]; rfl)
 ·simp only [↓X1,wA,seval,zA,qA,qC,wN]
  refine X0 c2 rfl ?_
  simp only [↓X1,wA,seval,zA,qA,qC,wN]
  exact Xv (v:=.bool B2) rfl rfl (X2 _) (by rw [hVB]; rfl)
theorem RP (neg:Bool) (d:List Int):Fn Tryz.prog 167 [zR neg d] (.bool (!neg && decide (d=[1]))):=by
 have hone:(d=[1])↔d.length=1∧d.getD 0 0=1:=by
  constructor
  ·rintro rfl; exact ⟨rfl,rfl⟩
  ·rintro ⟨h1,h2⟩
   obtain ⟨x,rfl⟩:=List.length_eq_one_iff.1 h1
   rw [show x=1 from h2]
 obtain ⟨V,hV⟩:∃ V,V=(!neg && decide (d=[1])):=⟨_,rfl⟩
 rw [← hV]
 have fin:∀ {s:AS} {v:Bool},s.get 2=.bool v→v=V→RetOk (QS Tryz.prog Tryz.f167 [] [] (.bool V)) s:=fun h e=>Xv rfl h (X2 _) (by rw [e])
 by_cases h0:d.length=1
 ·have f1:(d.length=1)=True:=eq_true h0
  have f2:((d.length:Int)=1)=True:=eq_true (by omega)
  have f3:(0<d.length)=True:=eq_true (by omega)
  have f4:(0<(d.length:Int))=True:=eq_true (by omega)
  refine Fq Tryz.call167 Tryz.func167 3 [] [] [] (by simp [Xc]) (Xj ?_)
  cases neg
  all_goals
   simp only [AS.start,zR,f1,f2,f3,f4,↓X1,wA,seval,zA,qA,qC,wN]
   exact fin rfl (by rw [hV]; simp [hone,h0])
 ·have f1:(d.length=1)=False:=eq_false h0
  have f2:((d.length:Int)=1)=False:=eq_false (by omega)
  have hne:¬ d=[1]:=fun h=>h0 (hone.1 h).1
  refine Fq Tryz.call167 Tryz.func167 3 [] [] [] (by simp [Xc]) (Xj ?_)
  cases neg
  all_goals
   simp only [AS.start,zR,f1,f2,↓X1,wA,seval,zA,qA,qC,wN]
   exact fin rfl (by rw [hV]; simp [hne])
theorem Oy (z:Int):Fn Tryz.prog 167 [zA z] (.bool (decide (z=1))):=by
 have:=RP (decide (z<0)) (X8 z.natAbs)
 rw [OX] at this; exact this
theorem Gw (p q:Int) (hp:bl p<1000000000) (hq:bl q<1000000000):Fn Tryz.prog 77 [zA p,zA q] (qA (Rat.divInt p q)):=by
 obtain ⟨R,hR⟩:∃ R,R=qA (Rat.divInt p q):=⟨_,rfl⟩
 have sR:Settled R:=hR▸Xa _
 have zp:(((X8 p.natAbs).length:Int)=0)=(p=0):=propext (by have:=@digs_len_zero p.natAbs; omega)
 have zq:(((X8 q.natAbs).length:Int)=0)=(q=0):=propext (by have:=@digs_len_zero q.natAbs; omega)
 have z0:p=0∨q=0→R=.agg [.bool false,X4 [],.bool false,X4 []]:=by
  intro h
  rw [hR,← OC]
  rcases h with rfl | rfl
  ·rw [Rat.zero_divInt]
  ·rw [Rat.divInt_zero]
 rw [← hR]
 by_cases hq0:q=0
 ·have f1:(q=0)=True:=eq_true hq0
  refine Fq Tryz.call77 Tryz.func77 10 [] [] [] (by simp [JY,Xa,Xc]) (Xj ?_); simp (maxSteps:=999999) only [AS.start,↓X1,wA,seval,zA,qA,qC,wN]
  simp only [zq,f1,↓X1,wA,seval,zA,qA,qC,wN]
  exact Q9 rfl Qh rfl rfl rfl (z0 (.inr hq0)) sR ⟨Weak.rfl' _,Qi _ _,Weak.rfl' _,Qi _ _,trivial⟩
 have f1:(q=0)=False:=eq_false hq0
 by_cases hp0:p=0
 ·have f3:(p=0)=True:=eq_true hp0
  refine Fq Tryz.call77 Tryz.func77 10 [] [] [] (by simp [JY,Xa,Xc]) (Xj ?_); simp (maxSteps:=999999) only [AS.start,↓X1,wA,seval,zA,qA,qC,wN]
  simp only [zp,zq,f1,f3,↓X1,wA,seval,zA,qA,qC,wN]
  exact Q9 rfl Qh rfl rfl rfl (z0 (.inl hp0)) sR ⟨Weak.rfl' _,Qi _ _,Weak.rfl' _,Qi _ _,trivial⟩
 have f3:(p=0)=False:=eq_false hp0
 have cg:=Sl p q hp hq
 obtain ⟨g,hg⟩:∃ g:Int,g=Int.gcd p q:=⟨_,rfl⟩
 have hg0:0<Int.gcd p q:=Int.gcd_pos_of_ne_zero_right _ hq0
 have hgq:bl g≤bl q:=J5 (by
  have:=Nat.le_of_dvd (by omega) (Int.gcd_dvd_natAbs_right p q)
  omega)
 rw [← hg] at cg
 obtain ⟨d1,d2,d3⟩:=CE p q hq0 g hg
 have c1:=Lg p g hp (by omega) (by omega)
 have c2:=Lg q g hq (by omega) (by omega)
 obtain ⟨u,hu⟩:∃ u,u=p / g:=⟨_,rfl⟩
 obtain ⟨v,hv⟩:∃ v,v=q / g:=⟨_,rfl⟩
 have hub:bl u≤bl p:=J5 (by rw [hu]; exact Int.natAbs_ediv_le_natAbs p g)
 have hvb:bl v≤bl q:=J5 (by rw [hv]; exact Int.natAbs_ediv_le_natAbs q g)
 rw [← hu] at c1 d1 d2
 rw [← hv] at c2 d1 d2 d3
 obtain ⟨e1,e2⟩:=IG u v d3 d2
 have key:∀ p' q':Int,p'=v.sign*u→q'=v.natAbs→(q'=1→R=.agg [.bool (decide (p'<0)),X4 (X8 p'.natAbs),.bool false,X4 []])∧(¬ q'=1→R=.agg [.bool (decide (p'<0)),X4 (X8 p'.natAbs),.bool false,X4 (X8 q'.natAbs)]):=by
  intro p' q' hp' hq'
  constructor
  ·intro h
   rw [hR,← d1,Lc (by omega),e1,hp']
  ·intro h
   rw [hR,← d1,Wj (by omega),e1,hp',e2,hq',Int.natAbs_natCast]
 by_cases hneg:v<0
 ·have g1:(v<0)=True:=eq_true hneg
  obtain ⟨k1,k2⟩:=key (-u) (-v) (by rw [Int.sign_eq_neg_one_of_neg hneg]; omega) (by omega)
  have co:=Oy (-v)
  have cn1:=Lo u (by unfold room; omega)
  have cn2:=Lo v (by unfold room; omega)
  rw [qk hneg] at cn2 c2
  have f5:decide (-v<0)=false:=decide_eq_false (by omega)
  by_cases h1:-v=1
  ·simp only [h1,decide_true] at co
   have hk:=k1 h1
   rw [h1] at cn2
   refine Fq Tryz.call77 Tryz.func77 10 [] [] [] (by simp [JY,Xa,Xc]) (Xj ?_); simp (maxSteps:=999999) only [AS.start,↓X1,wA,seval,zA,qA,qC,wN]
   simp only [zp,zq,f1,f3,↓X1,wA,seval,zA,qA,qC,wN]
   refine X0 cg rfl ?_
   simp only [↓X1,wA,seval,zA,qA,qC,wN]
   refine X0 c1 rfl ?_
   simp only [↓X1,wA,seval,zA,qA,qC,wN]
   refine X0 c2 rfl ?_
   simp only [↓X1,wA,seval,zA,qA,qC,wN]
   refine X0 cn1 rfl ?_
   simp only [↓X1,wA,seval,zA,qA,qC,wN]
   refine X0 cn2 rfl ?_
   simp only [↓X1,wA,seval,zA,qA,qC,wN]
   refine X0 co rfl ?_
   simp only [↓X1,wA,seval,zA,qA,qC,wN]
   exact Q9 rfl Qh rfl rfl rfl hk sR ⟨Weak.rfl' _,Weak.rfl' _,Weak.rfl' _,Qi _ _,trivial⟩
  ·simp only [h1,decide_false] at co
   have hk:=k2 h1
   refine Fq Tryz.call77 Tryz.func77 10 [] [] [] (by simp [JY,Xa,Xc]) (Xj ?_); simp (maxSteps:=999999) only [AS.start,↓X1,wA,seval,zA,qA,qC,wN]
   simp only [zp,zq,f1,f3,↓X1,wA,seval,zA,qA,qC,wN]
   refine X0 cg rfl ?_
   simp only [↓X1,wA,seval,zA,qA,qC,wN]
   refine X0 c1 rfl ?_
   simp only [↓X1,wA,seval,zA,qA,qC,wN]
   refine X0 c2 rfl ?_
   simp only [↓X1,wA,seval,zA,qA,qC,wN]
   refine X0 cn1 rfl ?_
   simp only [↓X1,wA,seval,zA,qA,qC,wN]
   refine X0 cn2 rfl ?_
   simp only [↓X1,wA,seval,zA,qA,qC,wN]
   refine X0 co rfl ?_
   simp only [↓X1,wA,seval,zA,qA,qC,wN]
   exact JO rfl Qh rfl rfl rfl sR (by rw [hk,f5]; rfl)
 ·have g1:(v<0)=False:=eq_false hneg
  obtain ⟨k1,k2⟩:=key u v (by rw [Int.sign_eq_one_of_pos (by omega)]; omega) (by omega)
  have co:=Oy v
  rw [WM hneg] at co c2
  by_cases h1:v=1
  ·simp only [h1,decide_true] at co
   have hk:=k1 h1
   rw [h1] at c2
   refine Fq Tryz.call77 Tryz.func77 10 [] [] [] (by simp [JY,Xa,Xc]) (Xj ?_); simp (maxSteps:=999999) only [AS.start,↓X1,wA,seval,zA,qA,qC,wN]
   simp only [zp,zq,f1,f3,↓X1,wA,seval,zA,qA,qC,wN]
   refine X0 cg rfl ?_
   simp only [↓X1,wA,seval,zA,qA,qC,wN]
   refine X0 c1 rfl ?_
   simp only [↓X1,wA,seval,zA,qA,qC,wN]
   refine X0 c2 rfl ?_
   simp only [↓X1,wA,seval,zA,qA,qC,wN]
   refine X0 co rfl ?_
   simp only [↓X1,wA,seval,zA,qA,qC,wN]
   exact Q9 rfl Qh rfl rfl rfl hk sR ⟨Weak.rfl' _,Weak.rfl' _,Weak.rfl' _,Qi _ _,trivial⟩
  ·simp only [h1,decide_false] at co
   have hk:=k2 h1
   refine Fq Tryz.call77 Tryz.func77 10 [] [] [] (by simp [JY,Xa,Xc]) (Xj ?_); simp (maxSteps:=999999) only [AS.start,↓X1,wA,seval,zA,qA,qC,wN]
   simp only [zp,zq,f1,f3,↓X1,wA,seval,zA,qA,qC,wN]
   refine X0 cg rfl ?_
   simp only [↓X1,wA,seval,zA,qA,qC,wN]
   refine X0 c1 rfl ?_
   simp only [↓X1,wA,seval,zA,qA,qC,wN]
   refine X0 c2 rfl ?_
   simp only [↓X1,wA,seval,zA,qA,qC,wN]
   refine X0 co rfl ?_
   simp only [↓X1,wA,seval,zA,qA,qC,wN]
   exact JO rfl Qh rfl rfl rfl sR (by rw [hk]; rfl)
theorem Zv (p q:Int) (hp:ZO p) (hq:ZO q):Fn Tryz.prog 16 [I p,I q] (qA (Rat.divInt p q)):=by
 obtain ⟨R,hR⟩:∃ R,R=qA (Rat.divInt p q):=⟨_,rfl⟩
 have sR:Settled R:=hR▸Xa _
 have cm:=Gw p q (by have:=QR hp; omega) (by have:=QR hq; omega)
 rw [← hR] at cm ⊢
 refine Fq Tryz.call16 Tryz.func16 5 [] [] [] (by simp [JY,Xa,Xc]) (Xj ?_); simp (maxSteps:=999999) only [AS.start,↓X1,wA,seval,zA,qA,qC,wN]
 refine X0 (Cv p hp) rfl ?_
 simp only [↓X1,wA,seval,zA,qA,qC,wN]
 refine X0 (Cv q hq) rfl ?_
 simp only [↓X1,wA,seval,zA,qA,qC,wN]
 refine X0 cm rfl ?_
 simp only [hR,↓X1,wA,seval,zA,qA,qC,wN]
 exact JO rfl Qh rfl rfl rfl sR (hR.trans rfl)
structure V2 where
 x:Rat
 y:Rat
def vC (v:V2):List AV:=[.bool (decide (v.x.num<0)),X4 (X8 v.x.num.natAbs),.bool false,X4 (X8 (qd v.x)),.bool (decide (v.y.num<0)),X4 (X8 v.y.num.natAbs),.bool false,X4 (X8 (qd v.y))]
def vA (v:V2):AV:=.agg (vC v)
theorem Xo (v:V2):Settled (vA v):=Qo (by simp [vC,X6,X2])
def vb (v:V2):Nat:=max (qb v.x) (qb v.y)
theorem QM (v:V2):qb v.x≤vb v:=Nat.le_max_left _ _
theorem QG (v:V2):qb v.y≤vb v:=Nat.le_max_right _ _
def V2.sub (a b:V2):V2:=⟨a.x - b.x,a.y - b.y⟩
def V2.add (a b:V2):V2:=⟨a.x+b.x,a.y+b.y⟩
def Q6 (a b:V2):Rat:=a.x*b.y - a.y*b.x
def Q1 (a b:V2):Rat:=a.x*b.x+a.y*b.y
def Jm (a b c:V2):Int:=(Q6 (b.sub a) (c.sub a)).num.sign
theorem KZ (a b:V2):vb (a.sub b)≤vb a+vb b+1:=by
 have:=EU a.x b.x; have:=EU a.y b.y
 have:=QM a; have:=QM b; have:=QG a; have:=QG b
 unfold V2.sub
 show max (qb (a.x - b.x)) (qb (a.y - b.y))≤_
 omega
theorem GN (a b:V2):vb (a.add b)≤vb a+vb b+1:=by
 have:=KW a.x b.x; have:=KW a.y b.y
 have:=QM a; have:=QM b; have:=QG a; have:=QG b
 unfold V2.add
 show max (qb (a.x+b.x)) (qb (a.y+b.y))≤_
 omega
theorem Dm (a b:V2):qb (Q6 a b)≤2*(vb a+vb b)+1:=by
 have:=QA a.x b.y; have:=QA a.y b.x
 have:=QM a; have:=QM b; have:=QG a; have:=QG b
 have:=EU (a.x*b.y) (a.y*b.x)
 unfold Q6; omega
theorem Bx (a b:V2):qb (Q1 a b)≤2*(vb a+vb b)+1:=by
 have:=QA a.x b.x; have:=QA a.y b.y
 have:=QM a; have:=QM b; have:=QG a; have:=QG b
 have:=KW (a.x*b.x) (a.y*b.y)
 unfold Q1; omega
theorem Zx:qb 0≤1:=Za 0 1 (Nat.le_refl _) (by unfold bl; simp [XV])
theorem AD {H:List AO} {a b:AV} (h:Weak a b):Kt H a b:=fun c v _ _ hv=>h c v hv
theorem QB {l:List Int} {f:Nat→AV} {t:Bool} (h:l=[]):Weak (.sl 0 0 f t) (X4 l):=by rw [h]; exact Qi _ _
theorem FK (a b:Rat) (ha:qb a≤10000000) (hb:qb b≤10000000):Fn Tryz.prog 117 [.sl 2 8 (Xk (qC a ++ qC b)) false] (qA (a+b)):=by
 obtain ⟨R,hR⟩:∃ R,R=qA (a+b):=⟨_,rfl⟩
 have sR:Settled R:=hR▸Xa _
 have q0:=Zx
 have c1:=A2 0 a (by unfold rm; omega) (by unfold rm; omega)
 have c2:=A2 a b (by unfold rm; omega) (by unfold rm; omega)
 rw [Rat.zero_add] at c1
 rw [← hR] at c2 ⊢
 have hset:Settled (.sl 2 8 (Xk (qC a ++ qC b)) false):=QX fun j hj=>by
  unfold Xk qC
  match j,hj with
  | 0,_=>exact X2 _
  | 1,_=>exact X6 _
  | 2,_=>exact X2 _
  | 3,_=>exact X6 _
  | 4,_=>exact X2 _
  | 5,_=>exact X6 _
  | 6,_=>exact X2 _
  | 7,_=>exact X6 _
  | j+8,h=>omega
 have bel2:Ko 2 (.sl 2 8 (Xk (qC a ++ qC b)) false):=X7 hset
 simp only [qC,List.cons_append,List.nil_append] at bel2
 have z1:((1:Nat):Int)=1:=rfl
 have z2:((2:Nat):Int)=2:=rfl
 have wr1:IntKind.i64.wrap 1=1:=by rw [IntKind.wrap_i64]; omega
 have wr2:IntKind.i64.wrap 2=2:=by rw [IntKind.wrap_i64]; omega
 refine Fn.intro (fn:=Tryz.f117) Tryz.call117 Tryz.func117 rfl mixed 6 [6,7,8] [] [] (by kernel_rfl) (Nat.le_of_ble_eq_true rfl) (by simpa using hset) (Xj ?_)
 simp only [AS.start,↓X1,wA,↓reduceIte,reduceIte,reduceCtorEq,Y1,Y2,Y3,Y4,Y5,Y6,Y7,Y8,Y9,YA,zA,qA,qC,vA,vC,wN]
 refine Xd (fun i:Nat=>⟨6,[6,7,8],[.any,.any,.ref 0 0 0,.ref 1 0 0,.any,.any],[(6,.sl 2 8 (Xk (qC a ++ qC b)) false),(7,I 2),(8,I i)],
  [.row 0 4 (Xk [.bool false,.sl 0 0 (fun _=>.any) true,.bool false,.sl 0 0 (fun _=>.any) true]),.row 0 4 (Xk (qC (if i=0 then 0 else if i=1 then a else a+b)))]⟩) (fun i=>i≤2) (fun i=>2 - i) 0 (by omega) ?_ ?_
 ·refine (Z4 1 (Xk (qC 0)) rfl fun j hj=>?_).trans (Xg rfl (by simp [Xf,qC,X4,Qn]) (by simp [Xm,Xq,qC,X4,Qn,I]) (by simp))
  match j,hj with
  | 0,_=>exact Qc _ _
  | 1,_=>exact AD (QB (by rw [Rat.zero_num]; simp [XV]))
  | 2,_=>exact Qc _ _
  | 3,_=>exact AD (QB (Dn rfl))
  | j+4,h=>omega
 intro i hi next
 rcases (show i=0∨i=1∨i=2 by omega) with rfl | rfl | rfl
 ·refine Xj ?_
  simp only [ite_true,z1,z2,wr1,wr2,Int.reduceLT,Int.reduceAdd,↓X1,wA,↓reduceIte,reduceIte,reduceCtorEq,Y1,Y2,Y3,Y4,Y5,Y6,Y7,Y8,Y9,YA,zA,qA,qC,vA,vC,wN]
  refine X0 c1 rfl ?_
  simp only [z1,z2,wr1,wr2,Int.reduceAdd,↓X1,wA,↓reduceIte,reduceIte,reduceCtorEq,Y1,Y2,Y3,Y4,Y5,Y6,Y7,Y8,Y9,YA,zA,qA,qC,vA,vC,wN]
  exact next 1 _ (by omega) (by omega) (XD (m:=2) (Nat.zero_le _) rfl (by simp [qC,Xf,X4,Qn,I]) (by simp [qC,Xm,Xq,X4,Qn,I]) (by simp [qC,X4,Qn,I]) (by simp [XA]) (by simp [qC,XA,bel2]) (by simp [qC,XA]))
 ·have e1:((1:Nat)=0)=False:=eq_false (by omega)
  refine Xj ?_
  simp only [e1,ite_true,ite_false,z1,z2,wr1,wr2,Int.reduceLT,Int.reduceAdd,↓X1,wA,↓reduceIte,reduceIte,reduceCtorEq,Y1,Y2,Y3,Y4,Y5,Y6,Y7,Y8,Y9,YA,zA,qA,qC,vA,vC,wN]
  refine ⟨by omega,X0 c2 rfl ?_⟩
  simp only [hR,z1,z2,wr1,wr2,Int.reduceAdd,↓X1,wA,↓reduceIte,reduceIte,reduceCtorEq,Y1,Y2,Y3,Y4,Y5,Y6,Y7,Y8,Y9,YA,zA,qA,qC,vA,vC,wN]
  exact next 2 _ (by omega) (by omega) (XD (m:=2) (Nat.zero_le _) rfl (by simp [qC,Xf,X4,Qn,I]) (by simp [qC,Xm,Xq,X4,Qn,I]) (by simp [qC,X4,Qn,I]) (by simp [XA]) (by simp [qC,XA,bel2]) (by simp [qC,XA]))
 ·have e1:((2:Nat)=0)=False:=eq_false (by omega)
  have e2:((2:Nat)=1)=False:=eq_false (by omega)
  refine Xj ?_
  simp only [e1,e2,ite_false,z1,z2,wr1,wr2,Int.reduceLT,Int.reduceAdd,↓X1,wA,↓reduceIte,reduceIte,reduceCtorEq,Y1,Y2,Y3,Y4,Y5,Y6,Y7,Y8,Y9,YA,zA,qA,qC,vA,vC,wN]
  exact JO rfl Qh rfl rfl rfl sR (hR.trans rfl)
def vm:Nat:=1000000
theorem Ar {P:Program} {fn:Func} {str hcs:List Nat} {r:AV} {s:AS} {t u id ver n:Nat} {L:List AV} (hr:fn.results=#[.cell t u]) (hk:BD P u=some (some n)) (hs:s.get t=.ref id ver 0)
  (ho:s.h[id]?=some (.row ver n (Xk L))) (hn:L.length=n) (hset:Settled r) (e:r=.agg L):RetOk (QS P fn str hcs r) s:=Q9 hr hk hs ho hn e hset (Qj L)
theorem Bh (a b:V2) (ha:vb a≤rm) (hb:vb b≤rm):Fn Tryz.prog 44 [vA a,vA b] (vA (a.sub b)):=by
 obtain ⟨R,hR⟩:∃ R,R=vA (a.sub b):=⟨_,rfl⟩
 have sR:Settled R:=hR▸Xo _
 have:=QM a; have:=QM b; have:=QG a; have:=QG b
 have c1:=OM a.x b.x (by omega) (by omega)
 have c2:=OM a.y b.y (by omega) (by omega)
 rw [← hR]
 refine Fq Tryz.call44 Tryz.func44 5 [] [] [] (by simp [X6,X9,JP,Jf,X2,JQ,XC,Xa,Xo,Xc,JR,Jl]) (Xj ?_); simp (maxSteps:=999999) only [AS.start,↓X1,wA,↓reduceIte,reduceIte,reduceCtorEq,Y1,Y2,Y3,Y4,Y5,Y6,Y7,Y8,Y9,YA,zA,qA,qC,vA,vC,wN]
 refine X0 c1 rfl ?_
 simp only [↓X1,wA,↓reduceIte,reduceIte,reduceCtorEq,Y1,Y2,Y3,Y4,Y5,Y6,Y7,Y8,Y9,YA,zA,qA,qC,vA,vC,wN]
 refine X0 c2 rfl ?_
 simp only [↓X1,wA,↓reduceIte,reduceIte,reduceCtorEq,Y1,Y2,Y3,Y4,Y5,Y6,Y7,Y8,Y9,YA,zA,qA,qC,vA,vC,wN]
 exact Ar rfl Kc rfl rfl rfl sR (hR.trans rfl)
theorem GA (x y:Int) (hx:ZO x) (hy:ZO y):Fn Tryz.prog 120 [I x,I y] (vA ⟨x,y⟩):=by
 have e:∀ n:Int,Rat.divInt n 1=(n:Rat):=fun n=>by
  rw [show (1:Int)=((1:Nat):Int) from rfl,Rat.divInt_ofNat]
  have:=Rat.mkRat_self (n:Rat)
  rwa [Rat.num_intCast,Rat.den_intCast] at this
 obtain ⟨R,hR⟩:∃ R,R=vA ⟨x,y⟩:=⟨_,rfl⟩
 have sR:Settled R:=hR▸Xo _
 have c1:=EX x 1 hx ⟨by omega,by omega⟩
 have c2:=EX y 1 hy ⟨by omega,by omega⟩
 rw [e] at c1 c2
 rw [← hR]
 refine Fq Tryz.call120 Tryz.func120 5 [] [] [] (by simp [X6,X9,JP,Jf,X2,JQ,XC,Xa,Xo,Xc,JR,Jl]) (Xj ?_); simp (maxSteps:=999999) only [AS.start,↓X1,wA,↓reduceIte,reduceIte,reduceCtorEq,Y1,Y2,Y3,Y4,Y5,Y6,Y7,Y8,Y9,YA,zA,qA,qC,vA,vC,wN]
 refine X0 c1 rfl ?_
 simp only [↓X1,wA,↓reduceIte,reduceIte,reduceCtorEq,Y1,Y2,Y3,Y4,Y5,Y6,Y7,Y8,Y9,YA,zA,qA,qC,vA,vC,wN]
 refine X0 c2 rfl ?_
 simp only [↓X1,wA,↓reduceIte,reduceIte,reduceCtorEq,Y1,Y2,Y3,Y4,Y5,Y6,Y7,Y8,Y9,YA,zA,qA,qC,vA,vC,wN]
 exact Ar rfl Kc rfl rfl rfl sR (hR.trans rfl)
theorem Gz (a b:V2) (ha:vb a≤vm) (hb:vb b≤vm):Fn Tryz.prog 159 [vA a,vA b] (qA (Q6 a b)):=by
 unfold vm at ha hb
 obtain ⟨R,hR⟩:∃ R,R=qA (Q6 a b):=⟨_,rfl⟩
 have sR:Settled R:=hR▸Xa _
 have:=QM a; have:=QM b; have:=QG a; have:=QG b
 have m1:=QA a.x b.y; have m2:=QA a.y b.x
 have c1:=JZ a.x b.y (by unfold rm; omega) (by unfold rm; omega)
 have c2:=JZ a.y b.x (by unfold rm; omega) (by unfold rm; omega)
 have c3:=Cu (a.y*b.x)
 have c4:=FK (a.x*b.y) (-(a.y*b.x)) (by omega) (by rw [Bz]; omega)
 rw [← Rat.sub_eq_add_neg,show a.x*b.y - a.y*b.x=Q6 a b from rfl,← hR] at c4
 rw [← hR]
 refine Fq Tryz.call159 Tryz.func159 5 [] [] [] (by simp [X6,X9,JP,Jf,X2,JQ,XC,Xa,Xo,Xc,JR,Jl]) (Xj ?_); simp (maxSteps:=999999) only [AS.start,↓X1,wA,↓reduceIte,reduceIte,reduceCtorEq,Y1,Y2,Y3,Y4,Y5,Y6,Y7,Y8,Y9,YA,zA,qA,qC,vA,vC,wN]
 refine X0 c1 rfl ?_
 simp only [↓X1,wA,↓reduceIte,reduceIte,reduceCtorEq,Y1,Y2,Y3,Y4,Y5,Y6,Y7,Y8,Y9,YA,zA,qA,qC,vA,vC,wN]
 refine X0 c2 rfl ?_
 simp only [↓X1,wA,↓reduceIte,reduceIte,reduceCtorEq,Y1,Y2,Y3,Y4,Y5,Y6,Y7,Y8,Y9,YA,zA,qA,qC,vA,vC,wN]
 refine X0 c3 rfl ?_
 simp only [↓X1,wA,↓reduceIte,reduceIte,reduceCtorEq,Y1,Y2,Y3,Y4,Y5,Y6,Y7,Y8,Y9,YA,zA,qA,qC,vA,vC,wN]
 refine X0 c4 rfl ?_
 simp only [hR,↓X1,wA,↓reduceIte,reduceIte,reduceCtorEq,Y1,Y2,Y3,Y4,Y5,Y6,Y7,Y8,Y9,YA,zA,qA,qC,vA,vC,wN]
 exact Ar rfl Qh rfl rfl rfl sR (hR.trans rfl)
theorem FJ (a b:V2) (ha:vb a≤vm) (hb:vb b≤vm):Fn Tryz.prog 191 [vA a,vA b] (qA (Q1 a b)):=by
 unfold vm at ha hb
 obtain ⟨R,hR⟩:∃ R,R=qA (Q1 a b):=⟨_,rfl⟩
 have sR:Settled R:=hR▸Xa _
 have:=QM a; have:=QM b; have:=QG a; have:=QG b
 have m1:=QA a.x b.x; have m2:=QA a.y b.y
 have c1:=JZ a.x b.x (by unfold rm; omega) (by unfold rm; omega)
 have c2:=JZ a.y b.y (by unfold rm; omega) (by unfold rm; omega)
 have c4:=FK (a.x*b.x) (a.y*b.y) (by omega) (by omega)
 rw [show a.x*b.x+a.y*b.y=Q1 a b from rfl,← hR] at c4
 rw [← hR]
 refine Fq Tryz.call191 Tryz.func191 5 [] [] [] (by simp [X6,X9,JP,Jf,X2,JQ,XC,Xa,Xo,Xc,JR,Jl]) (Xj ?_); simp (maxSteps:=999999) only [AS.start,↓X1,wA,↓reduceIte,reduceIte,reduceCtorEq,Y1,Y2,Y3,Y4,Y5,Y6,Y7,Y8,Y9,YA,zA,qA,qC,vA,vC,wN]
 refine X0 c1 rfl ?_
 simp only [↓X1,wA,↓reduceIte,reduceIte,reduceCtorEq,Y1,Y2,Y3,Y4,Y5,Y6,Y7,Y8,Y9,YA,zA,qA,qC,vA,vC,wN]
 refine X0 c2 rfl ?_
 simp only [↓X1,wA,↓reduceIte,reduceIte,reduceCtorEq,Y1,Y2,Y3,Y4,Y5,Y6,Y7,Y8,Y9,YA,zA,qA,qC,vA,vC,wN]
 refine X0 c4 rfl ?_
 simp only [hR,↓X1,wA,↓reduceIte,reduceIte,reduceCtorEq,Y1,Y2,Y3,Y4,Y5,Y6,Y7,Y8,Y9,YA,zA,qA,qC,vA,vC,wN]
 exact Ar rfl Qh rfl rfl rfl sR (hR.trans rfl)
def vs:Nat:=100000
theorem Z3 (a b c:V2) (ha:vb a≤vs) (hb:vb b≤vs) (hc:vb c≤vs):Fn Tryz.prog 179 [vA a,vA b,vA c] (I (Jm a b c)):=by
 unfold vs at ha hb hc
 have m1:=KZ b a; have m2:=KZ c a
 have c1:=Bh b a (by unfold rm; omega) (by unfold rm; omega)
 have c2:=Bh c a (by unfold rm; omega) (by unfold rm; omega)
 have c3:=Gz (b.sub a) (c.sub a) (by unfold vm; omega) (by unfold vm; omega)
 have c4:=KD (Q6 (b.sub a) (c.sub a))
 refine Fq Tryz.call179 Tryz.func179 7 [] [] [] (by simp [X6,X9,JP,Jf,X2,JQ,XC,Xa,Xo,Xc,JR,Jl]) (Xj ?_); simp (maxSteps:=999999) only [AS.start,↓X1,wA,↓reduceIte,reduceIte,reduceCtorEq,Y1,Y2,Y3,Y4,Y5,Y6,Y7,Y8,Y9,YA,zA,qA,qC,vA,vC,wN]
 refine X0 c1 rfl ?_
 simp only [↓X1,wA,↓reduceIte,reduceIte,reduceCtorEq,Y1,Y2,Y3,Y4,Y5,Y6,Y7,Y8,Y9,YA,zA,qA,qC,vA,vC,wN]
 refine X0 c2 rfl ?_
 simp only [↓X1,wA,↓reduceIte,reduceIte,reduceCtorEq,Y1,Y2,Y3,Y4,Y5,Y6,Y7,Y8,Y9,YA,zA,qA,qC,vA,vC,wN]
 refine X0 c3 rfl ?_
 simp only [↓X1,wA,↓reduceIte,reduceIte,reduceCtorEq,Y1,Y2,Y3,Y4,Y5,Y6,Y7,Y8,Y9,YA,zA,qA,qC,vA,vC,wN]
 refine X0 c4 rfl ?_
 simp only [↓X1,wA,↓reduceIte,reduceIte,reduceCtorEq,Y1,Y2,Y3,Y4,Y5,Y6,Y7,Y8,Y9,YA,zA,qA,qC,vA,vC,wN]
 exact Xv rfl rfl (X9 _) rfl
def W6 (a b p:V2):Bool:=decide (Jm a b p=0) && decide ((Q1 (a.sub p) (b.sub p)).num.sign≤0)
theorem W7 (a b p:V2) (ha:vb a≤vs) (hb:vb b≤vs) (hp:vb p≤vs):Fn Tryz.prog 228 [vA a,vA b,vA p] (.bool (W6 a b p)):=by
 have c1:=Z3 a b p ha hb hp
 unfold vs at ha hb hp
 have m1:=KZ a p; have m2:=KZ b p
 have c2:=Bh a p (by unfold rm; omega) (by unfold rm; omega)
 have c3:=Bh b p (by unfold rm; omega) (by unfold rm; omega)
 have c4:=FJ (a.sub p) (b.sub p) (by unfold vm; omega) (by unfold vm; omega)
 have c5:=KD (Q1 (a.sub p) (b.sub p))
 obtain ⟨V,hV⟩:∃ V,V=W6 a b p:=⟨_,rfl⟩
 rw [← hV]
 unfold W6 at hV
 refine Fq Tryz.call228 Tryz.func228 7 [] [] [] (by simp [X6,X9,JP,Jf,X2,JQ,XC,Xa,Xo,Xc,JR,Jl]) (Xj ?_); simp (maxSteps:=999999) only [AS.start,↓X1,wA,↓reduceIte,reduceIte,reduceCtorEq,Y1,Y2,Y3,Y4,Y5,Y6,Y7,Y8,Y9,YA,zA,qA,qC,vA,vC,wN]
 refine X0 c1 rfl ?_
 by_cases h:Jm a b p=0
 ·have f1:(Jm a b p=0)=True:=eq_true h
  simp only [f1,↓X1,wA,↓reduceIte,reduceIte,reduceCtorEq,Y1,Y2,Y3,Y4,Y5,Y6,Y7,Y8,Y9,YA,zA,qA,qC,vA,vC,wN]
  refine X0 c2 rfl ?_
  simp only [↓X1,wA,↓reduceIte,reduceIte,reduceCtorEq,Y1,Y2,Y3,Y4,Y5,Y6,Y7,Y8,Y9,YA,zA,qA,qC,vA,vC,wN]
  refine X0 c3 rfl ?_
  simp only [↓X1,wA,↓reduceIte,reduceIte,reduceCtorEq,Y1,Y2,Y3,Y4,Y5,Y6,Y7,Y8,Y9,YA,zA,qA,qC,vA,vC,wN]
  refine X0 c4 rfl ?_
  simp only [↓X1,wA,↓reduceIte,reduceIte,reduceCtorEq,Y1,Y2,Y3,Y4,Y5,Y6,Y7,Y8,Y9,YA,zA,qA,qC,vA,vC,wN]
  refine X0 c5 rfl ?_
  simp only [↓X1,wA,↓reduceIte,reduceIte,reduceCtorEq,Y1,Y2,Y3,Y4,Y5,Y6,Y7,Y8,Y9,YA,zA,qA,qC,vA,vC,wN]
  exact Xv rfl rfl (X2 _) (by rw [hV,decide_eq_true h]; rfl)
 ·have f1:(Jm a b p=0)=False:=eq_false h
  simp only [f1,↓X1,wA,↓reduceIte,reduceIte,reduceCtorEq,Y1,Y2,Y3,Y4,Y5,Y6,Y7,Y8,Y9,YA,zA,qA,qC,vA,vC,wN]
  exact Xv rfl rfl (X2 _) (by rw [hV,decide_eq_false h]; rfl)
def I2 (a b c d:V2):Bool:=decide (Jm a b c*Jm a b d<0) && decide (Jm c d a*Jm c d b<0)
def Cj (a b c d:V2):Bool:=I2 a b c d || W6 a b c || W6 a b d || W6 c d a || W6 c d b
theorem FU (a b c:V2):-1≤Jm a b c∧Jm a b c≤1:=by
 unfold Jm
 generalize (Q6 (b.sub a) (c.sub a)).num=n
 rcases Int.lt_trichotomy n 0 with h | h | h
 ·rw [Int.sign_eq_neg_one_of_neg h]; omega
 ·rw [h]; simp
 ·rw [Int.sign_eq_one_of_pos h]; omega
theorem Vt {x y:Int} (hx:-1≤x∧x≤1) (hy:-1≤y∧y≤1):IntKind.i64.wrap (x*y)=x*y:=by
 rcases (show x = -1∨x=0∨x=1 by omega) with rfl | rfl | rfl <;> rw [IntKind.wrap_i64] <;> omega
theorem iw (a b c d:V2) (ha:vb a≤vs) (hb:vb b≤vs) (hc:vb c≤vs) (hd:vb d≤vs):Fn Tryz.prog 180 [vA a,vA b,vA c,vA d] (.bool (Cj a b c d)):=by
 have c1:=Z3 a b c ha hb hc
 have c2:=Z3 a b d ha hb hd
 have c3:=Z3 c d a hc hd ha
 have c4:=Z3 c d b hc hd hb
 have d1:=W7 a b c ha hb hc
 have d2:=W7 a b d ha hb hd
 have d3:=W7 c d a hc hd ha
 have d4:=W7 c d b hc hd hb
 have w1:=Vt (FU a b c) (FU a b d)
 have w2:=Vt (FU c d a) (FU c d b)
 obtain ⟨V,hV⟩:∃ V,V=Cj a b c d:=⟨_,rfl⟩
 rw [← hV]
 unfold Cj I2 at hV
 have fin:∀ {s:AS} {v:Bool},s.get 8=.bool v→v=V→RetOk (QS Tryz.prog Tryz.f180 [] [] (.bool V)) s:=fun h e=>Xv rfl h (X2 _) (by rw [e])
 obtain ⟨B1,hB1⟩:∃ B,B=W6 a b c:=⟨_,rfl⟩
 obtain ⟨B2,hB2⟩:∃ B,B=W6 a b d:=⟨_,rfl⟩
 obtain ⟨B3,hB3⟩:∃ B,B=W6 c d a:=⟨_,rfl⟩
 obtain ⟨B4,hB4⟩:∃ B,B=W6 c d b:=⟨_,rfl⟩
 rw [← hB1] at d1 hV
 rw [← hB2] at d2 hV
 rw [← hB3] at d3 hV
 rw [← hB4] at d4 hV
 refine Fq Tryz.call180 Tryz.func180 9 [] [] [] (by simp [X6,X9,JP,Jf,X2,JQ,XC,Xa,Xo,Xc,JR,Jl]) (Xj ?_); simp (maxSteps:=999999) only [AS.start,↓X1,wA,↓reduceIte,reduceIte,reduceCtorEq,Y1,Y2,Y3,Y4,Y5,Y6,Y7,Y8,Y9,YA,zA,qA,qC,vA,vC,wN]
 refine X0 c1 rfl ?_
 simp only [↓X1,wA,↓reduceIte,reduceIte,reduceCtorEq,Y1,Y2,Y3,Y4,Y5,Y6,Y7,Y8,Y9,YA,zA,qA,qC,vA,vC,wN]
 refine X0 c2 rfl ?_
 by_cases h1:Jm a b c*Jm a b d<0
 ·have f1:(Jm a b c*Jm a b d<0)=True:=eq_true h1
  simp only [w1,f1,↓X1,wA,↓reduceIte,reduceIte,reduceCtorEq,Y1,Y2,Y3,Y4,Y5,Y6,Y7,Y8,Y9,YA,zA,qA,qC,vA,vC,wN]
  refine X0 c3 rfl ?_
  simp only [↓X1,wA,↓reduceIte,reduceIte,reduceCtorEq,Y1,Y2,Y3,Y4,Y5,Y6,Y7,Y8,Y9,YA,zA,qA,qC,vA,vC,wN]
  refine X0 c4 rfl ?_
  by_cases h2:Jm c d a*Jm c d b<0
  ·have f2:(Jm c d a*Jm c d b<0)=True:=eq_true h2
   simp only [w2,f2,↓X1,wA,↓reduceIte,reduceIte,reduceCtorEq,Y1,Y2,Y3,Y4,Y5,Y6,Y7,Y8,Y9,YA,zA,qA,qC,vA,vC,wN]
   exact fin rfl (by rw [hV,decide_eq_true h1,decide_eq_true h2]; rfl)
  ·have f2:(Jm c d a*Jm c d b<0)=False:=eq_false h2
   simp only [w2,f2,↓X1,wA,↓reduceIte,reduceIte,reduceCtorEq,Y1,Y2,Y3,Y4,Y5,Y6,Y7,Y8,Y9,YA,zA,qA,qC,vA,vC,wN]
   rw [decide_eq_true h1,decide_eq_false h2] at hV
   refine X0 d1 rfl ?_
   cases B1
   rotate_left
   ·simp only [↓X1,wA,↓reduceIte,reduceIte,reduceCtorEq,Y1,Y2,Y3,Y4,Y5,Y6,Y7,Y8,Y9,YA,zA,qA,qC,vA,vC,wN]
    exact fin rfl (by rw [hV]; simp)
   simp only [↓X1,wA,↓reduceIte,reduceIte,reduceCtorEq,Y1,Y2,Y3,Y4,Y5,Y6,Y7,Y8,Y9,YA,zA,qA,qC,vA,vC,wN]
   refine X0 d2 rfl ?_
   cases B2
   rotate_left
   ·simp only [↓X1,wA,↓reduceIte,reduceIte,reduceCtorEq,Y1,Y2,Y3,Y4,Y5,Y6,Y7,Y8,Y9,YA,zA,qA,qC,vA,vC,wN]
    exact fin rfl (by rw [hV]; simp)
   simp only [↓X1,wA,↓reduceIte,reduceIte,reduceCtorEq,Y1,Y2,Y3,Y4,Y5,Y6,Y7,Y8,Y9,YA,zA,qA,qC,vA,vC,wN]
   refine X0 d3 rfl ?_
   cases B3
   rotate_left
   ·simp only [↓X1,wA,↓reduceIte,reduceIte,reduceCtorEq,Y1,Y2,Y3,Y4,Y5,Y6,Y7,Y8,Y9,YA,zA,qA,qC,vA,vC,wN]
    exact fin rfl (by rw [hV]; simp)
   simp only [↓X1,wA,↓reduceIte,reduceIte,reduceCtorEq,Y1,Y2,Y3,Y4,Y5,Y6,Y7,Y8,Y9,YA,zA,qA,qC,vA,vC,wN]
   refine X0 d4 rfl ?_
   simp only [↓X1,wA,↓reduceIte,reduceIte,reduceCtorEq,Y1,Y2,Y3,Y4,Y5,Y6,Y7,Y8,Y9,YA,zA,qA,qC,vA,vC,wN]
   exact fin rfl (by rw [hV]; simp)
 ·have f1:(Jm a b c*Jm a b d<0)=False:=eq_false h1
  simp only [w1,f1,↓X1,wA,↓reduceIte,reduceIte,reduceCtorEq,Y1,Y2,Y3,Y4,Y5,Y6,Y7,Y8,Y9,YA,zA,qA,qC,vA,vC,wN]
  rw [decide_eq_false h1] at hV
  refine X0 d1 rfl ?_
  cases B1
  rotate_left
  ·simp only [↓X1,wA,↓reduceIte,reduceIte,reduceCtorEq,Y1,Y2,Y3,Y4,Y5,Y6,Y7,Y8,Y9,YA,zA,qA,qC,vA,vC,wN]
   exact fin rfl (by rw [hV]; simp)
  simp only [↓X1,wA,↓reduceIte,reduceIte,reduceCtorEq,Y1,Y2,Y3,Y4,Y5,Y6,Y7,Y8,Y9,YA,zA,qA,qC,vA,vC,wN]
  refine X0 d2 rfl ?_
  cases B2
  rotate_left
  ·simp only [↓X1,wA,↓reduceIte,reduceIte,reduceCtorEq,Y1,Y2,Y3,Y4,Y5,Y6,Y7,Y8,Y9,YA,zA,qA,qC,vA,vC,wN]
   exact fin rfl (by rw [hV]; simp)
  simp only [↓X1,wA,↓reduceIte,reduceIte,reduceCtorEq,Y1,Y2,Y3,Y4,Y5,Y6,Y7,Y8,Y9,YA,zA,qA,qC,vA,vC,wN]
  refine X0 d3 rfl ?_
  cases B3
  rotate_left
  ·simp only [↓X1,wA,↓reduceIte,reduceIte,reduceCtorEq,Y1,Y2,Y3,Y4,Y5,Y6,Y7,Y8,Y9,YA,zA,qA,qC,vA,vC,wN]
   exact fin rfl (by rw [hV]; simp)
  simp only [↓X1,wA,↓reduceIte,reduceIte,reduceCtorEq,Y1,Y2,Y3,Y4,Y5,Y6,Y7,Y8,Y9,YA,zA,qA,qC,vA,vC,wN]
  refine X0 d4 rfl ?_
  simp only [↓X1,wA,↓reduceIte,reduceIte,reduceCtorEq,Y1,Y2,Y3,Y4,Y5,Y6,Y7,Y8,Y9,YA,zA,qA,qC,vA,vC,wN]
  exact fin rfl (by rw [hV]; simp)
def v0:V2:=⟨0,0⟩
def Xx (l:List V2):AV:=uB vC 8 v0 l
theorem Xh (l:List V2):Settled (Xx l):=DB fun a x hx=>by
 have:∀ x∈vC a,Settled x:=by simp [vC,X6,X2]
 exact this x hx
theorem X5 (l:List V2):Xx l=.sl l.length (l.length*8) (Xt vC 8 v0 l) false:=nrfl rfl
theorem vF (l:List V2) (i:Nat):Xt vC 8 v0 l (i*8)=.bool (decide ((l.getD i v0).x.num<0))∧Xt vC 8 v0 l (i*8+1)=X4 (X8 (l.getD i v0).x.num.natAbs)∧Xt vC 8 v0 l (i*8+2)=.bool false∧Xt vC 8 v0 l (i*8+3)=X4 (X8 (qd (l.getD i v0).x)) ∧
  Xt vC 8 v0 l (i*8+4)=.bool (decide ((l.getD i v0).y.num<0))∧Xt vC 8 v0 l (i*8+5)=X4 (X8 (l.getD i v0).y.num.natAbs)∧Xt vC 8 v0 l (i*8+6)=.bool false∧Xt vC 8 v0 l (i*8+7)=X4 (X8 (qd (l.getD i v0).y)):=by
 refine ⟨?_,?_,?_,?_,?_,?_,?_,?_⟩
 ·rw [JT _ _ _ _ _ (by omega)]; rfl
 all_goals rw [JD _ _ _ _ _ _ (by omega)]; rfl
theorem jF (l:List V2):Fn Tryz.prog 158 [Xx l] (.fn 218 [.ptr 1 (Xk [Xx l]) 0]):=by
 have hset:Settled (.fn 218 [.ptr 1 (Xk [Xx l]) 0]):=Jb (by
  intro a ha
  simp only [List.mem_cons,List.not_mem_nil,or_false] at ha
  rw [ha]
  exact QO fun j hj=>by
    obtain rfl:j=0:=by omega
    exact Xh l)
 refine Fq Tryz.call158 Tryz.func158 4 [] [] [] (by simp [Xh]) (Xj ?_)
 simp only [AS.start,X5,↓X1,wA,seval,zA,qA,qC,vA,vC,Ka,wN]
 refine BU rfl (Bm ⟨KE (.inl rfl) (by omega) fun j hj=>?_,trivial⟩)
 obtain rfl:j=0:=by omega
 exact (Xh l).sees _
theorem UV (L:List V2) (t:Tok) (A B:Nat→AO) (hL:L.length<1000000) (hy:∀ i,i<L.length→YCall Tryz.prog t [vA (L.getD i v0),vA (L.getD ((i+1) % L.length) v0)] [A i,B i] (.bool true) [A (i+1),B (i+1)])
  (hA:∀ i,XT 2 (A i)∧A i≠.unborn∧∀ v n f,A i≠.con v n f) (hB:∀ i,XT 2 (B i)∧B i≠.unborn∧∀ v n f,B i≠.con v n f) (hce:t.ce.H.length≤2) :
  ICall Tryz.prog t 218 [.yld t.l,.ptr 1 (Xk [Xx L]) 0] [A 0,B 0] [A L.length,B L.length]:=by
 have hAO:∀ i,XT 2 (A i)=True:=fun i=>eq_true (hA i).1
 have hBO:∀ i,XT 2 (B i)=True:=fun i=>eq_true (hB i).1
 refine ICall.intro (fn:=Tryz.f218) Tryz.call218 Tryz.func218 rfl mixed 5 [5,6,7] [3,40000004] [3] (by kernel_rfl) (Nat.le_of_ble_eq_true rfl) hce (by simp [hAO,hBO]) (Xj ?_)
 simp only [AS.start,X5,↓X1,wA,seval,zA,qA,qC,vA,vC,Ka,wN]
 refine Xd (fun i:Nat=>⟨5,[5,6,7],[.yld t.l,.ptr 1 (Xk [Xx L]) 0,.any,.any,.any],[(5,Xx L),(6,I L.length),(7,I i)],[A i,B i]⟩) (fun i=>i≤L.length) (fun i=>L.length - i) 0 (by omega)
  (Xg rfl (by simp [Xf,X5]) (by simp [Xm,Xq,X5,I]) rfl) ?_
 intro i hi next
 have w1:=wj i (by omega)
 by_cases hi2:i<L.length
 ·have f1:((i:Int)<L.length)=True:=eq_true (by omega)
  have f2:(i<L.length)=True:=eq_true hi2
  have f3:(i*8+8≤L.length*8)=True:=eq_true (by omega)
  have hm:((i+1:Nat):Int).tmod L.length=(((i+1) % L.length:Nat):Int):=rfl
  have hml:(i+1) % L.length<L.length:=Nat.mod_lt _ (by omega)
  have f4:((i+1) % L.length<L.length)=True:=eq_true hml
  have f5:((i+1) % L.length*8+8≤L.length*8)=True:=eq_true (by omega)
  have f6:((L.length:Int)=0)=False:=eq_false (by omega)
  have f6':(L.length=0)=False:=eq_false (by omega)
  have v1:=vF L i
  have v2:=vF L ((i+1) % L.length)
  refine Xj ?_
  simp only [X5,w1,f1,f2,f3,f4,f5,f6,f6',hm,v1,v2,Int.toNat_natCast,↓X1,wA,seval,zA,qA,qC,vA,vC,Ka,wN]
  refine C7 (t:=t) (H1:=[A i,B i]) (H1':=[A (i+1),B (i+1)]) rfl rfl (List.mem_singleton.2 rfl) (hy i hi2) rfl rfl hce ?_ ?_ ?_ ?_ ?_ ⟨Weak.rfl' _,Weak.rfl' _,trivial⟩ ?_
  ·intro a ha
   simp only [List.mem_cons,List.not_mem_nil,or_false] at ha
   rcases ha with rfl | rfl <;> exact X7 (Xo _)
  ·intro o ho
   simp only [List.mem_cons,List.not_mem_nil,or_false] at ho
   rcases ho with rfl | rfl
   ·exact (hA i).1
   ·exact (hB i).1
  ·intro o ho
   simp only [List.mem_cons,List.not_mem_nil,or_false] at ho
   rcases ho with rfl | rfl
   ·exact (hA i).2.1
   ·exact (hB i).2.1
  ·intro o ho
   simp only [List.mem_cons,List.not_mem_nil,or_false] at ho
   rcases ho with rfl | rfl
   ·exact (hA (i+1)).2.1
   ·exact (hB (i+1)).2.1
  ·refine QU ?_ ?_
   ·intro o ho
    simp only [List.mem_cons,List.not_mem_nil,or_false] at ho
    rcases ho with rfl | rfl
    ·exact (hA i).2.2
    ·exact (hB i).2.2
   ·intro o ho
    simp only [List.mem_cons,List.not_mem_nil,or_false] at ho
    rcases ho with rfl | rfl
    ·exact (hA (i+1)).2.2
    ·exact (hB (i+1)).2.2
  simp only [X5,w1,↓X1,wA,seval,zA,qA,qC,vA,vC,Ka,wN]
  have hbv:Ko 2 (Xx L)=True:=eq_true (X7 (Xh L))
  have hbp:Ko 2 (.ptr 1 (Xk [Xx L]) 0)=True:=eq_true (X7 (QO fun j hj=>by
    obtain rfl:j=0:=by omega
    exact Xh L))
  have hby:Ko 2 (.yld t.l)=True:=eq_true fun c v hv=>by cases hv; exact .yld _
  exact next (i+1) _ (by omega) (by omega) (XD (m:=2) (Nat.le_refl 2) rfl (by simp [X5,Xf,X4,Qn,I]) (by simp [X5,Xm,Xq,I]) rfl (by simp [hby,hbp,XA]) (by simp [hbv,XA]) (by simp [hAO,hBO]))
 ·obtain rfl:i=L.length:=by omega
  refine Xj ?_
  simp only [X5,Int.lt_irrefl,Nat.lt_irrefl,↓X1,wA,seval,zA,qA,qC,vA,vC,Ka,wN]
  exact tS rfl rfl
def K1 (L:List V2):Nat→Rat
 | 0=>0
 | i+1=>K1 L i+Q6 (L.getD i v0) (L.getD ((i+1) % L.length) v0)
def JF (L:List V2):Rat:=K1 L L.length*Rat.divInt 1 2
def Qs (L:List V2) (k:Nat):Prop:=∀ i,vb (L.getD i v0)≤k
theorem Il (L:List V2) (k:Nat) (h:Qs L k):∀ i,qb (K1 L i)≤(4*k+2)*i+1
 | 0=>by have:=Zx; simp only [K1]; omega
 | i+1=>by
  have ih:=Il L k h i
  have h1:=Dm (L.getD i v0) (L.getD ((i+1) % L.length) v0)
  have h2:=h i
  have h3:=h ((i+1) % L.length)
  have h4:=KW (K1 L i) (Q6 (L.getD i v0) (L.getD ((i+1) % L.length) v0))
  have e:(4*k+2)*(i+1)=(4*k+2)*i+(4*k+2):=Nat.mul_succ _ _
  simp only [K1]
  omega
theorem HN (L:List V2) (k:Nat) (h:Qs L k) (hk:k≤1000) (hl:L.length≤1000):qb (K1 L L.length)≤10000000∧qb (JF L)≤10000000:=by
 have h1:=Il L k h L.length
 have h2:(4*k+2)*L.length≤4002*1000:=Nat.mul_le_mul (by omega) hl
 have h3:=QA (K1 L L.length) (Rat.divInt 1 2)
 have h4:qb (Rat.divInt 1 2)≤3:=KO _ _ _ (by omega) (QR ⟨by omega,by omega⟩) (QR ⟨by omega,by omega⟩)
 unfold JF
 omega
def Kv:AO:=.row 0 4 (Xk [.bool false,.sl 0 0 (fun _=>.any) true,.bool false,.sl 0 0 (fun _=>.any) true])
def BH (L:List V2) (i:Nat):AO:=.row 0 4 (Xk (qC (K1 L i)))
theorem O3 (L:List V2) (k:Nat) (h:Qs L k) (hk:k≤1000) (hl:L.length≤1000):Fn Tryz.prog 71 [Xx L] (qA (JF L)):=by
 obtain ⟨R,hR⟩:∃ R,R=qA (JF L):=⟨_,rfl⟩
 have sR:Settled R:=hR▸Xa _
 obtain ⟨q1,q2⟩:=HN L k h hk hl
 have cs:=jF L
 rw [← hR]
 refine Fq Tryz.call71 Tryz.func71 6 [8,9] [] [] (by simp [Xh]) (Xj ?_)
 simp only [AS.start,X5,↓X1,wA,seval,zA,qA,qC,vA,vC,Ka,wN]
 refine X0 cs rfl ?_
 simp only [↓X1,wA,seval,zA,qA,qC,vA,vC,Ka,wN]
 have bA:XT 2 Kv∧Kv≠.unborn∧∀ v n f,Kv≠.con v n f:=⟨by simp [Kv,XA],by simp [Kv],by simp [Kv]⟩
 have bB:∀ i,XT 2 (BH L i)∧BH L i≠.unborn∧∀ v n f,BH L i≠.con v n f:=fun i=>⟨by simp [BH,qC,XA],by simp [BH],by simp [BH]⟩
 refine Run.sub (s':=⟨6,[8,9],[Xx L,.any,.ref 0 0 0,.ref 1 0 0,.any,.any],[(7,.fn 218 [.ptr 1 (Xk [Xx L]) 0])],[Kv,BH L 0]⟩) ?_ ((Z4 1 (Xk (qC 0)) rfl fun j hj=>?_).trans (Xg rfl (by simp [Xf,X5]) (by simp [Xm,Xq]) (by simp [Kv,BH,K1])))
 rotate_left
 ·match j,hj with
  | 0,_=>exact Qc _ _
  | 1,_=>exact AD (QB (by rw [Rat.zero_num]; simp [XV]))
  | 2,_=>exact Qc _ _
  | 3,_=>exact AD (QB (Dn rfl))
  | j+4,h=>omega
 refine Er (gf:=218) (caps:=[.ptr 1 (Xk [Xx L]) 0]) (Hn:=[Kv,BH L L.length]) rfl rfl rfl (fun t ht=>?_) ?_
 ·refine UV L t (fun _=>Kv) (BH L) (by omega) (fun i hi=>?_) (fun _=>bA) bB (by rw [ht.ch]; exact Nat.le_refl _)
  have hc:=Gz (L.getD i v0) (L.getD ((i+1) % L.length) v0) (by have:=h i; unfold vm; omega) (by have:=h ((i+1) % L.length); unfold vm; omega)
  have b1:=Il L k h i
  have b2:(4*k+2)*i≤4002*1000:=Nat.mul_le_mul (by omega) (by omega)
  have b3:=Dm (L.getD i v0) (L.getD ((i+1) % L.length) v0)
  have b4:=h i
  have b5:=h ((i+1) % L.length)
  have ha:=A2 (K1 L i) (Q6 (L.getD i v0) (L.getD ((i+1) % L.length) v0)) (by unfold rm; omega) (by unfold rm; omega)
  refine DJ (str:=[]) (hcs:=[]) ht mixed (by kernel_rfl) (by kernel_rfl) rfl (fun p hp=>?_) (fun o ho=>?_) (fun l r hr=>?_)
  ·have hp':p=8∨p=9:=by simpa using hp
   rcases hp' with rfl | rfl <;> exact Nat.le_of_ble_eq_true rfl
  ·simp only [List.mem_cons,List.not_mem_nil,or_false] at ho
   rcases ho with rfl | rfl
   ·exact bA.1
   ·exact (bB (i+1)).1
  show Run _ _ ⟨6,[8,9],[Xx L,.any,.ref 0 0 0,.ref 1 0 0,.any,.any],[(9,vA (L.getD ((i+1) % L.length) v0)),(8,vA (L.getD i v0)),(7,.fn 218 [.ptr 1 (Xk [Xx L]) 0])],[Kv,BH L i]⟩
  refine Xj ?_
  simp only [Kv,BH,↓X1,wA,seval,zA,qA,qC,vA,vC,Ka,wN]
  refine EI hr ?_
  refine Xj ?_
  simp only [↓X1,wA,seval,zA,qA,qC,vA,vC,Ka,wN]
  refine X0 hc rfl ?_
  simp only [↓X1,wA,seval,zA,qA,qC,vA,vC,Ka,wN]
  refine X0 ha rfl ?_
  simp only [↓X1,wA,seval,zA,qA,qC,vA,vC,Ka,wN]
  exact ou rfl
 ·refine Xj ?_
  simp only [Kv,BH,↓X1,wA,seval,zA,qA,qC,vA,vC,Ka,wN]
  refine X0 (EX 1 2 ⟨by omega,by omega⟩ ⟨by omega,by omega⟩) rfl ?_
  simp only [↓X1,wA,seval,zA,qA,qC,vA,vC,Ka,wN]
  have hm:=JZ (K1 L L.length) (Rat.divInt 1 2) (by unfold rm; omega) (by
   have:qb (Rat.divInt 1 2)≤3:=KO _ _ _ (by omega) (QR ⟨by omega,by omega⟩) (QR ⟨by omega,by omega⟩)
   unfold rm; omega)
  rw [show K1 L L.length*Rat.divInt 1 2=JF L from rfl,← hR] at hm
  refine X0 hm rfl ?_
  simp only [hR,↓X1,wA,seval,zA,qA,qC,vA,vC,Ka,wN]
  exact JO rfl Qh rfl rfl rfl sR (hR.trans rfl)
theorem uJ (L:List V2) (i:Nat) (hn:L.length<1000000) (h0:L.length≠0) (hi:i<1000000000) :
  Fn Tryz.prog 178 [I i,.ptr 1 (Xk [Xx L]) 0,.ptr 1 (Xk [I L.length]) 0] (vA (L.getD (i % L.length) v0)):=by
 obtain ⟨R,hR⟩:∃ R,R=vA (L.getD (i % L.length) v0):=⟨_,rfl⟩
 have sR:Settled R:=hR▸Xo _
 have hm:(i:Int).tmod L.length=((i % L.length:Nat):Int):=rfl
 have hml:i % L.length<L.length:=Nat.mod_lt _ (by omega)
 have f4:(i % L.length<L.length)=True:=eq_true hml
 have f5:(i % L.length*8+8≤L.length*8)=True:=eq_true (by omega)
 have f6:((L.length:Int)=0)=False:=eq_false (by omega)
 have f6':(L.length=0)=False:=eq_false h0
 have v1:=vF L (i % L.length)
 have hs0:Settled (.ptr 1 (Xk [Xx L]) 0):=QO fun j hj=>by
   obtain rfl:j=0:=by omega
   exact Xh L
 have hs1:Settled (.ptr 1 (Xk [I L.length]) 0):=QO fun j hj=>by
   obtain rfl:j=0:=by omega
   exact X9 _
 rw [← hR]
 refine Fq Tryz.call178 Tryz.func178 5 [] [] [] (by simp [X9,hs0,hs1]) (Xj ?_)
 simp only [AS.start,X5,f4,f5,f6,f6',hm,v1,Int.toNat_natCast,↓X1,wA,seval,zA,qA,qC,vA,vC,Ka,wN]
 exact Ar rfl Kc rfl rfl rfl sR (hR.trans rfl)
def atF (L:List V2) (i:Nat):V2:=L.getD (i % L.length) v0
def O8 (L:List V2) (i:Nat):Prop:=Jm (atF L i) (atF L (i+1)) (atF L (i+2))=0
def Vr (L:List V2) (i k:Nat):Prop:=(k+1) % L.length≠i∧Cj (atF L i) (atF L (i+1)) (atF L k) (atF L (k+1))=true
def i9 (L:List V2) (i:Nat):Prop:=¬ O8 L i∧∀ k,i+2≤k→k<L.length→¬ Vr L i k
def Cl (L:List V2):Prop:=(3≤L.length∧L.length≤12)∧(∀ i,i<L.length→i9 L i)∧0<(JF L).num.sign
theorem bU (L:List V2) (h:Qs L 1000) (hl:L.length<1000000):Fn Tryz.prog 90 [Xx L] (.bool (decide (Cl L))):=by
 obtain ⟨V,hV⟩:∃ V,V=decide (Cl L):=⟨_,rfl⟩
 rw [← hV]
 have fin:∀ {s:AS} {v:Bool},s.get 2=.bool v→v=V→RetOk (QS Tryz.prog Tryz.f90 [] [] (.bool V)) s:=fun h e=>Xv rfl h (X2 _) (by rw [e])
 have hs0:Settled (.ptr 1 (Xk [Xx L]) 0):=QO fun j hj=>by
   obtain rfl:j=0:=by omega
   exact Xh L
 have hs1:Settled (.ptr 1 (Xk [I L.length]) 0):=QO fun j hj=>by
   obtain rfl:j=0:=by omega
   exact X9 _
 have sm:∀ i,vb (atF L i)≤vs:=fun i=>by have:=h (i % L.length); unfold atF vs; omega
 refine Fq Tryz.call90 Tryz.func90 9 [17,18,19,35,36] [] [] (by simp [Xh]) (Xj ?_)
 by_cases hlo:(L.length:Int)<3
 ·have f1:((L.length:Int)<3)=True:=eq_true hlo
  simp only [AS.start,X5,f1,↓X1,wA,seval,zA,qA,qC,vA,vC,Ka,wN]
  exact fin rfl (by rw [hV,decide_eq_false]; unfold Cl; omega)
 have f1:((L.length:Int)<3)=False:=eq_false hlo
 by_cases hhi:(12:Int)<L.length
 ·have f2:((12:Int)<L.length)=True:=eq_true hhi
  simp only [AS.start,X5,f1,f2,↓X1,wA,seval,zA,qA,qC,vA,vC,Ka,wN]
  exact fin rfl (by rw [hV,decide_eq_false]; unfold Cl; omega)
 have f2:((12:Int)<L.length)=False:=eq_false hhi
 simp only [AS.start,X5,f1,f2,↓X1,wA,seval,zA,qA,qC,vA,vC,Ka,wN]
 have b0:Ko 0 (.ptr 1 (Xk [Xx L]) 0)=True:=eq_true (X7 hs0)
 have b1:Ko 0 (.ptr 1 (Xk [I L.length]) 0)=True:=eq_true (X7 hs1)
 have b2:Ko 0 (Xx L)=True:=eq_true (X7 (Xh L))
 refine Xd (fun i:Nat=>⟨9,[17,18,19,35,36],[.any,.ptr 1 (Xk [Xx L]) 0,.bool false,.ptr 1 (Xk [I L.length]) 0,.any,.any,.any,.any,.any],[(17,Xx L),(18,I L.length),(19,I i)],[]⟩) (fun i=>i≤L.length) (fun i=>L.length - i) 0 (by omega)
  ((Qk 0 rfl).trans ((Qk 1 rfl).trans ((C0 1 rfl rfl (by omega)).trans ((C0 3 rfl rfl (by omega)).trans (XD (m:=0) (Nat.zero_le _) rfl (by simp [AS.put,X5,Xf,X4,Qn,I]) (by simp [AS.put,X5,Xm,Xq,I]) rfl (by simp [b0,b1,XA]) (by simp [b2,XA]) (by simp)))))) ?_
 intro i hi next
 have w1:=wj i (by omega)
 have rv:∀ r:Rat,qb r≤1000→Fn Tryz.prog 79 [qA r] (.bool true):=fun r hr=>by
  have h1:=RQ.of_sz r
  have:=NC (RQ.of r) (by omega)
  rwa [decide_eq_true ⟨r,rfl⟩] at this
 by_cases hi2:i<L.length
 ·have f3:((i:Int)<L.length)=True:=eq_true (by omega)
  have f4:(i<L.length)=True:=eq_true hi2
  have f5:(i*8+8≤L.length*8)=True:=eq_true (by omega)
  have v1:=vF L i
  have hx:=QM (L.getD i v0); have hy:=QG (L.getD i v0); have hb:=h i
  refine Xj ?_
  simp only [X5,w1,f3,f4,f5,v1,Int.toNat_natCast,↓X1,wA,seval,zA,qA,qC,vA,vC,Ka,wN]
  refine X0 (rv (L.getD i v0).x (by omega)) rfl ?_
  simp only [↓X1,wA,seval,zA,qA,qC,vA,vC,Ka,wN]
  refine X0 (rv (L.getD i v0).y (by omega)) rfl ?_
  simp only [w1,↓X1,wA,seval,zA,qA,qC,vA,vC,Ka,wN]
  exact next (i+1) _ (by omega) (by omega) (XD (m:=0) (Nat.zero_le _) rfl (by simp [X5,Xf,X4,Qn,I]) (by simp [X5,Xm,Xq,I]) rfl (by simp [b0,b1,XA]) (by simp [b2,XA]) (by simp))
 obtain rfl:i=L.length:=by omega
 refine Xj ?_
 simp only [X5,Int.lt_irrefl,Nat.lt_irrefl,↓X1,wA,seval,zA,qA,qC,vA,vC,Ka,wN]
 have hn0:L.length≠0:=by omega
 have cat:∀ j:Nat,j<1000000000→Fn Tryz.prog 178 [I j,.ptr 1 (Xk [Xx L]) 0,.ptr 1 (Xk [I L.length]) 0] (vA (atF L j)):=fun j hj=>uJ L j hl hn0 hj
 have b3:Ko 0 (.fn 178 [.ptr 1 (Xk [Xx L]) 0,.ptr 1 (Xk [I L.length]) 0])=True:=eq_true (X7 (Jb (by
  intro a ha
  simp only [List.mem_cons,List.not_mem_nil,or_false] at ha
  rcases ha with rfl | rfl
  ·exact hs0
  ·exact hs1)))
 refine Xd (fun i:Nat=>⟨9,[17,18,19,35,36],[.any,.ptr 1 (Xk [Xx L]) 0,.bool false,.ptr 1 (Xk [I L.length]) 0,.any,.any,.fn 178 [.ptr 1 (Xk [Xx L]) 0,.ptr 1 (Xk [I L.length]) 0],.any,.any],[(35,I L.length),(36,I i)],[]⟩) (fun i=>i≤L.length∧∀ j,j<i→i9 L j) (fun i=>L.length - i) 0 ⟨by omega,by omega⟩
  (XD (m:=0) (Nat.zero_le _) rfl (by simp [X5,Xf,X4,Qn,I]) (by simp [X5,Xm,Xq,I]) rfl (by simp [b0,b1,b3,XA]) (by simp [b2,XA]) (by simp)) ?_
 rintro i ⟨hi,hgood⟩ next
 have w1:=wj i (by omega)
 have w2:IntKind.i64.wrap ((i:Int)+2)=((i+2:Nat):Int):=by rw [IntKind.wrap_i64]; omega
 by_cases hi2:i<L.length
 rotate_left
 ·obtain rfl:i=L.length:=by omega
  refine Xj ?_
  simp only [X5,Int.lt_irrefl,Nat.lt_irrefl,↓X1,wA,seval,zA,qA,qC,vA,vC,Ka,wN]
  have ca:=O3 L 1000 h (by omega) (by omega)
  have cs:=KD (JF L)
  refine X0 ca rfl ?_
  simp only [↓X1,wA,seval,zA,qA,qC,vA,vC,Ka,wN]
  refine X0 cs rfl ?_
  simp only [↓X1,wA,seval,zA,qA,qC,vA,vC,Ka,wN]
  exact fin rfl (by rw [hV,decide_eq_decide]; unfold Cl; exact ⟨fun h=>⟨by omega,hgood,h⟩,fun h=>h.2.2⟩)
 have f3:((i:Int)<L.length)=True:=eq_true (by omega)
 have f4:(i<L.length)=True:=eq_true hi2
 refine Xj ?_
 simp only [w1,w2,f3,f4,Int.toNat_natCast,↓X1,wA,seval,zA,qA,qC,vA,vC,Ka,wN]
 refine X0 (cat i (by omega)) rfl ?_
 simp only [w1,w2,↓X1,wA,seval,zA,qA,qC,vA,vC,Ka,wN]
 refine X0 (cat (i+1) (by omega)) rfl ?_
 simp only [w1,w2,↓X1,wA,seval,zA,qA,qC,vA,vC,Ka,wN]
 refine X0 (cat (i+2) (by omega)) rfl ?_
 simp only [w1,w2,↓X1,wA,seval,zA,qA,qC,vA,vC,Ka,wN]
 refine X0 (Z3 _ _ _ (sm _) (sm _) (sm _)) rfl ?_
 by_cases hs:Jm (atF L i) (atF L (i+1)) (atF L (i+2))=0
 ·have f5:(Jm (atF L i) (atF L (i+1)) (atF L (i+2))=0)=True:=eq_true hs
  simp only [f5,↓X1,wA,seval,zA,qA,qC,vA,vC,Ka,wN]
  exact fin rfl (by rw [hV,decide_eq_false]; exact fun hp=>(hp.2.1 i hi2).1 hs)
 have f5:(Jm (atF L i) (atF L (i+1)) (atF L (i+2))=0)=False:=eq_false hs
 simp only [f5,w1,w2,↓X1,wA,seval,zA,qA,qC,vA,vC,Ka,wN]
 refine Xd (fun k:Nat=>⟨9,[17,18,19,35,36],[.any,.ptr 1 (Xk [Xx L]) 0,.bool false,.ptr 1 (Xk [I L.length]) 0,.any,.any,.fn 178 [.ptr 1 (Xk [Xx L]) 0,.ptr 1 (Xk [I L.length]) 0],I i,I k],[(35,I L.length),(36,I i)],[]⟩) (fun k=>i+2≤k∧k≤L.length+2∧∀ j,i+2≤j→j<k→j<L.length→¬ Vr L i j) (fun k=>L.length+2 - k) (i+2) ⟨by omega,by omega,by omega⟩
  (Xg rfl (by simp [Xf,I]) (by simp [Xm,Xq,I]) rfl) ?_
 rintro k ⟨hk1,hk2,hpair⟩ nextk
 have u1:=wj k (by omega)
 by_cases hk3:k<L.length
 rotate_left
 ·have g3:((k:Int)<L.length)=False:=eq_false (by omega)
  have g4:(k<L.length)=False:=eq_false hk3
  refine Xj ?_
  simp only [g3,g4,w1,↓X1,wA,seval,zA,qA,qC,vA,vC,Ka,wN]
  refine next (i+1) _ ⟨by omega,fun j hj=>?_⟩ (by omega) (Xg rfl (by simp [Xf,I]) (by simp [Xm,Xq,I]) rfl)
  by_cases hji:j<i
  ·exact hgood j hji
  ·obtain rfl:j=i:=by omega
   exact ⟨hs,fun q hq1 hq2=>hpair q hq1 (by omega) hq2⟩
 have g3:((k:Int)<L.length)=True:=eq_true (by omega)
 have g4:(k<L.length)=True:=eq_true hk3
 have hm:((k+1:Nat):Int).tmod L.length=(((k+1) % L.length:Nat):Int):=rfl
 have f6:((L.length:Int)=0)=False:=eq_false (by omega)
 have f6':(L.length=0)=False:=eq_false hn0
 by_cases hne:(k+1) % L.length=i
 ·have g5:((k+1) % L.length=i)=True:=eq_true hne
  have g6:((((k+1) % L.length:Nat):Int)=(i:Int))=True:=eq_true (by omega)
  refine Xj ?_
  simp only [g3,g4,g5,g6,w1,u1,hm,f6,f6',↓X1,wA,seval,zA,qA,qC,vA,vC,Ka,wN]
  exact nextk (k+1) _ ⟨by omega,by omega,fun j h1 h2 h3=>by
   by_cases hjk:j<k
   ·exact hpair j h1 hjk h3
   ·obtain rfl:j=k:=by omega
    exact fun hb=>hb.1 hne⟩ (by omega) (Xg rfl (by simp [Xf,I]) (by simp [Xm,Xq,I]) rfl)
 have g5:((k+1) % L.length=i)=False:=eq_false hne
 have g6:((((k+1) % L.length:Nat):Int)=(i:Int))=False:=eq_false (by omega)
 refine Xj ?_
 simp only [g3,g4,g5,g6,w1,u1,hm,f6,f6',↓X1,wA,seval,zA,qA,qC,vA,vC,Ka,wN]
 refine X0 (cat i (by omega)) rfl ?_
 simp only [g5,g6,w1,u1,↓X1,wA,seval,zA,qA,qC,vA,vC,Ka,wN]
 refine X0 (cat (i+1) (by omega)) rfl ?_
 simp only [g5,g6,w1,u1,↓X1,wA,seval,zA,qA,qC,vA,vC,Ka,wN]
 refine X0 (cat k (by omega)) rfl ?_
 simp only [g5,g6,w1,u1,↓X1,wA,seval,zA,qA,qC,vA,vC,Ka,wN]
 refine X0 (cat (k+1) (by omega)) rfl ?_
 simp only [g5,g6,w1,u1,↓X1,wA,seval,zA,qA,qC,vA,vC,Ka,wN]
 refine X0 (iw _ _ _ _ (sm _) (sm _) (sm _) (sm _)) rfl ?_
 by_cases hmt:Cj (atF L i) (atF L (i+1)) (atF L k) (atF L (k+1))=true
 ·rw [hmt]
  simp only [g5,g6,↓X1,wA,seval,zA,qA,qC,vA,vC,Ka,wN]
  exact fin rfl (by rw [hV,decide_eq_false]; exact fun hp=>(hp.2.1 i hi2).2 k hk1 hk3 ⟨hne,hmt⟩)
 ·have hmf:=Bool.not_eq_true _▸hmt
  rw [hmf]
  simp only [g5,g6,u1,↓X1,wA,seval,zA,qA,qC,vA,vC,Ka,wN]
  exact nextk (k+1) _ ⟨by omega,by omega,fun j h1 h2 h3=>by
   by_cases hjk:j<k
   ·exact hpair j h1 hjk h3
   ·obtain rfl:j=k:=by omega
    exact fun hb=>hmt hb.2⟩ (by omega) (Xg rfl (by simp [Xf,I]) (by simp [Xm,Xq,I]) rfl)
def Kx (p:Int×Int):List AV:=[I p.1,I p.2]
def GB (l:List (Int×Int)):AV:=uB Kx 2 (0,0) l
theorem Jy (l:List (Int×Int)):Settled (GB l):=DB fun a x hx=>by
 have:∀ x∈Kx a,Settled x:=by simp [Kx,X9]
 exact this x hx
theorem Xi (l:List (Int×Int)):GB l=.sl l.length (l.length*2) (Xt Kx 2 (0,0) l) false:=nrfl rfl
theorem Xz (l:List Bool):Zo l=.sl l.length l.length (Qb AV.bool false l) false:=nrfl rfl
theorem X3 (l:List Int):X4 l=.sl l.length l.length (Qb I 0 l) false:=nrfl rfl
theorem jH {α:Type} (e:α→List AV) (s:Nat) (d:α) (l:List α) (j:Nat) (hs:0<s) (he:∀ a,(e a).length=s∧∀ x∈e a,x.one=true):(Xt e s d l j).one=true:=by
 have h:=he (l.getD (j / s) d)
 have hj:j % s<(e (l.getD (j / s) d)).length:=by rw [h.1]; exact Nat.mod_lt _ hs
 unfold Xt
 rw [List.getD_eq_getElem?_getD,List.getElem?_eq_getElem hj]
 exact h.2 _ (List.getElem_mem hj)
theorem KF (p:Int×Int):∀ x∈Kx p,Settled x:=by simp [Kx,X9]
theorem tL (l:List (Int×Int)) (i:Nat):Xt Kx 2 (0,0) l (i*2)=I (l.getD i (0,0)).1∧Xt Kx 2 (0,0) l (i*2+1)=I (l.getD i (0,0)).2:=by
 refine ⟨?_,?_⟩
 ·rw [JT _ _ _ _ _ (by omega)]; rfl
 ·rw [JD _ _ _ _ _ _ (by omega)]; rfl
theorem xv (z:Int):zA z=.agg [.bool (decide (z<0)),X4 (X8 z.natAbs)]:=nrfl rfl
theorem xu (v:V2):vC v=[.bool (decide (v.x.num<0)),X4 (X8 v.x.num.natAbs),.bool false,X4 (X8 (qd v.x)),.bool (decide (v.y.num<0)),X4 (X8 v.y.num.natAbs),.bool false,X4 (X8 (qd v.y))]:=nrfl rfl
theorem xt (v:V2):vA v=.agg (vC v):=nrfl rfl
theorem xl (r:Rat):qC r=[.bool (decide (r.num<0)),X4 (X8 r.num.natAbs),.bool false,X4 (X8 (qd r))]:=nrfl rfl
theorem xk (r:Rat):qA r=.agg (qC r):=nrfl rfl
set_option linter.defProp false in
def wS:=And.intro JY (And.intro @Xa (And.intro @Xo (And.intro @Xc (And.intro @Jy @BA))))
set_option linter.defProp false in
def wE:=And.intro @xv (And.intro @xu (And.intro @xt (And.intro @xl (And.intro @xk (And.intro @Xi (And.intro @Xz (And.intro Ka wN)))))))
set_option linter.defProp false in
def wF:=And.intro wA wE
structure PV where
 id:Int
 home:Int
 rim:List (Int×Int)
 worn:List Bool
 marks:List Int
 tol:RQ
 light:RQ
 heavy:RQ
 strength:RQ
 rough:RQ
def Q0 (p:PV):List AV:=[I p.id,I p.home,GB p.rim,Zo p.worn,X4 p.marks,.bool p.tol.pn,X4 p.tol.pd,.bool p.tol.qn,X4 p.tol.qd,.bool p.light.pn,X4 p.light.pd,.bool p.light.qn,X4 p.light.qd,
 .bool p.heavy.pn,X4 p.heavy.pd,.bool p.heavy.qn,X4 p.heavy.qd,.bool p.strength.pn,X4 p.strength.pd,.bool p.strength.qn,X4 p.strength.qd,.bool p.rough.pn,X4 p.rough.pd,.bool p.rough.qn,X4 p.rough.qd]
def Kh (p:PV):AV:=.agg (Q0 p)
theorem Ah (p:PV):Settled (Kh p):=Qo (by simp [Q0,X9,Jy,BA,X6,X2])
def PV.num (p:PV):Nat→RQ
 | 0=>p.tol
 | 1=>p.light
 | 2=>p.heavy
 | 3=>p.strength
 | _=>p.rough
theorem XL {m v n:Nat} {L:List AV} (h:∀ x∈L,Settled x):XT m (.row v n (Xk L)):=fun j _=>X7 (Xe h j)
theorem XI (p:PV):∀ x∈Q0 p,Settled x:=by simp [Q0,X9,Jy,BA,X6,X2]
def wb (n lo hi:Int):Bool:=decide (lo≤n) && decide (n≤hi)
def UA (c:Int×Int):Bool:=wb c.1 (-65536) 65536 && wb c.2 (-65536) 65536
theorem Fr {f:FuncId} {fn:Func} {body:Code} {args:List AV} {r:AV} (he:ZH Tryz.prog f) (hf:Tryz.prog.funcs[f]?=some fn) (n0:Nat) (hid str hcs:List Nat) (h:Qv (Bb (AS.start n0 hid args [])) fun s=>vc (QS Tryz.prog fn str hcs r) 1000 [.code body] s) (hs:∀ a∈args,Settled a:=by simp [wS,Ah]) (hb:fn.body=some body:=by rfl) (hok:Qp fn.ntmps str hcs body=true:=by kernel_rfl) (hlen:args.length≤fn.ntmps:=by exact Nat.le_of_ble_eq_true rfl):Fn Tryz.prog f args r:=Fq he hf n0 hid str hcs hs (Xj h) hb hok hlen
theorem QN {α:Type} (e:α→List AV) (s:Nat) (d:α) (l:List α) (x:α) (hs:0<s):QK (l.length*s) (Xt e s d l) s (Xk (e x))=Xt e s d (l ++ [x]):=by
 funext j
 unfold QK Xt Xk
 by_cases h1:j<l.length*s
 ·have:j / s<l.length:=by rw [Nat.div_lt_iff_lt_mul hs]; exact h1
  have e1:(l ++ [x]).getD (j / s) d=l.getD (j / s) d:=by rw [List.getD_eq_getElem?_getD,List.getD_eq_getElem?_getD,List.getElem?_append_left this]
  rw [if_pos h1,e1]
 ·rw [if_neg h1]
  by_cases h2:j<l.length*s+s
  ·rw [if_pos h2]
   have hj:j / s=l.length:=by
    refine Nat.div_eq_of_lt_le (by omega) ?_
    rw [Nat.add_mul]; omega
   have hm:j % s=j - l.length*s:=by
    have:=Nat.div_add_mod j s
    rw [hj,Nat.mul_comm] at this
    omega
   rw [hj,hm]
   simp
  ·rw [if_neg h2]
   have hj:l.length+1≤j / s:=by
    rw [Nat.le_div_iff_mul_le hs,Nat.add_mul]; omega
   have e1:(l ++ [x]).getD (j / s) d=d:=by rw [List.getD_eq_getElem?_getD,List.getElem?_eq_none (by simp; omega)]; rfl
   have e2:l.getD (j / s) d=d:=by rw [List.getD_eq_getElem?_getD,List.getElem?_eq_none (by omega)]; rfl
   rw [e1,e2]
def Qe (c:Int×Int):V2:=⟨c.1,c.2⟩
def Xr (l:List (Int×Int)):List V2:=l.map Qe
theorem CB {α:Type} (l:List α) (d:α) {i:Nat} (h:i<l.length):l.take (i+1)=l.take i ++ [l.getD i d]:=by
 rw [List.take_succ_eq_append_getElem h,List.getD_eq_getElem?_getD,List.getElem?_eq_getElem h]; rfl
theorem Lm (p:PV) (hl:p.rim.length<1000000) (hr:∀ i,i<p.rim.length→UA (p.rim.getD i (0,0))=true):Fn Tryz.prog 54 [Kh p] (Xx (Xr p.rim)):=by
 obtain ⟨R,hR⟩:∃ R,R=Xx (Xr p.rim):=⟨_,rfl⟩
 have sR:Settled R:=hR▸Xh _
 have bp:Ko 2 (GB p.rim)=True:=eq_true (X7 (Jy _))
 have bo:XT 2 (.row 0 25 (Xk (Q0 p)))=True:=eq_true (XL (XI p))
 have hvc:∀ a:V2,∀ x∈vC a,Settled x:=fun a=>by simp [vC,X6,X2]
 have br:∀ i l n,XT 2 (.row i n (Xt vC 8 v0 l))=True:=fun i l n=>eq_true fun j _=>X7 (Xe (hvc _) _)
 rw [← hR]
 refine Fr Tryz.call54 Tryz.func54 6 [7,8,9] [] [] ?_
 simp only [AS.start,Kh,Q0,↓X1,wF,seval]
 refine Xd (fun i:Nat=>⟨6,[7,8,9],[.any,.ref 0 0 0,.any,.osl 1 i 8 0 i,.any,.any],[(7,GB p.rim),(8,I p.rim.length),(9,I i)],[.row 0 25 (Xk (Q0 p)),.row i (i*8) (Xt vC 8 v0 (Xr (p.rim.take i)))]⟩) (fun i=>i≤p.rim.length) (fun i=>p.rim.length - i) 0 (by omega)
  ((Jd 3 8 (Xt vC 8 v0 []) rfl).trans (Xg rfl (by simp [AS.put,Xf]) (by simp [AS.put,Xm,Xq,Xi,I]) (by simp [AS.put,Q0,Xi,Xz,X3,I,Xr]))) ?_
 intro i hi next
 have w1:=wj i (by omega)
 by_cases hi2:i<p.rim.length
 ·have f1:((i:Int)<p.rim.length)=True:=eq_true (by omega)
  have f2:(i<p.rim.length)=True:=eq_true hi2
  have f3:(i*2+2≤p.rim.length*2)=True:=eq_true (by omega)
  have v1:=tL p.rim i
  have hok:=hr i hi2
  unfold UA wb at hok
  simp only [Bool.and_eq_true,decide_eq_true_eq] at hok
  have c1:=GA (p.rim.getD i (0,0)).1 (p.rim.getD i (0,0)).2 ⟨by omega,by omega⟩ ⟨by omega,by omega⟩
  refine Xj ?_
  simp only [Q0,w1,f1,f2,f3,v1,Int.toNat_natCast,↓X1,wF,seval]
  refine X0 c1 rfl ?_
  simp only [w1,↓X1,wF,seval]
  have hap:=QN vC 8 v0 (Xr (p.rim.take i)) (Qe (p.rim.getD i (0,0))) (by omega)
  have hlen:(Xr (p.rim.take i)).length=i:=by simp [Xr]; omega
  have htk:Xr (p.rim.take i) ++ [Qe (p.rim.getD i (0,0))]=Xr (p.rim.take (i+1)):=by rw [CB _ (0,0) hi2]; simp [Xr]
  rw [hlen,htk] at hap
  refine ⟨⟨fun j hj=>?_,by omega,by omega⟩,next (i+1) _ (by omega) (by omega) (XD (m:=2) (Nat.zero_le _) rfl (by simp [Xf]) (by simp [Xm,Xq,Xi,I]) (by rw [← hap]; rfl) (by simp [XA]) (by simp [XA,bp]) (by simp [bo,br]))⟩
  match j,hj with
  | 0,_=>rfl
  | 1,_=>rfl
  | 2,_=>rfl
  | 3,_=>rfl
  | 4,_=>rfl
  | 5,_=>rfl
  | 6,_=>rfl
  | 7,_=>rfl
  | j+8,h=>omega
 obtain rfl:i=p.rim.length:=by omega
 refine Xj ?_
 simp only [Q0,Int.lt_irrefl,Nat.lt_irrefl,↓X1,wF,seval]
 refine BU rfl ?_
 have hlen:(Xr p.rim).length=p.rim.length:=by simp [Xr]
 rw [hR,X5,hlen]
 refine Jk (n:=p.rim.length) (.inl rfl) (by omega) (fun h=>by rw [h]) fun j hj=>?_
 rw [List.take_length,Nat.zero_add]
 exact (Xe (hvc _) _).sees _
end
end Go.Ab.N
