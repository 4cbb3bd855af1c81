/- Contracts of functions, for arguments that fit. -/
import Derived.Test.YtefjhgcndhepeaaGreatC4
import Derived.Test.YtefjhgcndhepeaaGreatAb4
set_option linter.unusedSimpArgs false
set_option linter.unusedVariables false
open Nat renaming reducePow → Y1, reduceLT → Y2, reduceLeDiff → Y3, reduceEqDiff → Y4, reduceAdd → Y5, reduceMul → Y6, reduceSub → Y7, reduceBEq → Y8, reduceDiv → Y9, reduceMod → YA
namespace Go.Ab.N
open Go Go.RowKit Go.Proofs
noncomputable section
set_option maxRecDepth 10000
set_option maxHeartbeats 2000000
open Classical
theorem LM (x y:Int) (hx:bl x<1000000000) (hy:bl y<1000000000) (hy0:y≠0):Fn Tryz.prog 165 [zA x,zA y] (.tup [zA (x / y),zA (x % y)]):=by
 obtain ⟨L,dL,vL,lL,cd⟩:=Ue x.natAbs y.natAbs hx hy (by omega)
 obtain ⟨q,hq⟩:∃ q,q=x.natAbs / y.natAbs:=⟨_,rfl⟩
 obtain ⟨r,hr⟩:∃ r,r=x.natAbs % y.natAbs:=⟨_,rfl⟩
 have hry:r<y.natAbs:=by rw [hr]; exact Nat.mod_lt _ (by omega)
 have hqx:q≤x.natAbs:=by rw [hq]; exact Nat.div_le_self _ _
 rw [← hq] at vL
 rw [← hr] at cd
 have lr:(Xb r).length<1000000000:=by
  have:=Jh (y:=(r:Int)) (z:=y) (by omega)
  rw [K8] at this; omega
 have ly:(Xb y.natAbs).length<1000000000:=hy
 have lry:(Xb r).length≤(Xb y.natAbs).length:=by
  have:=Jh (y:=(r:Int)) (z:=y) (by omega)
  rw [K8] at this; exact this
 have y1:((Xb y.natAbs).length=0)=False:=eq_false (fun h=>by have:=digs_len_zero.1 h; omega)
 have y2:(((Xb y.natAbs).length:Int)=0)=False:=eq_false (fun h=>by have:=digs_len_zero.1 (show (Xb y.natAbs).length=0 by omega); omega)
 obtain ⟨q1,r1,h1⟩:∃ q1 r1,if x<0∧r≠0 then q1=q+1∧r1=y.natAbs - r else q1=q∧r1=r:=by
  by_cases h:x<0∧r≠0
  ·exact ⟨q+1,y.natAbs - r,by rw [if_pos h]; exact ⟨rfl,rfl⟩⟩
  ·exact ⟨q,r,by rw [if_neg h]; exact ⟨rfl,rfl⟩⟩
 obtain ⟨e1,e2⟩:=Le x y hy0 q r hq hr q1 r1 h1
 obtain ⟨s,hsg⟩:∃ s,s=(decide (x<0) != decide (y<0)):=⟨_,rfl⟩
 have hsg':(!(decide (x<0) == decide (y<0)))=s:=by rw [hsg]; cases decide (x<0) <;> cases decide (y<0) <;> rfl
 have c1:=JX s L dL (by omega)
 rw [vL] at c1
 have c2:=JX false (Xb r) (XN r) (by omega)
 rw [XG,show KD false (r:Int)=(r:Int) from rfl,J4] at c2
 obtain ⟨Q,hQ⟩:∃ Q,Q=zA (x / y):=⟨_,rfl⟩
 obtain ⟨R,hR⟩:∃ R,R=zA (x % y):=⟨_,rfl⟩
 have sQ:Settled Q:=hQ▸XL _
 have sR:Settled R:=hR▸XL _
 rw [← hQ,← hR]
 rw [e1,← hsg] at hQ
 rw [e2,J4] at hR
 have g1:∀ n:Nat,(0<(Xb n).length)=(n≠0):=fun n=>propext (by have:=@digs_len_zero n; omega)
 have fin:∀ {s':AS},QU Tryz.prog s' (.cell 4 26)=some (zA (KD s q1))→QU Tryz.prog s' (.cell 5 26)=some (.agg [.bool false,X8 (Xb r1)]) →
   RetOk (QI Tryz.prog Tryz.f165 [9,10000,100000009] [] (.tup [Q,R])) s':=fun h1 h2=>Jn rfl h1 h2 (QL sQ hQ.symm) (QL sR hR.symm)
 by_cases hc:x<0∧r≠0
 ·obtain ⟨hx0,hr0⟩:=hc
  rw [if_pos ⟨hx0,hr0⟩] at h1
  obtain ⟨rfl,rfl⟩:=h1
  have c3:=JX s [1] (KT.2 ⟨⟨by omega,by omega⟩,C3⟩) (by simp)
  rw [show val [(1:Int)]=1 by simp [val]] at c3
  have bq:bl (KD s (q:Int))<room:=by
   have h2:=Jh (y:=KD s (q:Int)) (z:=x) (by unfold KD; split <;> omega)
   unfold room; omega
  have c4:=Sr (KD s (q:Int)) (KD s 1) bq (by
   have:=Qy (n:=KD s 1) (by unfold KD; split <;> exact ⟨by omega,by omega⟩)
   unfold room; omega)
  rw [show KD s (q:Int)+KD s 1=KD s ((q+1:Nat):Int) by unfold KD; split <;> omega] at c4
  have cm:=EM (Xb y.natAbs) (Xb r) (XN _) (XN _) (by omega) lry (by rw [XG,XG]; omega)
  have vm:=BE (XN y.natAbs) (XN r) lry (by rw [XG,XG]; omega)
  rw [XG,XG] at vm
  have c5:=JX false (Zn (Xb y.natAbs) (Xb r)) (BD (XN _) (XN _)) (by unfold Zn; rw [Qf]; omega)
  rw [vm,show KD false ((y.natAbs:Int) - r)=((y.natAbs - r:Nat):Int) by unfold KD; simp; omega,J4] at c5
  have f1:(x<0)=True:=eq_true hx0
  have f2:(0<(Xb r).length)=True:=eq_true (by rw [g1]; exact hr0)
  have f3:(0<((Xb r).length:Int))=True:=eq_true (by have:=of_eq_true f2; omega)
  have hsT:(!(true == decide (y<0)))=s:=by rw [← hsg',decide_eq_true hx0]
  refine Fq Tryz.call165 Tryz.func165 10 [] [9,10000,100000009] [] (by simp [Kd,Xd,Xk]) (X0 1000 ?_); simp (maxSteps:=999999) only [AS.start,↓X2,wA,seval,zA,qA,qC,wN]
  simp only [y1,y2,f1,↓X2,wA,seval,zA,qA,qC,wN]
  refine X1 cd rfl ?_
  simp only [f1,decide_true,hsT,↓X2,wA,seval,zA,qA,qC,wN]
  refine X1 c1 rfl ?_
  simp only [f1,f2,f3,decide_true,↓X2,wA,seval,zA,qA,qC,wN]
  refine X1 c2 rfl ?_
  simp only [f1,f2,f3,hsT,decide_true,↓X2,wA,seval,zA,qA,qC,wN]
  refine XZ c3 ⟨Weak.rfl' _,A0 rfl rfl,trivial⟩ ?_
  simp only [↓X2,wA,seval,zA,qA,qC,wN]
  refine X1 c4 rfl ?_
  simp only [↓X2,wA,seval,zA,qA,qC,wN]
  refine X1 cm rfl ?_
  simp only [↓X2,wA,seval,zA,qA,qC,wN]
  refine X1 c5 rfl ?_
  simp only [↓X2,wA,seval,zA,qA,qC,wN]
  exact fin (Xq XX rfl rfl rfl) (Xq XX rfl rfl rfl)
 rw [if_neg hc] at h1
 obtain ⟨rfl,rfl⟩:=h1
 have zr:x<0→(0<(Xb r1).length)=False:=fun h=>eq_false (by rw [g1]; exact fun h2=>hc ⟨h,h2⟩)
 by_cases hx0:x<0
 ·have f1:(x<0)=True:=eq_true hx0
  have f2:=zr hx0
  have f3:(0<((Xb r1).length:Int))=False:=eq_false (by have:=of_eq_false f2; omega)
  have hsT:(!(true == decide (y<0)))=s:=by rw [← hsg',decide_eq_true hx0]
  refine Fq Tryz.call165 Tryz.func165 10 [] [9,10000,100000009] [] (by simp [Kd,Xd,Xk]) (X0 1000 ?_); simp (maxSteps:=999999) only [AS.start,↓X2,wA,seval,zA,qA,qC,wN]
  simp only [y1,y2,f1,↓X2,wA,seval,zA,qA,qC,wN]
  refine X1 cd rfl ?_
  simp only [f1,f2,f3,decide_true,hsT,↓X2,wA,seval,zA,qA,qC,wN]
  refine X1 c1 rfl ?_
  simp only [f1,f2,f3,decide_true,↓X2,wA,seval,zA,qA,qC,wN]
  refine X1 c2 rfl ?_
  simp only [f1,f2,f3,decide_true,↓X2,wA,seval,zA,qA,qC,wN]
  exact fin (Xq XX rfl rfl rfl) (Xq XX rfl rfl rfl)
 ·have f1:(x<0)=False:=eq_false hx0
  have hsT:(!(false == decide (y<0)))=s:=by rw [← hsg',decide_eq_false hx0]
  refine Fq Tryz.call165 Tryz.func165 10 [] [9,10000,100000009] [] (by simp [Kd,Xd,Xk]) (X0 1000 ?_); simp (maxSteps:=999999) only [AS.start,↓X2,wA,seval,zA,qA,qC,wN]
  simp only [y1,y2,f1,↓X2,wA,seval,zA,qA,qC,wN]
  refine X1 cd rfl ?_
  simp only [f1,decide_false,hsT,↓X2,wA,seval,zA,qA,qC,wN]
  refine X1 c1 rfl ?_
  simp only [f1,decide_false,↓X2,wA,seval,zA,qA,qC,wN]
  refine X1 c2 rfl ?_
  simp only [f1,decide_false,↓X2,wA,seval,zA,qA,qC,wN]
  exact fin (Xq XX rfl rfl rfl) (Xq XX rfl rfl rfl)
def KA (x y:Int) (p:Nat×Nat):AS :=
  ⟨12,[],[.any,.any,.ref 0 0 0,.ref 1 0 0,.ref 2 0 0,.ref 3 0 0,.ref 4 0 0,.any,.any,.any,.any,.any],[],
    [.row 0 2 (Xo [.bool (decide (x<0)),X8 (Xb x.natAbs)]),.row 0 2 (Xo [.bool (decide (y<0)),X8 (Xb y.natAbs)]),.row 0 2 (Xo [.bool false,.sl 0 0 (fun _=>.any) true]),
     .row 0 2 (Xo [.bool false,X8 (Xb p.1)]),.row 0 2 (Xo [.bool false,X8 (Xb p.2)])]⟩
def D6 (x y:Int) (A B:Nat) (p:Nat×Nat):AS :=
  ⟨12,[],[.any,.any,.ref 0 0 0,.ref 1 0 0,.ref 2 0 0,.ref 3 0 0,.ref 4 0 0,I p.1,I p.2,.any,.any,.any],[],
    [.row 0 2 (Xo [.bool (decide (x<0)),X8 (Xb x.natAbs)]),.row 0 2 (Xo [.bool (decide (y<0)),X8 (Xb y.natAbs)]),.row 0 2 (Xo [.bool false,.sl 0 0 (fun _=>.any) true]),
     .row 0 2 (Xo [.bool false,X8 (Xb A)]),.row 0 2 (Xo [.bool false,X8 (Xb B)])]⟩
theorem SD (x y:Int) (hx:bl x<1000000000) (hy:bl y<1000000000):Fn Tryz.prog 164 [zA x,zA y] (zA (Int.gcd x y)):=by
 have ofC:∀ n:Nat,(Xb n).length<1000000002→Fn Tryz.prog 168 [.bool false,X8 (Xb n)] (.agg [.bool false,X8 (Xb n)]):=fun n h=>by
  have:=JX false (Xb n) (XN n) (by omega)
  rw [XG] at this
  rw [← J4]; exact this
 unfold bl at hx hy
 have cx:=ofC x.natAbs (by omega)
 have cy:=ofC y.natAbs (by omega)
 obtain ⟨R,hR⟩:∃ R,R=zA (Int.gcd x y):=⟨_,rfl⟩
 have sR:Settled R:=hR▸XL _
 rw [← hR]
 rw [J4] at hR
 refine Fq Tryz.call164 Tryz.func164 12 [] [] [] (by simp [Kd,Xd,Xk]) (X0 1000 ?_); simp (maxSteps:=999999) only [AS.start,↓X2,wA,seval,zA,qA,qC,wN]
 refine X1 cx rfl ?_
 simp only [↓X2,wA,seval,zA,qA,qC,wN]
 refine X1 cy rfl ?_
 simp only [↓X2,wA,seval,zA,qA,qC,wN]
 refine Xg (KA x y) (mQ x y) (fun p=>p.2) (x.natAbs,y.natAbs) ⟨rfl,hx,hy⟩ ?_ ?_
 ·exact Xa rfl (by simp [KA,Xh]) (by simp [KA,Xi]) rfl
 rintro ⟨A,B⟩ ⟨g1,g2,g3⟩ next
 simp only at g1 g2 g3
 by_cases hB:B=0
 ·have f1:(0<(Xb B).length)=False:=eq_false (by have:=@digs_len_zero B; omega)
  have f2:(0<((Xb B).length:Int))=False:=eq_false (by have:=@digs_len_zero B; omega)
  refine X0 1000 ?_
  simp only [KA,f1,f2,↓X2,wA,seval,zA,qA,qC,wN]
  refine Qi rfl XX rfl rfl rfl hR sR ?_
  rw [hB,Nat.gcd_zero_right] at g1
  rw [← g1]
  exact ⟨Weak.rfl' _,Weak.rfl' _,trivial⟩
 have f1:(0<(Xb B).length)=True:=eq_true (by have:=@digs_len_zero B; omega)
 have f2:(0<((Xb B).length:Int))=True:=eq_true (by have:=@digs_len_zero B; omega)
 by_cases hAB:(Xb A).length≤2∧(Xb B).length≤2
 ·have c1:=ID _ (XN A) hAB.1
  have c2:=ID _ (XN B) hAB.2
  rw [XG] at c1 c2
  have k1:(((Xb A).length:Int)≤2)=True:=eq_true (by omega)
  have k2:(((Xb B).length:Int)≤2)=True:=eq_true (by omega)
  have l1:=ZQ hAB.1
  have l2:=ZQ hAB.2
  refine X0 1000 ?_
  simp only [KA,f1,f2,k1,k2,↓X2,wA,seval,zA,qA,qC,wN]
  refine X1 c1 rfl ?_
  simp only [↓X2,wA,seval,zA,qA,qC,wN]
  refine X1 c2 rfl ?_
  simp only [↓X2,wA,seval,zA,qA,qC,wN]
  refine Xg (D6 x y A B) (fun p=>Nat.gcd p.1 p.2=Int.gcd x y∧(p.1:Int)<1000000000000000000∧(p.2:Int)<1000000000000000000) (fun p=>p.2) (A,B) ⟨g1,l1,l2⟩ (Xa rfl (by simp [D6,Xh,I]) (by simp [D6,Xi]) rfl) ?_
  rintro ⟨m,n⟩ ⟨h1,h2,h3⟩ next2
  simp only at h1 h2 h3
  by_cases hn:n=0
  ·have j1:(0<(n:Int))=False:=eq_false (by omega)
   have j1':(0<n)=False:=eq_false (by omega)
   have hm:m=Int.gcd x y:=by rw [hn,Nat.gcd_zero_right] at h1; exact h1
   have cu:=D9 (m:Int) ⟨by omega,by omega⟩
   rw [J4] at cu
   refine X0 1000 ?_
   simp only [D6,j1,j1',↓X2,wA,seval,zA,qA,qC,wN]
   refine X1 cu rfl ?_
   simp only [↓X2,wA,seval,zA,qA,qC,wN]
   refine Qi rfl XX rfl rfl rfl hR sR ?_
   rw [← hm]
   exact ⟨Weak.rfl' _,Weak.rfl' _,trivial⟩
  ·have j1:(0<(n:Int))=True:=eq_true (by omega)
   have j1':(0<n)=True:=eq_true (by omega)
   have j2:((n:Int)=0)=False:=eq_false (by omega)
   have e2:(m:Int).tmod n=((m % n:Nat):Int):=rfl
   have hlt:m % n<n:=Nat.mod_lt _ (by omega)
   refine X0 1000 ?_
   simp only [D6,j1,j1',j2,e2,↓X2,wA,seval,zA,qA,qC,wN]
   refine next2 (n,m % n) _ ⟨?_,h3,by simp only; omega⟩ hlt (Xa rfl (by simp [D6,Xh,I]) (by simp [D6,Xi]) rfl)
   simp only
   rw [← h1,Nat.gcd_comm m n,Nat.gcd_rec n m,Nat.gcd_comm]
 ·have cd:=LM (A:Int) (B:Int) (by rw [K8]; exact g2) (by rw [K8]; exact g3) (by omega)
  rw [show (A:Int) / B=((A / B:Nat):Int) from rfl,show (A:Int) % B=((A % B:Nat):Int) from rfl,J4,J4,J4,J4] at cd
  have hlt:A % B<B:=Nat.mod_lt _ (by omega)
  have gnew:mQ x y (B,A % B):=by
   refine ⟨?_,g3,?_⟩
   ·simp only
    rw [← g1,Nat.gcd_comm A B,Nat.gcd_rec B A,Nat.gcd_comm]
   ·have:=Jh (y:=((A % B:Nat):Int)) (z:=(B:Int)) (by omega)
    rw [K8,K8] at this
    simp only; omega
  by_cases hA2:(Xb A).length≤2
  ·have k1:(((Xb A).length:Int)≤2)=True:=eq_true (by omega)
   have k2:(((Xb B).length:Int)≤2)=False:=eq_false fun h=>hAB ⟨hA2,by omega⟩
   refine X0 1000 ?_
   simp only [KA,f1,f2,k1,k2,↓X2,wA,seval,zA,qA,qC,wN]
   refine X1 cd rfl ?_
   simp only [↓X2,wA,seval,zA,qA,qC,wN]
   exact next (B,A % B) _ gnew hlt (Xr (m:=5) (Nat.zero_le _) rfl (by simp [zA,qA,qC,wN,KA,Xh,X8,Qu,I]) (by simp [zA,qA,qC,wN,KA,Xi]) (by simp [zA,qA,qC,wN,KA,X8,Qu,I]) (by simp [zA,qA,qC,wN,KA,Xv]) (by simp [zA,qA,qC,wN,KA,Xv]) (by simp [zA,qA,qC,wN,KA,Xv]))
  ·have k1:(((Xb A).length:Int)≤2)=False:=eq_false (by omega)
   refine X0 1000 ?_
   simp only [KA,f1,f2,k1,↓X2,wA,seval,zA,qA,qC,wN]
   refine X1 cd rfl ?_
   simp only [↓X2,wA,seval,zA,qA,qC,wN]
   exact next (B,A % B) _ gnew hlt (Xr (m:=5) (Nat.zero_le _) rfl (by simp [zA,qA,qC,wN,KA,Xh,X8,Qu,I]) (by simp [zA,qA,qC,wN,KA,Xi]) (by simp [zA,qA,qC,wN,KA,X8,Qu,I]) (by simp [zA,qA,qC,wN,KA,Xv]) (by simp [zA,qA,qC,wN,KA,Xv]) (by simp [zA,qA,qC,wN,KA,Xv]))
theorem SL (n1 n2:Bool) (a b:List Int) (la:a.length<4611686018427387904) (lb:b.length<4611686018427387904):Fn Tryz.prog 174 [zR n1 a,zR n2 b] (.bool (decide (n1=n2) && decide (a=b))):=by
 obtain ⟨V,hV⟩:∃ V,V=(decide (n1=n2) && decide (a=b)):=⟨_,rfl⟩
 rw [← hV]
 have fin:∀ {s:AS} {v:Bool},s.get 4=.bool v→v=V→RetOk (QI Tryz.prog Tryz.f174 [] [] (.bool V)) s:=fun h e=>Xt rfl h (X3 _) (by rw [e])
 refine Fq Tryz.call174 Tryz.func174 6 [] [] [] (by simp [Xk]) (X0 1000 ?_)
 by_cases hn:n1=n2
 rotate_left
 ·have hb:(!(n1 == n2))=true:=by simp [hn]
  simp only [AS.start,zR,hb,↓X2,wA,seval,zA,qA,qC,wN]
  exact fin rfl (by rw [hV,decide_eq_false hn]; rfl)
 subst hn
 have hb:(!(n1 == n1))=false:=by simp
 by_cases hl:a.length=b.length
 rotate_left
 ·have f1:((a.length:Int)=b.length)=False:=eq_false (by omega)
  have f1':(a.length=b.length)=False:=eq_false hl
  simp only [AS.start,zR,hb,f1,f1',↓X2,wA,seval,zA,qA,qC,wN]
  exact fin rfl (by rw [hV,decide_eq_false (show ¬ a=b from fun e=>hl (by rw [e])),Bool.and_false])
 have f1:((a.length:Int)=b.length)=True:=eq_true (by omega)
 have f1':(a.length=b.length)=True:=eq_true hl
 simp only [AS.start,zR,hb,f1,f1',↓X2,wA,seval,zA,qA,qC,wN]
 refine Xg (fun j:Nat=>⟨6,[],[.any,.any,.ref 0 0 0,.ref 1 0 0,.any,I j],[],[.row 0 2 (Xo [.bool n1,X8 a]),.row 0 2 (Xo [.bool n1,X8 b])]⟩) (fun j=>j≤a.length∧∀ i,i<j→a.getD i 0=b.getD i 0) (fun j=>a.length - j) 0 ⟨by omega,by omega⟩
  (Xa rfl (by simp [Xh,X8,Qu,I]) (by simp [Xi]) rfl) ?_
 rintro j ⟨hj,hno⟩ next
 have w1:=wj j (by omega)
 by_cases hj2:j<a.length
 ·have f2:((j:Int)<a.length)=True:=eq_true (by omega)
  have f3:(j<a.length)=True:=eq_true hj2
  have f4:(j<b.length)=True:=eq_true (by omega)
  refine X0 1000 ?_
  simp only [w1,f2,f3,f4,↓X2,wA,seval,zA,qA,qC,wN]
  refine ⟨fun h=>fin rfl ?_,fun h=>next (j+1) _ ⟨by omega,fun i hi=>?_⟩ (by omega) (Xa rfl (by simp [Xh,X8,Qu,I]) (by simp [Xi]) rfl)⟩
  ·rw [hV,decide_eq_false (show ¬ a=b from fun e=>h (by rw [e])),Bool.and_false]
  ·by_cases e:i=j
   ·rw [e]; exact h
   ·exact hno i (by omega)
 ·have f2:((j:Int)<a.length)=False:=eq_false (by omega)
  have f3:(j<a.length)=False:=eq_false hj2
  refine X0 1000 ?_
  simp only [w1,f2,f3,↓X2,wA,seval,zA,qA,qC,wN]
  refine fin rfl ?_
  have:a=b:=List.ext_getElem hl fun i h1 h2=>by
   have:=hno i (by omega)
   rw [List.getD_eq_getElem?_getD,List.getElem?_eq_getElem h1,List.getD_eq_getElem?_getD,List.getElem?_eq_getElem h2] at this
   exact this
  rw [hV,decide_eq_true this]; simp
theorem bI (x y:RQ) (hx:x.sz<4611686018427387904) (hy:y.sz<4611686018427387904):Fn Tryz.prog 86 [x.A,y.A] (.bool (decide (x=y))):=by
 have c1:=SL x.pn y.pn x.pd y.pd (by unfold RQ.sz at hx; omega) (by unfold RQ.sz at hy; omega)
 have c2:=SL x.qn y.qn x.qd y.qd (by unfold RQ.sz at hx; omega) (by unfold RQ.sz at hy; omega)
 obtain ⟨V,hV⟩:∃ V,V=decide (x=y):=⟨_,rfl⟩
 rw [← hV]
 have e:=RQ.eq_iff x y
 obtain ⟨B1,hB1⟩:∃ B,B=(decide (x.pn=y.pn) && decide (x.pd=y.pd)):=⟨_,rfl⟩
 obtain ⟨B2,hB2⟩:∃ B,B=(decide (x.qn=y.qn) && decide (x.qd=y.qd)):=⟨_,rfl⟩
 rw [← hB1] at c1
 rw [← hB2] at c2
 have hVB:V=(B1 && B2):=by
  rw [hV,hB1,hB2]
  simp only [e,Bool.decide_and]
 refine Fq Tryz.call86 Tryz.func86 5 [] [] [] (by simp [Dc]) (X0 1000 ?_)
 simp only [AS.start,RQ.A,RQ.L,↓X2,wA,seval,zA,qA,qC,wN]
 refine X1 c1 rfl ?_
 cases B1
 ·simp only [↓X2,wA,seval,zA,qA,qC,wN]
  exact Xt (v:=.bool false) rfl rfl (X3 _) (by rw [hVB]; rfl)
 ·simp only [↓X2,wA,seval,zA,qA,qC,wN]
  refine X1 c2 rfl ?_
  simp only [↓X2,wA,seval,zA,qA,qC,wN]
  exact Xt (v:=.bool B2) rfl rfl (X3 _) (by rw [hVB]; rfl)
theorem S8 (neg:Bool) (d:List Int):Fn Tryz.prog 167 [zR neg d] (.bool (!neg && decide (d=[1]))):=by
 have hone:(d=[1])↔d.length=1∧d.getD 0 0=1:=by
  constructor
  ·rintro rfl; exact ⟨rfl,rfl⟩
  ·rintro ⟨h1,h2⟩
   obtain ⟨x,rfl⟩:=List.length_eq_one_iff.1 h1
   rw [show x=1 from h2]
 obtain ⟨V,hV⟩:∃ V,V=(!neg && decide (d=[1])):=⟨_,rfl⟩
 rw [← hV]
 have fin:∀ {s:AS} {v:Bool},s.get 2=.bool v→v=V→RetOk (QI Tryz.prog Tryz.f167 [] [] (.bool V)) s:=fun h e=>Xt rfl h (X3 _) (by rw [e])
 by_cases h0:d.length=1
 ·have f1:(d.length=1)=True:=eq_true h0
  have f2:((d.length:Int)=1)=True:=eq_true (by omega)
  have f3:(0<d.length)=True:=eq_true (by omega)
  have f4:(0<(d.length:Int))=True:=eq_true (by omega)
  refine Fq Tryz.call167 Tryz.func167 3 [] [] [] (by simp [Xk]) (X0 1000 ?_)
  cases neg
  all_goals
   simp only [AS.start,zR,f1,f2,f3,f4,↓X2,wA,seval,zA,qA,qC,wN]
   exact fin rfl (by rw [hV]; simp [hone,h0])
 ·have f1:(d.length=1)=False:=eq_false h0
  have f2:((d.length:Int)=1)=False:=eq_false (by omega)
  have hne:¬ d=[1]:=fun h=>h0 (hone.1 h).1
  refine Fq Tryz.call167 Tryz.func167 3 [] [] [] (by simp [Xk]) (X0 1000 ?_)
  cases neg
  all_goals
   simp only [AS.start,zR,f1,f2,↓X2,wA,seval,zA,qA,qC,wN]
   exact fin rfl (by rw [hV]; simp [hne])
theorem OP (z:Int):Fn Tryz.prog 167 [zA z] (.bool (decide (z=1))):=by
 have:=S8 (decide (z<0)) (Xb z.natAbs)
 rw [Ph] at this; exact this
theorem EC (p q:Int) (hp:bl p<1000000000) (hq:bl q<1000000000):Fn Tryz.prog 77 [zA p,zA q] (qA (Rat.divInt p q)):=by
 obtain ⟨R,hR⟩:∃ R,R=qA (Rat.divInt p q):=⟨_,rfl⟩
 have sR:Settled R:=hR▸Xd _
 have zp:(((Xb p.natAbs).length:Int)=0)=(p=0):=propext (by have:=@digs_len_zero p.natAbs; omega)
 have zq:(((Xb q.natAbs).length:Int)=0)=(q=0):=propext (by have:=@digs_len_zero q.natAbs; omega)
 have z0:p=0∨q=0→R=.agg [.bool false,X8 [],.bool false,X8 []]:=by
  intro h
  rw [hR,← OT]
  rcases h with rfl | rfl
  ·rw [Rat.zero_divInt]
  ·rw [Rat.divInt_zero]
 rw [← hR]
 by_cases hq0:q=0
 ·have f1:(q=0)=True:=eq_true hq0
  refine Fq Tryz.call77 Tryz.func77 10 [] [] [] (by simp [Kd,Xd,Xk]) (X0 1000 ?_); simp (maxSteps:=999999) only [AS.start,↓X2,wA,seval,zA,qA,qC,wN]
  simp only [zq,f1,↓X2,wA,seval,zA,qA,qC,wN]
  exact Qi rfl Qd rfl rfl rfl (z0 (.inr hq0)) sR ⟨Weak.rfl' _,Qo _ _,Weak.rfl' _,Qo _ _,trivial⟩
 have f1:(q=0)=False:=eq_false hq0
 by_cases hp0:p=0
 ·have f3:(p=0)=True:=eq_true hp0
  refine Fq Tryz.call77 Tryz.func77 10 [] [] [] (by simp [Kd,Xd,Xk]) (X0 1000 ?_); simp (maxSteps:=999999) only [AS.start,↓X2,wA,seval,zA,qA,qC,wN]
  simp only [zp,zq,f1,f3,↓X2,wA,seval,zA,qA,qC,wN]
  exact Qi rfl Qd rfl rfl rfl (z0 (.inl hp0)) sR ⟨Weak.rfl' _,Qo _ _,Weak.rfl' _,Qo _ _,trivial⟩
 have f3:(p=0)=False:=eq_false hp0
 have cg:=SD p q hp hq
 obtain ⟨g,hg⟩:∃ g:Int,g=Int.gcd p q:=⟨_,rfl⟩
 have hg0:0<Int.gcd p q:=Int.gcd_pos_of_ne_zero_right _ hq0
 have hgq:bl g≤bl q:=Jh (by
  have:=Nat.le_of_dvd (by omega) (Int.gcd_dvd_natAbs_right p q)
  omega)
 rw [← hg] at cg
 obtain ⟨d1,d2,d3⟩:=Dj p q hq0 g hg
 have c1:=LM p g hp (by omega) (by omega)
 have c2:=LM q g hq (by omega) (by omega)
 obtain ⟨u,hu⟩:∃ u,u=p / g:=⟨_,rfl⟩
 obtain ⟨v,hv⟩:∃ v,v=q / g:=⟨_,rfl⟩
 have hub:bl u≤bl p:=Jh (by rw [hu]; exact Int.natAbs_ediv_le_natAbs p g)
 have hvb:bl v≤bl q:=Jh (by rw [hv]; exact Int.natAbs_ediv_le_natAbs q g)
 rw [← hu] at c1 d1 d2
 rw [← hv] at c2 d1 d2 d3
 obtain ⟨e1,e2⟩:=Lc u v d3 d2
 have key:∀ p' q':Int,p'=v.sign*u→q'=v.natAbs→(q'=1→R=.agg [.bool (decide (p'<0)),X8 (Xb p'.natAbs),.bool false,X8 []])∧(¬ q'=1→R=.agg [.bool (decide (p'<0)),X8 (Xb p'.natAbs),.bool false,X8 (Xb q'.natAbs)]):=by
  intro p' q' hp' hq'
  constructor
  ·intro h
   rw [hR,← d1,LH (by omega),e1,hp']
  ·intro h
   rw [hR,← d1,Wh (by omega),e1,hp',e2,hq',Int.natAbs_natCast]
 by_cases hneg:v<0
 ·have g1:(v<0)=True:=eq_true hneg
  obtain ⟨k1,k2⟩:=key (-u) (-v) (by rw [Int.sign_eq_neg_one_of_neg hneg]; omega) (by omega)
  have co:=OP (-v)
  have cn1:=LW u (by unfold room; omega)
  have cn2:=LW v (by unfold room; omega)
  rw [pD hneg] at cn2 c2
  have f5:decide (-v<0)=false:=decide_eq_false (by omega)
  by_cases h1:-v=1
  ·simp only [h1,decide_true] at co
   have hk:=k1 h1
   rw [h1] at cn2
   refine Fq Tryz.call77 Tryz.func77 10 [] [] [] (by simp [Kd,Xd,Xk]) (X0 1000 ?_); simp (maxSteps:=999999) only [AS.start,↓X2,wA,seval,zA,qA,qC,wN]
   simp only [zp,zq,f1,f3,↓X2,wA,seval,zA,qA,qC,wN]
   refine X1 cg rfl ?_
   simp only [↓X2,wA,seval,zA,qA,qC,wN]
   refine X1 c1 rfl ?_
   simp only [↓X2,wA,seval,zA,qA,qC,wN]
   refine X1 c2 rfl ?_
   simp only [↓X2,wA,seval,zA,qA,qC,wN]
   refine X1 cn1 rfl ?_
   simp only [↓X2,wA,seval,zA,qA,qC,wN]
   refine X1 cn2 rfl ?_
   simp only [↓X2,wA,seval,zA,qA,qC,wN]
   refine X1 co rfl ?_
   simp only [↓X2,wA,seval,zA,qA,qC,wN]
   exact Qi rfl Qd rfl rfl rfl hk sR ⟨Weak.rfl' _,Weak.rfl' _,Weak.rfl' _,Qo _ _,trivial⟩
  ·simp only [h1,decide_false] at co
   have hk:=k2 h1
   refine Fq Tryz.call77 Tryz.func77 10 [] [] [] (by simp [Kd,Xd,Xk]) (X0 1000 ?_); simp (maxSteps:=999999) only [AS.start,↓X2,wA,seval,zA,qA,qC,wN]
   simp only [zp,zq,f1,f3,↓X2,wA,seval,zA,qA,qC,wN]
   refine X1 cg rfl ?_
   simp only [↓X2,wA,seval,zA,qA,qC,wN]
   refine X1 c1 rfl ?_
   simp only [↓X2,wA,seval,zA,qA,qC,wN]
   refine X1 c2 rfl ?_
   simp only [↓X2,wA,seval,zA,qA,qC,wN]
   refine X1 cn1 rfl ?_
   simp only [↓X2,wA,seval,zA,qA,qC,wN]
   refine X1 cn2 rfl ?_
   simp only [↓X2,wA,seval,zA,qA,qC,wN]
   refine X1 co rfl ?_
   simp only [↓X2,wA,seval,zA,qA,qC,wN]
   exact JB rfl Qd rfl rfl rfl sR (by rw [hk,f5]; rfl)
 ·have g1:(v<0)=False:=eq_false hneg
  obtain ⟨k1,k2⟩:=key u v (by rw [Int.sign_eq_one_of_pos (by omega)]; omega) (by omega)
  have co:=OP v
  rw [WG hneg] at co c2
  by_cases h1:v=1
  ·simp only [h1,decide_true] at co
   have hk:=k1 h1
   rw [h1] at c2
   refine Fq Tryz.call77 Tryz.func77 10 [] [] [] (by simp [Kd,Xd,Xk]) (X0 1000 ?_); simp (maxSteps:=999999) only [AS.start,↓X2,wA,seval,zA,qA,qC,wN]
   simp only [zp,zq,f1,f3,↓X2,wA,seval,zA,qA,qC,wN]
   refine X1 cg rfl ?_
   simp only [↓X2,wA,seval,zA,qA,qC,wN]
   refine X1 c1 rfl ?_
   simp only [↓X2,wA,seval,zA,qA,qC,wN]
   refine X1 c2 rfl ?_
   simp only [↓X2,wA,seval,zA,qA,qC,wN]
   refine X1 co rfl ?_
   simp only [↓X2,wA,seval,zA,qA,qC,wN]
   exact Qi rfl Qd rfl rfl rfl hk sR ⟨Weak.rfl' _,Weak.rfl' _,Weak.rfl' _,Qo _ _,trivial⟩
  ·simp only [h1,decide_false] at co
   have hk:=k2 h1
   refine Fq Tryz.call77 Tryz.func77 10 [] [] [] (by simp [Kd,Xd,Xk]) (X0 1000 ?_); simp (maxSteps:=999999) only [AS.start,↓X2,wA,seval,zA,qA,qC,wN]
   simp only [zp,zq,f1,f3,↓X2,wA,seval,zA,qA,qC,wN]
   refine X1 cg rfl ?_
   simp only [↓X2,wA,seval,zA,qA,qC,wN]
   refine X1 c1 rfl ?_
   simp only [↓X2,wA,seval,zA,qA,qC,wN]
   refine X1 c2 rfl ?_
   simp only [↓X2,wA,seval,zA,qA,qC,wN]
   refine X1 co rfl ?_
   simp only [↓X2,wA,seval,zA,qA,qC,wN]
   exact JB rfl Qd rfl rfl rfl sR (by rw [hk]; rfl)
theorem QX (p q:Int) (hp:Ks p) (hq:Ks q):Fn Tryz.prog 16 [I p,I q] (qA (Rat.divInt p q)):=by
 obtain ⟨R,hR⟩:∃ R,R=qA (Rat.divInt p q):=⟨_,rfl⟩
 have sR:Settled R:=hR▸Xd _
 have cm:=EC p q (by have:=Qy hp; omega) (by have:=Qy hq; omega)
 rw [← hR] at cm ⊢
 refine Fq Tryz.call16 Tryz.func16 5 [] [] [] (by simp [Kd,Xd,Xk]) (X0 1000 ?_); simp (maxSteps:=999999) only [AS.start,↓X2,wA,seval,zA,qA,qC,wN]
 refine X1 (D9 p hp) rfl ?_
 simp only [↓X2,wA,seval,zA,qA,qC,wN]
 refine X1 (D9 q hq) rfl ?_
 simp only [↓X2,wA,seval,zA,qA,qC,wN]
 refine X1 cm rfl ?_
 simp only [hR,↓X2,wA,seval,zA,qA,qC,wN]
 exact JB rfl Qd rfl rfl rfl sR (hR.trans rfl)
structure V2 where
 x:Rat
 y:Rat
def vC (v:V2):List AV:=[.bool (decide (v.x.num<0)),X8 (Xb v.x.num.natAbs),.bool false,X8 (Xb (qd v.x)),.bool (decide (v.y.num<0)),X8 (Xb v.y.num.natAbs),.bool false,X8 (Xb (qd v.y))]
def vA (v:V2):AV:=.agg (vC v)
theorem Xm (v:V2):Settled (vA v):=Qm (by simp [vC,X7,X3])
def vb (v:V2):Nat:=max (qb v.x) (qb v.y)
theorem Qv (v:V2):qb v.x≤vb v:=Nat.le_max_left _ _
theorem Qn (v:V2):qb v.y≤vb v:=Nat.le_max_right _ _
def V2.sub (a b:V2):V2:=⟨a.x - b.x,a.y - b.y⟩
def V2.add (a b:V2):V2:=⟨a.x+b.x,a.y+b.y⟩
def Qq (a b:V2):Rat:=a.x*b.y - a.y*b.x
def Q9 (a b:V2):Rat:=a.x*b.x+a.y*b.y
def Jg (a b c:V2):Int:=(Qq (b.sub a) (c.sub a)).num.sign
theorem Kc (a b:V2):vb (a.sub b)≤vb a+vb b+1:=by
 have:=FA a.x b.x; have:=FA a.y b.y
 have:=Qv a; have:=Qv b; have:=Qn a; have:=Qn b
 unfold V2.sub
 show max (qb (a.x - b.x)) (qb (a.y - b.y))≤_
 omega
theorem Bb (a b:V2):vb (a.add b)≤vb a+vb b+1:=by
 have:=JL a.x b.x; have:=JL a.y b.y
 have:=Qv a; have:=Qv b; have:=Qn a; have:=Qn b
 unfold V2.add
 show max (qb (a.x+b.x)) (qb (a.y+b.y))≤_
 omega
theorem CC (a b:V2):qb (Qq a b)≤2*(vb a+vb b)+1:=by
 have:=QA a.x b.y; have:=QA a.y b.x
 have:=Qv a; have:=Qv b; have:=Qn a; have:=Qn b
 have:=FA (a.x*b.y) (a.y*b.x)
 unfold Qq; omega
theorem Ac (a b:V2):qb (Q9 a b)≤2*(vb a+vb b)+1:=by
 have:=QA a.x b.x; have:=QA a.y b.y
 have:=Qv a; have:=Qv b; have:=Qn a; have:=Qn b
 have:=JL (a.x*b.x) (a.y*b.y)
 unfold Q9; omega
theorem Ad:qb 0≤1:=KW 0 1 (Nat.le_refl _) (by unfold bl; simp [Q2])
theorem Ze {H:List AO} {a b:AV} (h:Weak a b):ZK H a b:=fun c v _ _ hv=>h c v hv
theorem Qw {l:List Int} {f:Nat→AV} {t:Bool} (h:l=[]):Weak (.sl 0 0 f t) (X8 l):=by rw [h]; exact Qo _ _
theorem Gs (a b:Rat) (ha:qb a≤10000000) (hb:qb b≤10000000):Fn Tryz.prog 117 [.sl 2 8 (Xo (qC a ++ qC b)) false] (qA (a+b)):=by
 obtain ⟨R,hR⟩:∃ R,R=qA (a+b):=⟨_,rfl⟩
 have sR:Settled R:=hR▸Xd _
 have q0:=Ad
 have c1:=Bk 0 a (by unfold rm; omega) (by unfold rm; omega)
 have c2:=Bk a b (by unfold rm; omega) (by unfold rm; omega)
 rw [Rat.zero_add] at c1
 rw [← hR] at c2 ⊢
 have hset:Settled (.sl 2 8 (Xo (qC a ++ qC b)) false):=J9 fun j hj=>by
  unfold Xo qC
  match j,hj with
  | 0,_=>exact X3 _
  | 1,_=>exact X7 _
  | 2,_=>exact X3 _
  | 3,_=>exact X7 _
  | 4,_=>exact X3 _
  | 5,_=>exact X7 _
  | 6,_=>exact X3 _
  | 7,_=>exact X7 _
  | j+8,h=>omega
 have bel2:JJ 2 (.sl 2 8 (Xo (qC a ++ qC b)) false):=X6 hset
 simp only [qC,List.cons_append,List.nil_append] at bel2
 have z1:((1:Nat):Int)=1:=rfl
 have z2:((2:Nat):Int)=2:=rfl
 have wr1:IntKind.i64.wrap 1=1:=by rw [IntKind.wrap_i64]; omega
 have wr2:IntKind.i64.wrap 2=2:=by rw [IntKind.wrap_i64]; omega
 refine Fn.intro (fn:=Tryz.f117) Tryz.call117 Tryz.func117 rfl mixed 6 [6,7,8] [] [] (by kernel_rfl) (Nat.le_of_ble_eq_true rfl) (by simpa using hset) (X0 1000 ?_)
 simp only [AS.start,↓X2,wA,↓reduceIte,reduceIte,reduceCtorEq,Y1,Y2,Y3,Y4,Y5,Y6,Y7,Y8,Y9,YA,zA,qA,qC,vA,vC,wN]
 refine Xg (fun i:Nat=>⟨6,[6,7,8],[.any,.any,.ref 0 0 0,.ref 1 0 0,.any,.any],[(6,.sl 2 8 (Xo (qC a ++ qC b)) false),(7,I 2),(8,I i)],
  [.row 0 4 (Xo [.bool false,.sl 0 0 (fun _=>.any) true,.bool false,.sl 0 0 (fun _=>.any) true]),.row 0 4 (Xo (qC (if i=0 then 0 else if i=1 then a else a+b)))]⟩) (fun i=>i≤2) (fun i=>2 - i) 0 (by omega) ?_ ?_
 ·refine (ZF 1 (Xo (qC 0)) rfl fun j hj=>?_).trans (Xa rfl (by simp [Xh,qC,X8,Qu]) (by simp [Xi,Xz,qC,X8,Qu,I]) (by simp))
  match j,hj with
  | 0,_=>exact J1 _ _
  | 1,_=>exact Ze (Qw (by rw [Rat.zero_num]; simp [Q2]))
  | 2,_=>exact J1 _ _
  | 3,_=>exact Ze (Qw (D3 rfl))
  | j+4,h=>omega
 intro i hi next
 rcases (show i=0∨i=1∨i=2 by omega) with rfl | rfl | rfl
 ·refine X0 1000 ?_
  simp only [ite_true,z1,z2,wr1,wr2,Int.reduceLT,Int.reduceAdd,↓X2,wA,↓reduceIte,reduceIte,reduceCtorEq,Y1,Y2,Y3,Y4,Y5,Y6,Y7,Y8,Y9,YA,zA,qA,qC,vA,vC,wN]
  refine X1 c1 rfl ?_
  simp only [z1,z2,wr1,wr2,Int.reduceAdd,↓X2,wA,↓reduceIte,reduceIte,reduceCtorEq,Y1,Y2,Y3,Y4,Y5,Y6,Y7,Y8,Y9,YA,zA,qA,qC,vA,vC,wN]
  exact next 1 _ (by omega) (by omega) (Xr (m:=2) (Nat.zero_le _) rfl (by simp [qC,Xh,X8,Qu,I]) (by simp [qC,Xi,Xz,X8,Qu,I]) (by simp [qC,X8,Qu,I]) (by simp [Xv]) (by simp [qC,Xv,bel2]) (by simp [qC,Xv]))
 ·have e1:((1:Nat)=0)=False:=eq_false (by omega)
  refine X0 1000 ?_
  simp only [e1,ite_true,ite_false,z1,z2,wr1,wr2,Int.reduceLT,Int.reduceAdd,↓X2,wA,↓reduceIte,reduceIte,reduceCtorEq,Y1,Y2,Y3,Y4,Y5,Y6,Y7,Y8,Y9,YA,zA,qA,qC,vA,vC,wN]
  refine ⟨by omega,X1 c2 rfl ?_⟩
  simp only [hR,z1,z2,wr1,wr2,Int.reduceAdd,↓X2,wA,↓reduceIte,reduceIte,reduceCtorEq,Y1,Y2,Y3,Y4,Y5,Y6,Y7,Y8,Y9,YA,zA,qA,qC,vA,vC,wN]
  exact next 2 _ (by omega) (by omega) (Xr (m:=2) (Nat.zero_le _) rfl (by simp [qC,Xh,X8,Qu,I]) (by simp [qC,Xi,Xz,X8,Qu,I]) (by simp [qC,X8,Qu,I]) (by simp [Xv]) (by simp [qC,Xv,bel2]) (by simp [qC,Xv]))
 ·have e1:((2:Nat)=0)=False:=eq_false (by omega)
  have e2:((2:Nat)=1)=False:=eq_false (by omega)
  refine X0 1000 ?_
  simp only [e1,e2,ite_false,z1,z2,wr1,wr2,Int.reduceLT,Int.reduceAdd,↓X2,wA,↓reduceIte,reduceIte,reduceCtorEq,Y1,Y2,Y3,Y4,Y5,Y6,Y7,Y8,Y9,YA,zA,qA,qC,vA,vC,wN]
  exact JB rfl Qd rfl rfl rfl sR (hR.trans rfl)
def vm:Nat:=1000000
theorem ZB {P:Program} {fn:Func} {str hcs:List Nat} {r:AV} {s:AS} {t u id ver n:Nat} {L:List AV} (hr:fn.results=#[.cell t u]) (hk:C4 P u=some (some n)) (hs:s.get t=.ref id ver 0)
  (ho:s.h[id]?=some (.row ver n (Xo L))) (hn:L.length=n) (hset:Settled r) (e:r=.agg L):RetOk (QI P fn str hcs r) s:=Qi hr hk hs ho hn e hset (Q0 L)
theorem CY (a b:V2) (ha:vb a≤rm) (hb:vb b≤rm):Fn Tryz.prog 44 [vA a,vA b] (vA (a.sub b)):=by
 obtain ⟨R,hR⟩:∃ R,R=vA (a.sub b):=⟨_,rfl⟩
 have sR:Settled R:=hR▸Xm _
 have:=Qv a; have:=Qv b; have:=Qn a; have:=Qn b
 have c1:=P6 a.x b.x (by omega) (by omega)
 have c2:=P6 a.y b.y (by omega) (by omega)
 rw [← hR]
 refine Fq Tryz.call44 Tryz.func44 5 [] [] [] (by simp [X7,X9,JZ,Jo,X3,K1,XL,Xd,Xm,Xk,K2,Js]) (X0 1000 ?_); simp (maxSteps:=999999) only [AS.start,↓X2,wA,↓reduceIte,reduceIte,reduceCtorEq,Y1,Y2,Y3,Y4,Y5,Y6,Y7,Y8,Y9,YA,zA,qA,qC,vA,vC,wN]
 refine X1 c1 rfl ?_
 simp only [↓X2,wA,↓reduceIte,reduceIte,reduceCtorEq,Y1,Y2,Y3,Y4,Y5,Y6,Y7,Y8,Y9,YA,zA,qA,qC,vA,vC,wN]
 refine X1 c2 rfl ?_
 simp only [↓X2,wA,↓reduceIte,reduceIte,reduceCtorEq,Y1,Y2,Y3,Y4,Y5,Y6,Y7,Y8,Y9,YA,zA,qA,qC,vA,vC,wN]
 exact ZB rfl Jr rfl rfl rfl sR (hR.trans rfl)
theorem He (x y:Int) (hx:Ks x) (hy:Ks y):Fn Tryz.prog 120 [I x,I y] (vA ⟨x,y⟩):=by
 have e:∀ n:Int,Rat.divInt n 1=(n:Rat):=fun n=>by
  rw [show (1:Int)=((1:Nat):Int) from rfl,Rat.divInt_ofNat]
  have:=Rat.mkRat_self (n:Rat)
  rwa [Rat.num_intCast,Rat.den_intCast] at this
 obtain ⟨R,hR⟩:∃ R,R=vA ⟨x,y⟩:=⟨_,rfl⟩
 have sR:Settled R:=hR▸Xm _
 have c1:=FC x 1 hx ⟨by omega,by omega⟩
 have c2:=FC y 1 hy ⟨by omega,by omega⟩
 rw [e] at c1 c2
 rw [← hR]
 refine Fq Tryz.call120 Tryz.func120 5 [] [] [] (by simp [X7,X9,JZ,Jo,X3,K1,XL,Xd,Xm,Xk,K2,Js]) (X0 1000 ?_); simp (maxSteps:=999999) only [AS.start,↓X2,wA,↓reduceIte,reduceIte,reduceCtorEq,Y1,Y2,Y3,Y4,Y5,Y6,Y7,Y8,Y9,YA,zA,qA,qC,vA,vC,wN]
 refine X1 c1 rfl ?_
 simp only [↓X2,wA,↓reduceIte,reduceIte,reduceCtorEq,Y1,Y2,Y3,Y4,Y5,Y6,Y7,Y8,Y9,YA,zA,qA,qC,vA,vC,wN]
 refine X1 c2 rfl ?_
 simp only [↓X2,wA,↓reduceIte,reduceIte,reduceCtorEq,Y1,Y2,Y3,Y4,Y5,Y6,Y7,Y8,Y9,YA,zA,qA,qC,vA,vC,wN]
 exact ZB rfl Jr rfl rfl rfl sR (hR.trans rfl)
theorem Hd (a b:V2) (ha:vb a≤vm) (hb:vb b≤vm):Fn Tryz.prog 159 [vA a,vA b] (qA (Qq a b)):=by
 unfold vm at ha hb
 obtain ⟨R,hR⟩:∃ R,R=qA (Qq a b):=⟨_,rfl⟩
 have sR:Settled R:=hR▸Xd _
 have:=Qv a; have:=Qv b; have:=Qn a; have:=Qn b
 have m1:=QA a.x b.y; have m2:=QA a.y b.x
 have c1:=KC a.x b.y (by unfold rm; omega) (by unfold rm; omega)
 have c2:=KC a.y b.x (by unfold rm; omega) (by unfold rm; omega)
 have c3:=D8 (a.y*b.x)
 have c4:=Gs (a.x*b.y) (-(a.y*b.x)) (by omega) (by rw [BI]; omega)
 rw [← Rat.sub_eq_add_neg,show a.x*b.y - a.y*b.x=Qq a b from rfl,← hR] at c4
 rw [← hR]
 refine Fq Tryz.call159 Tryz.func159 5 [] [] [] (by simp [X7,X9,JZ,Jo,X3,K1,XL,Xd,Xm,Xk,K2,Js]) (X0 1000 ?_); simp (maxSteps:=999999) only [AS.start,↓X2,wA,↓reduceIte,reduceIte,reduceCtorEq,Y1,Y2,Y3,Y4,Y5,Y6,Y7,Y8,Y9,YA,zA,qA,qC,vA,vC,wN]
 refine X1 c1 rfl ?_
 simp only [↓X2,wA,↓reduceIte,reduceIte,reduceCtorEq,Y1,Y2,Y3,Y4,Y5,Y6,Y7,Y8,Y9,YA,zA,qA,qC,vA,vC,wN]
 refine X1 c2 rfl ?_
 simp only [↓X2,wA,↓reduceIte,reduceIte,reduceCtorEq,Y1,Y2,Y3,Y4,Y5,Y6,Y7,Y8,Y9,YA,zA,qA,qC,vA,vC,wN]
 refine X1 c3 rfl ?_
 simp only [↓X2,wA,↓reduceIte,reduceIte,reduceCtorEq,Y1,Y2,Y3,Y4,Y5,Y6,Y7,Y8,Y9,YA,zA,qA,qC,vA,vC,wN]
 refine X1 c4 rfl ?_
 simp only [hR,↓X2,wA,↓reduceIte,reduceIte,reduceCtorEq,Y1,Y2,Y3,Y4,Y5,Y6,Y7,Y8,Y9,YA,zA,qA,qC,vA,vC,wN]
 exact ZB rfl Qd rfl rfl rfl sR (hR.trans rfl)
theorem Gn (a b:V2) (ha:vb a≤vm) (hb:vb b≤vm):Fn Tryz.prog 191 [vA a,vA b] (qA (Q9 a b)):=by
 unfold vm at ha hb
 obtain ⟨R,hR⟩:∃ R,R=qA (Q9 a b):=⟨_,rfl⟩
 have sR:Settled R:=hR▸Xd _
 have:=Qv a; have:=Qv b; have:=Qn a; have:=Qn b
 have m1:=QA a.x b.x; have m2:=QA a.y b.y
 have c1:=KC a.x b.x (by unfold rm; omega) (by unfold rm; omega)
 have c2:=KC a.y b.y (by unfold rm; omega) (by unfold rm; omega)
 have c4:=Gs (a.x*b.x) (a.y*b.y) (by omega) (by omega)
 rw [show a.x*b.x+a.y*b.y=Q9 a b from rfl,← hR] at c4
 rw [← hR]
 refine Fq Tryz.call191 Tryz.func191 5 [] [] [] (by simp [X7,X9,JZ,Jo,X3,K1,XL,Xd,Xm,Xk,K2,Js]) (X0 1000 ?_); simp (maxSteps:=999999) only [AS.start,↓X2,wA,↓reduceIte,reduceIte,reduceCtorEq,Y1,Y2,Y3,Y4,Y5,Y6,Y7,Y8,Y9,YA,zA,qA,qC,vA,vC,wN]
 refine X1 c1 rfl ?_
 simp only [↓X2,wA,↓reduceIte,reduceIte,reduceCtorEq,Y1,Y2,Y3,Y4,Y5,Y6,Y7,Y8,Y9,YA,zA,qA,qC,vA,vC,wN]
 refine X1 c2 rfl ?_
 simp only [↓X2,wA,↓reduceIte,reduceIte,reduceCtorEq,Y1,Y2,Y3,Y4,Y5,Y6,Y7,Y8,Y9,YA,zA,qA,qC,vA,vC,wN]
 refine X1 c4 rfl ?_
 simp only [hR,↓X2,wA,↓reduceIte,reduceIte,reduceCtorEq,Y1,Y2,Y3,Y4,Y5,Y6,Y7,Y8,Y9,YA,zA,qA,qC,vA,vC,wN]
 exact ZB rfl Qd rfl rfl rfl sR (hR.trans rfl)
def vs:Nat:=100000
theorem ZA (a b c:V2) (ha:vb a≤vs) (hb:vb b≤vs) (hc:vb c≤vs):Fn Tryz.prog 179 [vA a,vA b,vA c] (I (Jg a b c)):=by
 unfold vs at ha hb hc
 have m1:=Kc b a; have m2:=Kc c a
 have c1:=CY b a (by unfold rm; omega) (by unfold rm; omega)
 have c2:=CY c a (by unfold rm; omega) (by unfold rm; omega)
 have c3:=Hd (b.sub a) (c.sub a) (by unfold vm; omega) (by unfold vm; omega)
 have c4:=Z1 (Qq (b.sub a) (c.sub a))
 refine Fq Tryz.call179 Tryz.func179 7 [] [] [] (by simp [X7,X9,JZ,Jo,X3,K1,XL,Xd,Xm,Xk,K2,Js]) (X0 1000 ?_); simp (maxSteps:=999999) only [AS.start,↓X2,wA,↓reduceIte,reduceIte,reduceCtorEq,Y1,Y2,Y3,Y4,Y5,Y6,Y7,Y8,Y9,YA,zA,qA,qC,vA,vC,wN]
 refine X1 c1 rfl ?_
 simp only [↓X2,wA,↓reduceIte,reduceIte,reduceCtorEq,Y1,Y2,Y3,Y4,Y5,Y6,Y7,Y8,Y9,YA,zA,qA,qC,vA,vC,wN]
 refine X1 c2 rfl ?_
 simp only [↓X2,wA,↓reduceIte,reduceIte,reduceCtorEq,Y1,Y2,Y3,Y4,Y5,Y6,Y7,Y8,Y9,YA,zA,qA,qC,vA,vC,wN]
 refine X1 c3 rfl ?_
 simp only [↓X2,wA,↓reduceIte,reduceIte,reduceCtorEq,Y1,Y2,Y3,Y4,Y5,Y6,Y7,Y8,Y9,YA,zA,qA,qC,vA,vC,wN]
 refine X1 c4 rfl ?_
 simp only [↓X2,wA,↓reduceIte,reduceIte,reduceCtorEq,Y1,Y2,Y3,Y4,Y5,Y6,Y7,Y8,Y9,YA,zA,qA,qC,vA,vC,wN]
 exact Xt rfl rfl (X9 _) rfl
def W3 (a b p:V2):Bool:=decide (Jg a b p=0) && decide ((Q9 (a.sub p) (b.sub p)).num.sign≤0)
theorem W4 (a b p:V2) (ha:vb a≤vs) (hb:vb b≤vs) (hp:vb p≤vs):Fn Tryz.prog 228 [vA a,vA b,vA p] (.bool (W3 a b p)):=by
 have c1:=ZA a b p ha hb hp
 unfold vs at ha hb hp
 have m1:=Kc a p; have m2:=Kc b p
 have c2:=CY a p (by unfold rm; omega) (by unfold rm; omega)
 have c3:=CY b p (by unfold rm; omega) (by unfold rm; omega)
 have c4:=Gn (a.sub p) (b.sub p) (by unfold vm; omega) (by unfold vm; omega)
 have c5:=Z1 (Q9 (a.sub p) (b.sub p))
 obtain ⟨V,hV⟩:∃ V,V=W3 a b p:=⟨_,rfl⟩
 rw [← hV]
 unfold W3 at hV
 refine Fq Tryz.call228 Tryz.func228 7 [] [] [] (by simp [X7,X9,JZ,Jo,X3,K1,XL,Xd,Xm,Xk,K2,Js]) (X0 1000 ?_); simp (maxSteps:=999999) only [AS.start,↓X2,wA,↓reduceIte,reduceIte,reduceCtorEq,Y1,Y2,Y3,Y4,Y5,Y6,Y7,Y8,Y9,YA,zA,qA,qC,vA,vC,wN]
 refine X1 c1 rfl ?_
 by_cases h:Jg a b p=0
 ·have f1:(Jg a b p=0)=True:=eq_true h
  simp only [f1,↓X2,wA,↓reduceIte,reduceIte,reduceCtorEq,Y1,Y2,Y3,Y4,Y5,Y6,Y7,Y8,Y9,YA,zA,qA,qC,vA,vC,wN]
  refine X1 c2 rfl ?_
  simp only [↓X2,wA,↓reduceIte,reduceIte,reduceCtorEq,Y1,Y2,Y3,Y4,Y5,Y6,Y7,Y8,Y9,YA,zA,qA,qC,vA,vC,wN]
  refine X1 c3 rfl ?_
  simp only [↓X2,wA,↓reduceIte,reduceIte,reduceCtorEq,Y1,Y2,Y3,Y4,Y5,Y6,Y7,Y8,Y9,YA,zA,qA,qC,vA,vC,wN]
  refine X1 c4 rfl ?_
  simp only [↓X2,wA,↓reduceIte,reduceIte,reduceCtorEq,Y1,Y2,Y3,Y4,Y5,Y6,Y7,Y8,Y9,YA,zA,qA,qC,vA,vC,wN]
  refine X1 c5 rfl ?_
  simp only [↓X2,wA,↓reduceIte,reduceIte,reduceCtorEq,Y1,Y2,Y3,Y4,Y5,Y6,Y7,Y8,Y9,YA,zA,qA,qC,vA,vC,wN]
  exact Xt rfl rfl (X3 _) (by rw [hV,decide_eq_true h]; rfl)
 ·have f1:(Jg a b p=0)=False:=eq_false h
  simp only [f1,↓X2,wA,↓reduceIte,reduceIte,reduceCtorEq,Y1,Y2,Y3,Y4,Y5,Y6,Y7,Y8,Y9,YA,zA,qA,qC,vA,vC,wN]
  exact Xt rfl rfl (X3 _) (by rw [hV,decide_eq_false h]; rfl)
def Is (a b c d:V2):Bool:=decide (Jg a b c*Jg a b d<0) && decide (Jg c d a*Jg c d b<0)
def CU (a b c d:V2):Bool:=Is a b c d || W3 a b c || W3 a b d || W3 c d a || W3 c d b
theorem GG (a b c:V2):-1≤Jg a b c∧Jg a b c≤1:=by
 unfold Jg
 generalize (Qq (b.sub a) (c.sub a)).num=n
 rcases Int.lt_trichotomy n 0 with h | h | h
 ·rw [Int.sign_eq_neg_one_of_neg h]; omega
 ·rw [h]; simp
 ·rw [Int.sign_eq_one_of_pos h]; omega
theorem Vy {x y:Int} (hx:-1≤x∧x≤1) (hy:-1≤y∧y≤1):IntKind.i64.wrap (x*y)=x*y:=by
 rcases (show x = -1∨x=0∨x=1 by omega) with rfl | rfl | rfl <;> rw [IntKind.wrap_i64] <;> omega
theorem gZ (a b c d:V2) (ha:vb a≤vs) (hb:vb b≤vs) (hc:vb c≤vs) (hd:vb d≤vs):Fn Tryz.prog 180 [vA a,vA b,vA c,vA d] (.bool (CU a b c d)):=by
 have c1:=ZA a b c ha hb hc
 have c2:=ZA a b d ha hb hd
 have c3:=ZA c d a hc hd ha
 have c4:=ZA c d b hc hd hb
 have d1:=W4 a b c ha hb hc
 have d2:=W4 a b d ha hb hd
 have d3:=W4 c d a hc hd ha
 have d4:=W4 c d b hc hd hb
 have w1:=Vy (GG a b c) (GG a b d)
 have w2:=Vy (GG c d a) (GG c d b)
 obtain ⟨V,hV⟩:∃ V,V=CU a b c d:=⟨_,rfl⟩
 rw [← hV]
 unfold CU Is at hV
 have fin:∀ {s:AS} {v:Bool},s.get 8=.bool v→v=V→RetOk (QI Tryz.prog Tryz.f180 [] [] (.bool V)) s:=fun h e=>Xt rfl h (X3 _) (by rw [e])
 obtain ⟨B1,hB1⟩:∃ B,B=W3 a b c:=⟨_,rfl⟩
 obtain ⟨B2,hB2⟩:∃ B,B=W3 a b d:=⟨_,rfl⟩
 obtain ⟨B3,hB3⟩:∃ B,B=W3 c d a:=⟨_,rfl⟩
 obtain ⟨B4,hB4⟩:∃ B,B=W3 c d b:=⟨_,rfl⟩
 rw [← hB1] at d1 hV
 rw [← hB2] at d2 hV
 rw [← hB3] at d3 hV
 rw [← hB4] at d4 hV
 refine Fq Tryz.call180 Tryz.func180 9 [] [] [] (by simp [X7,X9,JZ,Jo,X3,K1,XL,Xd,Xm,Xk,K2,Js]) (X0 1000 ?_); simp (maxSteps:=999999) only [AS.start,↓X2,wA,↓reduceIte,reduceIte,reduceCtorEq,Y1,Y2,Y3,Y4,Y5,Y6,Y7,Y8,Y9,YA,zA,qA,qC,vA,vC,wN]
 refine X1 c1 rfl ?_
 simp only [↓X2,wA,↓reduceIte,reduceIte,reduceCtorEq,Y1,Y2,Y3,Y4,Y5,Y6,Y7,Y8,Y9,YA,zA,qA,qC,vA,vC,wN]
 refine X1 c2 rfl ?_
 by_cases h1:Jg a b c*Jg a b d<0
 ·have f1:(Jg a b c*Jg a b d<0)=True:=eq_true h1
  simp only [w1,f1,↓X2,wA,↓reduceIte,reduceIte,reduceCtorEq,Y1,Y2,Y3,Y4,Y5,Y6,Y7,Y8,Y9,YA,zA,qA,qC,vA,vC,wN]
  refine X1 c3 rfl ?_
  simp only [↓X2,wA,↓reduceIte,reduceIte,reduceCtorEq,Y1,Y2,Y3,Y4,Y5,Y6,Y7,Y8,Y9,YA,zA,qA,qC,vA,vC,wN]
  refine X1 c4 rfl ?_
  by_cases h2:Jg c d a*Jg c d b<0
  ·have f2:(Jg c d a*Jg c d b<0)=True:=eq_true h2
   simp only [w2,f2,↓X2,wA,↓reduceIte,reduceIte,reduceCtorEq,Y1,Y2,Y3,Y4,Y5,Y6,Y7,Y8,Y9,YA,zA,qA,qC,vA,vC,wN]
   exact fin rfl (by rw [hV,decide_eq_true h1,decide_eq_true h2]; rfl)
  ·have f2:(Jg c d a*Jg c d b<0)=False:=eq_false h2
   simp only [w2,f2,↓X2,wA,↓reduceIte,reduceIte,reduceCtorEq,Y1,Y2,Y3,Y4,Y5,Y6,Y7,Y8,Y9,YA,zA,qA,qC,vA,vC,wN]
   rw [decide_eq_true h1,decide_eq_false h2] at hV
   refine X1 d1 rfl ?_
   cases B1
   rotate_left
   ·simp only [↓X2,wA,↓reduceIte,reduceIte,reduceCtorEq,Y1,Y2,Y3,Y4,Y5,Y6,Y7,Y8,Y9,YA,zA,qA,qC,vA,vC,wN]
    exact fin rfl (by rw [hV]; simp)
   simp only [↓X2,wA,↓reduceIte,reduceIte,reduceCtorEq,Y1,Y2,Y3,Y4,Y5,Y6,Y7,Y8,Y9,YA,zA,qA,qC,vA,vC,wN]
   refine X1 d2 rfl ?_
   cases B2
   rotate_left
   ·simp only [↓X2,wA,↓reduceIte,reduceIte,reduceCtorEq,Y1,Y2,Y3,Y4,Y5,Y6,Y7,Y8,Y9,YA,zA,qA,qC,vA,vC,wN]
    exact fin rfl (by rw [hV]; simp)
   simp only [↓X2,wA,↓reduceIte,reduceIte,reduceCtorEq,Y1,Y2,Y3,Y4,Y5,Y6,Y7,Y8,Y9,YA,zA,qA,qC,vA,vC,wN]
   refine X1 d3 rfl ?_
   cases B3
   rotate_left
   ·simp only [↓X2,wA,↓reduceIte,reduceIte,reduceCtorEq,Y1,Y2,Y3,Y4,Y5,Y6,Y7,Y8,Y9,YA,zA,qA,qC,vA,vC,wN]
    exact fin rfl (by rw [hV]; simp)
   simp only [↓X2,wA,↓reduceIte,reduceIte,reduceCtorEq,Y1,Y2,Y3,Y4,Y5,Y6,Y7,Y8,Y9,YA,zA,qA,qC,vA,vC,wN]
   refine X1 d4 rfl ?_
   simp only [↓X2,wA,↓reduceIte,reduceIte,reduceCtorEq,Y1,Y2,Y3,Y4,Y5,Y6,Y7,Y8,Y9,YA,zA,qA,qC,vA,vC,wN]
   exact fin rfl (by rw [hV]; simp)
 ·have f1:(Jg a b c*Jg a b d<0)=False:=eq_false h1
  simp only [w1,f1,↓X2,wA,↓reduceIte,reduceIte,reduceCtorEq,Y1,Y2,Y3,Y4,Y5,Y6,Y7,Y8,Y9,YA,zA,qA,qC,vA,vC,wN]
  rw [decide_eq_false h1] at hV
  refine X1 d1 rfl ?_
  cases B1
  rotate_left
  ·simp only [↓X2,wA,↓reduceIte,reduceIte,reduceCtorEq,Y1,Y2,Y3,Y4,Y5,Y6,Y7,Y8,Y9,YA,zA,qA,qC,vA,vC,wN]
   exact fin rfl (by rw [hV]; simp)
  simp only [↓X2,wA,↓reduceIte,reduceIte,reduceCtorEq,Y1,Y2,Y3,Y4,Y5,Y6,Y7,Y8,Y9,YA,zA,qA,qC,vA,vC,wN]
  refine X1 d2 rfl ?_
  cases B2
  rotate_left
  ·simp only [↓X2,wA,↓reduceIte,reduceIte,reduceCtorEq,Y1,Y2,Y3,Y4,Y5,Y6,Y7,Y8,Y9,YA,zA,qA,qC,vA,vC,wN]
   exact fin rfl (by rw [hV]; simp)
  simp only [↓X2,wA,↓reduceIte,reduceIte,reduceCtorEq,Y1,Y2,Y3,Y4,Y5,Y6,Y7,Y8,Y9,YA,zA,qA,qC,vA,vC,wN]
  refine X1 d3 rfl ?_
  cases B3
  rotate_left
  ·simp only [↓X2,wA,↓reduceIte,reduceIte,reduceCtorEq,Y1,Y2,Y3,Y4,Y5,Y6,Y7,Y8,Y9,YA,zA,qA,qC,vA,vC,wN]
   exact fin rfl (by rw [hV]; simp)
  simp only [↓X2,wA,↓reduceIte,reduceIte,reduceCtorEq,Y1,Y2,Y3,Y4,Y5,Y6,Y7,Y8,Y9,YA,zA,qA,qC,vA,vC,wN]
  refine X1 d4 rfl ?_
  simp only [↓X2,wA,↓reduceIte,reduceIte,reduceCtorEq,Y1,Y2,Y3,Y4,Y5,Y6,Y7,Y8,Y9,YA,zA,qA,qC,vA,vC,wN]
  exact fin rfl (by rw [hV]; simp)
def v0:V2:=⟨0,0⟩
def Xp (l:List V2):AV:=sD vC 8 v0 l
theorem Xf (l:List V2):Settled (Xp l):=Ec fun a x hx=>by
 have:∀ x∈vC a,Settled x:=by simp [vC,X7,X3]
 exact this x hx
theorem X5 (l:List V2):Xp l=.sl l.length (l.length*8) (Xs vC 8 v0 l) false:=nrfl rfl
theorem vF (l:List V2) (i:Nat):Xs vC 8 v0 l (i*8)=.bool (decide ((l.getD i v0).x.num<0))∧Xs vC 8 v0 l (i*8+1)=X8 (Xb (l.getD i v0).x.num.natAbs)∧Xs vC 8 v0 l (i*8+2)=.bool false∧Xs vC 8 v0 l (i*8+3)=X8 (Xb (qd (l.getD i v0).x)) ∧
  Xs vC 8 v0 l (i*8+4)=.bool (decide ((l.getD i v0).y.num<0))∧Xs vC 8 v0 l (i*8+5)=X8 (Xb (l.getD i v0).y.num.natAbs)∧Xs vC 8 v0 l (i*8+6)=.bool false∧Xs vC 8 v0 l (i*8+7)=X8 (Xb (qd (l.getD i v0).y)):=by
 refine ⟨?_,?_,?_,?_,?_,?_,?_,?_⟩
 ·rw [Ko _ _ _ _ _ (by omega)]; rfl
 all_goals rw [K5 _ _ _ _ _ _ (by omega)]; rfl
theorem jk (l:List V2):Fn Tryz.prog 158 [Xp l] (.fn 218 [.ptr 1 (Xo [Xp l]) 0]):=by
 have hset:Settled (.fn 218 [.ptr 1 (Xo [Xp l]) 0]):=Jm (by
  intro a ha
  simp only [List.mem_cons,List.not_mem_nil,or_false] at ha
  rw [ha]
  exact J2 fun j hj=>by
    obtain rfl:j=0:=by omega
    exact Xf l)
 refine Fq Tryz.call158 Tryz.func158 4 [] [] [] (by simp [Xf]) (X0 1000 ?_)
 simp only [AS.start,X5,↓X2,wA,seval,zA,qA,qC,vA,vC,Kr,wN]
 refine Bl rfl (Ca ⟨Z2 (.inl rfl) (by omega) fun j hj=>?_,trivial⟩)
 obtain rfl:j=0:=by omega
 exact (Xf l).sees _
theorem V4 (L:List V2) (t:Tok) (A B:Nat→AO) (hL:L.length<1000000) (hy:∀ i,i<L.length→YCall Tryz.prog t [vA (L.getD i v0),vA (L.getD ((i+1) % L.length) v0)] [A i,B i] (.bool true) [A (i+1),B (i+1)])
  (hA:∀ i,XK 2 (A i)∧A i≠.unborn∧∀ v n f,A i≠.con v n f) (hB:∀ i,XK 2 (B i)∧B i≠.unborn∧∀ v n f,B i≠.con v n f) (hce:t.ce.H.length≤2) :
  ICall Tryz.prog t 218 [.yld t.l,.ptr 1 (Xo [Xp L]) 0] [A 0,B 0] [A L.length,B L.length]:=by
 have hAO:∀ i,XK 2 (A i)=True:=fun i=>eq_true (hA i).1
 have hBO:∀ i,XK 2 (B i)=True:=fun i=>eq_true (hB i).1
 refine ICall.intro (fn:=Tryz.f218) Tryz.call218 Tryz.func218 rfl mixed 5 [5,6,7] [3,40000004] [3] (by kernel_rfl) (Nat.le_of_ble_eq_true rfl) hce (by simp [hAO,hBO]) (X0 1000 ?_)
 simp only [AS.start,X5,↓X2,wA,seval,zA,qA,qC,vA,vC,Kr,wN]
 refine Xg (fun i:Nat=>⟨5,[5,6,7],[.yld t.l,.ptr 1 (Xo [Xp L]) 0,.any,.any,.any],[(5,Xp L),(6,I L.length),(7,I i)],[A i,B i]⟩) (fun i=>i≤L.length) (fun i=>L.length - i) 0 (by omega)
  (Xa rfl (by simp [Xh,X5]) (by simp [Xi,Xz,X5,I]) rfl) ?_
 intro i hi next
 have w1:=wj i (by omega)
 by_cases hi2:i<L.length
 ·have f1:((i:Int)<L.length)=True:=eq_true (by omega)
  have f2:(i<L.length)=True:=eq_true hi2
  have f3:(i*8+8≤L.length*8)=True:=eq_true (by omega)
  have hm:((i+1:Nat):Int).tmod L.length=(((i+1) % L.length:Nat):Int):=rfl
  have hml:(i+1) % L.length<L.length:=Nat.mod_lt _ (by omega)
  have f4:((i+1) % L.length<L.length)=True:=eq_true hml
  have f5:((i+1) % L.length*8+8≤L.length*8)=True:=eq_true (by omega)
  have f6:((L.length:Int)=0)=False:=eq_false (by omega)
  have f6':(L.length=0)=False:=eq_false (by omega)
  have v1:=vF L i
  have v2:=vF L ((i+1) % L.length)
  refine X0 1000 ?_
  simp only [X5,w1,f1,f2,f3,f4,f5,f6,f6',hm,v1,v2,Int.toNat_natCast,↓X2,wA,seval,zA,qA,qC,vA,vC,Kr,wN]
  refine CL (t:=t) (H1:=[A i,B i]) (H1':=[A (i+1),B (i+1)]) rfl rfl (List.mem_singleton.2 rfl) (hy i hi2) rfl rfl hce ?_ ?_ ?_ ?_ ?_ ⟨Weak.rfl' _,Weak.rfl' _,trivial⟩ ?_
  ·intro a ha
   simp only [List.mem_cons,List.not_mem_nil,or_false] at ha
   rcases ha with rfl | rfl <;> exact X6 (Xm _)
  ·intro o ho
   simp only [List.mem_cons,List.not_mem_nil,or_false] at ho
   rcases ho with rfl | rfl
   ·exact (hA i).1
   ·exact (hB i).1
  ·intro o ho
   simp only [List.mem_cons,List.not_mem_nil,or_false] at ho
   rcases ho with rfl | rfl
   ·exact (hA i).2.1
   ·exact (hB i).2.1
  ·intro o ho
   simp only [List.mem_cons,List.not_mem_nil,or_false] at ho
   rcases ho with rfl | rfl
   ·exact (hA (i+1)).2.1
   ·exact (hB (i+1)).2.1
  ·refine QZ ?_ ?_
   ·intro o ho
    simp only [List.mem_cons,List.not_mem_nil,or_false] at ho
    rcases ho with rfl | rfl
    ·exact (hA i).2.2
    ·exact (hB i).2.2
   ·intro o ho
    simp only [List.mem_cons,List.not_mem_nil,or_false] at ho
    rcases ho with rfl | rfl
    ·exact (hA (i+1)).2.2
    ·exact (hB (i+1)).2.2
  simp only [X5,w1,↓X2,wA,seval,zA,qA,qC,vA,vC,Kr,wN]
  have hbv:JJ 2 (Xp L)=True:=eq_true (X6 (Xf L))
  have hbp:JJ 2 (.ptr 1 (Xo [Xp L]) 0)=True:=eq_true (X6 (J2 fun j hj=>by
    obtain rfl:j=0:=by omega
    exact Xf L))
  have hby:JJ 2 (.yld t.l)=True:=eq_true fun c v hv=>by cases hv; exact .yld _
  exact next (i+1) _ (by omega) (by omega) (Xr (m:=2) (Nat.le_refl 2) rfl (by simp [X5,Xh,X8,Qu,I]) (by simp [X5,Xi,Xz,I]) rfl (by simp [hby,hbp,Xv]) (by simp [hbv,Xv]) (by simp [hAO,hBO]))
 ·obtain rfl:i=L.length:=by omega
  refine X0 1000 ?_
  simp only [X5,Int.lt_irrefl,Nat.lt_irrefl,↓X2,wA,seval,zA,qA,qC,vA,vC,Kr,wN]
  exact rM rfl rfl
def KN (L:List V2):Nat→Rat
 | 0=>0
 | i+1=>KN L i+Qq (L.getD i v0) (L.getD ((i+1) % L.length) v0)
def Zs (L:List V2):Rat:=KN L L.length*Rat.divInt 1 2
def Q3 (L:List V2) (k:Nat):Prop:=∀ i,vb (L.getD i v0)≤k
theorem IR (L:List V2) (k:Nat) (h:Q3 L k):∀ i,qb (KN L i)≤(4*k+2)*i+1
 | 0=>by have:=Ad; simp only [KN]; omega
 | i+1=>by
  have ih:=IR L k h i
  have h1:=CC (L.getD i v0) (L.getD ((i+1) % L.length) v0)
  have h2:=h i
  have h3:=h ((i+1) % L.length)
  have h4:=JL (KN L i) (Qq (L.getD i v0) (L.getD ((i+1) % L.length) v0))
  have e:(4*k+2)*(i+1)=(4*k+2)*i+(4*k+2):=Nat.mul_succ _ _
  simp only [KN]
  omega
theorem Vr (L:List V2) (k:Nat) (h:Q3 L k) (hk:k≤1000) (hl:L.length≤1000):qb (KN L L.length)≤10000000∧qb (Zs L)≤10000000:=by
 have h1:=IR L k h L.length
 have h2:(4*k+2)*L.length≤4002*1000:=Nat.mul_le_mul (by omega) hl
 have h3:=QA (KN L L.length) (Rat.divInt 1 2)
 have h4:qb (Rat.divInt 1 2)≤3:=Kl _ _ _ (by omega) (Qy ⟨by omega,by omega⟩) (Qy ⟨by omega,by omega⟩)
 unfold Zs
 omega
def KM:AO:=.row 0 4 (Xo [.bool false,.sl 0 0 (fun _=>.any) true,.bool false,.sl 0 0 (fun _=>.any) true])
def Cp (L:List V2) (i:Nat):AO:=.row 0 4 (Xo (qC (KN L i)))
theorem kL (L:List V2) (k:Nat) (h:Q3 L k) (hk:k≤1000) (hl:L.length≤1000):Fn Tryz.prog 71 [Xp L] (qA (Zs L)):=by
 obtain ⟨R,hR⟩:∃ R,R=qA (Zs L):=⟨_,rfl⟩
 have sR:Settled R:=hR▸Xd _
 obtain ⟨q1,q2⟩:=Vr L k h hk hl
 have cs:=jk L
 rw [← hR]
 refine Fq Tryz.call71 Tryz.func71 6 [8,9] [] [] (by simp [Xf]) (X0 1000 ?_)
 simp only [AS.start,X5,↓X2,wA,seval,zA,qA,qC,vA,vC,Kr,wN]
 refine X1 cs rfl ?_
 simp only [↓X2,wA,seval,zA,qA,qC,vA,vC,Kr,wN]
 have bA:XK 2 KM∧KM≠.unborn∧∀ v n f,KM≠.con v n f:=⟨by simp [KM,Xv],by simp [KM],by simp [KM]⟩
 have bB:∀ i,XK 2 (Cp L i)∧Cp L i≠.unborn∧∀ v n f,Cp L i≠.con v n f:=fun i=>⟨by simp [Cp,qC,Xv],by simp [Cp],by simp [Cp]⟩
 refine Run.sub (s':=⟨6,[8,9],[Xp L,.any,.ref 0 0 0,.ref 1 0 0,.any,.any],[(7,.fn 218 [.ptr 1 (Xo [Xp L]) 0])],[KM,Cp L 0]⟩) ?_ ((ZF 1 (Xo (qC 0)) rfl fun j hj=>?_).trans (Xa rfl (by simp [Xh,X5]) (by simp [Xi,Xz]) (by simp [KM,Cp,KN])))
 rotate_left
 ·match j,hj with
  | 0,_=>exact J1 _ _
  | 1,_=>exact Ze (Qw (by rw [Rat.zero_num]; simp [Q2]))
  | 2,_=>exact J1 _ _
  | 3,_=>exact Ze (Qw (D3 rfl))
  | j+4,h=>omega
 refine F7 (gf:=218) (caps:=[.ptr 1 (Xo [Xp L]) 0]) (Hn:=[KM,Cp L L.length]) rfl rfl rfl (fun t ht=>?_) ?_
 ·refine V4 L t (fun _=>KM) (Cp L) (by omega) (fun i hi=>?_) (fun _=>bA) bB (by rw [ht.ch]; exact Nat.le_refl _)
  have hc:=Hd (L.getD i v0) (L.getD ((i+1) % L.length) v0) (by have:=h i; unfold vm; omega) (by have:=h ((i+1) % L.length); unfold vm; omega)
  have b1:=IR L k h i
  have b2:(4*k+2)*i≤4002*1000:=Nat.mul_le_mul (by omega) (by omega)
  have b3:=CC (L.getD i v0) (L.getD ((i+1) % L.length) v0)
  have b4:=h i
  have b5:=h ((i+1) % L.length)
  have ha:=Bk (KN L i) (Qq (L.getD i v0) (L.getD ((i+1) % L.length) v0)) (by unfold rm; omega) (by unfold rm; omega)
  refine Em (str:=[]) (hcs:=[]) ht mixed (by kernel_rfl) (by kernel_rfl) rfl (fun p hp=>?_) (fun o ho=>?_) (fun l r hr=>?_)
  ·have hp':p=8∨p=9:=by simpa using hp
   rcases hp' with rfl | rfl <;> exact Nat.le_of_ble_eq_true rfl
  ·simp only [List.mem_cons,List.not_mem_nil,or_false] at ho
   rcases ho with rfl | rfl
   ·exact bA.1
   ·exact (bB (i+1)).1
  show Run _ _ ⟨6,[8,9],[Xp L,.any,.ref 0 0 0,.ref 1 0 0,.any,.any],[(9,vA (L.getD ((i+1) % L.length) v0)),(8,vA (L.getD i v0)),(7,.fn 218 [.ptr 1 (Xo [Xp L]) 0])],[KM,Cp L i]⟩
  refine X0 1000 ?_
  simp only [KM,Cp,↓X2,wA,seval,zA,qA,qC,vA,vC,Kr,wN]
  refine Fl hr ?_
  refine X0 1000 ?_
  simp only [↓X2,wA,seval,zA,qA,qC,vA,vC,Kr,wN]
  refine X1 hc rfl ?_
  simp only [↓X2,wA,seval,zA,qA,qC,vA,vC,Kr,wN]
  refine X1 ha rfl ?_
  simp only [↓X2,wA,seval,zA,qA,qC,vA,vC,Kr,wN]
  exact nH rfl
 ·refine X0 1000 ?_
  simp only [KM,Cp,↓X2,wA,seval,zA,qA,qC,vA,vC,Kr,wN]
  refine X1 (FC 1 2 ⟨by omega,by omega⟩ ⟨by omega,by omega⟩) rfl ?_
  simp only [↓X2,wA,seval,zA,qA,qC,vA,vC,Kr,wN]
  have hm:=KC (KN L L.length) (Rat.divInt 1 2) (by unfold rm; omega) (by
   have:qb (Rat.divInt 1 2)≤3:=Kl _ _ _ (by omega) (Qy ⟨by omega,by omega⟩) (Qy ⟨by omega,by omega⟩)
   unfold rm; omega)
  rw [show KN L L.length*Rat.divInt 1 2=Zs L from rfl,← hR] at hm
  refine X1 hm rfl ?_
  simp only [hR,↓X2,wA,seval,zA,qA,qC,vA,vC,Kr,wN]
  exact JB rfl Qd rfl rfl rfl sR (hR.trans rfl)
theorem sM (L:List V2) (i:Nat) (hn:L.length<1000000) (h0:L.length≠0) (hi:i<1000000000) :
  Fn Tryz.prog 178 [I i,.ptr 1 (Xo [Xp L]) 0,.ptr 1 (Xo [I L.length]) 0] (vA (L.getD (i % L.length) v0)):=by
 obtain ⟨R,hR⟩:∃ R,R=vA (L.getD (i % L.length) v0):=⟨_,rfl⟩
 have sR:Settled R:=hR▸Xm _
 have hm:(i:Int).tmod L.length=((i % L.length:Nat):Int):=rfl
 have hml:i % L.length<L.length:=Nat.mod_lt _ (by omega)
 have f4:(i % L.length<L.length)=True:=eq_true hml
 have f5:(i % L.length*8+8≤L.length*8)=True:=eq_true (by omega)
 have f6:((L.length:Int)=0)=False:=eq_false (by omega)
 have f6':(L.length=0)=False:=eq_false h0
 have v1:=vF L (i % L.length)
 have hs0:Settled (.ptr 1 (Xo [Xp L]) 0):=J2 fun j hj=>by
   obtain rfl:j=0:=by omega
   exact Xf L
 have hs1:Settled (.ptr 1 (Xo [I L.length]) 0):=J2 fun j hj=>by
   obtain rfl:j=0:=by omega
   exact X9 _
 rw [← hR]
 refine Fq Tryz.call178 Tryz.func178 5 [] [] [] (by simp [X9,hs0,hs1]) (X0 1000 ?_)
 simp only [AS.start,X5,f4,f5,f6,f6',hm,v1,Int.toNat_natCast,↓X2,wA,seval,zA,qA,qC,vA,vC,Kr,wN]
 exact ZB rfl Jr rfl rfl rfl sR (hR.trans rfl)
def atF (L:List V2) (i:Nat):V2:=L.getD (i % L.length) v0
def FS (L:List V2) (i:Nat):Prop:=Jg (atF L i) (atF L (i+1)) (atF L (i+2))=0
def Vw (L:List V2) (i k:Nat):Prop:=(k+1) % L.length≠i∧CU (atF L i) (atF L (i+1)) (atF L k) (atF L (k+1))=true
def gH (L:List V2) (i:Nat):Prop:=¬ FS L i∧∀ k,i+2≤k→k<L.length→¬ Vw L i k
def CW (L:List V2):Prop:=(3≤L.length∧L.length≤12)∧(∀ i,i<L.length→gH L i)∧0<(Zs L).num.sign
theorem aZ (L:List V2) (h:Q3 L 1000) (hl:L.length<1000000):Fn Tryz.prog 90 [Xp L] (.bool (decide (CW L))):=by
 obtain ⟨V,hV⟩:∃ V,V=decide (CW L):=⟨_,rfl⟩
 rw [← hV]
 have fin:∀ {s:AS} {v:Bool},s.get 2=.bool v→v=V→RetOk (QI Tryz.prog Tryz.f90 [] [] (.bool V)) s:=fun h e=>Xt rfl h (X3 _) (by rw [e])
 have hs0:Settled (.ptr 1 (Xo [Xp L]) 0):=J2 fun j hj=>by
   obtain rfl:j=0:=by omega
   exact Xf L
 have hs1:Settled (.ptr 1 (Xo [I L.length]) 0):=J2 fun j hj=>by
   obtain rfl:j=0:=by omega
   exact X9 _
 have sm:∀ i,vb (atF L i)≤vs:=fun i=>by have:=h (i % L.length); unfold atF vs; omega
 refine Fq Tryz.call90 Tryz.func90 9 [17,18,19,35,36] [] [] (by simp [Xf]) (X0 1000 ?_)
 by_cases hlo:(L.length:Int)<3
 ·have f1:((L.length:Int)<3)=True:=eq_true hlo
  simp only [AS.start,X5,f1,↓X2,wA,seval,zA,qA,qC,vA,vC,Kr,wN]
  exact fin rfl (by rw [hV,decide_eq_false]; unfold CW; omega)
 have f1:((L.length:Int)<3)=False:=eq_false hlo
 by_cases hhi:(12:Int)<L.length
 ·have f2:((12:Int)<L.length)=True:=eq_true hhi
  simp only [AS.start,X5,f1,f2,↓X2,wA,seval,zA,qA,qC,vA,vC,Kr,wN]
  exact fin rfl (by rw [hV,decide_eq_false]; unfold CW; omega)
 have f2:((12:Int)<L.length)=False:=eq_false hhi
 simp only [AS.start,X5,f1,f2,↓X2,wA,seval,zA,qA,qC,vA,vC,Kr,wN]
 have b0:JJ 0 (.ptr 1 (Xo [Xp L]) 0)=True:=eq_true (X6 hs0)
 have b1:JJ 0 (.ptr 1 (Xo [I L.length]) 0)=True:=eq_true (X6 hs1)
 have b2:JJ 0 (Xp L)=True:=eq_true (X6 (Xf L))
 refine Xg (fun i:Nat=>⟨9,[17,18,19,35,36],[.any,.ptr 1 (Xo [Xp L]) 0,.bool false,.ptr 1 (Xo [I L.length]) 0,.any,.any,.any,.any,.any],[(17,Xp L),(18,I L.length),(19,I i)],[]⟩) (fun i=>i≤L.length) (fun i=>L.length - i) 0 (by omega)
  ((XR 0 rfl).trans ((XR 1 rfl).trans ((CF 1 rfl rfl (by omega)).trans ((CF 3 rfl rfl (by omega)).trans (Xr (m:=0) (Nat.zero_le _) rfl (by simp [AS.put,X5,Xh,X8,Qu,I]) (by simp [AS.put,X5,Xi,Xz,I]) rfl (by simp [b0,b1,Xv]) (by simp [b2,Xv]) (by simp)))))) ?_
 intro i hi next
 have w1:=wj i (by omega)
 have rv:∀ r:Rat,qb r≤1000→Fn Tryz.prog 79 [qA r] (.bool true):=fun r hr=>by
  have h1:=RQ.of_sz r
  have:=NX (RQ.of r) (by omega)
  rwa [decide_eq_true ⟨r,rfl⟩] at this
 by_cases hi2:i<L.length
 ·have f3:((i:Int)<L.length)=True:=eq_true (by omega)
  have f4:(i<L.length)=True:=eq_true hi2
  have f5:(i*8+8≤L.length*8)=True:=eq_true (by omega)
  have v1:=vF L i
  have hx:=Qv (L.getD i v0); have hy:=Qn (L.getD i v0); have hb:=h i
  refine X0 1000 ?_
  simp only [X5,w1,f3,f4,f5,v1,Int.toNat_natCast,↓X2,wA,seval,zA,qA,qC,vA,vC,Kr,wN]
  refine X1 (rv (L.getD i v0).x (by omega)) rfl ?_
  simp only [↓X2,wA,seval,zA,qA,qC,vA,vC,Kr,wN]
  refine X1 (rv (L.getD i v0).y (by omega)) rfl ?_
  simp only [w1,↓X2,wA,seval,zA,qA,qC,vA,vC,Kr,wN]
  exact next (i+1) _ (by omega) (by omega) (Xr (m:=0) (Nat.zero_le _) rfl (by simp [X5,Xh,X8,Qu,I]) (by simp [X5,Xi,Xz,I]) rfl (by simp [b0,b1,Xv]) (by simp [b2,Xv]) (by simp))
 obtain rfl:i=L.length:=by omega
 refine X0 1000 ?_
 simp only [X5,Int.lt_irrefl,Nat.lt_irrefl,↓X2,wA,seval,zA,qA,qC,vA,vC,Kr,wN]
 have hn0:L.length≠0:=by omega
 have cat:∀ j:Nat,j<1000000000→Fn Tryz.prog 178 [I j,.ptr 1 (Xo [Xp L]) 0,.ptr 1 (Xo [I L.length]) 0] (vA (atF L j)):=fun j hj=>sM L j hl hn0 hj
 have b3:JJ 0 (.fn 178 [.ptr 1 (Xo [Xp L]) 0,.ptr 1 (Xo [I L.length]) 0])=True:=eq_true (X6 (Jm (by
  intro a ha
  simp only [List.mem_cons,List.not_mem_nil,or_false] at ha
  rcases ha with rfl | rfl
  ·exact hs0
  ·exact hs1)))
 refine Xg (fun i:Nat=>⟨9,[17,18,19,35,36],[.any,.ptr 1 (Xo [Xp L]) 0,.bool false,.ptr 1 (Xo [I L.length]) 0,.any,.any,.fn 178 [.ptr 1 (Xo [Xp L]) 0,.ptr 1 (Xo [I L.length]) 0],.any,.any],[(35,I L.length),(36,I i)],[]⟩) (fun i=>i≤L.length∧∀ j,j<i→gH L j) (fun i=>L.length - i) 0 ⟨by omega,by omega⟩
  (Xr (m:=0) (Nat.zero_le _) rfl (by simp [X5,Xh,X8,Qu,I]) (by simp [X5,Xi,Xz,I]) rfl (by simp [b0,b1,b3,Xv]) (by simp [b2,Xv]) (by simp)) ?_
 rintro i ⟨hi,hgood⟩ next
 have w1:=wj i (by omega)
 have w2:IntKind.i64.wrap ((i:Int)+2)=((i+2:Nat):Int):=by rw [IntKind.wrap_i64]; omega
 by_cases hi2:i<L.length
 rotate_left
 ·obtain rfl:i=L.length:=by omega
  refine X0 1000 ?_
  simp only [X5,Int.lt_irrefl,Nat.lt_irrefl,↓X2,wA,seval,zA,qA,qC,vA,vC,Kr,wN]
  have ca:=kL L 1000 h (by omega) (by omega)
  have cs:=Z1 (Zs L)
  refine X1 ca rfl ?_
  simp only [↓X2,wA,seval,zA,qA,qC,vA,vC,Kr,wN]
  refine X1 cs rfl ?_
  simp only [↓X2,wA,seval,zA,qA,qC,vA,vC,Kr,wN]
  exact fin rfl (by rw [hV,decide_eq_decide]; unfold CW; exact ⟨fun h=>⟨by omega,hgood,h⟩,fun h=>h.2.2⟩)
 have f3:((i:Int)<L.length)=True:=eq_true (by omega)
 have f4:(i<L.length)=True:=eq_true hi2
 refine X0 1000 ?_
 simp only [w1,w2,f3,f4,Int.toNat_natCast,↓X2,wA,seval,zA,qA,qC,vA,vC,Kr,wN]
 refine X1 (cat i (by omega)) rfl ?_
 simp only [w1,w2,↓X2,wA,seval,zA,qA,qC,vA,vC,Kr,wN]
 refine X1 (cat (i+1) (by omega)) rfl ?_
 simp only [w1,w2,↓X2,wA,seval,zA,qA,qC,vA,vC,Kr,wN]
 refine X1 (cat (i+2) (by omega)) rfl ?_
 simp only [w1,w2,↓X2,wA,seval,zA,qA,qC,vA,vC,Kr,wN]
 refine X1 (ZA _ _ _ (sm _) (sm _) (sm _)) rfl ?_
 by_cases hs:Jg (atF L i) (atF L (i+1)) (atF L (i+2))=0
 ·have f5:(Jg (atF L i) (atF L (i+1)) (atF L (i+2))=0)=True:=eq_true hs
  simp only [f5,↓X2,wA,seval,zA,qA,qC,vA,vC,Kr,wN]
  exact fin rfl (by rw [hV,decide_eq_false]; exact fun hp=>(hp.2.1 i hi2).1 hs)
 have f5:(Jg (atF L i) (atF L (i+1)) (atF L (i+2))=0)=False:=eq_false hs
 simp only [f5,w1,w2,↓X2,wA,seval,zA,qA,qC,vA,vC,Kr,wN]
 refine Xg (fun k:Nat=>⟨9,[17,18,19,35,36],[.any,.ptr 1 (Xo [Xp L]) 0,.bool false,.ptr 1 (Xo [I L.length]) 0,.any,.any,.fn 178 [.ptr 1 (Xo [Xp L]) 0,.ptr 1 (Xo [I L.length]) 0],I i,I k],[(35,I L.length),(36,I i)],[]⟩) (fun k=>i+2≤k∧k≤L.length+2∧∀ j,i+2≤j→j<k→j<L.length→¬ Vw L i j) (fun k=>L.length+2 - k) (i+2) ⟨by omega,by omega,by omega⟩
  (Xa rfl (by simp [Xh,I]) (by simp [Xi,Xz,I]) rfl) ?_
 rintro k ⟨hk1,hk2,hpair⟩ nextk
 have u1:=wj k (by omega)
 by_cases hk3:k<L.length
 rotate_left
 ·have g3:((k:Int)<L.length)=False:=eq_false (by omega)
  have g4:(k<L.length)=False:=eq_false hk3
  refine X0 1000 ?_
  simp only [g3,g4,w1,↓X2,wA,seval,zA,qA,qC,vA,vC,Kr,wN]
  refine next (i+1) _ ⟨by omega,fun j hj=>?_⟩ (by omega) (Xa rfl (by simp [Xh,I]) (by simp [Xi,Xz,I]) rfl)
  by_cases hji:j<i
  ·exact hgood j hji
  ·obtain rfl:j=i:=by omega
   exact ⟨hs,fun q hq1 hq2=>hpair q hq1 (by omega) hq2⟩
 have g3:((k:Int)<L.length)=True:=eq_true (by omega)
 have g4:(k<L.length)=True:=eq_true hk3
 have hm:((k+1:Nat):Int).tmod L.length=(((k+1) % L.length:Nat):Int):=rfl
 have f6:((L.length:Int)=0)=False:=eq_false (by omega)
 have f6':(L.length=0)=False:=eq_false hn0
 by_cases hne:(k+1) % L.length=i
 ·have g5:((k+1) % L.length=i)=True:=eq_true hne
  have g6:((((k+1) % L.length:Nat):Int)=(i:Int))=True:=eq_true (by omega)
  refine X0 1000 ?_
  simp only [g3,g4,g5,g6,w1,u1,hm,f6,f6',↓X2,wA,seval,zA,qA,qC,vA,vC,Kr,wN]
  exact nextk (k+1) _ ⟨by omega,by omega,fun j h1 h2 h3=>by
   by_cases hjk:j<k
   ·exact hpair j h1 hjk h3
   ·obtain rfl:j=k:=by omega
    exact fun hb=>hb.1 hne⟩ (by omega) (Xa rfl (by simp [Xh,I]) (by simp [Xi,Xz,I]) rfl)
 have g5:((k+1) % L.length=i)=False:=eq_false hne
 have g6:((((k+1) % L.length:Nat):Int)=(i:Int))=False:=eq_false (by omega)
 refine X0 1000 ?_
 simp only [g3,g4,g5,g6,w1,u1,hm,f6,f6',↓X2,wA,seval,zA,qA,qC,vA,vC,Kr,wN]
 refine X1 (cat i (by omega)) rfl ?_
 simp only [g5,g6,w1,u1,↓X2,wA,seval,zA,qA,qC,vA,vC,Kr,wN]
 refine X1 (cat (i+1) (by omega)) rfl ?_
 simp only [g5,g6,w1,u1,↓X2,wA,seval,zA,qA,qC,vA,vC,Kr,wN]
 refine X1 (cat k (by omega)) rfl ?_
 simp only [g5,g6,w1,u1,↓X2,wA,seval,zA,qA,qC,vA,vC,Kr,wN]
 refine X1 (cat (k+1) (by omega)) rfl ?_
 simp only [g5,g6,w1,u1,↓X2,wA,seval,zA,qA,qC,vA,vC,Kr,wN]
 refine X1 (gZ _ _ _ _ (sm _) (sm _) (sm _) (sm _)) rfl ?_
 by_cases hmt:CU (atF L i) (atF L (i+1)) (atF L k) (atF L (k+1))=true
 ·rw [hmt]
  simp only [g5,g6,↓X2,wA,seval,zA,qA,qC,vA,vC,Kr,wN]
  exact fin rfl (by rw [hV,decide_eq_false]; exact fun hp=>(hp.2.1 i hi2).2 k hk1 hk3 ⟨hne,hmt⟩)
 ·have hmf:=Bool.not_eq_true _▸hmt
  rw [hmf]
  simp only [g5,g6,u1,↓X2,wA,seval,zA,qA,qC,vA,vC,Kr,wN]
  exact nextk (k+1) _ ⟨by omega,by omega,fun j h1 h2 h3=>by
   by_cases hjk:j<k
   ·exact hpair j h1 hjk h3
   ·obtain rfl:j=k:=by omega
    exact fun hb=>hmt hb.2⟩ (by omega) (Xa rfl (by simp [Xh,I]) (by simp [Xi,Xz,I]) rfl)
def Kk (p:Int×Int):List AV:=[I p.1,I p.2]
def Dw (l:List (Int×Int)):AV:=sD Kk 2 (0,0) l
theorem QG (l:List (Int×Int)):Settled (Dw l):=Ec fun a x hx=>by
 have:∀ x∈Kk a,Settled x:=by simp [Kk,X9]
 exact this x hx
theorem Xe (l:List (Int×Int)):Dw l=.sl l.length (l.length*2) (Xs Kk 2 (0,0) l) false:=nrfl rfl
theorem Xl (l:List Bool):A3 l=.sl l.length l.length (Qa AV.bool false l) false:=nrfl rfl
theorem X4 (l:List Int):X8 l=.sl l.length l.length (Qa I 0 l) false:=nrfl rfl
theorem SY {α:Type} (e:α→List AV) (s:Nat) (d:α) (l:List α) (j:Nat) (hs:0<s) (he:∀ a,(e a).length=s∧∀ x∈e a,x.one=true):(Xs e s d l j).one=true:=by
 have h:=he (l.getD (j / s) d)
 have hj:j % s<(e (l.getD (j / s) d)).length:=by rw [h.1]; exact Nat.mod_lt _ hs
 unfold Xs
 rw [List.getD_eq_getElem?_getD,List.getElem?_eq_getElem hj]
 exact h.2 _ (List.getElem_mem hj)
theorem Kx (p:Int×Int):∀ x∈Kk p,Settled x:=by simp [Kk,X9]
theorem iN (l:List (Int×Int)) (i:Nat):Xs Kk 2 (0,0) l (i*2)=I (l.getD i (0,0)).1∧Xs Kk 2 (0,0) l (i*2+1)=I (l.getD i (0,0)).2:=by
 refine ⟨?_,?_⟩
 ·rw [Ko _ _ _ _ _ (by omega)]; rfl
 ·rw [K5 _ _ _ _ _ _ (by omega)]; rfl
theorem qk (f:Nat→AV) (m:Nat) (g:Nat→AV) (j:Nat):QR 0 f m g j=if j<m then g j else f j:=by simp [QR]
theorem uS (z:Int):zA z=.agg [.bool (decide (z<0)),X8 (Xb z.natAbs)]:=nrfl rfl
theorem uR (v:V2):vC v=[.bool (decide (v.x.num<0)),X8 (Xb v.x.num.natAbs),.bool false,X8 (Xb (qd v.x)),.bool (decide (v.y.num<0)),X8 (Xb v.y.num.natAbs),.bool false,X8 (Xb (qd v.y))]:=nrfl rfl
theorem uQ (v:V2):vA v=.agg (vC v):=nrfl rfl
theorem uJ (r:Rat):qC r=[.bool (decide (r.num<0)),X8 (Xb r.num.natAbs),.bool false,X8 (Xb (qd r))]:=nrfl rfl
theorem uI (r:Rat):qA r=.agg (qC r):=nrfl rfl
set_option linter.defProp false in
def wS:=And.intro Kd (And.intro @Xd (And.intro @Xm (And.intro @Xk (And.intro @QG @Ci))))
set_option linter.defProp false in
def wE:=And.intro @uS (And.intro @uR (And.intro @uQ (And.intro @uJ (And.intro @uI (And.intro @Xe (And.intro @Xl (And.intro Kr wN)))))))
set_option linter.defProp false in
def wF:=And.intro wA wE
structure PV where
 id:Int
 home:Int
 rim:List (Int×Int)
 worn:List Bool
 marks:List Int
 tol:RQ
 light:RQ
 heavy:RQ
 strength:RQ
 rough:RQ
def XD (p:PV):List AV:=[I p.id,I p.home,Dw p.rim,A3 p.worn,X8 p.marks,.bool p.tol.pn,X8 p.tol.pd,.bool p.tol.qn,X8 p.tol.qd,.bool p.light.pn,X8 p.light.pd,.bool p.light.qn,X8 p.light.qd,
 .bool p.heavy.pn,X8 p.heavy.pd,.bool p.heavy.qn,X8 p.heavy.qd,.bool p.strength.pn,X8 p.strength.pd,.bool p.strength.qn,X8 p.strength.qd,.bool p.rough.pn,X8 p.rough.pd,.bool p.rough.qn,X8 p.rough.qd]
def QH (p:PV):AV:=.agg (XD p)
theorem Xx (p:PV):Settled (QH p):=Qm (by simp [XD,X9,QG,Ci,X7,X3])
def PV.num (p:PV):Nat→RQ
 | 0=>p.tol
 | 1=>p.light
 | 2=>p.heavy
 | 3=>p.strength
 | _=>p.rough
theorem XH {m v n:Nat} {L:List AV} (h:∀ x∈L,Settled x):XK m (.row v n (Xo L)):=fun j _=>X6 (Xc h j)
theorem Xy (p:PV):∀ x∈XD p,Settled x:=by simp [XD,X9,QG,Ci,X7,X3]
def wb (n lo hi:Int):Bool:=decide (lo≤n) && decide (n≤hi)
def LG (c:Int×Int):Bool:=wb c.1 (-65536) 65536 && wb c.2 (-65536) 65536
theorem XT {α:Type} (e:α→List AV) (s:Nat) (d:α) (l:List α) (x:α) (hs:0<s):QR (l.length*s) (Xs e s d l) s (Xo (e x))=Xs e s d (l ++ [x]):=by
 funext j
 unfold QR Xs Xo
 by_cases h1:j<l.length*s
 ·have:j / s<l.length:=by rw [Nat.div_lt_iff_lt_mul hs]; exact h1
  have e1:(l ++ [x]).getD (j / s) d=l.getD (j / s) d:=by rw [List.getD_eq_getElem?_getD,List.getD_eq_getElem?_getD,List.getElem?_append_left this]
  rw [if_pos h1,e1]
 ·rw [if_neg h1]
  by_cases h2:j<l.length*s+s
  ·rw [if_pos h2]
   have hj:j / s=l.length:=by
    refine Nat.div_eq_of_lt_le (by omega) ?_
    rw [Nat.add_mul]; omega
   have hm:j % s=j - l.length*s:=by
    have:=Nat.div_add_mod j s
    rw [hj,Nat.mul_comm] at this
    omega
   rw [hj,hm]
   simp
  ·rw [if_neg h2]
   have hj:l.length+1≤j / s:=by
    rw [Nat.le_div_iff_mul_le hs,Nat.add_mul]; omega
   have e1:(l ++ [x]).getD (j / s) d=d:=by rw [List.getD_eq_getElem?_getD,List.getElem?_eq_none (by simp; omega)]; rfl
   have e2:l.getD (j / s) d=d:=by rw [List.getD_eq_getElem?_getD,List.getElem?_eq_none (by omega)]; rfl
   rw [e1,e2]
def JD (c:Int×Int):V2:=⟨c.1,c.2⟩
def XC (l:List (Int×Int)):List V2:=l.map JD
theorem BS {α:Type} (l:List α) (d:α) {i:Nat} (h:i<l.length):l.take (i+1)=l.take i ++ [l.getD i d]:=by
 rw [List.take_succ_eq_append_getElem h,List.getD_eq_getElem?_getD,List.getElem?_eq_getElem h]; rfl
theorem UV (p:PV) (hl:p.rim.length<1000000) (hr:∀ i,i<p.rim.length→LG (p.rim.getD i (0,0))=true):Fn Tryz.prog 54 [QH p] (Xp (XC p.rim)):=by
 obtain ⟨R,hR⟩:∃ R,R=Xp (XC p.rim):=⟨_,rfl⟩
 have sR:Settled R:=hR▸Xf _
 have bp:JJ 2 (Dw p.rim)=True:=eq_true (X6 (QG _))
 have bo:XK 2 (.row 0 25 (Xo (XD p)))=True:=eq_true (XH (Xy p))
 have hvc:∀ a:V2,∀ x∈vC a,Settled x:=fun a=>by simp [vC,X7,X3]
 have br:∀ i l n,XK 2 (.row i n (Xs vC 8 v0 l))=True:=fun i l n=>eq_true fun j _=>X6 (Xc (hvc _) _)
 rw [← hR]
 refine Fq Tryz.call54 Tryz.func54 6 [7,8,9] [] [] (by simp [Xx]) (X0 1000 ?_)
 simp only [AS.start,QH,XD,↓X2,wF,seval]
 refine Xg (fun i:Nat=>⟨6,[7,8,9],[.any,.ref 0 0 0,.any,.osl 1 i 8 0 i,.any,.any],[(7,Dw p.rim),(8,I p.rim.length),(9,I i)],[.row 0 25 (Xo (XD p)),.row i (i*8) (Xs vC 8 v0 (XC (p.rim.take i)))]⟩) (fun i=>i≤p.rim.length) (fun i=>p.rim.length - i) 0 (by omega)
  ((Q7 3 8 (Xs vC 8 v0 []) rfl).trans (Xa rfl (by simp [AS.put,Xh]) (by simp [AS.put,Xi,Xz,Xe,I]) (by simp [AS.put,XD,Xe,Xl,X4,I,XC]))) ?_
 intro i hi next
 have w1:=wj i (by omega)
 by_cases hi2:i<p.rim.length
 ·have f1:((i:Int)<p.rim.length)=True:=eq_true (by omega)
  have f2:(i<p.rim.length)=True:=eq_true hi2
  have f3:(i*2+2≤p.rim.length*2)=True:=eq_true (by omega)
  have v1:=iN p.rim i
  have hok:=hr i hi2
  unfold LG wb at hok
  simp only [Bool.and_eq_true,decide_eq_true_eq] at hok
  have c1:=He (p.rim.getD i (0,0)).1 (p.rim.getD i (0,0)).2 ⟨by omega,by omega⟩ ⟨by omega,by omega⟩
  refine X0 1000 ?_
  simp only [XD,w1,f1,f2,f3,v1,Int.toNat_natCast,↓X2,wF,seval]
  refine X1 c1 rfl ?_
  simp only [w1,↓X2,wF,seval]
  have hap:=XT vC 8 v0 (XC (p.rim.take i)) (JD (p.rim.getD i (0,0))) (by omega)
  have hlen:(XC (p.rim.take i)).length=i:=by simp [XC]; omega
  have htk:XC (p.rim.take i) ++ [JD (p.rim.getD i (0,0))]=XC (p.rim.take (i+1)):=by rw [BS _ (0,0) hi2]; simp [XC]
  rw [hlen,htk] at hap
  refine ⟨⟨fun j hj=>?_,by omega,by omega⟩,next (i+1) _ (by omega) (by omega) (Xr (m:=2) (Nat.zero_le _) rfl (by simp [Xh]) (by simp [Xi,Xz,Xe,I]) (by rw [← hap]; rfl) (by simp [Xv]) (by simp [Xv,bp]) (by simp [bo,br]))⟩
  match j,hj with
  | 0,_=>rfl
  | 1,_=>rfl
  | 2,_=>rfl
  | 3,_=>rfl
  | 4,_=>rfl
  | 5,_=>rfl
  | 6,_=>rfl
  | 7,_=>rfl
  | j+8,h=>omega
 obtain rfl:i=p.rim.length:=by omega
 refine X0 1000 ?_
 simp only [XD,Int.lt_irrefl,Nat.lt_irrefl,↓X2,wF,seval]
 refine Bl rfl ?_
 have hlen:(XC p.rim).length=p.rim.length:=by simp [XC]
 rw [hR,X5,hlen]
 refine Qx (n:=p.rim.length) (.inl rfl) (by omega) (fun h=>by rw [h]) fun j hj=>?_
 rw [List.take_length,Nat.zero_add]
 exact (Xc (hvc _) _).sees _
end
end Go.Ab.N
