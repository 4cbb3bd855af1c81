/- Contracts of functions of these chapters, for every argument that fits, and what they need. -/
import Derived.Test.YtefjhgcndhepeaaGreatC4
import Derived.Test.YtefjhgcndhepeaaGreatAb4
set_option linter.unusedSimpArgs false
set_option linter.unusedVariables false
open Nat renaming reducePow → Y1, reduceLT → Y2, reduceLeDiff → Y3, reduceEqDiff → Y4, reduceAdd → Y5, reduceMul → Y6, reduceSub → Y7, reduceBEq → Y8, reduceDiv → Y9, reduceMod → YA
namespace Go.Ab.N
open Go Go.RowKit Go.Proofs
noncomputable section
set_option maxRecDepth 10000
set_option maxHeartbeats 2000000
open Classical
theorem Lk (x y:Int) (hx:bl x<1000000000) (hy:bl y<1000000000) (hy0:y≠0):Fn Tryz.prog 165 [zA x,zA y] (.tup [zA (x / y),zA (x % y)]):=by
 obtain ⟨L,dL,vL,lL,cd⟩:=To x.natAbs y.natAbs hx hy (by omega)
 obtain ⟨q,hq⟩:∃ q,q=x.natAbs / y.natAbs:=⟨_,rfl⟩
 obtain ⟨r,hr⟩:∃ r,r=x.natAbs % y.natAbs:=⟨_,rfl⟩
 have hry:r<y.natAbs:=by rw [hr]; exact Nat.mod_lt _ (by omega)
 have hqx:q≤x.natAbs:=by rw [hq]; exact Nat.div_le_self _ _
 rw [← hq] at vL
 rw [← hr] at cd
 have lr:(Xb r).length<1000000000:=by
  have:=J5 (y:=(r:Int)) (z:=y) (by omega)
  rw [K0] at this; omega
 have ly:(Xb y.natAbs).length<1000000000:=hy
 have lry:(Xb r).length≤(Xb y.natAbs).length:=by
  have:=J5 (y:=(r:Int)) (z:=y) (by omega)
  rw [K0] at this; exact this
 have y1:((Xb y.natAbs).length=0)=False:=eq_false (fun h=>by have:=digs_len_zero.1 h; omega)
 have y2:(((Xb y.natAbs).length:Int)=0)=False:=eq_false (fun h=>by have:=digs_len_zero.1 (show (Xb y.natAbs).length=0 by omega); omega)
 obtain ⟨q1,r1,h1⟩:∃ q1 r1,if x<0∧r≠0 then q1=q+1∧r1=y.natAbs - r else q1=q∧r1=r:=by
  by_cases h:x<0∧r≠0
  ·exact ⟨q+1,y.natAbs - r,by rw [if_pos h]; exact ⟨rfl,rfl⟩⟩
  ·exact ⟨q,r,by rw [if_neg h]; exact ⟨rfl,rfl⟩⟩
 obtain ⟨e1,e2⟩:=II x y hy0 q r hq hr q1 r1 h1
 obtain ⟨s,hsg⟩:∃ s,s=(decide (x<0) != decide (y<0)):=⟨_,rfl⟩
 have hsg':(!(decide (x<0) == decide (y<0)))=s:=by rw [hsg]; cases decide (x<0) <;> cases decide (y<0) <;> rfl
 have c1:=JS s L dL (by omega)
 rw [vL] at c1
 have c2:=JS false (Xb r) (XH r) (by omega)
 rw [XA,show Ku false (r:Int)=(r:Int) from rfl,QT] at c2
 obtain ⟨Q,hQ⟩:∃ Q,Q=zA (x / y):=⟨_,rfl⟩
 obtain ⟨R,hR⟩:∃ R,R=zA (x % y):=⟨_,rfl⟩
 have sQ:Settled Q:=hQ▸XE _
 have sR:Settled R:=hR▸XE _
 rw [← hQ,← hR]
 rw [e1,← hsg] at hQ
 rw [e2,QT] at hR
 have g1:∀ n:Nat,(0<(Xb n).length)=(n≠0):=fun n=>propext (by have:=@digs_len_zero n; omega)
 have fin:∀ {s':AS},QA Tryz.prog s' (.cell 4 26)=some (zA (Ku s q1))→QA Tryz.prog s' (.cell 5 26)=some (.agg [.bool false,X8 (Xb r1)]) →
   RetOk (Qn Tryz.prog Tryz.f165 [9,10000,100000009] [] (.tup [Q,R])) s':=fun h1 h2=>QO rfl h1 h2 (QC sQ hQ.symm) (QC sR hR.symm)
 by_cases hc:x<0∧r≠0
 ·obtain ⟨hx0,hr0⟩:=hc
  rw [if_pos ⟨hx0,hr0⟩] at h1
  obtain ⟨rfl,rfl⟩:=h1
  have c3:=JS s [1] (KJ.2 ⟨⟨by omega,by omega⟩,BT⟩) (by simp)
  rw [show val [(1:Int)]=1 by simp [val]] at c3
  have bq:bl (Ku s (q:Int))<room:=by
   have h2:=J5 (y:=Ku s (q:Int)) (z:=x) (by unfold Ku; split <;> omega)
   unfold room; omega
  have c4:=Ru (Ku s (q:Int)) (Ku s 1) bq (by
   have:=QM (n:=Ku s 1) (by unfold Ku; split <;> exact ⟨by omega,by omega⟩)
   unfold room; omega)
  rw [show Ku s (q:Int)+Ku s 1=Ku s ((q+1:Nat):Int) by unfold Ku; split <;> omega] at c4
  have cm:=Ec (Xb y.natAbs) (Xb r) (XH _) (XH _) (by omega) lry (by rw [XA,XA]; omega)
  have vm:=Bw (XH y.natAbs) (XH r) lry (by rw [XA,XA]; omega)
  rw [XA,XA] at vm
  have c5:=JS false (Z5 (Xb y.natAbs) (Xb r)) (Bv (XH _) (XH _)) (by unfold Z5; rw [Q8]; omega)
  rw [vm,show Ku false ((y.natAbs:Int) - r)=((y.natAbs - r:Nat):Int) by unfold Ku; simp; omega,QT] at c5
  have f1:(x<0)=True:=eq_true hx0
  have f2:(0<(Xb r).length)=True:=eq_true (by rw [g1]; exact hr0)
  have f3:(0<((Xb r).length:Int))=True:=eq_true (by have:=of_eq_true f2; omega)
  have hsT:(!(true == decide (y<0)))=s:=by rw [← hsg',decide_eq_true hx0]
  refine Fq Tryz.call165 Tryz.func165 10 [] [9,10000,100000009] [] (by simp [K6,Xc,Xk]) (X1 1000 ?_); simp (config:={ maxSteps:=2000000 }) only [AS.start,↓X2,wA,seval,zA,qA,qC,wN]
  simp only [y1,y2,f1,↓X2,wA,seval,zA,qA,qC,wN]
  refine X0 cd rfl ?_
  simp only [f1,decide_true,hsT,↓X2,wA,seval,zA,qA,qC,wN]
  refine X0 c1 rfl ?_
  simp only [f1,f2,f3,decide_true,↓X2,wA,seval,zA,qA,qC,wN]
  refine X0 c2 rfl ?_
  simp only [f1,f2,f3,hsT,decide_true,↓X2,wA,seval,zA,qA,qC,wN]
  refine Qq c3 ⟨Weak.rfl' _,ZJ rfl rfl,trivial⟩ ?_
  simp only [↓X2,wA,seval,zA,qA,qC,wN]
  refine X0 c4 rfl ?_
  simp only [↓X2,wA,seval,zA,qA,qC,wN]
  refine X0 cm rfl ?_
  simp only [↓X2,wA,seval,zA,qA,qC,wN]
  refine X0 c5 rfl ?_
  simp only [↓X2,wA,seval,zA,qA,qC,wN]
  exact fin (Xo XP rfl rfl rfl) (Xo XP rfl rfl rfl)
 rw [if_neg hc] at h1
 obtain ⟨rfl,rfl⟩:=h1
 have zr:x<0→(0<(Xb r1).length)=False:=fun h=>eq_false (by rw [g1]; exact fun h2=>hc ⟨h,h2⟩)
 by_cases hx0:x<0
 ·have f1:(x<0)=True:=eq_true hx0
  have f2:=zr hx0
  have f3:(0<((Xb r1).length:Int))=False:=eq_false (by have:=of_eq_false f2; omega)
  have hsT:(!(true == decide (y<0)))=s:=by rw [← hsg',decide_eq_true hx0]
  refine Fq Tryz.call165 Tryz.func165 10 [] [9,10000,100000009] [] (by simp [K6,Xc,Xk]) (X1 1000 ?_); simp (config:={ maxSteps:=2000000 }) only [AS.start,↓X2,wA,seval,zA,qA,qC,wN]
  simp only [y1,y2,f1,↓X2,wA,seval,zA,qA,qC,wN]
  refine X0 cd rfl ?_
  simp only [f1,f2,f3,decide_true,hsT,↓X2,wA,seval,zA,qA,qC,wN]
  refine X0 c1 rfl ?_
  simp only [f1,f2,f3,decide_true,↓X2,wA,seval,zA,qA,qC,wN]
  refine X0 c2 rfl ?_
  simp only [f1,f2,f3,decide_true,↓X2,wA,seval,zA,qA,qC,wN]
  exact fin (Xo XP rfl rfl rfl) (Xo XP rfl rfl rfl)
 ·have f1:(x<0)=False:=eq_false hx0
  have hsT:(!(false == decide (y<0)))=s:=by rw [← hsg',decide_eq_false hx0]
  refine Fq Tryz.call165 Tryz.func165 10 [] [9,10000,100000009] [] (by simp [K6,Xc,Xk]) (X1 1000 ?_); simp (config:={ maxSteps:=2000000 }) only [AS.start,↓X2,wA,seval,zA,qA,qC,wN]
  simp only [y1,y2,f1,↓X2,wA,seval,zA,qA,qC,wN]
  refine X0 cd rfl ?_
  simp only [f1,decide_false,hsT,↓X2,wA,seval,zA,qA,qC,wN]
  refine X0 c1 rfl ?_
  simp only [f1,decide_false,↓X2,wA,seval,zA,qA,qC,wN]
  refine X0 c2 rfl ?_
  simp only [f1,decide_false,↓X2,wA,seval,zA,qA,qC,wN]
  exact fin (Xo XP rfl rfl rfl) (Xo XP rfl rfl rfl)
def Kq (x y:Int) (p:Nat×Nat):AS :=
  ⟨12,[],[.any,.any,.ref 0 0 0,.ref 1 0 0,.ref 2 0 0,.ref 3 0 0,.ref 4 0 0,.any,.any,.any,.any,.any],[],
    [.row 0 2 (Xq [.bool (decide (x<0)),X8 (Xb x.natAbs)]),.row 0 2 (Xq [.bool (decide (y<0)),X8 (Xb y.natAbs)]),.row 0 2 (Xq [.bool false,.sl 0 0 (fun _=>.any) true]),
     .row 0 2 (Xq [.bool false,X8 (Xb p.1)]),.row 0 2 (Xq [.bool false,X8 (Xb p.2)])]⟩
def CN (x y:Int) (A B:Nat) (p:Nat×Nat):AS :=
  ⟨12,[],[.any,.any,.ref 0 0 0,.ref 1 0 0,.ref 2 0 0,.ref 3 0 0,.ref 4 0 0,I p.1,I p.2,.any,.any,.any],[],
    [.row 0 2 (Xq [.bool (decide (x<0)),X8 (Xb x.natAbs)]),.row 0 2 (Xq [.bool (decide (y<0)),X8 (Xb y.natAbs)]),.row 0 2 (Xq [.bool false,.sl 0 0 (fun _=>.any) true]),
     .row 0 2 (Xq [.bool false,X8 (Xb A)]),.row 0 2 (Xq [.bool false,X8 (Xb B)])]⟩
theorem RF (x y:Int) (hx:bl x<1000000000) (hy:bl y<1000000000):Fn Tryz.prog 164 [zA x,zA y] (zA (Int.gcd x y)):=by
 have ofC:∀ n:Nat,(Xb n).length<1000000002→Fn Tryz.prog 168 [.bool false,X8 (Xb n)] (.agg [.bool false,X8 (Xb n)]):=fun n h=>by
  have:=JS false (Xb n) (XH n) (by omega)
  rw [XA] at this
  rw [← QT]; exact this
 unfold bl at hx hy
 have cx:=ofC x.natAbs (by omega)
 have cy:=ofC y.natAbs (by omega)
 obtain ⟨R,hR⟩:∃ R,R=zA (Int.gcd x y):=⟨_,rfl⟩
 have sR:Settled R:=hR▸XE _
 rw [← hR]
 rw [QT] at hR
 refine Fq Tryz.call164 Tryz.func164 12 [] [] [] (by simp [K6,Xc,Xk]) (X1 1000 ?_); simp (config:={ maxSteps:=2000000 }) only [AS.start,↓X2,wA,seval,zA,qA,qC,wN]
 refine X0 cx rfl ?_
 simp only [↓X2,wA,seval,zA,qA,qC,wN]
 refine X0 cy rfl ?_
 simp only [↓X2,wA,seval,zA,qA,qC,wN]
 refine Xe (Kq x y) (lN x y) (fun p=>p.2) (x.natAbs,y.natAbs) ⟨rfl,hx,hy⟩ ?_ ?_
 ·exact Xa rfl (by simp [Kq,Xh]) (by simp [Kq,Xi]) rfl
 rintro ⟨A,B⟩ ⟨g1,g2,g3⟩ next
 simp only at g1 g2 g3
 by_cases hB:B=0
 ·have f1:(0<(Xb B).length)=False:=eq_false (by have:=@digs_len_zero B; omega)
  have f2:(0<((Xb B).length:Int))=False:=eq_false (by have:=@digs_len_zero B; omega)
  refine X1 1000 ?_
  simp only [Kq,f1,f2,↓X2,wA,seval,zA,qA,qC,wN]
  refine Qe rfl XP rfl rfl rfl hR sR ?_
  rw [hB,Nat.gcd_zero_right] at g1
  rw [← g1]
  exact ⟨Weak.rfl' _,Weak.rfl' _,trivial⟩
 have f1:(0<(Xb B).length)=True:=eq_true (by have:=@digs_len_zero B; omega)
 have f2:(0<((Xb B).length:Int))=True:=eq_true (by have:=@digs_len_zero B; omega)
 by_cases hAB:(Xb A).length≤2∧(Xb B).length≤2
 ·have c1:=I6 _ (XH A) hAB.1
  have c2:=I6 _ (XH B) hAB.2
  rw [XA] at c1 c2
  have k1:(((Xb A).length:Int)≤2)=True:=eq_true (by omega)
  have k2:(((Xb B).length:Int)≤2)=True:=eq_true (by omega)
  have l1:=Zw hAB.1
  have l2:=Zw hAB.2
  refine X1 1000 ?_
  simp only [Kq,f1,f2,k1,k2,↓X2,wA,seval,zA,qA,qC,wN]
  refine X0 c1 rfl ?_
  simp only [↓X2,wA,seval,zA,qA,qC,wN]
  refine X0 c2 rfl ?_
  simp only [↓X2,wA,seval,zA,qA,qC,wN]
  refine Xe (CN x y A B) (fun p=>Nat.gcd p.1 p.2=Int.gcd x y∧(p.1:Int)<1000000000000000000∧(p.2:Int)<1000000000000000000) (fun p=>p.2) (A,B) ⟨g1,l1,l2⟩ (Xa rfl (by simp [CN,Xh,I]) (by simp [CN,Xi]) rfl) ?_
  rintro ⟨m,n⟩ ⟨h1,h2,h3⟩ next2
  simp only at h1 h2 h3
  by_cases hn:n=0
  ·have j1:(0<(n:Int))=False:=eq_false (by omega)
   have j1':(0<n)=False:=eq_false (by omega)
   have hm:m=Int.gcd x y:=by rw [hn,Nat.gcd_zero_right] at h1; exact h1
   have cu:=CQ (m:Int) ⟨by omega,by omega⟩
   rw [QT] at cu
   refine X1 1000 ?_
   simp only [CN,j1,j1',↓X2,wA,seval,zA,qA,qC,wN]
   refine X0 cu rfl ?_
   simp only [↓X2,wA,seval,zA,qA,qC,wN]
   refine Qe rfl XP rfl rfl rfl hR sR ?_
   rw [← hm]
   exact ⟨Weak.rfl' _,Weak.rfl' _,trivial⟩
  ·have j1:(0<(n:Int))=True:=eq_true (by omega)
   have j1':(0<n)=True:=eq_true (by omega)
   have j2:((n:Int)=0)=False:=eq_false (by omega)
   have e2:(m:Int).tmod n=((m % n:Nat):Int):=rfl
   have hlt:m % n<n:=Nat.mod_lt _ (by omega)
   refine X1 1000 ?_
   simp only [CN,j1,j1',j2,e2,↓X2,wA,seval,zA,qA,qC,wN]
   refine next2 (n,m % n) _ ⟨?_,h3,by simp only; omega⟩ hlt (Xa rfl (by simp [CN,Xh,I]) (by simp [CN,Xi]) rfl)
   simp only
   rw [← h1,Nat.gcd_comm m n,Nat.gcd_rec n m,Nat.gcd_comm]
 ·have cd:=Lk (A:Int) (B:Int) (by rw [K0]; exact g2) (by rw [K0]; exact g3) (by omega)
  rw [show (A:Int) / B=((A / B:Nat):Int) from rfl,show (A:Int) % B=((A % B:Nat):Int) from rfl,QT,QT,QT,QT] at cd
  have hlt:A % B<B:=Nat.mod_lt _ (by omega)
  have gnew:lN x y (B,A % B):=by
   refine ⟨?_,g3,?_⟩
   ·simp only
    rw [← g1,Nat.gcd_comm A B,Nat.gcd_rec B A,Nat.gcd_comm]
   ·have:=J5 (y:=((A % B:Nat):Int)) (z:=(B:Int)) (by omega)
    rw [K0,K0] at this
    simp only; omega
  by_cases hA2:(Xb A).length≤2
  ·have k1:(((Xb A).length:Int)≤2)=True:=eq_true (by omega)
   have k2:(((Xb B).length:Int)≤2)=False:=eq_false fun h=>hAB ⟨hA2,by omega⟩
   refine X1 1000 ?_
   simp only [Kq,f1,f2,k1,k2,↓X2,wA,seval,zA,qA,qC,wN]
   refine X0 cd rfl ?_
   simp only [↓X2,wA,seval,zA,qA,qC,wN]
   exact next (B,A % B) _ gnew hlt (Xy (m:=5) (Nat.zero_le _) rfl (by simp [zA,qA,qC,wN,Kq,Xh,X8,Qk,I]) (by simp [zA,qA,qC,wN,Kq,Xi]) (by simp [zA,qA,qC,wN,Kq,X8,Qk,I]) (by simp [zA,qA,qC,wN,Kq,Xx]) (by simp [zA,qA,qC,wN,Kq,Xx]) (by simp [zA,qA,qC,wN,Kq,Xx]))
  ·have k1:(((Xb A).length:Int)≤2)=False:=eq_false (by omega)
   refine X1 1000 ?_
   simp only [Kq,f1,f2,k1,↓X2,wA,seval,zA,qA,qC,wN]
   refine X0 cd rfl ?_
   simp only [↓X2,wA,seval,zA,qA,qC,wN]
   exact next (B,A % B) _ gnew hlt (Xy (m:=5) (Nat.zero_le _) rfl (by simp [zA,qA,qC,wN,Kq,Xh,X8,Qk,I]) (by simp [zA,qA,qC,wN,Kq,Xi]) (by simp [zA,qA,qC,wN,Kq,X8,Qk,I]) (by simp [zA,qA,qC,wN,Kq,Xx]) (by simp [zA,qA,qC,wN,Kq,Xx]) (by simp [zA,qA,qC,wN,Kq,Xx]))
theorem RM (n1 n2:Bool) (a b:List Int) (la:a.length<4611686018427387904) (lb:b.length<4611686018427387904):Fn Tryz.prog 174 [zR n1 a,zR n2 b] (.bool (decide (n1=n2) && decide (a=b))):=by
 obtain ⟨V,hV⟩:∃ V,V=(decide (n1=n2) && decide (a=b)):=⟨_,rfl⟩
 rw [← hV]
 have fin:∀ {s:AS} {v:Bool},s.get 4=.bool v→v=V→RetOk (Qn Tryz.prog Tryz.f174 [] [] (.bool V)) s:=fun h e=>Xs rfl h (X3 _) (by rw [e])
 refine Fq Tryz.call174 Tryz.func174 6 [] [] [] (by simp [Xk]) (X1 1000 ?_)
 by_cases hn:n1=n2
 rotate_left
 ·have hb:(!(n1 == n2))=true:=by simp [hn]
  simp only [AS.start,zR,hb,↓X2,wA,seval,zA,qA,qC,wN]
  exact fin rfl (by rw [hV,decide_eq_false hn]; rfl)
 subst hn
 have hb:(!(n1 == n1))=false:=by simp
 by_cases hl:a.length=b.length
 rotate_left
 ·have f1:((a.length:Int)=b.length)=False:=eq_false (by omega)
  have f1':(a.length=b.length)=False:=eq_false hl
  simp only [AS.start,zR,hb,f1,f1',↓X2,wA,seval,zA,qA,qC,wN]
  exact fin rfl (by rw [hV,decide_eq_false (show ¬ a=b from fun e=>hl (by rw [e])),Bool.and_false])
 have f1:((a.length:Int)=b.length)=True:=eq_true (by omega)
 have f1':(a.length=b.length)=True:=eq_true hl
 simp only [AS.start,zR,hb,f1,f1',↓X2,wA,seval,zA,qA,qC,wN]
 refine Xe (fun j:Nat=>⟨6,[],[.any,.any,.ref 0 0 0,.ref 1 0 0,.any,I j],[],[.row 0 2 (Xq [.bool n1,X8 a]),.row 0 2 (Xq [.bool n1,X8 b])]⟩) (fun j=>j≤a.length∧∀ i,i<j→a.getD i 0=b.getD i 0) (fun j=>a.length - j) 0 ⟨by omega,by omega⟩
  (Xa rfl (by simp [Xh,X8,Qk,I]) (by simp [Xi]) rfl) ?_
 rintro j ⟨hj,hno⟩ next
 have w1:=wj j (by omega)
 by_cases hj2:j<a.length
 ·have f2:((j:Int)<a.length)=True:=eq_true (by omega)
  have f3:(j<a.length)=True:=eq_true hj2
  have f4:(j<b.length)=True:=eq_true (by omega)
  refine X1 1000 ?_
  simp only [w1,f2,f3,f4,↓X2,wA,seval,zA,qA,qC,wN]
  refine ⟨fun h=>fin rfl ?_,fun h=>next (j+1) _ ⟨by omega,fun i hi=>?_⟩ (by omega) (Xa rfl (by simp [Xh,X8,Qk,I]) (by simp [Xi]) rfl)⟩
  ·rw [hV,decide_eq_false (show ¬ a=b from fun e=>h (by rw [e])),Bool.and_false]
  ·by_cases e:i=j
   ·rw [e]; exact h
   ·exact hno i (by omega)
 ·have f2:((j:Int)<a.length)=False:=eq_false (by omega)
  have f3:(j<a.length)=False:=eq_false hj2
  refine X1 1000 ?_
  simp only [w1,f2,f3,↓X2,wA,seval,zA,qA,qC,wN]
  refine fin rfl ?_
  have:a=b:=List.ext_getElem hl fun i h1 h2=>by
   have:=hno i (by omega)
   rw [List.getD_eq_getElem?_getD,List.getElem?_eq_getElem h1,List.getD_eq_getElem?_getD,List.getElem?_eq_getElem h2] at this
   exact this
  rw [hV,decide_eq_true this]; simp
theorem Aq (x y:RQ) (hx:x.sz<4611686018427387904) (hy:y.sz<4611686018427387904):Fn Tryz.prog 86 [x.A,y.A] (.bool (decide (x=y))):=by
 have c1:=RM x.pn y.pn x.pd y.pd (by unfold RQ.sz at hx; omega) (by unfold RQ.sz at hy; omega)
 have c2:=RM x.qn y.qn x.qd y.qd (by unfold RQ.sz at hx; omega) (by unfold RQ.sz at hy; omega)
 obtain ⟨V,hV⟩:∃ V,V=decide (x=y):=⟨_,rfl⟩
 rw [← hV]
 have e:=RQ.eq_iff x y
 obtain ⟨B1,hB1⟩:∃ B,B=(decide (x.pn=y.pn) && decide (x.pd=y.pd)):=⟨_,rfl⟩
 obtain ⟨B2,hB2⟩:∃ B,B=(decide (x.qn=y.qn) && decide (x.qd=y.qd)):=⟨_,rfl⟩
 rw [← hB1] at c1
 rw [← hB2] at c2
 have hVB:V=(B1 && B2):=by
  rw [hV,hB1,hB2]
  simp only [e,Bool.decide_and]
 refine Fq Tryz.call86 Tryz.func86 5 [] [] [] (by simp [BH]) (X1 1000 ?_)
 simp only [AS.start,RQ.A,RQ.L,↓X2,wA,seval,zA,qA,qC,wN]
 refine X0 c1 rfl ?_
 cases B1
 ·simp only [↓X2,wA,seval,zA,qA,qC,wN]
  exact Xs (v:=.bool false) rfl rfl (X3 _) (by rw [hVB]; rfl)
 ·simp only [↓X2,wA,seval,zA,qA,qC,wN]
  refine X0 c2 rfl ?_
  simp only [↓X2,wA,seval,zA,qA,qC,wN]
  exact Xs (v:=.bool B2) rfl rfl (X3 _) (by rw [hVB]; rfl)
theorem Rc (neg:Bool) (d:List Int):Fn Tryz.prog 167 [zR neg d] (.bool (!neg && decide (d=[1]))):=by
 have hone:(d=[1])↔d.length=1∧d.getD 0 0=1:=by
  constructor
  ·rintro rfl; exact ⟨rfl,rfl⟩
  ·rintro ⟨h1,h2⟩
   obtain ⟨x,rfl⟩:=List.length_eq_one_iff.1 h1
   rw [show x=1 from h2]
 obtain ⟨V,hV⟩:∃ V,V=(!neg && decide (d=[1])):=⟨_,rfl⟩
 rw [← hV]
 have fin:∀ {s:AS} {v:Bool},s.get 2=.bool v→v=V→RetOk (Qn Tryz.prog Tryz.f167 [] [] (.bool V)) s:=fun h e=>Xs rfl h (X3 _) (by rw [e])
 by_cases h0:d.length=1
 ·have f1:(d.length=1)=True:=eq_true h0
  have f2:((d.length:Int)=1)=True:=eq_true (by omega)
  have f3:(0<d.length)=True:=eq_true (by omega)
  have f4:(0<(d.length:Int))=True:=eq_true (by omega)
  refine Fq Tryz.call167 Tryz.func167 3 [] [] [] (by simp [Xk]) (X1 1000 ?_)
  cases neg
  all_goals
   simp only [AS.start,zR,f1,f2,f3,f4,↓X2,wA,seval,zA,qA,qC,wN]
   exact fin rfl (by rw [hV]; simp [hone,h0])
 ·have f1:(d.length=1)=False:=eq_false h0
  have f2:((d.length:Int)=1)=False:=eq_false (by omega)
  have hne:¬ d=[1]:=fun h=>h0 (hone.1 h).1
  refine Fq Tryz.call167 Tryz.func167 3 [] [] [] (by simp [Xk]) (X1 1000 ?_)
  cases neg
  all_goals
   simp only [AS.start,zR,f1,f2,↓X2,wA,seval,zA,qA,qC,wN]
   exact fin rfl (by rw [hV]; simp [hne])
theorem O7 (z:Int):Fn Tryz.prog 167 [zA z] (.bool (decide (z=1))):=by
 have:=Rc (decide (z<0)) (Xb z.natAbs)
 rw [Ow] at this; exact this
theorem DZ (p q:Int) (hp:bl p<1000000000) (hq:bl q<1000000000):Fn Tryz.prog 77 [zA p,zA q] (qA (Rat.divInt p q)):=by
 obtain ⟨R,hR⟩:∃ R,R=qA (Rat.divInt p q):=⟨_,rfl⟩
 have sR:Settled R:=hR▸Xc _
 have zp:(((Xb p.natAbs).length:Int)=0)=(p=0):=propext (by have:=@digs_len_zero p.natAbs; omega)
 have zq:(((Xb q.natAbs).length:Int)=0)=(q=0):=propext (by have:=@digs_len_zero q.natAbs; omega)
 have z0:p=0∨q=0→R=.agg [.bool false,X8 [],.bool false,X8 []]:=by
  intro h
  rw [hR,← Ob]
  rcases h with rfl | rfl
  ·rw [Rat.zero_divInt]
  ·rw [Rat.divInt_zero]
 rw [← hR]
 by_cases hq0:q=0
 ·have f1:(q=0)=True:=eq_true hq0
  refine Fq Tryz.call77 Tryz.func77 10 [] [] [] (by simp [K6,Xc,Xk]) (X1 1000 ?_); simp (config:={ maxSteps:=2000000 }) only [AS.start,↓X2,wA,seval,zA,qA,qC,wN]
  simp only [zq,f1,↓X2,wA,seval,zA,qA,qC,wN]
  exact Qe rfl Qb rfl rfl rfl (z0 (.inr hq0)) sR ⟨Weak.rfl' _,Ql _ _,Weak.rfl' _,Ql _ _,trivial⟩
 have f1:(q=0)=False:=eq_false hq0
 by_cases hp0:p=0
 ·have f3:(p=0)=True:=eq_true hp0
  refine Fq Tryz.call77 Tryz.func77 10 [] [] [] (by simp [K6,Xc,Xk]) (X1 1000 ?_); simp (config:={ maxSteps:=2000000 }) only [AS.start,↓X2,wA,seval,zA,qA,qC,wN]
  simp only [zp,zq,f1,f3,↓X2,wA,seval,zA,qA,qC,wN]
  exact Qe rfl Qb rfl rfl rfl (z0 (.inl hp0)) sR ⟨Weak.rfl' _,Ql _ _,Weak.rfl' _,Ql _ _,trivial⟩
 have f3:(p=0)=False:=eq_false hp0
 have cg:=RF p q hp hq
 obtain ⟨g,hg⟩:∃ g:Int,g=Int.gcd p q:=⟨_,rfl⟩
 have hg0:0<Int.gcd p q:=Int.gcd_pos_of_ne_zero_right _ hq0
 have hgq:bl g≤bl q:=J5 (by
  have:=Nat.le_of_dvd (by omega) (Int.gcd_dvd_natAbs_right p q)
  omega)
 rw [← hg] at cg
 obtain ⟨d1,d2,d3⟩:=D0 p q hq0 g hg
 have c1:=Lk p g hp (by omega) (by omega)
 have c2:=Lk q g hq (by omega) (by omega)
 obtain ⟨u,hu⟩:∃ u,u=p / g:=⟨_,rfl⟩
 obtain ⟨v,hv⟩:∃ v,v=q / g:=⟨_,rfl⟩
 have hub:bl u≤bl p:=J5 (by rw [hu]; exact Int.natAbs_ediv_le_natAbs p g)
 have hvb:bl v≤bl q:=J5 (by rw [hv]; exact Int.natAbs_ediv_le_natAbs q g)
 rw [← hu] at c1 d1 d2
 rw [← hv] at c2 d1 d2 d3
 obtain ⟨e1,e2⟩:=IG u v d3 d2
 have key:∀ p' q':Int,p'=v.sign*u→q'=v.natAbs→(q'=1→R=.agg [.bool (decide (p'<0)),X8 (Xb p'.natAbs),.bool false,X8 []])∧(¬ q'=1→R=.agg [.bool (decide (p'<0)),X8 (Xb p'.natAbs),.bool false,X8 (Xb q'.natAbs)]):=by
  intro p' q' hp' hq'
  constructor
  ·intro h
   rw [hR,← d1,Lf (by omega),e1,hp']
  ·intro h
   rw [hR,← d1,Vm (by omega),e1,hp',e2,hq',Int.natAbs_natCast]
 by_cases hneg:v<0
 ·have g1:(v<0)=True:=eq_true hneg
  obtain ⟨k1,k2⟩:=key (-u) (-v) (by rw [Int.sign_eq_neg_one_of_neg hneg]; omega) (by omega)
  have co:=O7 (-v)
  have cn1:=Lt u (by unfold room; omega)
  have cn2:=Lt v (by unfold room; omega)
  rw [o5 hneg] at cn2 c2
  have f5:decide (-v<0)=false:=decide_eq_false (by omega)
  by_cases h1:-v=1
  ·simp only [h1,decide_true] at co
   have hk:=k1 h1
   rw [h1] at cn2
   refine Fq Tryz.call77 Tryz.func77 10 [] [] [] (by simp [K6,Xc,Xk]) (X1 1000 ?_); simp (config:={ maxSteps:=2000000 }) only [AS.start,↓X2,wA,seval,zA,qA,qC,wN]
   simp only [zp,zq,f1,f3,↓X2,wA,seval,zA,qA,qC,wN]
   refine X0 cg rfl ?_
   simp only [↓X2,wA,seval,zA,qA,qC,wN]
   refine X0 c1 rfl ?_
   simp only [↓X2,wA,seval,zA,qA,qC,wN]
   refine X0 c2 rfl ?_
   simp only [↓X2,wA,seval,zA,qA,qC,wN]
   refine X0 cn1 rfl ?_
   simp only [↓X2,wA,seval,zA,qA,qC,wN]
   refine X0 cn2 rfl ?_
   simp only [↓X2,wA,seval,zA,qA,qC,wN]
   refine X0 co rfl ?_
   simp only [↓X2,wA,seval,zA,qA,qC,wN]
   exact Qe rfl Qb rfl rfl rfl hk sR ⟨Weak.rfl' _,Weak.rfl' _,Weak.rfl' _,Ql _ _,trivial⟩
  ·simp only [h1,decide_false] at co
   have hk:=k2 h1
   refine Fq Tryz.call77 Tryz.func77 10 [] [] [] (by simp [K6,Xc,Xk]) (X1 1000 ?_); simp (config:={ maxSteps:=2000000 }) only [AS.start,↓X2,wA,seval,zA,qA,qC,wN]
   simp only [zp,zq,f1,f3,↓X2,wA,seval,zA,qA,qC,wN]
   refine X0 cg rfl ?_
   simp only [↓X2,wA,seval,zA,qA,qC,wN]
   refine X0 c1 rfl ?_
   simp only [↓X2,wA,seval,zA,qA,qC,wN]
   refine X0 c2 rfl ?_
   simp only [↓X2,wA,seval,zA,qA,qC,wN]
   refine X0 cn1 rfl ?_
   simp only [↓X2,wA,seval,zA,qA,qC,wN]
   refine X0 cn2 rfl ?_
   simp only [↓X2,wA,seval,zA,qA,qC,wN]
   refine X0 co rfl ?_
   simp only [↓X2,wA,seval,zA,qA,qC,wN]
   exact Ju rfl Qb rfl rfl rfl sR (by rw [hk,f5]; rfl)
 ·have g1:(v<0)=False:=eq_false hneg
  obtain ⟨k1,k2⟩:=key u v (by rw [Int.sign_eq_one_of_pos (by omega)]; omega) (by omega)
  have co:=O7 v
  rw [VH hneg] at co c2
  by_cases h1:v=1
  ·simp only [h1,decide_true] at co
   have hk:=k1 h1
   rw [h1] at c2
   refine Fq Tryz.call77 Tryz.func77 10 [] [] [] (by simp [K6,Xc,Xk]) (X1 1000 ?_); simp (config:={ maxSteps:=2000000 }) only [AS.start,↓X2,wA,seval,zA,qA,qC,wN]
   simp only [zp,zq,f1,f3,↓X2,wA,seval,zA,qA,qC,wN]
   refine X0 cg rfl ?_
   simp only [↓X2,wA,seval,zA,qA,qC,wN]
   refine X0 c1 rfl ?_
   simp only [↓X2,wA,seval,zA,qA,qC,wN]
   refine X0 c2 rfl ?_
   simp only [↓X2,wA,seval,zA,qA,qC,wN]
   refine X0 co rfl ?_
   simp only [↓X2,wA,seval,zA,qA,qC,wN]
   exact Qe rfl Qb rfl rfl rfl hk sR ⟨Weak.rfl' _,Weak.rfl' _,Weak.rfl' _,Ql _ _,trivial⟩
  ·simp only [h1,decide_false] at co
   have hk:=k2 h1
   refine Fq Tryz.call77 Tryz.func77 10 [] [] [] (by simp [K6,Xc,Xk]) (X1 1000 ?_); simp (config:={ maxSteps:=2000000 }) only [AS.start,↓X2,wA,seval,zA,qA,qC,wN]
   simp only [zp,zq,f1,f3,↓X2,wA,seval,zA,qA,qC,wN]
   refine X0 cg rfl ?_
   simp only [↓X2,wA,seval,zA,qA,qC,wN]
   refine X0 c1 rfl ?_
   simp only [↓X2,wA,seval,zA,qA,qC,wN]
   refine X0 c2 rfl ?_
   simp only [↓X2,wA,seval,zA,qA,qC,wN]
   refine X0 co rfl ?_
   simp only [↓X2,wA,seval,zA,qA,qC,wN]
   exact Ju rfl Qb rfl rfl rfl sR (by rw [hk]; rfl)
theorem Jk (p q:Int) (hp:Z4 p) (hq:Z4 q):Fn Tryz.prog 16 [I p,I q] (qA (Rat.divInt p q)):=by
 obtain ⟨R,hR⟩:∃ R,R=qA (Rat.divInt p q):=⟨_,rfl⟩
 have sR:Settled R:=hR▸Xc _
 have cm:=DZ p q (by have:=QM hp; omega) (by have:=QM hq; omega)
 rw [← hR] at cm ⊢
 refine Fq Tryz.call16 Tryz.func16 5 [] [] [] (by simp [K6,Xc,Xk]) (X1 1000 ?_); simp (config:={ maxSteps:=2000000 }) only [AS.start,↓X2,wA,seval,zA,qA,qC,wN]
 refine X0 (CQ p hp) rfl ?_
 simp only [↓X2,wA,seval,zA,qA,qC,wN]
 refine X0 (CQ q hq) rfl ?_
 simp only [↓X2,wA,seval,zA,qA,qC,wN]
 refine X0 cm rfl ?_
 simp only [hR,↓X2,wA,seval,zA,qA,qC,wN]
 exact Ju rfl Qb rfl rfl rfl sR (hR.trans rfl)
structure V2 where
 x:Rat
 y:Rat
def vC (v:V2):List AV:=[.bool (decide (v.x.num<0)),X8 (Xb v.x.num.natAbs),.bool false,X8 (Xb (qd v.x)),.bool (decide (v.y.num<0)),X8 (Xb v.y.num.natAbs),.bool false,X8 (Xb (qd v.y))]
def vA (v:V2):AV:=.agg (vC v)
theorem Xn (v:V2):Settled (vA v):=Qd (by simp [vC,X7,X3])
def vb (v:V2):Nat:=max (qb v.x) (qb v.y)
theorem Qw (v:V2):qb v.x≤vb v:=Nat.le_max_left _ _
theorem Qr (v:V2):qb v.y≤vb v:=Nat.le_max_right _ _
def V2.sub (a b:V2):V2:=⟨a.x - b.x,a.y - b.y⟩
def V2.add (a b:V2):V2:=⟨a.x+b.x,a.y+b.y⟩
def Qs (a b:V2):Rat:=a.x*b.y - a.y*b.x
def Qa (a b:V2):Rat:=a.x*b.x+a.y*b.y
def Jd (a b c:V2):Int:=(Qs (b.sub a) (c.sub a)).num.sign
theorem K5 (a b:V2):vb (a.sub b)≤vb a+vb b+1:=by
 have:=F5 a.x b.x; have:=F5 a.y b.y
 have:=Qw a; have:=Qw b; have:=Qr a; have:=Qr b
 unfold V2.sub
 show max (qb (a.x - b.x)) (qb (a.y - b.y))≤_
 omega
theorem Cb (a b:V2):vb (a.add b)≤vb a+vb b+1:=by
 have:=Jq a.x b.x; have:=Jq a.y b.y
 have:=Qw a; have:=Qw b; have:=Qr a; have:=Qr b
 unfold V2.add
 show max (qb (a.x+b.x)) (qb (a.y+b.y))≤_
 omega
theorem Cp (a b:V2):qb (Qs a b)≤2*(vb a+vb b)+1:=by
 have:=Qx a.x b.y; have:=Qx a.y b.x
 have:=Qw a; have:=Qw b; have:=Qr a; have:=Qr b
 have:=F5 (a.x*b.y) (a.y*b.x)
 unfold Qs; omega
theorem ZV (a b:V2):qb (Qa a b)≤2*(vb a+vb b)+1:=by
 have:=Qx a.x b.x; have:=Qx a.y b.y
 have:=Qw a; have:=Qw b; have:=Qr a; have:=Qr b
 have:=Jq (a.x*b.x) (a.y*b.y)
 unfold Qa; omega
theorem Bc:qb 0≤1:=Zt 0 1 (Nat.le_refl _) (by unfold bl; simp [XZ])
theorem Bm {H:List AO} {a b:AV} (h:Weak a b):Zo H a b:=fun c v _ _ hv=>h c v hv
theorem QJ {l:List Int} {f:Nat→AV} {t:Bool} (h:l=[]):Weak (.sl 0 0 f t) (X8 l):=by rw [h]; exact Ql _ _
theorem FO (a b:Rat) (ha:qb a≤10000000) (hb:qb b≤10000000):Fn Tryz.prog 117 [.sl 2 8 (Xq (qC a ++ qC b)) false] (qA (a+b)):=by
 obtain ⟨R,hR⟩:∃ R,R=qA (a+b):=⟨_,rfl⟩
 have sR:Settled R:=hR▸Xc _
 have q0:=Bc
 have c1:=Az 0 a (by unfold rm; omega) (by unfold rm; omega)
 have c2:=Az a b (by unfold rm; omega) (by unfold rm; omega)
 rw [Rat.zero_add] at c1
 rw [← hR] at c2 ⊢
 have hset:Settled (.sl 2 8 (Xq (qC a ++ qC b)) false):=JD fun j hj=>by
  unfold Xq qC
  match j,hj with
  | 0,_=>exact X3 _
  | 1,_=>exact X7 _
  | 2,_=>exact X3 _
  | 3,_=>exact X7 _
  | 4,_=>exact X3 _
  | 5,_=>exact X7 _
  | 6,_=>exact X3 _
  | 7,_=>exact X7 _
  | j+8,h=>omega
 have bel2:Jj 2 (.sl 2 8 (Xq (qC a ++ qC b)) false):=X6 hset
 simp only [qC,List.cons_append,List.nil_append] at bel2
 have z1:((1:Nat):Int)=1:=rfl
 have z2:((2:Nat):Int)=2:=rfl
 have wr1:IntKind.i64.wrap 1=1:=by rw [IntKind.wrap_i64]; omega
 have wr2:IntKind.i64.wrap 2=2:=by rw [IntKind.wrap_i64]; omega
 refine Fn.intro (fn:=Tryz.f117) Tryz.call117 Tryz.func117 rfl mixed 6 [6,7,8] [] [] (by kernel_rfl) (Nat.le_of_ble_eq_true rfl) (by simpa using hset) (X1 1000 ?_)
 simp only [AS.start,↓X2,wA,↓reduceIte,reduceIte,reduceCtorEq,Y1,Y2,Y3,Y4,Y5,Y6,Y7,Y8,Y9,YA,zA,qA,qC,vA,vC,wN]
 refine Xe (fun i:Nat=>⟨6,[6,7,8],[.any,.any,.ref 0 0 0,.ref 1 0 0,.any,.any],[(6,.sl 2 8 (Xq (qC a ++ qC b)) false),(7,I 2),(8,I i)],
  [.row 0 4 (Xq [.bool false,.sl 0 0 (fun _=>.any) true,.bool false,.sl 0 0 (fun _=>.any) true]),.row 0 4 (Xq (qC (if i=0 then 0 else if i=1 then a else a+b)))]⟩) (fun i=>i≤2) (fun i=>2 - i) 0 (by omega) ?_ ?_
 ·refine (A3 1 (Xq (qC 0)) rfl fun j hj=>?_).trans (Xa rfl (by simp [Xh,qC,X8,Qk]) (by simp [Xi,Xw,qC,X8,Qk,I]) (by simp))
  match j,hj with
  | 0,_=>exact QY _ _
  | 1,_=>exact Bm (QJ (by rw [Rat.zero_num]; simp [XZ]))
  | 2,_=>exact QY _ _
  | 3,_=>exact Bm (QJ (Dy rfl))
  | j+4,h=>omega
 intro i hi next
 rcases (show i=0∨i=1∨i=2 by omega) with rfl | rfl | rfl
 ·refine X1 1000 ?_
  simp only [ite_true,z1,z2,wr1,wr2,Int.reduceLT,Int.reduceAdd,↓X2,wA,↓reduceIte,reduceIte,reduceCtorEq,Y1,Y2,Y3,Y4,Y5,Y6,Y7,Y8,Y9,YA,zA,qA,qC,vA,vC,wN]
  refine X0 c1 rfl ?_
  simp only [z1,z2,wr1,wr2,Int.reduceAdd,↓X2,wA,↓reduceIte,reduceIte,reduceCtorEq,Y1,Y2,Y3,Y4,Y5,Y6,Y7,Y8,Y9,YA,zA,qA,qC,vA,vC,wN]
  exact next 1 _ (by omega) (by omega) (Xy (m:=2) (Nat.zero_le _) rfl (by simp [qC,Xh,X8,Qk,I]) (by simp [qC,Xi,Xw,X8,Qk,I]) (by simp [qC,X8,Qk,I]) (by simp [Xx]) (by simp [qC,Xx,bel2]) (by simp [qC,Xx]))
 ·have e1:((1:Nat)=0)=False:=eq_false (by omega)
  refine X1 1000 ?_
  simp only [e1,ite_true,ite_false,z1,z2,wr1,wr2,Int.reduceLT,Int.reduceAdd,↓X2,wA,↓reduceIte,reduceIte,reduceCtorEq,Y1,Y2,Y3,Y4,Y5,Y6,Y7,Y8,Y9,YA,zA,qA,qC,vA,vC,wN]
  refine ⟨by omega,X0 c2 rfl ?_⟩
  simp only [hR,z1,z2,wr1,wr2,Int.reduceAdd,↓X2,wA,↓reduceIte,reduceIte,reduceCtorEq,Y1,Y2,Y3,Y4,Y5,Y6,Y7,Y8,Y9,YA,zA,qA,qC,vA,vC,wN]
  exact next 2 _ (by omega) (by omega) (Xy (m:=2) (Nat.zero_le _) rfl (by simp [qC,Xh,X8,Qk,I]) (by simp [qC,Xi,Xw,X8,Qk,I]) (by simp [qC,X8,Qk,I]) (by simp [Xx]) (by simp [qC,Xx,bel2]) (by simp [qC,Xx]))
 ·have e1:((2:Nat)=0)=False:=eq_false (by omega)
  have e2:((2:Nat)=1)=False:=eq_false (by omega)
  refine X1 1000 ?_
  simp only [e1,e2,ite_false,z1,z2,wr1,wr2,Int.reduceLT,Int.reduceAdd,↓X2,wA,↓reduceIte,reduceIte,reduceCtorEq,Y1,Y2,Y3,Y4,Y5,Y6,Y7,Y8,Y9,YA,zA,qA,qC,vA,vC,wN]
  exact Ju rfl Qb rfl rfl rfl sR (hR.trans rfl)
def vm:Nat:=1000000
theorem Z7 {P:Program} {fn:Func} {str hcs:List Nat} {r:AV} {s:AS} {t u id ver n:Nat} {L:List AV} (hr:fn.results=#[.cell t u]) (hk:BL P u=some (some n)) (hs:s.get t=.ref id ver 0)
  (ho:s.h[id]?=some (.row ver n (Xq L))) (hn:L.length=n) (hset:Settled r) (e:r=.agg L):RetOk (Qn P fn str hcs r) s:=Qe hr hk hs ho hn e hset (Q9 L)
theorem CI (a b:V2) (ha:vb a≤rm) (hb:vb b≤rm):Fn Tryz.prog 44 [vA a,vA b] (vA (a.sub b)):=by
 obtain ⟨R,hR⟩:∃ R,R=vA (a.sub b):=⟨_,rfl⟩
 have sR:Settled R:=hR▸Xn _
 have:=Qw a; have:=Qw b; have:=Qr a; have:=Qr b
 have c1:=Om a.x b.x (by omega) (by omega)
 have c2:=Om a.y b.y (by omega) (by omega)
 rw [← hR]
 refine Fq Tryz.call44 Tryz.func44 5 [] [] [] (by simp [X7,X9,JU,Jc,X3,JV,XE,Xc,Xn,Xk,JW,Jx]) (X1 1000 ?_); simp (config:={ maxSteps:=2000000 }) only [AS.start,↓X2,wA,↓reduceIte,reduceIte,reduceCtorEq,Y1,Y2,Y3,Y4,Y5,Y6,Y7,Y8,Y9,YA,zA,qA,qC,vA,vC,wN]
 refine X0 c1 rfl ?_
 simp only [↓X2,wA,↓reduceIte,reduceIte,reduceCtorEq,Y1,Y2,Y3,Y4,Y5,Y6,Y7,Y8,Y9,YA,zA,qA,qC,vA,vC,wN]
 refine X0 c2 rfl ?_
 simp only [↓X2,wA,↓reduceIte,reduceIte,reduceCtorEq,Y1,Y2,Y3,Y4,Y5,Y6,Y7,Y8,Y9,YA,zA,qA,qC,vA,vC,wN]
 exact Z7 rfl Jh rfl rfl rfl sR (hR.trans rfl)
theorem GG (x y:Int) (hx:Z4 x) (hy:Z4 y):Fn Tryz.prog 120 [I x,I y] (vA ⟨x,y⟩):=by
 have e:∀ n:Int,Rat.divInt n 1=(n:Rat):=fun n=>by
  rw [show (1:Int)=((1:Nat):Int) from rfl,Rat.divInt_ofNat]
  have:=Rat.mkRat_self (n:Rat)
  rwa [Rat.num_intCast,Rat.den_intCast] at this
 obtain ⟨R,hR⟩:∃ R,R=vA ⟨x,y⟩:=⟨_,rfl⟩
 have sR:Settled R:=hR▸Xn _
 have c1:=CR x 1 hx ⟨by omega,by omega⟩
 have c2:=CR y 1 hy ⟨by omega,by omega⟩
 rw [e] at c1 c2
 rw [← hR]
 refine Fq Tryz.call120 Tryz.func120 5 [] [] [] (by simp [X7,X9,JU,Jc,X3,JV,XE,Xc,Xn,Xk,JW,Jx]) (X1 1000 ?_); simp (config:={ maxSteps:=2000000 }) only [AS.start,↓X2,wA,↓reduceIte,reduceIte,reduceCtorEq,Y1,Y2,Y3,Y4,Y5,Y6,Y7,Y8,Y9,YA,zA,qA,qC,vA,vC,wN]
 refine X0 c1 rfl ?_
 simp only [↓X2,wA,↓reduceIte,reduceIte,reduceCtorEq,Y1,Y2,Y3,Y4,Y5,Y6,Y7,Y8,Y9,YA,zA,qA,qC,vA,vC,wN]
 refine X0 c2 rfl ?_
 simp only [↓X2,wA,↓reduceIte,reduceIte,reduceCtorEq,Y1,Y2,Y3,Y4,Y5,Y6,Y7,Y8,Y9,YA,zA,qA,qC,vA,vC,wN]
 exact Z7 rfl Jh rfl rfl rfl sR (hR.trans rfl)
theorem GF (a b:V2) (ha:vb a≤vm) (hb:vb b≤vm):Fn Tryz.prog 159 [vA a,vA b] (qA (Qs a b)):=by
 unfold vm at ha hb
 obtain ⟨R,hR⟩:∃ R,R=qA (Qs a b):=⟨_,rfl⟩
 have sR:Settled R:=hR▸Xc _
 have:=Qw a; have:=Qw b; have:=Qr a; have:=Qr b
 have m1:=Qx a.x b.y; have m2:=Qx a.y b.x
 have c1:=Ks a.x b.y (by unfold rm; omega) (by unfold rm; omega)
 have c2:=Ks a.y b.x (by unfold rm; omega) (by unfold rm; omega)
 have c3:=CP (a.y*b.x)
 have c4:=FO (a.x*b.y) (-(a.y*b.x)) (by omega) (by rw [BB]; omega)
 rw [← Rat.sub_eq_add_neg,show a.x*b.y - a.y*b.x=Qs a b from rfl,← hR] at c4
 rw [← hR]
 refine Fq Tryz.call159 Tryz.func159 5 [] [] [] (by simp [X7,X9,JU,Jc,X3,JV,XE,Xc,Xn,Xk,JW,Jx]) (X1 1000 ?_); simp (config:={ maxSteps:=2000000 }) only [AS.start,↓X2,wA,↓reduceIte,reduceIte,reduceCtorEq,Y1,Y2,Y3,Y4,Y5,Y6,Y7,Y8,Y9,YA,zA,qA,qC,vA,vC,wN]
 refine X0 c1 rfl ?_
 simp only [↓X2,wA,↓reduceIte,reduceIte,reduceCtorEq,Y1,Y2,Y3,Y4,Y5,Y6,Y7,Y8,Y9,YA,zA,qA,qC,vA,vC,wN]
 refine X0 c2 rfl ?_
 simp only [↓X2,wA,↓reduceIte,reduceIte,reduceCtorEq,Y1,Y2,Y3,Y4,Y5,Y6,Y7,Y8,Y9,YA,zA,qA,qC,vA,vC,wN]
 refine X0 c3 rfl ?_
 simp only [↓X2,wA,↓reduceIte,reduceIte,reduceCtorEq,Y1,Y2,Y3,Y4,Y5,Y6,Y7,Y8,Y9,YA,zA,qA,qC,vA,vC,wN]
 refine X0 c4 rfl ?_
 simp only [hR,↓X2,wA,↓reduceIte,reduceIte,reduceCtorEq,Y1,Y2,Y3,Y4,Y5,Y6,Y7,Y8,Y9,YA,zA,qA,qC,vA,vC,wN]
 exact Z7 rfl Qb rfl rfl rfl sR (hR.trans rfl)
theorem FJ (a b:V2) (ha:vb a≤vm) (hb:vb b≤vm):Fn Tryz.prog 191 [vA a,vA b] (qA (Qa a b)):=by
 unfold vm at ha hb
 obtain ⟨R,hR⟩:∃ R,R=qA (Qa a b):=⟨_,rfl⟩
 have sR:Settled R:=hR▸Xc _
 have:=Qw a; have:=Qw b; have:=Qr a; have:=Qr b
 have m1:=Qx a.x b.x; have m2:=Qx a.y b.y
 have c1:=Ks a.x b.x (by unfold rm; omega) (by unfold rm; omega)
 have c2:=Ks a.y b.y (by unfold rm; omega) (by unfold rm; omega)
 have c4:=FO (a.x*b.x) (a.y*b.y) (by omega) (by omega)
 rw [show a.x*b.x+a.y*b.y=Qa a b from rfl,← hR] at c4
 rw [← hR]
 refine Fq Tryz.call191 Tryz.func191 5 [] [] [] (by simp [X7,X9,JU,Jc,X3,JV,XE,Xc,Xn,Xk,JW,Jx]) (X1 1000 ?_); simp (config:={ maxSteps:=2000000 }) only [AS.start,↓X2,wA,↓reduceIte,reduceIte,reduceCtorEq,Y1,Y2,Y3,Y4,Y5,Y6,Y7,Y8,Y9,YA,zA,qA,qC,vA,vC,wN]
 refine X0 c1 rfl ?_
 simp only [↓X2,wA,↓reduceIte,reduceIte,reduceCtorEq,Y1,Y2,Y3,Y4,Y5,Y6,Y7,Y8,Y9,YA,zA,qA,qC,vA,vC,wN]
 refine X0 c2 rfl ?_
 simp only [↓X2,wA,↓reduceIte,reduceIte,reduceCtorEq,Y1,Y2,Y3,Y4,Y5,Y6,Y7,Y8,Y9,YA,zA,qA,qC,vA,vC,wN]
 refine X0 c4 rfl ?_
 simp only [hR,↓X2,wA,↓reduceIte,reduceIte,reduceCtorEq,Y1,Y2,Y3,Y4,Y5,Y6,Y7,Y8,Y9,YA,zA,qA,qC,vA,vC,wN]
 exact Z7 rfl Qb rfl rfl rfl sR (hR.trans rfl)
def vs:Nat:=100000
theorem Zi (a b c:V2) (ha:vb a≤vs) (hb:vb b≤vs) (hc:vb c≤vs):Fn Tryz.prog 179 [vA a,vA b,vA c] (I (Jd a b c)):=by
 unfold vs at ha hb hc
 have m1:=K5 b a; have m2:=K5 c a
 have c1:=CI b a (by unfold rm; omega) (by unfold rm; omega)
 have c2:=CI c a (by unfold rm; omega) (by unfold rm; omega)
 have c3:=GF (b.sub a) (c.sub a) (by unfold vm; omega) (by unfold vm; omega)
 have c4:=Kw (Qs (b.sub a) (c.sub a))
 refine Fq Tryz.call179 Tryz.func179 7 [] [] [] (by simp [X7,X9,JU,Jc,X3,JV,XE,Xc,Xn,Xk,JW,Jx]) (X1 1000 ?_); simp (config:={ maxSteps:=2000000 }) only [AS.start,↓X2,wA,↓reduceIte,reduceIte,reduceCtorEq,Y1,Y2,Y3,Y4,Y5,Y6,Y7,Y8,Y9,YA,zA,qA,qC,vA,vC,wN]
 refine X0 c1 rfl ?_
 simp only [↓X2,wA,↓reduceIte,reduceIte,reduceCtorEq,Y1,Y2,Y3,Y4,Y5,Y6,Y7,Y8,Y9,YA,zA,qA,qC,vA,vC,wN]
 refine X0 c2 rfl ?_
 simp only [↓X2,wA,↓reduceIte,reduceIte,reduceCtorEq,Y1,Y2,Y3,Y4,Y5,Y6,Y7,Y8,Y9,YA,zA,qA,qC,vA,vC,wN]
 refine X0 c3 rfl ?_
 simp only [↓X2,wA,↓reduceIte,reduceIte,reduceCtorEq,Y1,Y2,Y3,Y4,Y5,Y6,Y7,Y8,Y9,YA,zA,qA,qC,vA,vC,wN]
 refine X0 c4 rfl ?_
 simp only [↓X2,wA,↓reduceIte,reduceIte,reduceCtorEq,Y1,Y2,Y3,Y4,Y5,Y6,Y7,Y8,Y9,YA,zA,qA,qC,vA,vC,wN]
 exact Xs rfl rfl (X9 _) rfl
def V9 (a b p:V2):Bool:=decide (Jd a b p=0) && decide ((Qa (a.sub p) (b.sub p)).num.sign≤0)
theorem Va (a b p:V2) (ha:vb a≤vs) (hb:vb b≤vs) (hp:vb p≤vs):Fn Tryz.prog 228 [vA a,vA b,vA p] (.bool (V9 a b p)):=by
 have c1:=Zi a b p ha hb hp
 unfold vs at ha hb hp
 have m1:=K5 a p; have m2:=K5 b p
 have c2:=CI a p (by unfold rm; omega) (by unfold rm; omega)
 have c3:=CI b p (by unfold rm; omega) (by unfold rm; omega)
 have c4:=FJ (a.sub p) (b.sub p) (by unfold vm; omega) (by unfold vm; omega)
 have c5:=Kw (Qa (a.sub p) (b.sub p))
 obtain ⟨V,hV⟩:∃ V,V=V9 a b p:=⟨_,rfl⟩
 rw [← hV]
 unfold V9 at hV
 refine Fq Tryz.call228 Tryz.func228 7 [] [] [] (by simp [X7,X9,JU,Jc,X3,JV,XE,Xc,Xn,Xk,JW,Jx]) (X1 1000 ?_); simp (config:={ maxSteps:=2000000 }) only [AS.start,↓X2,wA,↓reduceIte,reduceIte,reduceCtorEq,Y1,Y2,Y3,Y4,Y5,Y6,Y7,Y8,Y9,YA,zA,qA,qC,vA,vC,wN]
 refine X0 c1 rfl ?_
 by_cases h:Jd a b p=0
 ·have f1:(Jd a b p=0)=True:=eq_true h
  simp only [f1,↓X2,wA,↓reduceIte,reduceIte,reduceCtorEq,Y1,Y2,Y3,Y4,Y5,Y6,Y7,Y8,Y9,YA,zA,qA,qC,vA,vC,wN]
  refine X0 c2 rfl ?_
  simp only [↓X2,wA,↓reduceIte,reduceIte,reduceCtorEq,Y1,Y2,Y3,Y4,Y5,Y6,Y7,Y8,Y9,YA,zA,qA,qC,vA,vC,wN]
  refine X0 c3 rfl ?_
  simp only [↓X2,wA,↓reduceIte,reduceIte,reduceCtorEq,Y1,Y2,Y3,Y4,Y5,Y6,Y7,Y8,Y9,YA,zA,qA,qC,vA,vC,wN]
  refine X0 c4 rfl ?_
  simp only [↓X2,wA,↓reduceIte,reduceIte,reduceCtorEq,Y1,Y2,Y3,Y4,Y5,Y6,Y7,Y8,Y9,YA,zA,qA,qC,vA,vC,wN]
  refine X0 c5 rfl ?_
  simp only [↓X2,wA,↓reduceIte,reduceIte,reduceCtorEq,Y1,Y2,Y3,Y4,Y5,Y6,Y7,Y8,Y9,YA,zA,qA,qC,vA,vC,wN]
  exact Xs rfl rfl (X3 _) (by rw [hV,decide_eq_true h]; rfl)
 ·have f1:(Jd a b p=0)=False:=eq_false h
  simp only [f1,↓X2,wA,↓reduceIte,reduceIte,reduceCtorEq,Y1,Y2,Y3,Y4,Y5,Y6,Y7,Y8,Y9,YA,zA,qA,qC,vA,vC,wN]
  exact Xs rfl rfl (X3 _) (by rw [hV,decide_eq_false h]; rfl)
def HW (a b c d:V2):Bool:=decide (Jd a b c*Jd a b d<0) && decide (Jd c d a*Jd c d b<0)
def CG (a b c d:V2):Bool:=HW a b c d || V9 a b c || V9 a b d || V9 c d a || V9 c d b
theorem Ga (a b c:V2):-1≤Jd a b c∧Jd a b c≤1:=by
 unfold Jd
 generalize (Qs (b.sub a) (c.sub a)).num=n
 rcases Int.lt_trichotomy n 0 with h | h | h
 ·rw [Int.sign_eq_neg_one_of_neg h]; omega
 ·rw [h]; simp
 ·rw [Int.sign_eq_one_of_pos h]; omega
theorem UF {x y:Int} (hx:-1≤x∧x≤1) (hy:-1≤y∧y≤1):IntKind.i64.wrap (x*y)=x*y:=by
 rcases (show x = -1∨x=0∨x=1 by omega) with rfl | rfl | rfl <;> rw [IntKind.wrap_i64] <;> omega
theorem fw (a b c d:V2) (ha:vb a≤vs) (hb:vb b≤vs) (hc:vb c≤vs) (hd:vb d≤vs):Fn Tryz.prog 180 [vA a,vA b,vA c,vA d] (.bool (CG a b c d)):=by
 have c1:=Zi a b c ha hb hc
 have c2:=Zi a b d ha hb hd
 have c3:=Zi c d a hc hd ha
 have c4:=Zi c d b hc hd hb
 have d1:=Va a b c ha hb hc
 have d2:=Va a b d ha hb hd
 have d3:=Va c d a hc hd ha
 have d4:=Va c d b hc hd hb
 have w1:=UF (Ga a b c) (Ga a b d)
 have w2:=UF (Ga c d a) (Ga c d b)
 obtain ⟨V,hV⟩:∃ V,V=CG a b c d:=⟨_,rfl⟩
 rw [← hV]
 unfold CG HW at hV
 have fin:∀ {s:AS} {v:Bool},s.get 8=.bool v→v=V→RetOk (Qn Tryz.prog Tryz.f180 [] [] (.bool V)) s:=fun h e=>Xs rfl h (X3 _) (by rw [e])
 obtain ⟨B1,hB1⟩:∃ B,B=V9 a b c:=⟨_,rfl⟩
 obtain ⟨B2,hB2⟩:∃ B,B=V9 a b d:=⟨_,rfl⟩
 obtain ⟨B3,hB3⟩:∃ B,B=V9 c d a:=⟨_,rfl⟩
 obtain ⟨B4,hB4⟩:∃ B,B=V9 c d b:=⟨_,rfl⟩
 rw [← hB1] at d1 hV
 rw [← hB2] at d2 hV
 rw [← hB3] at d3 hV
 rw [← hB4] at d4 hV
 refine Fq Tryz.call180 Tryz.func180 9 [] [] [] (by simp [X7,X9,JU,Jc,X3,JV,XE,Xc,Xn,Xk,JW,Jx]) (X1 1000 ?_); simp (config:={ maxSteps:=2000000 }) only [AS.start,↓X2,wA,↓reduceIte,reduceIte,reduceCtorEq,Y1,Y2,Y3,Y4,Y5,Y6,Y7,Y8,Y9,YA,zA,qA,qC,vA,vC,wN]
 refine X0 c1 rfl ?_
 simp only [↓X2,wA,↓reduceIte,reduceIte,reduceCtorEq,Y1,Y2,Y3,Y4,Y5,Y6,Y7,Y8,Y9,YA,zA,qA,qC,vA,vC,wN]
 refine X0 c2 rfl ?_
 by_cases h1:Jd a b c*Jd a b d<0
 ·have f1:(Jd a b c*Jd a b d<0)=True:=eq_true h1
  simp only [w1,f1,↓X2,wA,↓reduceIte,reduceIte,reduceCtorEq,Y1,Y2,Y3,Y4,Y5,Y6,Y7,Y8,Y9,YA,zA,qA,qC,vA,vC,wN]
  refine X0 c3 rfl ?_
  simp only [↓X2,wA,↓reduceIte,reduceIte,reduceCtorEq,Y1,Y2,Y3,Y4,Y5,Y6,Y7,Y8,Y9,YA,zA,qA,qC,vA,vC,wN]
  refine X0 c4 rfl ?_
  by_cases h2:Jd c d a*Jd c d b<0
  ·have f2:(Jd c d a*Jd c d b<0)=True:=eq_true h2
   simp only [w2,f2,↓X2,wA,↓reduceIte,reduceIte,reduceCtorEq,Y1,Y2,Y3,Y4,Y5,Y6,Y7,Y8,Y9,YA,zA,qA,qC,vA,vC,wN]
   exact fin rfl (by rw [hV,decide_eq_true h1,decide_eq_true h2]; rfl)
  ·have f2:(Jd c d a*Jd c d b<0)=False:=eq_false h2
   simp only [w2,f2,↓X2,wA,↓reduceIte,reduceIte,reduceCtorEq,Y1,Y2,Y3,Y4,Y5,Y6,Y7,Y8,Y9,YA,zA,qA,qC,vA,vC,wN]
   rw [decide_eq_true h1,decide_eq_false h2] at hV
   refine X0 d1 rfl ?_
   cases B1
   rotate_left
   ·simp only [↓X2,wA,↓reduceIte,reduceIte,reduceCtorEq,Y1,Y2,Y3,Y4,Y5,Y6,Y7,Y8,Y9,YA,zA,qA,qC,vA,vC,wN]
    exact fin rfl (by rw [hV]; simp)
   simp only [↓X2,wA,↓reduceIte,reduceIte,reduceCtorEq,Y1,Y2,Y3,Y4,Y5,Y6,Y7,Y8,Y9,YA,zA,qA,qC,vA,vC,wN]
   refine X0 d2 rfl ?_
   cases B2
   rotate_left
   ·simp only [↓X2,wA,↓reduceIte,reduceIte,reduceCtorEq,Y1,Y2,Y3,Y4,Y5,Y6,Y7,Y8,Y9,YA,zA,qA,qC,vA,vC,wN]
    exact fin rfl (by rw [hV]; simp)
   simp only [↓X2,wA,↓reduceIte,reduceIte,reduceCtorEq,Y1,Y2,Y3,Y4,Y5,Y6,Y7,Y8,Y9,YA,zA,qA,qC,vA,vC,wN]
   refine X0 d3 rfl ?_
   cases B3
   rotate_left
   ·simp only [↓X2,wA,↓reduceIte,reduceIte,reduceCtorEq,Y1,Y2,Y3,Y4,Y5,Y6,Y7,Y8,Y9,YA,zA,qA,qC,vA,vC,wN]
    exact fin rfl (by rw [hV]; simp)
   simp only [↓X2,wA,↓reduceIte,reduceIte,reduceCtorEq,Y1,Y2,Y3,Y4,Y5,Y6,Y7,Y8,Y9,YA,zA,qA,qC,vA,vC,wN]
   refine X0 d4 rfl ?_
   simp only [↓X2,wA,↓reduceIte,reduceIte,reduceCtorEq,Y1,Y2,Y3,Y4,Y5,Y6,Y7,Y8,Y9,YA,zA,qA,qC,vA,vC,wN]
   exact fin rfl (by rw [hV]; simp)
 ·have f1:(Jd a b c*Jd a b d<0)=False:=eq_false h1
  simp only [w1,f1,↓X2,wA,↓reduceIte,reduceIte,reduceCtorEq,Y1,Y2,Y3,Y4,Y5,Y6,Y7,Y8,Y9,YA,zA,qA,qC,vA,vC,wN]
  rw [decide_eq_false h1] at hV
  refine X0 d1 rfl ?_
  cases B1
  rotate_left
  ·simp only [↓X2,wA,↓reduceIte,reduceIte,reduceCtorEq,Y1,Y2,Y3,Y4,Y5,Y6,Y7,Y8,Y9,YA,zA,qA,qC,vA,vC,wN]
   exact fin rfl (by rw [hV]; simp)
  simp only [↓X2,wA,↓reduceIte,reduceIte,reduceCtorEq,Y1,Y2,Y3,Y4,Y5,Y6,Y7,Y8,Y9,YA,zA,qA,qC,vA,vC,wN]
  refine X0 d2 rfl ?_
  cases B2
  rotate_left
  ·simp only [↓X2,wA,↓reduceIte,reduceIte,reduceCtorEq,Y1,Y2,Y3,Y4,Y5,Y6,Y7,Y8,Y9,YA,zA,qA,qC,vA,vC,wN]
   exact fin rfl (by rw [hV]; simp)
  simp only [↓X2,wA,↓reduceIte,reduceIte,reduceCtorEq,Y1,Y2,Y3,Y4,Y5,Y6,Y7,Y8,Y9,YA,zA,qA,qC,vA,vC,wN]
  refine X0 d3 rfl ?_
  cases B3
  rotate_left
  ·simp only [↓X2,wA,↓reduceIte,reduceIte,reduceCtorEq,Y1,Y2,Y3,Y4,Y5,Y6,Y7,Y8,Y9,YA,zA,qA,qC,vA,vC,wN]
   exact fin rfl (by rw [hV]; simp)
  simp only [↓X2,wA,↓reduceIte,reduceIte,reduceCtorEq,Y1,Y2,Y3,Y4,Y5,Y6,Y7,Y8,Y9,YA,zA,qA,qC,vA,vC,wN]
  refine X0 d4 rfl ?_
  simp only [↓X2,wA,↓reduceIte,reduceIte,reduceCtorEq,Y1,Y2,Y3,Y4,Y5,Y6,Y7,Y8,Y9,YA,zA,qA,qC,vA,vC,wN]
  exact fin rfl (by rw [hV]; simp)
def v0:V2:=⟨0,0⟩
def Xp (l:List V2):AV:=qz vC 8 v0 l
theorem Xd (l:List V2):Settled (Xp l):=BZ fun a x hx=>by
 have:∀ x∈vC a,Settled x:=by simp [vC,X7,X3]
 exact this x hx
theorem X5 (l:List V2):Xp l=.sl l.length (l.length*8) (XB vC 8 v0 l) false:=nrfl rfl
theorem vF (l:List V2) (i:Nat):XB vC 8 v0 l (i*8)=.bool (decide ((l.getD i v0).x.num<0))∧XB vC 8 v0 l (i*8+1)=X8 (Xb (l.getD i v0).x.num.natAbs)∧XB vC 8 v0 l (i*8+2)=.bool false∧XB vC 8 v0 l (i*8+3)=X8 (Xb (qd (l.getD i v0).x)) ∧
  XB vC 8 v0 l (i*8+4)=.bool (decide ((l.getD i v0).y.num<0))∧XB vC 8 v0 l (i*8+5)=X8 (Xb (l.getD i v0).y.num.natAbs)∧XB vC 8 v0 l (i*8+6)=.bool false∧XB vC 8 v0 l (i*8+7)=X8 (Xb (qd (l.getD i v0).y)):=by
 refine ⟨?_,?_,?_,?_,?_,?_,?_,?_⟩
 ·rw [A1 _ _ _ _ _ (by omega)]; rfl
 all_goals rw [A0 _ _ _ _ _ _ (by omega)]; rfl
theorem gT (l:List V2):Fn Tryz.prog 158 [Xp l] (.fn 218 [.ptr 1 (Xq [Xp l]) 0]):=by
 have hset:Settled (.fn 218 [.ptr 1 (Xq [Xp l]) 0]):=K3 (by
  intro a ha
  simp only [List.mem_cons,List.not_mem_nil,or_false] at ha
  rw [ha]
  exact Ji fun j hj=>by
    obtain rfl:j=0:=by omega
    exact Xd l)
 refine Fq Tryz.call158 Tryz.func158 4 [] [] [] (by simp [Xd]) (X1 1000 ?_)
 simp only [AS.start,X5,↓X2,wA,seval,zA,qA,qC,vA,vC,Jf,wN]
 refine AR rfl (Ee ⟨AU (.inl rfl) (by omega) fun j hj=>?_,trivial⟩)
 obtain rfl:j=0:=by omega
 exact (Xd l).sees _
theorem Ub (L:List V2) (t:Tok) (A B:Nat→AO) (hL:L.length<1000000) (hy:∀ i,i<L.length→YCall Tryz.prog t [vA (L.getD i v0),vA (L.getD ((i+1) % L.length) v0)] [A i,B i] (.bool true) [A (i+1),B (i+1)])
  (hA:∀ i,XI 2 (A i)∧A i≠.unborn∧∀ v n f,A i≠.con v n f) (hB:∀ i,XI 2 (B i)∧B i≠.unborn∧∀ v n f,B i≠.con v n f) (hce:t.ce.H.length≤2) :
  ICall Tryz.prog t 218 [.yld t.l,.ptr 1 (Xq [Xp L]) 0] [A 0,B 0] [A L.length,B L.length]:=by
 have hAO:∀ i,XI 2 (A i)=True:=fun i=>eq_true (hA i).1
 have hBO:∀ i,XI 2 (B i)=True:=fun i=>eq_true (hB i).1
 refine ICall.intro (fn:=Tryz.f218) Tryz.call218 Tryz.func218 rfl mixed 5 [5,6,7] [3,40000004] [3] (by kernel_rfl) (Nat.le_of_ble_eq_true rfl) hce (by simp [hAO,hBO]) (X1 1000 ?_)
 simp only [AS.start,X5,↓X2,wA,seval,zA,qA,qC,vA,vC,Jf,wN]
 refine Xe (fun i:Nat=>⟨5,[5,6,7],[.yld t.l,.ptr 1 (Xq [Xp L]) 0,.any,.any,.any],[(5,Xp L),(6,I L.length),(7,I i)],[A i,B i]⟩) (fun i=>i≤L.length) (fun i=>L.length - i) 0 (by omega)
  (Xa rfl (by simp [Xh,X5]) (by simp [Xi,Xw,X5,I]) rfl) ?_
 intro i hi next
 have w1:=wj i (by omega)
 by_cases hi2:i<L.length
 ·have f1:((i:Int)<L.length)=True:=eq_true (by omega)
  have f2:(i<L.length)=True:=eq_true hi2
  have f3:(i*8+8≤L.length*8)=True:=eq_true (by omega)
  have hm:((i+1:Nat):Int).tmod L.length=(((i+1) % L.length:Nat):Int):=rfl
  have hml:(i+1) % L.length<L.length:=Nat.mod_lt _ (by omega)
  have f4:((i+1) % L.length<L.length)=True:=eq_true hml
  have f5:((i+1) % L.length*8+8≤L.length*8)=True:=eq_true (by omega)
  have f6:((L.length:Int)=0)=False:=eq_false (by omega)
  have f6':(L.length=0)=False:=eq_false (by omega)
  have v1:=vF L i
  have v2:=vF L ((i+1) % L.length)
  refine X1 1000 ?_
  simp only [X5,w1,f1,f2,f3,f4,f5,f6,f6',hm,v1,v2,Int.toNat_natCast,↓X2,wA,seval,zA,qA,qC,vA,vC,Jf,wN]
  refine EK (t:=t) (H1:=[A i,B i]) (H1':=[A (i+1),B (i+1)]) rfl rfl (List.mem_singleton.2 rfl) (hy i hi2) rfl rfl hce ?_ ?_ ?_ ?_ ?_ ⟨Weak.rfl' _,Weak.rfl' _,trivial⟩ ?_
  ·intro a ha
   simp only [List.mem_cons,List.not_mem_nil,or_false] at ha
   rcases ha with rfl | rfl <;> exact X6 (Xn _)
  ·intro o ho
   simp only [List.mem_cons,List.not_mem_nil,or_false] at ho
   rcases ho with rfl | rfl
   ·exact (hA i).1
   ·exact (hB i).1
  ·intro o ho
   simp only [List.mem_cons,List.not_mem_nil,or_false] at ho
   rcases ho with rfl | rfl
   ·exact (hA i).2.1
   ·exact (hB i).2.1
  ·intro o ho
   simp only [List.mem_cons,List.not_mem_nil,or_false] at ho
   rcases ho with rfl | rfl
   ·exact (hA (i+1)).2.1
   ·exact (hB (i+1)).2.1
  ·refine Jo ?_ ?_
   ·intro o ho
    simp only [List.mem_cons,List.not_mem_nil,or_false] at ho
    rcases ho with rfl | rfl
    ·exact (hA i).2.2
    ·exact (hB i).2.2
   ·intro o ho
    simp only [List.mem_cons,List.not_mem_nil,or_false] at ho
    rcases ho with rfl | rfl
    ·exact (hA (i+1)).2.2
    ·exact (hB (i+1)).2.2
  simp only [X5,w1,↓X2,wA,seval,zA,qA,qC,vA,vC,Jf,wN]
  have hbv:Jj 2 (Xp L)=True:=eq_true (X6 (Xd L))
  have hbp:Jj 2 (.ptr 1 (Xq [Xp L]) 0)=True:=eq_true (X6 (Ji fun j hj=>by
    obtain rfl:j=0:=by omega
    exact Xd L))
  have hby:Jj 2 (.yld t.l)=True:=eq_true fun c v hv=>by cases hv; exact .yld _
  exact next (i+1) _ (by omega) (by omega) (Xy (m:=2) (Nat.le_refl 2) rfl (by simp [X5,Xh,X8,Qk,I]) (by simp [X5,Xi,Xw,I]) rfl (by simp [hby,hbp,Xx]) (by simp [hbv,Xx]) (by simp [hAO,hBO]))
 ·obtain rfl:i=L.length:=by omega
  refine X1 1000 ?_
  simp only [X5,Int.lt_irrefl,Nat.lt_irrefl,↓X2,wA,seval,zA,qA,qC,vA,vC,Jf,wN]
  exact sk rfl rfl
def KF (L:List V2):Nat→Rat
 | 0=>0
 | i+1=>KF L i+Qs (L.getD i v0) (L.getD ((i+1) % L.length) v0)
def Zb (L:List V2):Rat:=KF L L.length*Rat.divInt 1 2
def XV (L:List V2) (k:Nat):Prop:=∀ i,vb (L.getD i v0)≤k
theorem Io (L:List V2) (k:Nat) (h:XV L k):∀ i,qb (KF L i)≤(4*k+2)*i+1
 | 0=>by have:=Bc; simp only [KF]; omega
 | i+1=>by
  have ih:=Io L k h i
  have h1:=Cp (L.getD i v0) (L.getD ((i+1) % L.length) v0)
  have h2:=h i
  have h3:=h ((i+1) % L.length)
  have h4:=Jq (KF L i) (Qs (L.getD i v0) (L.getD ((i+1) % L.length) v0))
  have e:(4*k+2)*(i+1)=(4*k+2)*i+(4*k+2):=Nat.mul_succ _ _
  simp only [KF]
  omega
theorem Uy (L:List V2) (k:Nat) (h:XV L k) (hk:k≤1000) (hl:L.length≤1000):qb (KF L L.length)≤10000000∧qb (Zb L)≤10000000:=by
 have h1:=Io L k h L.length
 have h2:(4*k+2)*L.length≤4002*1000:=Nat.mul_le_mul (by omega) hl
 have h3:=Qx (KF L L.length) (Rat.divInt 1 2)
 have h4:qb (Rat.divInt 1 2)≤3:=KA _ _ _ (by omega) (QM ⟨by omega,by omega⟩) (QM ⟨by omega,by omega⟩)
 unfold Zb
 omega
def KE:AO:=.row 0 4 (Xq [.bool false,.sl 0 0 (fun _=>.any) true,.bool false,.sl 0 0 (fun _=>.any) true])
def Cc (L:List V2) (i:Nat):AO:=.row 0 4 (Xq (qC (KF L i)))
theorem jJ (L:List V2) (k:Nat) (h:XV L k) (hk:k≤1000) (hl:L.length≤1000):Fn Tryz.prog 71 [Xp L] (qA (Zb L)):=by
 obtain ⟨R,hR⟩:∃ R,R=qA (Zb L):=⟨_,rfl⟩
 have sR:Settled R:=hR▸Xc _
 obtain ⟨q1,q2⟩:=Uy L k h hk hl
 have cs:=gT L
 rw [← hR]
 refine Fq Tryz.call71 Tryz.func71 6 [8,9] [] [] (by simp [Xd]) (X1 1000 ?_)
 simp only [AS.start,X5,↓X2,wA,seval,zA,qA,qC,vA,vC,Jf,wN]
 refine X0 cs rfl ?_
 simp only [↓X2,wA,seval,zA,qA,qC,vA,vC,Jf,wN]
 have bA:XI 2 KE∧KE≠.unborn∧∀ v n f,KE≠.con v n f:=⟨by simp [KE,Xx],by simp [KE],by simp [KE]⟩
 have bB:∀ i,XI 2 (Cc L i)∧Cc L i≠.unborn∧∀ v n f,Cc L i≠.con v n f:=fun i=>⟨by simp [Cc,qC,Xx],by simp [Cc],by simp [Cc]⟩
 refine Run.sub (s':=⟨6,[8,9],[Xp L,.any,.ref 0 0 0,.ref 1 0 0,.any,.any],[(7,.fn 218 [.ptr 1 (Xq [Xp L]) 0])],[KE,Cc L 0]⟩) ?_ ((A3 1 (Xq (qC 0)) rfl fun j hj=>?_).trans (Xa rfl (by simp [Xh,X5]) (by simp [Xi,Xw]) (by simp [KE,Cc,KF])))
 rotate_left
 ·match j,hj with
  | 0,_=>exact QY _ _
  | 1,_=>exact Bm (QJ (by rw [Rat.zero_num]; simp [XZ]))
  | 2,_=>exact QY _ _
  | 3,_=>exact Bm (QJ (Dy rfl))
  | j+4,h=>omega
 refine Mn (gf:=218) (caps:=[.ptr 1 (Xq [Xp L]) 0]) (Hn:=[KE,Cc L L.length]) rfl rfl rfl (fun t ht=>?_) ?_
 ·refine Ub L t (fun _=>KE) (Cc L) (by omega) (fun i hi=>?_) (fun _=>bA) bB (by rw [ht.ch]; exact Nat.le_refl _)
  have hc:=GF (L.getD i v0) (L.getD ((i+1) % L.length) v0) (by have:=h i; unfold vm; omega) (by have:=h ((i+1) % L.length); unfold vm; omega)
  have b1:=Io L k h i
  have b2:(4*k+2)*i≤4002*1000:=Nat.mul_le_mul (by omega) (by omega)
  have b3:=Cp (L.getD i v0) (L.getD ((i+1) % L.length) v0)
  have b4:=h i
  have b5:=h ((i+1) % L.length)
  have ha:=Az (KF L i) (Qs (L.getD i v0) (L.getD ((i+1) % L.length) v0)) (by unfold rm; omega) (by unfold rm; omega)
  refine HA (str:=[]) (hcs:=[]) ht mixed (by kernel_rfl) (by kernel_rfl) rfl (fun p hp=>?_) (fun o ho=>?_) (fun l r hr=>?_)
  ·have hp':p=8∨p=9:=by simpa using hp
   rcases hp' with rfl | rfl <;> exact Nat.le_of_ble_eq_true rfl
  ·simp only [List.mem_cons,List.not_mem_nil,or_false] at ho
   rcases ho with rfl | rfl
   ·exact bA.1
   ·exact (bB (i+1)).1
  show Run _ _ ⟨6,[8,9],[Xp L,.any,.ref 0 0 0,.ref 1 0 0,.any,.any],[(9,vA (L.getD ((i+1) % L.length) v0)),(8,vA (L.getD i v0)),(7,.fn 218 [.ptr 1 (Xq [Xp L]) 0])],[KE,Cc L i]⟩
  refine X1 1000 ?_
  simp only [KE,Cc,↓X2,wA,seval,zA,qA,qC,vA,vC,Jf,wN]
  refine IK hr ?_
  refine X1 1000 ?_
  simp only [↓X2,wA,seval,zA,qA,qC,vA,vC,Jf,wN]
  refine X0 hc rfl ?_
  simp only [↓X2,wA,seval,zA,qA,qC,vA,vC,Jf,wN]
  refine X0 ha rfl ?_
  simp only [↓X2,wA,seval,zA,qA,qC,vA,vC,Jf,wN]
  exact so rfl
 ·refine X1 1000 ?_
  simp only [KE,Cc,↓X2,wA,seval,zA,qA,qC,vA,vC,Jf,wN]
  refine X0 (CR 1 2 ⟨by omega,by omega⟩ ⟨by omega,by omega⟩) rfl ?_
  simp only [↓X2,wA,seval,zA,qA,qC,vA,vC,Jf,wN]
  have hm:=Ks (KF L L.length) (Rat.divInt 1 2) (by unfold rm; omega) (by
   have:qb (Rat.divInt 1 2)≤3:=KA _ _ _ (by omega) (QM ⟨by omega,by omega⟩) (QM ⟨by omega,by omega⟩)
   unfold rm; omega)
  rw [show KF L L.length*Rat.divInt 1 2=Zb L from rfl,← hR] at hm
  refine X0 hm rfl ?_
  simp only [hR,↓X2,wA,seval,zA,qA,qC,vA,vC,Jf,wN]
  exact Ju rfl Qb rfl rfl rfl sR (hR.trans rfl)
theorem re (L:List V2) (i:Nat) (hn:L.length<1000000) (h0:L.length≠0) (hi:i<1000000000) :
  Fn Tryz.prog 178 [I i,.ptr 1 (Xq [Xp L]) 0,.ptr 1 (Xq [I L.length]) 0] (vA (L.getD (i % L.length) v0)):=by
 obtain ⟨R,hR⟩:∃ R,R=vA (L.getD (i % L.length) v0):=⟨_,rfl⟩
 have sR:Settled R:=hR▸Xn _
 have hm:(i:Int).tmod L.length=((i % L.length:Nat):Int):=rfl
 have hml:i % L.length<L.length:=Nat.mod_lt _ (by omega)
 have f4:(i % L.length<L.length)=True:=eq_true hml
 have f5:(i % L.length*8+8≤L.length*8)=True:=eq_true (by omega)
 have f6:((L.length:Int)=0)=False:=eq_false (by omega)
 have f6':(L.length=0)=False:=eq_false h0
 have v1:=vF L (i % L.length)
 have hs0:Settled (.ptr 1 (Xq [Xp L]) 0):=Ji fun j hj=>by
   obtain rfl:j=0:=by omega
   exact Xd L
 have hs1:Settled (.ptr 1 (Xq [I L.length]) 0):=Ji fun j hj=>by
   obtain rfl:j=0:=by omega
   exact X9 _
 rw [← hR]
 refine Fq Tryz.call178 Tryz.func178 5 [] [] [] (by simp [X9,hs0,hs1]) (X1 1000 ?_)
 simp only [AS.start,X5,f4,f5,f6,f6',hm,v1,Int.toNat_natCast,↓X2,wA,seval,zA,qA,qC,vA,vC,Jf,wN]
 exact Z7 rfl Jh rfl rfl rfl sR (hR.trans rfl)
def atF (L:List V2) (i:Nat):V2:=L.getD (i % L.length) v0
def Cw (L:List V2) (i:Nat):Prop:=Jd (atF L i) (atF L (i+1)) (atF L (i+2))=0
def UD (L:List V2) (i k:Nat):Prop:=(k+1) % L.length≠i∧CG (atF L i) (atF L (i+1)) (atF L k) (atF L (k+1))=true
def eU (L:List V2) (i:Nat):Prop:=¬ Cw L i∧∀ k,i+2≤k→k<L.length→¬ UD L i k
def Am (L:List V2):Prop:=(3≤L.length∧L.length≤12)∧(∀ i,i<L.length→eU L i)∧0<(Zb L).num.sign
theorem Nd (L:List V2) (h:XV L 1000) (hl:L.length<1000000):Fn Tryz.prog 90 [Xp L] (.bool (decide (Am L))):=by
 obtain ⟨V,hV⟩:∃ V,V=decide (Am L):=⟨_,rfl⟩
 rw [← hV]
 have fin:∀ {s:AS} {v:Bool},s.get 2=.bool v→v=V→RetOk (Qn Tryz.prog Tryz.f90 [] [] (.bool V)) s:=fun h e=>Xs rfl h (X3 _) (by rw [e])
 have hs0:Settled (.ptr 1 (Xq [Xp L]) 0):=Ji fun j hj=>by
   obtain rfl:j=0:=by omega
   exact Xd L
 have hs1:Settled (.ptr 1 (Xq [I L.length]) 0):=Ji fun j hj=>by
   obtain rfl:j=0:=by omega
   exact X9 _
 have sm:∀ i,vb (atF L i)≤vs:=fun i=>by have:=h (i % L.length); unfold atF vs; omega
 refine Fq Tryz.call90 Tryz.func90 9 [17,18,19,35,36] [] [] (by simp [Xd]) (X1 1000 ?_)
 by_cases hlo:(L.length:Int)<3
 ·have f1:((L.length:Int)<3)=True:=eq_true hlo
  simp only [AS.start,X5,f1,↓X2,wA,seval,zA,qA,qC,vA,vC,Jf,wN]
  exact fin rfl (by rw [hV,decide_eq_false]; unfold Am; omega)
 have f1:((L.length:Int)<3)=False:=eq_false hlo
 by_cases hhi:(12:Int)<L.length
 ·have f2:((12:Int)<L.length)=True:=eq_true hhi
  simp only [AS.start,X5,f1,f2,↓X2,wA,seval,zA,qA,qC,vA,vC,Jf,wN]
  exact fin rfl (by rw [hV,decide_eq_false]; unfold Am; omega)
 have f2:((12:Int)<L.length)=False:=eq_false hhi
 simp only [AS.start,X5,f1,f2,↓X2,wA,seval,zA,qA,qC,vA,vC,Jf,wN]
 have b0:Jj 0 (.ptr 1 (Xq [Xp L]) 0)=True:=eq_true (X6 hs0)
 have b1:Jj 0 (.ptr 1 (Xq [I L.length]) 0)=True:=eq_true (X6 hs1)
 have b2:Jj 0 (Xp L)=True:=eq_true (X6 (Xd L))
 refine Xe (fun i:Nat=>⟨9,[17,18,19,35,36],[.any,.ptr 1 (Xq [Xp L]) 0,.bool false,.ptr 1 (Xq [I L.length]) 0,.any,.any,.any,.any,.any],[(17,Xp L),(18,I L.length),(19,I i)],[]⟩) (fun i=>i≤L.length) (fun i=>L.length - i) 0 (by omega)
  ((Qp 0 rfl).trans ((Qp 1 rfl).trans ((Nm 1 rfl rfl (by omega)).trans ((Nm 3 rfl rfl (by omega)).trans (Xy (m:=0) (Nat.zero_le _) rfl (by simp [AS.put,X5,Xh,X8,Qk,I]) (by simp [AS.put,X5,Xi,Xw,I]) rfl (by simp [b0,b1,Xx]) (by simp [b2,Xx]) (by simp)))))) ?_
 intro i hi next
 have w1:=wj i (by omega)
 have rv:∀ r:Rat,qb r≤1000→Fn Tryz.prog 79 [qA r] (.bool true):=fun r hr=>by
  have h1:=RQ.of_sz r
  have:=Ed (RQ.of r) (by omega)
  rwa [decide_eq_true ⟨r,rfl⟩] at this
 by_cases hi2:i<L.length
 ·have f3:((i:Int)<L.length)=True:=eq_true (by omega)
  have f4:(i<L.length)=True:=eq_true hi2
  have f5:(i*8+8≤L.length*8)=True:=eq_true (by omega)
  have v1:=vF L i
  have hx:=Qw (L.getD i v0); have hy:=Qr (L.getD i v0); have hb:=h i
  refine X1 1000 ?_
  simp only [X5,w1,f3,f4,f5,v1,Int.toNat_natCast,↓X2,wA,seval,zA,qA,qC,vA,vC,Jf,wN]
  refine X0 (rv (L.getD i v0).x (by omega)) rfl ?_
  simp only [↓X2,wA,seval,zA,qA,qC,vA,vC,Jf,wN]
  refine X0 (rv (L.getD i v0).y (by omega)) rfl ?_
  simp only [w1,↓X2,wA,seval,zA,qA,qC,vA,vC,Jf,wN]
  exact next (i+1) _ (by omega) (by omega) (Xy (m:=0) (Nat.zero_le _) rfl (by simp [X5,Xh,X8,Qk,I]) (by simp [X5,Xi,Xw,I]) rfl (by simp [b0,b1,Xx]) (by simp [b2,Xx]) (by simp))
 obtain rfl:i=L.length:=by omega
 refine X1 1000 ?_
 simp only [X5,Int.lt_irrefl,Nat.lt_irrefl,↓X2,wA,seval,zA,qA,qC,vA,vC,Jf,wN]
 have hn0:L.length≠0:=by omega
 have cat:∀ j:Nat,j<1000000000→Fn Tryz.prog 178 [I j,.ptr 1 (Xq [Xp L]) 0,.ptr 1 (Xq [I L.length]) 0] (vA (atF L j)):=fun j hj=>re L j hl hn0 hj
 have b3:Jj 0 (.fn 178 [.ptr 1 (Xq [Xp L]) 0,.ptr 1 (Xq [I L.length]) 0])=True:=eq_true (X6 (K3 (by
  intro a ha
  simp only [List.mem_cons,List.not_mem_nil,or_false] at ha
  rcases ha with rfl | rfl
  ·exact hs0
  ·exact hs1)))
 refine Xe (fun i:Nat=>⟨9,[17,18,19,35,36],[.any,.ptr 1 (Xq [Xp L]) 0,.bool false,.ptr 1 (Xq [I L.length]) 0,.any,.any,.fn 178 [.ptr 1 (Xq [Xp L]) 0,.ptr 1 (Xq [I L.length]) 0],.any,.any],[(35,I L.length),(36,I i)],[]⟩) (fun i=>i≤L.length∧∀ j,j<i→eU L j) (fun i=>L.length - i) 0 ⟨by omega,by omega⟩
  (Xy (m:=0) (Nat.zero_le _) rfl (by simp [X5,Xh,X8,Qk,I]) (by simp [X5,Xi,Xw,I]) rfl (by simp [b0,b1,b3,Xx]) (by simp [b2,Xx]) (by simp)) ?_
 rintro i ⟨hi,hgood⟩ next
 have w1:=wj i (by omega)
 have w2:IntKind.i64.wrap ((i:Int)+2)=((i+2:Nat):Int):=by rw [IntKind.wrap_i64]; omega
 by_cases hi2:i<L.length
 rotate_left
 ·obtain rfl:i=L.length:=by omega
  refine X1 1000 ?_
  simp only [X5,Int.lt_irrefl,Nat.lt_irrefl,↓X2,wA,seval,zA,qA,qC,vA,vC,Jf,wN]
  have ca:=jJ L 1000 h (by omega) (by omega)
  have cs:=Kw (Zb L)
  refine X0 ca rfl ?_
  simp only [↓X2,wA,seval,zA,qA,qC,vA,vC,Jf,wN]
  refine X0 cs rfl ?_
  simp only [↓X2,wA,seval,zA,qA,qC,vA,vC,Jf,wN]
  exact fin rfl (by rw [hV,decide_eq_decide]; unfold Am; exact ⟨fun h=>⟨by omega,hgood,h⟩,fun h=>h.2.2⟩)
 have f3:((i:Int)<L.length)=True:=eq_true (by omega)
 have f4:(i<L.length)=True:=eq_true hi2
 refine X1 1000 ?_
 simp only [w1,w2,f3,f4,Int.toNat_natCast,↓X2,wA,seval,zA,qA,qC,vA,vC,Jf,wN]
 refine X0 (cat i (by omega)) rfl ?_
 simp only [w1,w2,↓X2,wA,seval,zA,qA,qC,vA,vC,Jf,wN]
 refine X0 (cat (i+1) (by omega)) rfl ?_
 simp only [w1,w2,↓X2,wA,seval,zA,qA,qC,vA,vC,Jf,wN]
 refine X0 (cat (i+2) (by omega)) rfl ?_
 simp only [w1,w2,↓X2,wA,seval,zA,qA,qC,vA,vC,Jf,wN]
 refine X0 (Zi _ _ _ (sm _) (sm _) (sm _)) rfl ?_
 by_cases hs:Jd (atF L i) (atF L (i+1)) (atF L (i+2))=0
 ·have f5:(Jd (atF L i) (atF L (i+1)) (atF L (i+2))=0)=True:=eq_true hs
  simp only [f5,↓X2,wA,seval,zA,qA,qC,vA,vC,Jf,wN]
  exact fin rfl (by rw [hV,decide_eq_false]; exact fun hp=>(hp.2.1 i hi2).1 hs)
 have f5:(Jd (atF L i) (atF L (i+1)) (atF L (i+2))=0)=False:=eq_false hs
 simp only [f5,w1,w2,↓X2,wA,seval,zA,qA,qC,vA,vC,Jf,wN]
 refine Xe (fun k:Nat=>⟨9,[17,18,19,35,36],[.any,.ptr 1 (Xq [Xp L]) 0,.bool false,.ptr 1 (Xq [I L.length]) 0,.any,.any,.fn 178 [.ptr 1 (Xq [Xp L]) 0,.ptr 1 (Xq [I L.length]) 0],I i,I k],[(35,I L.length),(36,I i)],[]⟩) (fun k=>i+2≤k∧k≤L.length+2∧∀ j,i+2≤j→j<k→j<L.length→¬ UD L i j) (fun k=>L.length+2 - k) (i+2) ⟨by omega,by omega,by omega⟩
  (Xa rfl (by simp [Xh,I]) (by simp [Xi,Xw,I]) rfl) ?_
 rintro k ⟨hk1,hk2,hpair⟩ nextk
 have u1:=wj k (by omega)
 by_cases hk3:k<L.length
 rotate_left
 ·have g3:((k:Int)<L.length)=False:=eq_false (by omega)
  have g4:(k<L.length)=False:=eq_false hk3
  refine X1 1000 ?_
  simp only [g3,g4,w1,↓X2,wA,seval,zA,qA,qC,vA,vC,Jf,wN]
  refine next (i+1) _ ⟨by omega,fun j hj=>?_⟩ (by omega) (Xa rfl (by simp [Xh,I]) (by simp [Xi,Xw,I]) rfl)
  by_cases hji:j<i
  ·exact hgood j hji
  ·obtain rfl:j=i:=by omega
   exact ⟨hs,fun q hq1 hq2=>hpair q hq1 (by omega) hq2⟩
 have g3:((k:Int)<L.length)=True:=eq_true (by omega)
 have g4:(k<L.length)=True:=eq_true hk3
 have hm:((k+1:Nat):Int).tmod L.length=(((k+1) % L.length:Nat):Int):=rfl
 have f6:((L.length:Int)=0)=False:=eq_false (by omega)
 have f6':(L.length=0)=False:=eq_false hn0
 by_cases hne:(k+1) % L.length=i
 ·have g5:((k+1) % L.length=i)=True:=eq_true hne
  have g6:((((k+1) % L.length:Nat):Int)=(i:Int))=True:=eq_true (by omega)
  refine X1 1000 ?_
  simp only [g3,g4,g5,g6,w1,u1,hm,f6,f6',↓X2,wA,seval,zA,qA,qC,vA,vC,Jf,wN]
  exact nextk (k+1) _ ⟨by omega,by omega,fun j h1 h2 h3=>by
   by_cases hjk:j<k
   ·exact hpair j h1 hjk h3
   ·obtain rfl:j=k:=by omega
    exact fun hb=>hb.1 hne⟩ (by omega) (Xa rfl (by simp [Xh,I]) (by simp [Xi,Xw,I]) rfl)
 have g5:((k+1) % L.length=i)=False:=eq_false hne
 have g6:((((k+1) % L.length:Nat):Int)=(i:Int))=False:=eq_false (by omega)
 refine X1 1000 ?_
 simp only [g3,g4,g5,g6,w1,u1,hm,f6,f6',↓X2,wA,seval,zA,qA,qC,vA,vC,Jf,wN]
 refine X0 (cat i (by omega)) rfl ?_
 simp only [g5,g6,w1,u1,↓X2,wA,seval,zA,qA,qC,vA,vC,Jf,wN]
 refine X0 (cat (i+1) (by omega)) rfl ?_
 simp only [g5,g6,w1,u1,↓X2,wA,seval,zA,qA,qC,vA,vC,Jf,wN]
 refine X0 (cat k (by omega)) rfl ?_
 simp only [g5,g6,w1,u1,↓X2,wA,seval,zA,qA,qC,vA,vC,Jf,wN]
 refine X0 (cat (k+1) (by omega)) rfl ?_
 simp only [g5,g6,w1,u1,↓X2,wA,seval,zA,qA,qC,vA,vC,Jf,wN]
 refine X0 (fw _ _ _ _ (sm _) (sm _) (sm _) (sm _)) rfl ?_
 by_cases hmt:CG (atF L i) (atF L (i+1)) (atF L k) (atF L (k+1))=true
 ·rw [hmt]
  simp only [g5,g6,↓X2,wA,seval,zA,qA,qC,vA,vC,Jf,wN]
  exact fin rfl (by rw [hV,decide_eq_false]; exact fun hp=>(hp.2.1 i hi2).2 k hk1 hk3 ⟨hne,hmt⟩)
 ·have hmf:=Bool.not_eq_true _▸hmt
  rw [hmf]
  simp only [g5,g6,u1,↓X2,wA,seval,zA,qA,qC,vA,vC,Jf,wN]
  exact nextk (k+1) _ ⟨by omega,by omega,fun j h1 h2 h3=>by
   by_cases hjk:j<k
   ·exact hpair j h1 hjk h3
   ·obtain rfl:j=k:=by omega
    exact fun hb=>hmt hb.2⟩ (by omega) (Xa rfl (by simp [Xh,I]) (by simp [Xi,Xw,I]) rfl)
def KH (p:Int×Int):List AV:=[I p.1,I p.2]
def C6 (l:List (Int×Int)):AV:=qz KH 2 (0,0) l
theorem QG (l:List (Int×Int)):Settled (C6 l):=BZ fun a x hx=>by
 have:∀ x∈KH a,Settled x:=by simp [KH,X9]
 exact this x hx
theorem Xf (l:List (Int×Int)):C6 l=.sl l.length (l.length*2) (XB KH 2 (0,0) l) false:=nrfl rfl
theorem Xl (l:List Bool):Jw l=.sl l.length l.length (Q1 AV.bool false l) false:=nrfl rfl
theorem X4 (l:List Int):X8 l=.sl l.length l.length (Q1 I 0 l) false:=nrfl rfl
theorem RZ {α:Type} (e:α→List AV) (s:Nat) (d:α) (l:List α) (j:Nat) (hs:0<s) (he:∀ a,(e a).length=s∧∀ x∈e a,x.one=true):(XB e s d l j).one=true:=by
 have h:=he (l.getD (j / s) d)
 have hj:j % s<(e (l.getD (j / s) d)).length:=by rw [h.1]; exact Nat.mod_lt _ hs
 unfold XB
 rw [List.getD_eq_getElem?_getD,List.getElem?_eq_getElem hj]
 exact h.2 _ (List.getElem_mem hj)
theorem Kj (p:Int×Int):∀ x∈KH p,Settled x:=by simp [KH,X9]
theorem aw (l:List (Int×Int)) (i:Nat):XB KH 2 (0,0) l (i*2)=I (l.getD i (0,0)).1∧XB KH 2 (0,0) l (i*2+1)=I (l.getD i (0,0)).2:=by
 refine ⟨?_,?_⟩
 ·rw [A1 _ _ _ _ _ (by omega)]; rfl
 ·rw [A0 _ _ _ _ _ _ (by omega)]; rfl
theorem oL (f:Nat→AV) (m:Nat) (g:Nat→AV) (j:Nat):QK 0 f m g j=if j<m then g j else f j:=by simp [QK]
theorem Gu {P:Program} {fn:Func} {str hcs:List Nat} {s:AS} {t n m es ver id:Nat} {f g:Nat→AV} (hr:fn.results=#[.tmp t]) (hs:s.get t=.osl id ver es 0 n) (ho:s.h[id]?=some (.row ver m (QK 0 f m g))) (hn:n=0→m=0) (hg:∀ j,j<m→Settled (g j)) :
  RetOk (Qn P fn str hcs (.sl n m g false)) s:=by
 refine AR hr ?_
 rw [hs]
 refine Qv (.inl ho) (by omega) hn fun j hj=>?_
 rw [Nat.zero_add,oL,if_pos hj]
 exact (hg j hj).sees _
theorem EN {P:Program} {fn:Func} {str hcs:List Nat} {s:AS} {t:Nat} {f g:Nat→AV} {b:Bool} (hr:fn.results=#[.tmp t]) (hs:s.get t=.sl 0 0 f b):RetOk (Qn P fn str hcs (.sl 0 0 g false)) s:=by
 refine AR hr ?_
 rw [hs]
 exact U5
theorem WI (l:List Int) (hl:l.length<1000000):Fn Tryz.prog 82 [X8 l] (X8 l):=by
 refine Fq Tryz.call82 Tryz.func82 3 [] [] [] (by simp [X7]) (X1 1000 ?_)
 simp only [AS.start,X4,↓X2,wA,seval,zA,qA,qC,vA,vC,Jf,wN]
 have hb:l.length*8≤140737488355328∧l.length≤9223372036854775807:=⟨by omega,by omega⟩
 have hc:jt (Qn Tryz.prog Tryz.f82 [] [] (X8 l)) .mk ⟨3,[],[X8 l,.any,.osl 0 0 1 0 l.length],[(7,.osl 0 0 1 0 l.length),(6,X8 l),(5,.sl 0 0 (Xq []) true)],[.row 0 (l.length) (QK 0 (Xq []) (l.length) (Q1 I 0 l))]⟩:=by
  rw [X4]
  exact Gu rfl rfl rfl (fun h=>by rw [h]) fun j hj=>X9 _
 by_cases h0:l.length=0
 ·rw [if_pos h0,Cd]
  refine ⟨?_,hb,hc⟩
  have e:l=[]:=List.eq_nil_of_length_eq_zero h0
  subst e
  exact EN rfl rfl
 ·rw [if_neg h0,Dd,ZT]
  exact ⟨hb,hc⟩
theorem WH (l:List Bool) (hl:l.length<1000000):Fn Tryz.prog 81 [Jw l] (Jw l):=by
 refine Fq Tryz.call81 Tryz.func81 3 [] [] [] (by simp [Zl]) (X1 1000 ?_)
 simp only [AS.start,Xl,↓X2,wA,seval,zA,qA,qC,vA,vC,Jf,wN]
 have hb:l.length≤140737488355328∧l.length≤9223372036854775807:=⟨by omega,by omega⟩
 have hc:jt (Qn Tryz.prog Tryz.f81 [] [] (Jw l)) .mk ⟨3,[],[Jw l,.any,.osl 0 0 1 0 l.length],[(7,.osl 0 0 1 0 l.length),(6,Jw l),(5,.sl 0 0 (Xq []) true)],[.row 0 (l.length) (QK 0 (Xq []) (l.length) (Q1 AV.bool false l))]⟩:=by
  rw [Xl]
  exact Gu rfl rfl rfl (fun h=>by rw [h]) fun j hj=>X3 _
 by_cases h0:l.length=0
 ·rw [if_pos h0,Cd]
  refine ⟨?_,hb,hc⟩
  have e:l=[]:=List.eq_nil_of_length_eq_zero h0
  subst e
  exact EN rfl rfl
 ·rw [if_neg h0,Dd,ZT]
  exact ⟨hb,hc⟩
theorem WJ (l:List (Int×Int)) (hl:l.length<1000000):Fn Tryz.prog 80 [C6 l] (C6 l):=by
 refine Fq Tryz.call80 Tryz.func80 3 [] [] [] (by simp [QG]) (X1 1000 ?_)
 simp only [AS.start,Xf,↓X2,wA,seval,zA,qA,qC,vA,vC,Jf,wN]
 have hb:((∀ (j:Nat),j<l.length*2→(XB KH 2 (0,0) l j).one=true)∧l.length*16≤140737488355328∧l.length≤9223372036854775807):=⟨fun j _=>RZ _ _ _ _ _ (by omega) fun a=>⟨rfl,by simp [KH,I,AV.one]⟩,by omega,by omega⟩
 have hc:jt (Qn Tryz.prog Tryz.f80 [] [] (C6 l)) .mk ⟨3,[],[C6 l,.any,.osl 0 0 2 0 l.length],[(7,.osl 0 0 2 0 l.length),(6,C6 l),(5,.sl 0 0 (Xq []) true)],[.row 0 (l.length*2) (QK 0 (Xq []) (l.length*2) (XB KH 2 (0,0) l))]⟩:=by
  rw [Xf]
  exact Gu rfl rfl rfl (fun h=>by rw [h]) fun j hj=>Xg (Kj _) _
 by_cases h0:l.length=0
 ·rw [if_pos h0,Cd]
  refine ⟨?_,hb,hc⟩
  have e:l=[]:=List.eq_nil_of_length_eq_zero h0
  subst e
  exact EN rfl rfl
 ·rw [if_neg h0,Dd,ZT]
  exact ⟨hb,hc⟩
theorem Tv (a b:List Bool) (la:a.length<4611686018427387904) (lb:b.length<4611686018427387904):Fn Tryz.prog 176 [Jw a,Jw b] (.bool (decide (a=b))):=by
 obtain ⟨V,hV⟩:∃ V,V=decide (a=b):=⟨_,rfl⟩
 rw [← hV]
 refine Fq Tryz.call176 Tryz.func176 6 [11,12,13] [] [] (by simp [Zl]) (X1 1000 ?_)
 by_cases hl:a.length=b.length
 ·have f1:((a.length:Int)=b.length)=True:=eq_true (by omega)
  have f1':(a.length=b.length)=True:=eq_true hl
  simp only [AS.start,Xl,f1,f1',↓X2,wA,seval,zA,qA,qC,vA,vC,Jf,wN]
  refine Xe (fun j:Nat=>⟨6,[11,12,13],[Jw a,Jw b,.any,.any,.any,.any],[(11,Jw a),(12,I a.length),(13,I j)],[]⟩) (fun j=>j≤a.length∧∀ i,i<j→a.getD i false=b.getD i false) (fun j=>a.length - j) 0 ⟨by omega,by omega⟩
   (Xa rfl (by simp [Xh,Jw,Qk,I,hl]) (by simp [Xi,Xw,Jw,Qk,I,hl]) rfl) ?_
  rintro j ⟨hj,hno⟩ next
  have w1:=wj j (by omega)
  by_cases hj2:j<a.length
  ·have f2:((j:Int)<a.length)=True:=eq_true (by omega)
   have f3:(j<a.length)=True:=eq_true hj2
   have f4:(j<b.length)=True:=eq_true (by omega)
   refine X1 1000 ?_
   simp only [Xl,w1,f2,f3,f4,↓X2,wA,seval,zA,qA,qC,vA,vC,Jf,wN]
   refine ⟨fun h=>Xs (v:=.bool false) rfl rfl (X3 _) ?_,fun h=>next (j+1) _ ⟨by omega,fun i hi=>?_⟩ (by omega) (Xa rfl (by simp [Xh,Jw,Qk,I]) (by simp [Xi,Xw,Jw,Qk,I]) rfl)⟩
   ·rw [hV,decide_eq_false fun e=>by rw [e] at h; simp at h]
   ·by_cases e:i=j
    ·rw [e]; simpa using h
    ·exact hno i (by omega)
  ·have f2:((j:Int)<a.length)=False:=eq_false (by omega)
   have f3:(j<a.length)=False:=eq_false hj2
   refine X1 1000 ?_
   simp only [Xl,w1,f2,f3,↓X2,wA,seval,zA,qA,qC,vA,vC,Jf,wN]
   refine Xs (v:=.bool true) rfl rfl (X3 _) ?_
   rw [hV,decide_eq_true]
   refine List.ext_getElem hl fun i h1 h2=>?_
   have:=hno i (by omega)
   rw [List.getD_eq_getElem?_getD,List.getElem?_eq_getElem h1,List.getD_eq_getElem?_getD,List.getElem?_eq_getElem h2] at this
   exact this
 ·have f1:((a.length:Int)=b.length)=False:=eq_false (by omega)
  have f1':(a.length=b.length)=False:=eq_false hl
  simp only [AS.start,Xl,f1,f1',↓X2,wA,seval,zA,qA,qC,vA,vC,Jf,wN]
  refine Xs (v:=.bool false) rfl rfl (X3 _) ?_
  rw [hV,decide_eq_false fun e=>hl (by rw [e])]
theorem ec (a b:List (Int×Int)) (la:a.length<4611686018427387904) (lb:b.length<4611686018427387904):Fn Tryz.prog 175 [C6 a,C6 b] (.bool (decide (a=b))):=by
 obtain ⟨V,hV⟩:∃ V,V=decide (a=b):=⟨_,rfl⟩
 rw [← hV]
 refine Fq Tryz.call175 Tryz.func175 6 [11,12,13] [] [] (by simp [QG]) (X1 1000 ?_)
 by_cases hl:a.length=b.length
 ·have f1:((a.length:Int)=b.length)=True:=eq_true (by omega)
  have f1':(a.length=b.length)=True:=eq_true hl
  simp only [AS.start,Xf,f1,f1',↓X2,wA,seval,zA,qA,qC,vA,vC,Jf,wN]
  refine Xe (fun j:Nat=>⟨6,[11,12,13],[C6 a,C6 b,.any,.any,.any,.any],[(11,C6 a),(12,I a.length),(13,I j)],[]⟩) (fun j=>j≤a.length∧∀ i,i<j→a.getD i (0,0)=b.getD i (0,0)) (fun j=>a.length - j) 0 ⟨by omega,by omega⟩
   (Xa rfl (by simp [Xh,Xf,Qk,I,hl]) (by simp [Xi,Xw,Xf,Qk,I,hl]) rfl) ?_
  rintro j ⟨hj,hno⟩ next
  have w1:=wj j (by omega)
  by_cases hj2:j<a.length
  ·have f2:((j:Int)<a.length)=True:=eq_true (by omega)
   have f3:(j<a.length)=True:=eq_true hj2
   have f4:(j<b.length)=True:=eq_true (by omega)
   have f5:(j*2+2≤a.length*2)=True:=eq_true (by omega)
   have f6:(j*2+2≤b.length*2)=True:=eq_true (by omega)
   have v1:=aw a j
   have v2:=aw b j
   by_cases hx:(a.getD j (0,0)).1=(b.getD j (0,0)).1
   rotate_left
   ·have g1:((a.getD j (0,0)).1=(b.getD j (0,0)).1)=False:=eq_false hx
    refine X1 1000 ?_
    simp only [Xf,w1,f2,f3,f4,f5,f6,v1,v2,g1,↓X2,wA,seval,zA,qA,qC,vA,vC,Jf,wN]
    refine Xs (v:=.bool false) rfl rfl (X3 _) ?_
    rw [hV,decide_eq_false fun e=>hx (by rw [e])]
   have g1:((a.getD j (0,0)).1=(b.getD j (0,0)).1)=True:=eq_true hx
   by_cases hy:(a.getD j (0,0)).2=(b.getD j (0,0)).2
   rotate_left
   ·have g2:((a.getD j (0,0)).2=(b.getD j (0,0)).2)=False:=eq_false hy
    refine X1 1000 ?_
    simp only [Xf,w1,f2,f3,f4,f5,f6,v1,v2,g1,g2,↓X2,wA,seval,zA,qA,qC,vA,vC,Jf,wN]
    refine Xs (v:=.bool false) rfl rfl (X3 _) ?_
    rw [hV,decide_eq_false fun e=>hy (by rw [e])]
   have g2:((a.getD j (0,0)).2=(b.getD j (0,0)).2)=True:=eq_true hy
   refine X1 1000 ?_
   simp only [Xf,w1,f2,f3,f4,f5,f6,v1,v2,g1,g2,↓X2,wA,seval,zA,qA,qC,vA,vC,Jf,wN]
   refine next (j+1) _ ⟨by omega,fun i hi=>?_⟩ (by omega) (Xa rfl (by simp [Xh,Xf,Qk,I]) (by simp [Xi,Xw,Xf,Qk,I]) rfl)
   by_cases e:i=j
   ·rw [e]; exact Prod.ext hx hy
   ·exact hno i (by omega)
  ·have f2:((j:Int)<a.length)=False:=eq_false (by omega)
   have f3:(j<a.length)=False:=eq_false hj2
   refine X1 1000 ?_
   simp only [Xf,w1,f2,f3,↓X2,wA,seval,zA,qA,qC,vA,vC,Jf,wN]
   refine Xs (v:=.bool true) rfl rfl (X3 _) ?_
   rw [hV,decide_eq_true]
   refine List.ext_getElem hl fun i h1 h2=>?_
   have:=hno i (by omega)
   rw [List.getD_eq_getElem?_getD,List.getElem?_eq_getElem h1,List.getD_eq_getElem?_getD,List.getElem?_eq_getElem h2] at this
   exact this
 ·have f1:((a.length:Int)=b.length)=False:=eq_false (by omega)
  have f1':(a.length=b.length)=False:=eq_false hl
  simp only [AS.start,Xf,f1,f1',↓X2,wA,seval,zA,qA,qC,vA,vC,Jf,wN]
  refine Xs (v:=.bool false) rfl rfl (X3 _) ?_
  rw [hV,decide_eq_false fun e=>hl (by rw [e])]
theorem tz (z:Int):zA z=.agg [.bool (decide (z<0)),X8 (Xb z.natAbs)]:=nrfl rfl
theorem tx (v:V2):vC v=[.bool (decide (v.x.num<0)),X8 (Xb v.x.num.natAbs),.bool false,X8 (Xb (qd v.x)),.bool (decide (v.y.num<0)),X8 (Xb v.y.num.natAbs),.bool false,X8 (Xb (qd v.y))]:=nrfl rfl
theorem tv (v:V2):vA v=.agg (vC v):=nrfl rfl
theorem tj (r:Rat):qC r=[.bool (decide (r.num<0)),X8 (Xb r.num.natAbs),.bool false,X8 (Xb (qd r))]:=nrfl rfl
theorem ti (r:Rat):qA r=.agg (qC r):=nrfl rfl
set_option linter.defProp false in
def wS:=And.intro K6 (And.intro @Xc (And.intro @Xn (And.intro @Xk (And.intro @QG @Zl))))
set_option linter.defProp false in
def wE:=And.intro @tz (And.intro @tx (And.intro @tv (And.intro @tj (And.intro @ti (And.intro @Xf (And.intro @Xl (And.intro Jf wN)))))))
structure PV where
 id:Int
 home:Int
 rim:List (Int×Int)
 worn:List Bool
 marks:List Int
 tol:RQ
 light:RQ
 heavy:RQ
 strength:RQ
 rough:RQ
def XC (p:PV):List AV:=[I p.id,I p.home,C6 p.rim,Jw p.worn,X8 p.marks,.bool p.tol.pn,X8 p.tol.pd,.bool p.tol.qn,X8 p.tol.qd,.bool p.light.pn,X8 p.light.pd,.bool p.light.qn,X8 p.light.qd,
 .bool p.heavy.pn,X8 p.heavy.pd,.bool p.heavy.qn,X8 p.heavy.qd,.bool p.strength.pn,X8 p.strength.pd,.bool p.strength.qn,X8 p.strength.qd,.bool p.rough.pn,X8 p.rough.pd,.bool p.rough.qn,X8 p.rough.qd]
def Q3 (p:PV):AV:=.agg (XC p)
theorem Xu (p:PV):Settled (Q3 p):=Qd (by simp [XC,X9,QG,Zl,X7,X3])
def Bx (p:PV):List AV:=[.bool p.tol.pn,X8 p.tol.pd,.bool p.tol.qn,X8 p.tol.qd,.bool p.light.pn,X8 p.light.pd,.bool p.light.qn,X8 p.light.qd,
 .bool p.heavy.pn,X8 p.heavy.pd,.bool p.heavy.qn,X8 p.heavy.qd,.bool p.strength.pn,X8 p.strength.pd,.bool p.strength.qn,X8 p.strength.qd,.bool p.rough.pn,X8 p.rough.pd,.bool p.rough.qn,X8 p.rough.qd]
def PV.num (p:PV):Nat→RQ
 | 0=>p.tol
 | 1=>p.light
 | 2=>p.heavy
 | 3=>p.strength
 | _=>p.rough
theorem F1 (p:PV):Fn Tryz.prog 89 [Q3 p] (.agg (Bx p)):=by
 have sR:Settled (.agg (Bx p)):=Qd (by simp [Bx,X7,X3])
 refine Fq Tryz.call89 Tryz.func89 3 [] [] [] (by simp [Xu]) (X1 1000 ?_)
 simp only [AS.start,Q3,XC,↓X2,wA,seval,wE]
 exact Z7 rfl fp rfl rfl rfl sR rfl
theorem XG {m v n:Nat} {L:List AV} (h:∀ x∈L,Settled x):XI m (.row v n (Xq L)):=fun j _=>X6 (Xg h j)
theorem XF (p:PV):∀ x∈XC p,Settled x:=by simp [XC,X9,QG,Zl,X7,X3]
def wb (n lo hi:Int):Bool:=decide (lo≤n) && decide (n≤hi)
theorem Ct (n lo hi:Int):Fn Tryz.prog 177 [I n,I lo,I hi] (.bool (wb n lo hi)):=by
 unfold wb
 refine Fq Tryz.call177 Tryz.func177 6 [] [] [] (by simp [wS]) (X1 1000 ?_); simp (config:={ maxSteps:=2000000 }) only [AS.start,↓X2,wA,seval,wE]
 refine ⟨fun h=>Xs rfl rfl (X3 _) (by rw [decide_eq_true h]; rfl),fun h=>Xs rfl rfl (X3 _) (by rw [decide_eq_false h]; rfl)⟩
def Da (c:Int×Int):Bool:=wb c.1 (-65536) 65536 && wb c.2 (-65536) 65536
def GD (m:Int):Bool:=wb m 0 1024
def FT (p:PV):Prop:=(∀ i,i<p.rim.length→Da (p.rim.getD i (0,0))=true)∧(∀ i,i<p.marks.length→GD (p.marks.getD i 0)=true)∧wb p.id 0 999=true∧wb p.home 0 4=true
theorem TA (p:PV) (hr:p.rim.length<1000000) (hm:p.marks.length<1000000):Fn Tryz.prog 88 [Q3 p] (.bool (decide (FT p))):=by
 obtain ⟨V,hV⟩:∃ V,V=decide (FT p):=⟨_,rfl⟩
 have bp:Jj 1 (C6 p.rim)=True:=eq_true (X6 (QG _))
 have bm:Jj 1 (X8 p.marks)=True:=eq_true (X6 (X7 _))
 have bo:XI 1 (.row 0 25 (Xq (XC p)))=True:=eq_true (XG (XF p))
 have fin:∀ {s:AS} {v:Bool},s.get 2=.bool v→v=V→RetOk (Qn Tryz.prog Tryz.f88 [] [] (.bool V)) s:=fun h e=>Xs rfl h (X3 _) (by rw [e])
 rw [← hV]
 refine Fq Tryz.call88 Tryz.func88 7 [8,9,10,26,27,28] [] [] (by simp [Xu]) (X1 1000 ?_)
 simp only [AS.start,Q3,XC,↓X2,wA,seval,wE]
 refine Xe (fun i:Nat=>⟨7,[8,9,10,26,27,28],[.any,.ref 0 0 0,.bool false,.any,.any,.any,.any],[(8,C6 p.rim),(9,I p.rim.length),(10,I i)],[.row 0 25 (Xq (XC p))]⟩) (fun i=>i≤p.rim.length∧∀ j,j<i→Da (p.rim.getD j (0,0))=true) (fun i=>p.rim.length - i) 0 ⟨by omega,by omega⟩
  (Xa rfl (by simp [Xh]) (by simp [Xi,Xw,Xf,I]) (by simp [XC,Xf,Xl,X4,I])) ?_
 rintro i ⟨hi,hok⟩ next
 have w1:=wj i (by omega)
 by_cases hi2:i<p.rim.length
 ·have f1:((i:Int)<p.rim.length)=True:=eq_true (by omega)
  have f2:(i<p.rim.length)=True:=eq_true hi2
  have f3:(i*2+2≤p.rim.length*2)=True:=eq_true (by omega)
  have v1:=aw p.rim i
  have c1:=Ct (p.rim.getD i (0,0)).1 (-65536) 65536
  have c2:=Ct (p.rim.getD i (0,0)).2 (-65536) 65536
  have bad:Da (p.rim.getD i (0,0))=false→V=false:=fun h=>by
   rw [hV,decide_eq_false]
   intro hp
   have:=hp.1 i hi2
   rw [h] at this; cases this
  refine X1 1000 ?_
  simp only [XC,w1,f1,f2,f3,v1,Int.toNat_natCast,↓X2,wA,seval,wE]
  refine X0 c1 rfl ?_
  by_cases h1:wb (p.rim.getD i (0,0)).1 (-65536) 65536=true
  rotate_left
  ·rw [Bool.not_eq_true] at h1
   rw [h1]
   simp only [w1,↓X2,wA,seval,wE]
   exact fin rfl (bad (by unfold Da; rw [h1]; rfl)).symm
  rw [h1]
  simp only [w1,↓X2,wA,seval,wE]
  refine X0 c2 rfl ?_
  by_cases h2:wb (p.rim.getD i (0,0)).2 (-65536) 65536=true
  rotate_left
  ·rw [Bool.not_eq_true] at h2
   rw [h2]
   simp only [w1,↓X2,wA,seval,wE]
   exact fin rfl (bad (by unfold Da; rw [h1,h2]; rfl)).symm
  rw [h2]
  simp only [w1,↓X2,wA,seval,wE]
  refine next (i+1) _ ⟨by omega,fun j hj=>?_⟩ (by omega) (Xy (m:=1) (Nat.zero_le _) rfl (by simp [Xh]) (by simp [Xi,Xw,Xf,I]) (by simp [XC,Xf,Xl,X4,I]) (by simp [Xx]) (by simp [Xx,bp]) (by simp [bo]))
  by_cases hji:j<i
  ·exact hok j hji
  ·obtain rfl:j=i:=by omega
   unfold Da; rw [h1,h2]; rfl
 obtain rfl:i=p.rim.length:=by omega
 refine X1 1000 ?_
 simp only [XC,Int.lt_irrefl,Nat.lt_irrefl,↓X2,wA,seval,wE]
 refine Xe (fun i:Nat=>⟨7,[8,9,10,26,27,28],[.any,.ref 0 0 0,.bool false,.any,.any,.any,.any],[(26,X8 p.marks),(27,I p.marks.length),(28,I i)],[.row 0 25 (Xq (XC p))]⟩) (fun i=>i≤p.marks.length∧∀ j,j<i→GD (p.marks.getD j 0)=true) (fun i=>p.marks.length - i) 0 ⟨by omega,by omega⟩
  (Xa rfl (by simp [Xh]) (by simp [Xi,Xw,X4,I]) (by simp [XC,Xf,Xl,X4,I])) ?_
 rintro i ⟨hi,hmk⟩ next
 have w1:=wj i (by omega)
 by_cases hi2:i<p.marks.length
 ·have f1:((i:Int)<p.marks.length)=True:=eq_true (by omega)
  have f2:(i<p.marks.length)=True:=eq_true hi2
  have c1:=Ct (p.marks.getD i 0) 0 1024
  refine X1 1000 ?_
  simp only [XC,w1,f1,f2,X4,Int.toNat_natCast,↓X2,wA,seval,wE]
  refine X0 c1 rfl ?_
  by_cases h1:wb (p.marks.getD i 0) 0 1024=true
  rotate_left
  ·rw [Bool.not_eq_true] at h1
   rw [h1]
   simp only [w1,↓X2,wA,seval,wE]
   refine fin rfl ?_
   rw [hV,decide_eq_false]
   intro hp
   have:=hp.2.1 i hi2
   unfold GD at this
   rw [h1] at this; cases this
  rw [h1]
  simp only [w1,↓X2,wA,seval,wE]
  refine next (i+1) _ ⟨by omega,fun j hj=>?_⟩ (by omega) (Xy (m:=1) (Nat.zero_le _) rfl (by simp [Xh]) (by simp [Xi,Xw,X4,I]) (by simp [XC,Xf,Xl,X4,I]) (by simp [Xx]) (by simp [Xx,bm]) (by simp [bo]))
  by_cases hji:j<i
  ·exact hmk j hji
  ·obtain rfl:j=i:=by omega
   exact h1
 obtain rfl:i=p.marks.length:=by omega
 have c1:=Ct p.id 0 999
 have c2:=Ct p.home 0 4
 refine X1 1000 ?_
 simp only [XC,X4,Int.lt_irrefl,Nat.lt_irrefl,↓X2,wA,seval,wE]
 refine X0 c1 rfl ?_
 by_cases h1:wb p.id 0 999=true
 rotate_left
 ·rw [Bool.not_eq_true] at h1
  rw [h1]
  simp only [↓X2,wA,seval,wE]
  refine fin rfl ?_
  rw [hV,decide_eq_false]
  intro hp
  have:=hp.2.2.1
  rw [h1] at this; cases this
 rw [h1]
 simp only [↓X2,wA,seval,wE]
 refine X0 c2 rfl ?_
 simp only [↓X2,wA,seval,wE]
 refine fin rfl ?_
 rw [hV]
 by_cases h2:wb p.home 0 4=true
 ·rw [h2,decide_eq_true ⟨hok,hmk,h1,h2⟩]
 ·rw [Bool.not_eq_true] at h2
  rw [h2,decide_eq_false]
  intro hp
  have:=hp.2.2.2
  rw [h2] at this; cases this
theorem XQ {α:Type} (e:α→List AV) (s:Nat) (d:α) (l:List α) (x:α) (hs:0<s):QK (l.length*s) (XB e s d l) s (Xq (e x))=XB e s d (l ++ [x]):=by
 funext j
 unfold QK XB Xq
 by_cases h1:j<l.length*s
 ·have:j / s<l.length:=by rw [Nat.div_lt_iff_lt_mul hs]; exact h1
  have e1:(l ++ [x]).getD (j / s) d=l.getD (j / s) d:=by rw [List.getD_eq_getElem?_getD,List.getD_eq_getElem?_getD,List.getElem?_append_left this]
  rw [if_pos h1,e1]
 ·rw [if_neg h1]
  by_cases h2:j<l.length*s+s
  ·rw [if_pos h2]
   have hj:j / s=l.length:=by
    refine Nat.div_eq_of_lt_le (by omega) ?_
    rw [Nat.add_mul]; omega
   have hm:j % s=j - l.length*s:=by
    have:=Nat.div_add_mod j s
    rw [hj,Nat.mul_comm] at this
    omega
   rw [hj,hm]
   simp
  ·rw [if_neg h2]
   have hj:l.length+1≤j / s:=by
    rw [Nat.le_div_iff_mul_le hs,Nat.add_mul]; omega
   have e1:(l ++ [x]).getD (j / s) d=d:=by rw [List.getD_eq_getElem?_getD,List.getElem?_eq_none (by simp; omega)]; rfl
   have e2:l.getD (j / s) d=d:=by rw [List.getD_eq_getElem?_getD,List.getElem?_eq_none (by omega)]; rfl
   rw [e1,e2]
def Js (c:Int×Int):V2:=⟨c.1,c.2⟩
def Xz (l:List (Int×Int)):List V2:=l.map Js
theorem As {α:Type} (l:List α) (d:α) {i:Nat} (h:i<l.length):l.take (i+1)=l.take i ++ [l.getD i d]:=by
 rw [List.take_succ_eq_append_getElem h,List.getD_eq_getElem?_getD,List.getElem?_eq_getElem h]; rfl
theorem Oj (p:PV) (hl:p.rim.length<1000000) (hr:∀ i,i<p.rim.length→Da (p.rim.getD i (0,0))=true):Fn Tryz.prog 54 [Q3 p] (Xp (Xz p.rim)):=by
 obtain ⟨R,hR⟩:∃ R,R=Xp (Xz p.rim):=⟨_,rfl⟩
 have sR:Settled R:=hR▸Xd _
 have bp:Jj 2 (C6 p.rim)=True:=eq_true (X6 (QG _))
 have bo:XI 2 (.row 0 25 (Xq (XC p)))=True:=eq_true (XG (XF p))
 have hvc:∀ a:V2,∀ x∈vC a,Settled x:=fun a=>by simp [vC,X7,X3]
 have br:∀ i l n,XI 2 (.row i n (XB vC 8 v0 l))=True:=fun i l n=>eq_true fun j _=>X6 (Xg (hvc _) _)
 rw [← hR]
 refine Fq Tryz.call54 Tryz.func54 6 [7,8,9] [] [] (by simp [Xu]) (X1 1000 ?_)
 simp only [AS.start,Q3,XC,↓X2,wA,seval,wE]
 refine Xe (fun i:Nat=>⟨6,[7,8,9],[.any,.ref 0 0 0,.any,.osl 1 i 8 0 i,.any,.any],[(7,C6 p.rim),(8,I p.rim.length),(9,I i)],[.row 0 25 (Xq (XC p)),.row i (i*8) (XB vC 8 v0 (Xz (p.rim.take i)))]⟩) (fun i=>i≤p.rim.length) (fun i=>p.rim.length - i) 0 (by omega)
  ((Q7 3 8 (XB vC 8 v0 []) rfl).trans (Xa rfl (by simp [AS.put,Xh]) (by simp [AS.put,Xi,Xw,Xf,I]) (by simp [AS.put,XC,Xf,Xl,X4,I,Xz]))) ?_
 intro i hi next
 have w1:=wj i (by omega)
 by_cases hi2:i<p.rim.length
 ·have f1:((i:Int)<p.rim.length)=True:=eq_true (by omega)
  have f2:(i<p.rim.length)=True:=eq_true hi2
  have f3:(i*2+2≤p.rim.length*2)=True:=eq_true (by omega)
  have v1:=aw p.rim i
  have hok:=hr i hi2
  unfold Da wb at hok
  simp only [Bool.and_eq_true,decide_eq_true_eq] at hok
  have c1:=GG (p.rim.getD i (0,0)).1 (p.rim.getD i (0,0)).2 ⟨by omega,by omega⟩ ⟨by omega,by omega⟩
  refine X1 1000 ?_
  simp only [XC,w1,f1,f2,f3,v1,Int.toNat_natCast,↓X2,wA,seval,wE]
  refine X0 c1 rfl ?_
  simp only [w1,↓X2,wA,seval,wE]
  have hap:=XQ vC 8 v0 (Xz (p.rim.take i)) (Js (p.rim.getD i (0,0))) (by omega)
  have hlen:(Xz (p.rim.take i)).length=i:=by simp [Xz]; omega
  have htk:Xz (p.rim.take i) ++ [Js (p.rim.getD i (0,0))]=Xz (p.rim.take (i+1)):=by rw [As _ (0,0) hi2]; simp [Xz]
  rw [hlen,htk] at hap
  refine ⟨⟨fun j hj=>?_,by omega,by omega⟩,next (i+1) _ (by omega) (by omega) (Xy (m:=2) (Nat.zero_le _) rfl (by simp [Xh]) (by simp [Xi,Xw,Xf,I]) (by rw [← hap]; rfl) (by simp [Xx]) (by simp [Xx,bp]) (by simp [bo,br]))⟩
  match j,hj with
  | 0,_=>rfl
  | 1,_=>rfl
  | 2,_=>rfl
  | 3,_=>rfl
  | 4,_=>rfl
  | 5,_=>rfl
  | 6,_=>rfl
  | 7,_=>rfl
  | j+8,h=>omega
 obtain rfl:i=p.rim.length:=by omega
 refine X1 1000 ?_
 simp only [XC,Int.lt_irrefl,Nat.lt_irrefl,↓X2,wA,seval,wE]
 refine AR rfl ?_
 have hlen:(Xz p.rim).length=p.rim.length:=by simp [Xz]
 rw [hR,X5,hlen]
 refine Qv (n:=p.rim.length) (.inl rfl) (by omega) (fun h=>by rw [h]) fun j hj=>?_
 rw [List.take_length,Nat.zero_add]
 exact (Xg (hvc _) _).sees _
end
end Go.Ab.N
