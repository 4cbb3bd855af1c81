/- Contracts of functions of these chapters, for every argument that fits, and what they need. -/
import Derived.Test.YtefjhgcndhepeaaGreatC4
import Derived.Test.YtefjhgcndhepeaaGreatAb4
set_option linter.unusedSimpArgs false
set_option linter.unusedVariables false
open Nat renaming reducePow → Y1, reduceLT → Y2, reduceLeDiff → Y3, reduceEqDiff → Y4, reduceAdd → Y5, reduceMul → Y6, reduceSub → Y7, reduceBEq → Y8, reduceDiv → Y9, reduceMod → YA
namespace Go.Ab.N
open Go Go.RowKit Go.Proofs
noncomputable section
set_option maxRecDepth 10000
set_option maxHeartbeats 2000000
open Classical
theorem Xd2 (x y:Int) (hx:bl x<1000000000) (hy:bl y<1000000000) (hy0:y≠0):Fn Tryz.prog 165 [zA x,zA y] (.tup [zA (x / y),zA (x % y)]):=by
 obtain ⟨L,dL,vL,lL,cd⟩:=Xj0 x.natAbs y.natAbs hx hy (by omega)
 obtain ⟨q,hq⟩:∃ q,q=x.natAbs / y.natAbs:=⟨_,rfl⟩
 obtain ⟨r,hr⟩:∃ r,r=x.natAbs % y.natAbs:=⟨_,rfl⟩
 have hry:r<y.natAbs:=by rw [hr]; exact Nat.mod_lt _ (by omega)
 have hqx:q≤x.natAbs:=by rw [hq]; exact Nat.div_le_self _ _
 rw [← hq] at vL
 rw [← hr] at cd
 have lr:(X0i r).length<1000000000:=by
  have:=X1S (y:=(r:Int)) (z:=y) (by omega)
  rw [X2Q] at this; omega
 have ly:(X0i y.natAbs).length<1000000000:=hy
 have lry:(X0i r).length≤(X0i y.natAbs).length:=by
  have:=X1S (y:=(r:Int)) (z:=y) (by omega)
  rw [X2Q] at this; exact this
 have y1:((X0i y.natAbs).length=0)=False:=eq_false (fun h=>by have:=digs_len_zero.1 h; omega)
 have y2:(((X0i y.natAbs).length:Int)=0)=False:=eq_false (fun h=>by have:=digs_len_zero.1 (show (X0i y.natAbs).length=0 by omega); omega)
 obtain ⟨q1,r1,h1⟩:∃ q1 r1,if x<0∧r≠0 then q1=q+1∧r1=y.natAbs - r else q1=q∧r1=r:=by
  by_cases h:x<0∧r≠0
  ·exact ⟨q+1,y.natAbs - r,by rw [if_pos h]; exact ⟨rfl,rfl⟩⟩
  ·exact ⟨q,r,by rw [if_neg h]; exact ⟨rfl,rfl⟩⟩
 obtain ⟨e1,e2⟩:=Xbh x y hy0 q r hq hr q1 r1 h1
 obtain ⟨s,hsg⟩:∃ s,s=(decide (x<0) != decide (y<0)):=⟨_,rfl⟩
 have hsg':(!(decide (x<0) == decide (y<0)))=s:=by rw [hsg]; cases decide (x<0) <;> cases decide (y<0) <;> rfl
 have c1:=X2v s L dL (by omega)
 rw [vL] at c1
 have c2:=X2v false (X0i r) (X0C r) (by omega)
 rw [X0u,show sgn false (r:Int)=(r:Int) from rfl,X1Q] at c2
 obtain ⟨Q,hQ⟩:∃ Q,Q=zA (x / y):=⟨_,rfl⟩
 obtain ⟨R,hR⟩:∃ R,R=zA (x % y):=⟨_,rfl⟩
 have sQ:Settled Q:=hQ▸X0y _
 have sR:Settled R:=hR▸X0y _
 rw [← hQ,← hR]
 rw [e1,← hsg] at hQ
 rw [e2,X1Q] at hR
 have g1:∀ n:Nat,(0<(X0i n).length)=(n≠0):=fun n=>propext (by have:=@digs_len_zero n; omega)
 have fin:∀ {s':AS},X1F Tryz.prog s' (.cell 4 26)=some (zA (sgn s q1))→X1F Tryz.prog s' (.cell 5 26)=some (.agg [.bool false,X0f (X0i r1)]) →
   RetOk (X2f Tryz.prog Tryz.f165 [9,10000,100000009] [] (.tup [Q,R])) s':=fun h1 h2=>X1s rfl h1 h2 (X1h sQ hQ.symm) (X1h sR hR.symm)
 by_cases hc:x<0∧r≠0
 ·obtain ⟨hx0,hr0⟩:=hc
  rw [if_pos ⟨hx0,hr0⟩] at h1
  obtain ⟨rfl,rfl⟩:=h1
  have c3:=X2v s [1] (X3i.2 ⟨⟨by omega,by omega⟩,X64⟩) (by simp)
  rw [show val [(1:Int)]=1 by simp [val]] at c3
  have bq:bl (sgn s (q:Int))<room:=by
   have h2:=X1S (y:=sgn s (q:Int)) (z:=x) (by unfold sgn; split <;> omega)
   unfold room; omega
  have c4:=XhH (sgn s (q:Int)) (sgn s 1) bq (by
   have:=X1n (n:=sgn s 1) (by unfold sgn; split <;> exact ⟨by omega,by omega⟩)
   unfold room; omega)
  rw [show sgn s (q:Int)+sgn s 1=sgn s ((q+1:Nat):Int) by unfold sgn; split <;> omega] at c4
  have cm:=X7N (X0i y.natAbs) (X0i r) (X0C _) (X0C _) (by omega) lry (by rw [X0u,X0u]; omega)
  have vm:=X5g (X0C y.natAbs) (X0C r) lry (by rw [X0u,X0u]; omega)
  rw [X0u,X0u] at vm
  have c5:=X2v false (X3Z (X0i y.natAbs) (X0i r)) (X5f (X0C _) (X0C _)) (by unfold X3Z; rw [X13]; omega)
  rw [vm,show sgn false ((y.natAbs:Int) - r)=((y.natAbs - r:Nat):Int) by unfold sgn; simp; omega,X1Q] at c5
  have f1:(x<0)=True:=eq_true hx0
  have f2:(0<(X0i r).length)=True:=eq_true (by rw [g1]; exact hr0)
  have f3:(0<((X0i r).length:Int))=True:=eq_true (by have:=of_eq_true f2; omega)
  have hsT:(!(true == decide (y<0)))=s:=by rw [← hsg',decide_eq_true hx0]
  refine Fq Tryz.call165 Tryz.func165 10 [] [9,10000,100000009] [] (by simp [wS0,X0a,X0g]) (X00 1000 ?_); simp (config:={ maxSteps:=2000000 }) only [AS.start,↓X03,wA,seval,zA,qA,qC,wN]
  simp only [y1,y2,f1,↓X03,wA,seval,zA,qA,qC,wN]
  refine X01 cd rfl ?_
  simp only [f1,decide_true,hsT,↓X03,wA,seval,zA,qA,qC,wN]
  refine X01 c1 rfl ?_
  simp only [f1,f2,f3,decide_true,↓X03,wA,seval,zA,qA,qC,wN]
  refine X01 c2 rfl ?_
  simp only [f1,f2,f3,hsT,decide_true,↓X03,wA,seval,zA,qA,qC,wN]
  refine X17 c3 ⟨Weak.rfl' _,X3S rfl rfl,trivial⟩ ?_
  simp only [↓X03,wA,seval,zA,qA,qC,wN]
  refine X01 c4 rfl ?_
  simp only [↓X03,wA,seval,zA,qA,qC,wN]
  refine X01 cm rfl ?_
  simp only [↓X03,wA,seval,zA,qA,qC,wN]
  refine X01 c5 rfl ?_
  simp only [↓X03,wA,seval,zA,qA,qC,wN]
  exact fin (X0l X12 rfl rfl rfl) (X0l X12 rfl rfl rfl)
 rw [if_neg hc] at h1
 obtain ⟨rfl,rfl⟩:=h1
 have zr:x<0→(0<(X0i r1).length)=False:=fun h=>eq_false (by rw [g1]; exact fun h2=>hc ⟨h,h2⟩)
 by_cases hx0:x<0
 ·have f1:(x<0)=True:=eq_true hx0
  have f2:=zr hx0
  have f3:(0<((X0i r1).length:Int))=False:=eq_false (by have:=of_eq_false f2; omega)
  have hsT:(!(true == decide (y<0)))=s:=by rw [← hsg',decide_eq_true hx0]
  refine Fq Tryz.call165 Tryz.func165 10 [] [9,10000,100000009] [] (by simp [wS0,X0a,X0g]) (X00 1000 ?_); simp (config:={ maxSteps:=2000000 }) only [AS.start,↓X03,wA,seval,zA,qA,qC,wN]
  simp only [y1,y2,f1,↓X03,wA,seval,zA,qA,qC,wN]
  refine X01 cd rfl ?_
  simp only [f1,f2,f3,decide_true,hsT,↓X03,wA,seval,zA,qA,qC,wN]
  refine X01 c1 rfl ?_
  simp only [f1,f2,f3,decide_true,↓X03,wA,seval,zA,qA,qC,wN]
  refine X01 c2 rfl ?_
  simp only [f1,f2,f3,decide_true,↓X03,wA,seval,zA,qA,qC,wN]
  exact fin (X0l X12 rfl rfl rfl) (X0l X12 rfl rfl rfl)
 ·have f1:(x<0)=False:=eq_false hx0
  have hsT:(!(false == decide (y<0)))=s:=by rw [← hsg',decide_eq_false hx0]
  refine Fq Tryz.call165 Tryz.func165 10 [] [9,10000,100000009] [] (by simp [wS0,X0a,X0g]) (X00 1000 ?_); simp (config:={ maxSteps:=2000000 }) only [AS.start,↓X03,wA,seval,zA,qA,qC,wN]
  simp only [y1,y2,f1,↓X03,wA,seval,zA,qA,qC,wN]
  refine X01 cd rfl ?_
  simp only [f1,decide_false,hsT,↓X03,wA,seval,zA,qA,qC,wN]
  refine X01 c1 rfl ?_
  simp only [f1,decide_false,↓X03,wA,seval,zA,qA,qC,wN]
  refine X01 c2 rfl ?_
  simp only [f1,decide_false,↓X03,wA,seval,zA,qA,qC,wN]
  exact fin (X0l X12 rfl rfl rfl) (X0l X12 rfl rfl rfl)
def X3l (x y:Int) (p:Nat×Nat):AS :=
  ⟨12,[],[.any,.any,.ref 0 0 0,.ref 1 0 0,.ref 2 0 0,.ref 3 0 0,.ref 4 0 0,.any,.any,.any,.any,.any],[],
    [.row 0 2 (ofL [.bool (decide (x<0)),X0f (X0i x.natAbs)]),.row 0 2 (ofL [.bool (decide (y<0)),X0f (X0i y.natAbs)]),.row 0 2 (ofL [.bool false,.sl 0 0 (fun _=>.any) true]),
     .row 0 2 (ofL [.bool false,X0f (X0i p.1)]),.row 0 2 (ofL [.bool false,X0f (X0i p.2)])]⟩
def X74 (x y:Int) (A B:Nat) (p:Nat×Nat):AS :=
  ⟨12,[],[.any,.any,.ref 0 0 0,.ref 1 0 0,.ref 2 0 0,.ref 3 0 0,.ref 4 0 0,I p.1,I p.2,.any,.any,.any],[],
    [.row 0 2 (ofL [.bool (decide (x<0)),X0f (X0i x.natAbs)]),.row 0 2 (ofL [.bool (decide (y<0)),X0f (X0i y.natAbs)]),.row 0 2 (ofL [.bool false,.sl 0 0 (fun _=>.any) true]),
     .row 0 2 (ofL [.bool false,X0f (X0i A)]),.row 0 2 (ofL [.bool false,X0f (X0i B)])]⟩
theorem XhL (x y:Int) (hx:bl x<1000000000) (hy:bl y<1000000000):Fn Tryz.prog 164 [zA x,zA y] (zA (Int.gcd x y)):=by
 have ofC:∀ n:Nat,(X0i n).length<1000000002→Fn Tryz.prog 168 [.bool false,X0f (X0i n)] (.agg [.bool false,X0f (X0i n)]):=fun n h=>by
  have:=X2v false (X0i n) (X0C n) (by omega)
  rw [X0u] at this
  rw [← X1Q]; exact this
 unfold bl at hx hy
 have cx:=ofC x.natAbs (by omega)
 have cy:=ofC y.natAbs (by omega)
 obtain ⟨R,hR⟩:∃ R,R=zA (Int.gcd x y):=⟨_,rfl⟩
 have sR:Settled R:=hR▸X0y _
 rw [← hR]
 rw [X1Q] at hR
 refine Fq Tryz.call164 Tryz.func164 12 [] [] [] (by simp [wS0,X0a,X0g]) (X00 1000 ?_); simp (config:={ maxSteps:=2000000 }) only [AS.start,↓X03,wA,seval,zA,qA,qC,wN]
 refine X01 cx rfl ?_
 simp only [↓X03,wA,seval,zA,qA,qC,wN]
 refine X01 cy rfl ?_
 simp only [↓X03,wA,seval,zA,qA,qC,wN]
 refine X0d (X3l x y) (XxR x y) (fun p=>p.2) (x.natAbs,y.natAbs) ⟨rfl,hx,hy⟩ ?_ ?_
 ·exact X09 rfl (by simp [X3l,X0p]) (by simp [X3l,X0q]) rfl
 rintro ⟨A,B⟩ ⟨g1,g2,g3⟩ next
 simp only at g1 g2 g3
 by_cases hB:B=0
 ·have f1:(0<(X0i B).length)=False:=eq_false (by have:=@digs_len_zero B; omega)
  have f2:(0<((X0i B).length:Int))=False:=eq_false (by have:=@digs_len_zero B; omega)
  refine X00 1000 ?_
  simp only [X3l,f1,f2,↓X03,wA,seval,zA,qA,qC,wN]
  refine X15 rfl X12 rfl rfl rfl hR sR ?_
  rw [hB,Nat.gcd_zero_right] at g1
  rw [← g1]
  exact ⟨Weak.rfl' _,Weak.rfl' _,trivial⟩
 have f1:(0<(X0i B).length)=True:=eq_true (by have:=@digs_len_zero B; omega)
 have f2:(0<((X0i B).length:Int))=True:=eq_true (by have:=@digs_len_zero B; omega)
 by_cases hAB:(X0i A).length≤2∧(X0i B).length≤2
 ·have c1:=Xdi _ (X0C A) hAB.1
  have c2:=Xdi _ (X0C B) hAB.2
  rw [X0u] at c1 c2
  have k1:(((X0i A).length:Int)≤2)=True:=eq_true (by omega)
  have k2:(((X0i B).length:Int)≤2)=True:=eq_true (by omega)
  have l1:=X3L hAB.1
  have l2:=X3L hAB.2
  refine X00 1000 ?_
  simp only [X3l,f1,f2,k1,k2,↓X03,wA,seval,zA,qA,qC,wN]
  refine X01 c1 rfl ?_
  simp only [↓X03,wA,seval,zA,qA,qC,wN]
  refine X01 c2 rfl ?_
  simp only [↓X03,wA,seval,zA,qA,qC,wN]
  refine X0d (X74 x y A B) (fun p=>Nat.gcd p.1 p.2=Int.gcd x y∧(p.1:Int)<1000000000000000000∧(p.2:Int)<1000000000000000000) (fun p=>p.2) (A,B) ⟨g1,l1,l2⟩ (X09 rfl (by simp [X74,X0p,I]) (by simp [X74,X0q]) rfl) ?_
  rintro ⟨m,n⟩ ⟨h1,h2,h3⟩ next2
  simp only at h1 h2 h3
  by_cases hn:n=0
  ·have j1:(0<(n:Int))=False:=eq_false (by omega)
   have j1':(0<n)=False:=eq_false (by omega)
   have hm:m=Int.gcd x y:=by rw [hn,Nat.gcd_zero_right] at h1; exact h1
   have cu:=X76 (m:Int) ⟨by omega,by omega⟩
   rw [X1Q] at cu
   refine X00 1000 ?_
   simp only [X74,j1,j1',↓X03,wA,seval,zA,qA,qC,wN]
   refine X01 cu rfl ?_
   simp only [↓X03,wA,seval,zA,qA,qC,wN]
   refine X15 rfl X12 rfl rfl rfl hR sR ?_
   rw [← hm]
   exact ⟨Weak.rfl' _,Weak.rfl' _,trivial⟩
  ·have j1:(0<(n:Int))=True:=eq_true (by omega)
   have j1':(0<n)=True:=eq_true (by omega)
   have j2:((n:Int)=0)=False:=eq_false (by omega)
   have e2:(m:Int).tmod n=((m % n:Nat):Int):=rfl
   have hlt:m % n<n:=Nat.mod_lt _ (by omega)
   refine X00 1000 ?_
   simp only [X74,j1,j1',j2,e2,↓X03,wA,seval,zA,qA,qC,wN]
   refine next2 (n,m % n) _ ⟨?_,h3,by simp only; omega⟩ hlt (X09 rfl (by simp [X74,X0p,I]) (by simp [X74,X0q]) rfl)
   simp only
   rw [← h1,Nat.gcd_comm m n,Nat.gcd_rec n m,Nat.gcd_comm]
 ·have cd:=Xd2 (A:Int) (B:Int) (by rw [X2Q]; exact g2) (by rw [X2Q]; exact g3) (by omega)
  rw [show (A:Int) / B=((A / B:Nat):Int) from rfl,show (A:Int) % B=((A % B:Nat):Int) from rfl,X1Q,X1Q,X1Q,X1Q] at cd
  have hlt:A % B<B:=Nat.mod_lt _ (by omega)
  have gnew:XxR x y (B,A % B):=by
   refine ⟨?_,g3,?_⟩
   ·simp only
    rw [← g1,Nat.gcd_comm A B,Nat.gcd_rec B A,Nat.gcd_comm]
   ·have:=X1S (y:=((A % B:Nat):Int)) (z:=(B:Int)) (by omega)
    rw [X2Q,X2Q] at this
    simp only; omega
  by_cases hA2:(X0i A).length≤2
  ·have k1:(((X0i A).length:Int)≤2)=True:=eq_true (by omega)
   have k2:(((X0i B).length:Int)≤2)=False:=eq_false fun h=>hAB ⟨hA2,by omega⟩
   refine X00 1000 ?_
   simp only [X3l,f1,f2,k1,k2,↓X03,wA,seval,zA,qA,qC,wN]
   refine X01 cd rfl ?_
   simp only [↓X03,wA,seval,zA,qA,qC,wN]
   exact next (B,A % B) _ gnew hlt (X0t (m:=5) (Nat.zero_le _) rfl (by simp [zA,qA,qC,wN,X3l,X0p,X0f,sl1,I]) (by simp [zA,qA,qC,wN,X3l,X0q]) (by simp [zA,qA,qC,wN,X3l,X0f,sl1,I]) (by simp [zA,qA,qC,wN,X3l,X0L]) (by simp [zA,qA,qC,wN,X3l,X0L]) (by simp [zA,qA,qC,wN,X3l,X0L]))
  ·have k1:(((X0i A).length:Int)≤2)=False:=eq_false (by omega)
   refine X00 1000 ?_
   simp only [X3l,f1,f2,k1,↓X03,wA,seval,zA,qA,qC,wN]
   refine X01 cd rfl ?_
   simp only [↓X03,wA,seval,zA,qA,qC,wN]
   exact next (B,A % B) _ gnew hlt (X0t (m:=5) (Nat.zero_le _) rfl (by simp [zA,qA,qC,wN,X3l,X0p,X0f,sl1,I]) (by simp [zA,qA,qC,wN,X3l,X0q]) (by simp [zA,qA,qC,wN,X3l,X0f,sl1,I]) (by simp [zA,qA,qC,wN,X3l,X0L]) (by simp [zA,qA,qC,wN,X3l,X0L]) (by simp [zA,qA,qC,wN,X3l,X0L]))
theorem XhQ (n1 n2:Bool) (a b:List Int) (la:a.length<4611686018427387904) (lb:b.length<4611686018427387904):Fn Tryz.prog 174 [zR n1 a,zR n2 b] (.bool (decide (n1=n2) && decide (a=b))):=by
 obtain ⟨V,hV⟩:∃ V,V=(decide (n1=n2) && decide (a=b)):=⟨_,rfl⟩
 rw [← hV]
 have fin:∀ {s:AS} {v:Bool},s.get 4=.bool v→v=V→RetOk (X2f Tryz.prog Tryz.f174 [] [] (.bool V)) s:=fun h e=>X0r rfl h (X02 _) (by rw [e])
 refine Fq Tryz.call174 Tryz.func174 6 [] [] [] (by simp [X0g]) (X00 1000 ?_)
 by_cases hn:n1=n2
 rotate_left
 ·have hb:(!(n1 == n2))=true:=by simp [hn]
  simp only [AS.start,zR,hb,↓X03,wA,seval,zA,qA,qC,wN]
  exact fin rfl (by rw [hV,decide_eq_false hn]; rfl)
 subst hn
 have hb:(!(n1 == n1))=false:=by simp
 by_cases hl:a.length=b.length
 rotate_left
 ·have f1:((a.length:Int)=b.length)=False:=eq_false (by omega)
  have f1':(a.length=b.length)=False:=eq_false hl
  simp only [AS.start,zR,hb,f1,f1',↓X03,wA,seval,zA,qA,qC,wN]
  exact fin rfl (by rw [hV,decide_eq_false (show ¬ a=b from fun e=>hl (by rw [e])),Bool.and_false])
 have f1:((a.length:Int)=b.length)=True:=eq_true (by omega)
 have f1':(a.length=b.length)=True:=eq_true hl
 simp only [AS.start,zR,hb,f1,f1',↓X03,wA,seval,zA,qA,qC,wN]
 refine X0d (fun j:Nat=>⟨6,[],[.any,.any,.ref 0 0 0,.ref 1 0 0,.any,I j],[],[.row 0 2 (ofL [.bool n1,X0f a]),.row 0 2 (ofL [.bool n1,X0f b])]⟩) (fun j=>j≤a.length∧∀ i,i<j→a.getD i 0=b.getD i 0) (fun j=>a.length - j) 0 ⟨by omega,by omega⟩
  (X09 rfl (by simp [X0p,X0f,sl1,I]) (by simp [X0q]) rfl) ?_
 rintro j ⟨hj,hno⟩ next
 have w1:=wj j (by omega)
 by_cases hj2:j<a.length
 ·have f2:((j:Int)<a.length)=True:=eq_true (by omega)
  have f3:(j<a.length)=True:=eq_true hj2
  have f4:(j<b.length)=True:=eq_true (by omega)
  refine X00 1000 ?_
  simp only [w1,f2,f3,f4,↓X03,wA,seval,zA,qA,qC,wN]
  refine ⟨fun h=>fin rfl ?_,fun h=>next (j+1) _ ⟨by omega,fun i hi=>?_⟩ (by omega) (X09 rfl (by simp [X0p,X0f,sl1,I]) (by simp [X0q]) rfl)⟩
  ·rw [hV,decide_eq_false (show ¬ a=b from fun e=>h (by rw [e])),Bool.and_false]
  ·by_cases e:i=j
   ·rw [e]; exact h
   ·exact hno i (by omega)
 ·have f2:((j:Int)<a.length)=False:=eq_false (by omega)
  have f3:(j<a.length)=False:=eq_false hj2
  refine X00 1000 ?_
  simp only [w1,f2,f3,↓X03,wA,seval,zA,qA,qC,wN]
  refine fin rfl ?_
  have:a=b:=List.ext_getElem hl fun i h1 h2=>by
   have:=hno i (by omega)
   rw [List.getD_eq_getElem?_getD,List.getElem?_eq_getElem h1,List.getD_eq_getElem?_getD,List.getElem?_eq_getElem h2] at this
   exact this
  rw [hV,decide_eq_true this]; simp
theorem X4v (x y:RQ) (hx:x.sz<4611686018427387904) (hy:y.sz<4611686018427387904):Fn Tryz.prog 86 [x.A,y.A] (.bool (decide (x=y))):=by
 have c1:=XhQ x.pn y.pn x.pd y.pd (by unfold RQ.sz at hx; omega) (by unfold RQ.sz at hy; omega)
 have c2:=XhQ x.qn y.qn x.qd y.qd (by unfold RQ.sz at hx; omega) (by unfold RQ.sz at hy; omega)
 obtain ⟨V,hV⟩:∃ V,V=decide (x=y):=⟨_,rfl⟩
 rw [← hV]
 have e:=RQ.eq_iff x y
 obtain ⟨B1,hB1⟩:∃ B,B=(decide (x.pn=y.pn) && decide (x.pd=y.pd)):=⟨_,rfl⟩
 obtain ⟨B2,hB2⟩:∃ B,B=(decide (x.qn=y.qn) && decide (x.qd=y.qd)):=⟨_,rfl⟩
 rw [← hB1] at c1
 rw [← hB2] at c2
 have hVB:V=(B1 && B2):=by
  rw [hV,hB1,hB2]
  simp only [e,Bool.decide_and]
 refine Fq Tryz.call86 Tryz.func86 5 [] [] [] (by simp [X5r]) (X00 1000 ?_)
 simp only [AS.start,RQ.A,RQ.L,↓X03,wA,seval,zA,qA,qC,wN]
 refine X01 c1 rfl ?_
 cases B1
 ·simp only [↓X03,wA,seval,zA,qA,qC,wN]
  exact X0r (v:=.bool false) rfl rfl (X02 _) (by rw [hVB]; rfl)
 ·simp only [↓X03,wA,seval,zA,qA,qC,wN]
  refine X01 c2 rfl ?_
  simp only [↓X03,wA,seval,zA,qA,qC,wN]
  exact X0r (v:=.bool B2) rfl rfl (X02 _) (by rw [hVB]; rfl)
theorem Xhs (neg:Bool) (d:List Int):Fn Tryz.prog 167 [zR neg d] (.bool (!neg && decide (d=[1]))):=by
 have hone:(d=[1])↔d.length=1∧d.getD 0 0=1:=by
  constructor
  ·rintro rfl; exact ⟨rfl,rfl⟩
  ·rintro ⟨h1,h2⟩
   obtain ⟨x,rfl⟩:=List.length_eq_one_iff.1 h1
   rw [show x=1 from h2]
 obtain ⟨V,hV⟩:∃ V,V=(!neg && decide (d=[1])):=⟨_,rfl⟩
 rw [← hV]
 have fin:∀ {s:AS} {v:Bool},s.get 2=.bool v→v=V→RetOk (X2f Tryz.prog Tryz.f167 [] [] (.bool V)) s:=fun h e=>X0r rfl h (X02 _) (by rw [e])
 by_cases h0:d.length=1
 ·have f1:(d.length=1)=True:=eq_true h0
  have f2:((d.length:Int)=1)=True:=eq_true (by omega)
  have f3:(0<d.length)=True:=eq_true (by omega)
  have f4:(0<(d.length:Int))=True:=eq_true (by omega)
  refine Fq Tryz.call167 Tryz.func167 3 [] [] [] (by simp [X0g]) (X00 1000 ?_)
  cases neg
  all_goals
   simp only [AS.start,zR,f1,f2,f3,f4,↓X03,wA,seval,zA,qA,qC,wN]
   exact fin rfl (by rw [hV]; simp [hone,h0])
 ·have f1:(d.length=1)=False:=eq_false h0
  have f2:((d.length:Int)=1)=False:=eq_false (by omega)
  have hne:¬ d=[1]:=fun h=>h0 (hone.1 h).1
  refine Fq Tryz.call167 Tryz.func167 3 [] [] [] (by simp [X0g]) (X00 1000 ?_)
  cases neg
  all_goals
   simp only [AS.start,zR,f1,f2,↓X03,wA,seval,zA,qA,qC,wN]
   exact fin rfl (by rw [hV]; simp [hne])
theorem XfS (z:Int):Fn Tryz.prog 167 [zA z] (.bool (decide (z=1))):=by
 have:=Xhs (decide (z<0)) (X0i z.natAbs)
 rw [Xi5] at this; exact this
theorem X7v (p q:Int) (hp:bl p<1000000000) (hq:bl q<1000000000):Fn Tryz.prog 77 [zA p,zA q] (qA (Rat.divInt p q)):=by
 obtain ⟨R,hR⟩:∃ R,R=qA (Rat.divInt p q):=⟨_,rfl⟩
 have sR:Settled R:=hR▸X0a _
 have zp:(((X0i p.natAbs).length:Int)=0)=(p=0):=propext (by have:=@digs_len_zero p.natAbs; omega)
 have zq:(((X0i q.natAbs).length:Int)=0)=(q=0):=propext (by have:=@digs_len_zero q.natAbs; omega)
 have z0:p=0∨q=0→R=.agg [.bool false,X0f [],.bool false,X0f []]:=by
  intro h
  rw [hR,← XfY]
  rcases h with rfl | rfl
  ·rw [Rat.zero_divInt]
  ·rw [Rat.divInt_zero]
 rw [← hR]
 by_cases hq0:q=0
 ·have f1:(q=0)=True:=eq_true hq0
  refine Fq Tryz.call77 Tryz.func77 10 [] [] [] (by simp [wS0,X0a,X0g]) (X00 1000 ?_); simp (config:={ maxSteps:=2000000 }) only [AS.start,↓X03,wA,seval,zA,qA,qC,wN]
  simp only [zq,f1,↓X03,wA,seval,zA,qA,qC,wN]
  exact X15 rfl X1k rfl rfl rfl (z0 (.inr hq0)) sR ⟨Weak.rfl' _,X16 _ _,Weak.rfl' _,X16 _ _,trivial⟩
 have f1:(q=0)=False:=eq_false hq0
 by_cases hp0:p=0
 ·have f3:(p=0)=True:=eq_true hp0
  refine Fq Tryz.call77 Tryz.func77 10 [] [] [] (by simp [wS0,X0a,X0g]) (X00 1000 ?_); simp (config:={ maxSteps:=2000000 }) only [AS.start,↓X03,wA,seval,zA,qA,qC,wN]
  simp only [zp,zq,f1,f3,↓X03,wA,seval,zA,qA,qC,wN]
  exact X15 rfl X1k rfl rfl rfl (z0 (.inl hp0)) sR ⟨Weak.rfl' _,X16 _ _,Weak.rfl' _,X16 _ _,trivial⟩
 have f3:(p=0)=False:=eq_false hp0
 have cg:=XhL p q hp hq
 obtain ⟨g,hg⟩:∃ g:Int,g=Int.gcd p q:=⟨_,rfl⟩
 have hg0:0<Int.gcd p q:=Int.gcd_pos_of_ne_zero_right _ hq0
 have hgq:bl g≤bl q:=X1S (by
  have:=Nat.le_of_dvd (by omega) (Int.gcd_dvd_natAbs_right p q)
  omega)
 rw [← hg] at cg
 obtain ⟨d1,d2,d3⟩:=X65 p q hq0 g hg
 have c1:=Xd2 p g hp (by omega) (by omega)
 have c2:=Xd2 q g hq (by omega) (by omega)
 obtain ⟨u,hu⟩:∃ u,u=p / g:=⟨_,rfl⟩
 obtain ⟨v,hv⟩:∃ v,v=q / g:=⟨_,rfl⟩
 have hub:bl u≤bl p:=X1S (by rw [hu]; exact Int.natAbs_ediv_le_natAbs p g)
 have hvb:bl v≤bl q:=X1S (by rw [hv]; exact Int.natAbs_ediv_le_natAbs q g)
 rw [← hu] at c1 d1 d2
 rw [← hv] at c2 d1 d2 d3
 obtain ⟨e1,e2⟩:=Xbf u v d3 d2
 have key:∀ p' q':Int,p'=v.sign*u→q'=v.natAbs→(q'=1→R=.agg [.bool (decide (p'<0)),X0f (X0i p'.natAbs),.bool false,X0f []])∧(¬ q'=1→R=.agg [.bool (decide (p'<0)),X0f (X0i p'.natAbs),.bool false,X0f (X0i q'.natAbs)]):=by
  intro p' q' hp' hq'
  constructor
  ·intro h
   rw [hR,← d1,Xey (by omega),e1,hp']
  ·intro h
   rw [hR,← d1,Xmr (by omega),e1,hp',e2,hq',Int.natAbs_natCast]
 by_cases hneg:v<0
 ·have g1:(v<0)=True:=eq_true hneg
  obtain ⟨k1,k2⟩:=key (-u) (-v) (by rw [Int.sign_eq_neg_one_of_neg hneg]; omega) (by omega)
  have co:=XfS (-v)
  have cn1:=Xd7 u (by unfold room; omega)
  have cn2:=Xd7 v (by unfold room; omega)
  rw [XxG hneg] at cn2 c2
  have f5:decide (-v<0)=false:=decide_eq_false (by omega)
  by_cases h1:-v=1
  ·simp only [h1,decide_true] at co
   have hk:=k1 h1
   rw [h1] at cn2
   refine Fq Tryz.call77 Tryz.func77 10 [] [] [] (by simp [wS0,X0a,X0g]) (X00 1000 ?_); simp (config:={ maxSteps:=2000000 }) only [AS.start,↓X03,wA,seval,zA,qA,qC,wN]
   simp only [zp,zq,f1,f3,↓X03,wA,seval,zA,qA,qC,wN]
   refine X01 cg rfl ?_
   simp only [↓X03,wA,seval,zA,qA,qC,wN]
   refine X01 c1 rfl ?_
   simp only [↓X03,wA,seval,zA,qA,qC,wN]
   refine X01 c2 rfl ?_
   simp only [↓X03,wA,seval,zA,qA,qC,wN]
   refine X01 cn1 rfl ?_
   simp only [↓X03,wA,seval,zA,qA,qC,wN]
   refine X01 cn2 rfl ?_
   simp only [↓X03,wA,seval,zA,qA,qC,wN]
   refine X01 co rfl ?_
   simp only [↓X03,wA,seval,zA,qA,qC,wN]
   exact X15 rfl X1k rfl rfl rfl hk sR ⟨Weak.rfl' _,Weak.rfl' _,Weak.rfl' _,X16 _ _,trivial⟩
  ·simp only [h1,decide_false] at co
   have hk:=k2 h1
   refine Fq Tryz.call77 Tryz.func77 10 [] [] [] (by simp [wS0,X0a,X0g]) (X00 1000 ?_); simp (config:={ maxSteps:=2000000 }) only [AS.start,↓X03,wA,seval,zA,qA,qC,wN]
   simp only [zp,zq,f1,f3,↓X03,wA,seval,zA,qA,qC,wN]
   refine X01 cg rfl ?_
   simp only [↓X03,wA,seval,zA,qA,qC,wN]
   refine X01 c1 rfl ?_
   simp only [↓X03,wA,seval,zA,qA,qC,wN]
   refine X01 c2 rfl ?_
   simp only [↓X03,wA,seval,zA,qA,qC,wN]
   refine X01 cn1 rfl ?_
   simp only [↓X03,wA,seval,zA,qA,qC,wN]
   refine X01 cn2 rfl ?_
   simp only [↓X03,wA,seval,zA,qA,qC,wN]
   refine X01 co rfl ?_
   simp only [↓X03,wA,seval,zA,qA,qC,wN]
   exact X3V rfl X1k rfl rfl rfl sR (by rw [hk,f5]; rfl)
 ·have g1:(v<0)=False:=eq_false hneg
  obtain ⟨k1,k2⟩:=key u v (by rw [Int.sign_eq_one_of_pos (by omega)]; omega) (by omega)
  have co:=XfS v
  rw [XqP hneg] at co c2
  by_cases h1:v=1
  ·simp only [h1,decide_true] at co
   have hk:=k1 h1
   rw [h1] at c2
   refine Fq Tryz.call77 Tryz.func77 10 [] [] [] (by simp [wS0,X0a,X0g]) (X00 1000 ?_); simp (config:={ maxSteps:=2000000 }) only [AS.start,↓X03,wA,seval,zA,qA,qC,wN]
   simp only [zp,zq,f1,f3,↓X03,wA,seval,zA,qA,qC,wN]
   refine X01 cg rfl ?_
   simp only [↓X03,wA,seval,zA,qA,qC,wN]
   refine X01 c1 rfl ?_
   simp only [↓X03,wA,seval,zA,qA,qC,wN]
   refine X01 c2 rfl ?_
   simp only [↓X03,wA,seval,zA,qA,qC,wN]
   refine X01 co rfl ?_
   simp only [↓X03,wA,seval,zA,qA,qC,wN]
   exact X15 rfl X1k rfl rfl rfl hk sR ⟨Weak.rfl' _,Weak.rfl' _,Weak.rfl' _,X16 _ _,trivial⟩
  ·simp only [h1,decide_false] at co
   have hk:=k2 h1
   refine Fq Tryz.call77 Tryz.func77 10 [] [] [] (by simp [wS0,X0a,X0g]) (X00 1000 ?_); simp (config:={ maxSteps:=2000000 }) only [AS.start,↓X03,wA,seval,zA,qA,qC,wN]
   simp only [zp,zq,f1,f3,↓X03,wA,seval,zA,qA,qC,wN]
   refine X01 cg rfl ?_
   simp only [↓X03,wA,seval,zA,qA,qC,wN]
   refine X01 c1 rfl ?_
   simp only [↓X03,wA,seval,zA,qA,qC,wN]
   refine X01 c2 rfl ?_
   simp only [↓X03,wA,seval,zA,qA,qC,wN]
   refine X01 co rfl ?_
   simp only [↓X03,wA,seval,zA,qA,qC,wN]
   exact X3V rfl X1k rfl rfl rfl sR (by rw [hk]; rfl)
theorem X1M (p q:Int) (hp:X51 p) (hq:X51 q):Fn Tryz.prog 16 [I p,I q] (qA (Rat.divInt p q)):=by
 obtain ⟨R,hR⟩:∃ R,R=qA (Rat.divInt p q):=⟨_,rfl⟩
 have sR:Settled R:=hR▸X0a _
 have cm:=X7v p q (by have:=X1n hp; omega) (by have:=X1n hq; omega)
 rw [← hR] at cm ⊢
 refine Fq Tryz.call16 Tryz.func16 5 [] [] [] (by simp [wS0,X0a,X0g]) (X00 1000 ?_); simp (config:={ maxSteps:=2000000 }) only [AS.start,↓X03,wA,seval,zA,qA,qC,wN]
 refine X01 (X76 p hp) rfl ?_
 simp only [↓X03,wA,seval,zA,qA,qC,wN]
 refine X01 (X76 q hq) rfl ?_
 simp only [↓X03,wA,seval,zA,qA,qC,wN]
 refine X01 cm rfl ?_
 simp only [hR,↓X03,wA,seval,zA,qA,qC,wN]
 exact X3V rfl X1k rfl rfl rfl sR (hR.trans rfl)
structure V2 where
 x:Rat
 y:Rat
def vC (v:V2):List AV:=[.bool (decide (v.x.num<0)),X0f (X0i v.x.num.natAbs),.bool false,X0f (X0i (qd v.x)),.bool (decide (v.y.num<0)),X0f (X0i v.y.num.natAbs),.bool false,X0f (X0i (qd v.y))]
def vA (v:V2):AV:=.agg (vC v)
theorem X0k (v:V2):Settled (vA v):=X0V (by simp [vC,X07,X02])
def vb (v:V2):Nat:=max (qb v.x) (qb v.y)
theorem X2w (v:V2):qb v.x≤vb v:=Nat.le_max_left _ _
theorem X2k (v:V2):qb v.y≤vb v:=Nat.le_max_right _ _
def V2.sub (a b:V2):V2:=⟨a.x - b.x,a.y - b.y⟩
def V2.add (a b:V2):V2:=⟨a.x+b.x,a.y+b.y⟩
def X1E (a b:V2):Rat:=a.x*b.y - a.y*b.x
def dot (a b:V2):Rat:=a.x*b.x+a.y*b.y
def X3H (a b c:V2):Int:=(X1E (b.sub a) (c.sub a)).num.sign
theorem X2Y (a b:V2):vb (a.sub b)≤vb a+vb b+1:=by
 have:=Xac a.x b.x; have:=Xac a.y b.y
 have:=X2w a; have:=X2w b; have:=X2k a; have:=X2k b
 unfold V2.sub
 show max (qb (a.x - b.x)) (qb (a.y - b.y))≤_
 omega
theorem X5Q (a b:V2):vb (a.add b)≤vb a+vb b+1:=by
 have:=X2n a.x b.x; have:=X2n a.y b.y
 have:=X2w a; have:=X2w b; have:=X2k a; have:=X2k b
 unfold V2.add
 show max (qb (a.x+b.x)) (qb (a.y+b.y))≤_
 omega
theorem X6v (a b:V2):qb (X1E a b)≤2*(vb a+vb b)+1:=by
 have:=X1u a.x b.y; have:=X1u a.y b.x
 have:=X2w a; have:=X2w b; have:=X2k a; have:=X2k b
 have:=Xac (a.x*b.y) (a.y*b.x)
 unfold X1E; omega
theorem X4K (a b:V2):qb (dot a b)≤2*(vb a+vb b)+1:=by
 have:=X1u a.x b.x; have:=X1u a.y b.y
 have:=X2w a; have:=X2w b; have:=X2k a; have:=X2k b
 have:=X2n (a.x*b.x) (a.y*b.y)
 unfold dot; omega
theorem X5G:qb 0≤1:=X3j 0 1 (Nat.le_refl _) (by unfold bl; simp [X0O])
theorem X2Z {H:List AO} {a b:AV} (h:Weak a b):X4k H a b:=fun c v _ _ hv=>h c v hv
theorem X1i {l:List Int} {f:Nat→AV} {t:Bool} (h:l=[]):Weak (.sl 0 0 f t) (X0f l):=by rw [h]; exact X16 _ _
theorem Xa9 (a b:Rat) (ha:qb a≤10000000) (hb:qb b≤10000000):Fn Tryz.prog 117 [.sl 2 8 (ofL (qC a ++ qC b)) false] (qA (a+b)):=by
 obtain ⟨R,hR⟩:∃ R,R=qA (a+b):=⟨_,rfl⟩
 have sR:Settled R:=hR▸X0a _
 have q0:=X5G
 have c1:=X4W 0 a (by unfold rm; omega) (by unfold rm; omega)
 have c2:=X4W a b (by unfold rm; omega) (by unfold rm; omega)
 rw [Rat.zero_add] at c1
 rw [← hR] at c2 ⊢
 have hset:Settled (.sl 2 8 (ofL (qC a ++ qC b)) false):=X1J fun j hj=>by
  unfold ofL qC
  match j,hj with
  | 0,_=>exact X02 _
  | 1,_=>exact X07 _
  | 2,_=>exact X02 _
  | 3,_=>exact X07 _
  | 4,_=>exact X02 _
  | 5,_=>exact X07 _
  | 6,_=>exact X02 _
  | 7,_=>exact X07 _
  | j+8,h=>omega
 have bel2:Bel 2 (.sl 2 8 (ofL (qC a ++ qC b)) false):=X06 hset
 simp only [qC,List.cons_append,List.nil_append] at bel2
 have z1:((1:Nat):Int)=1:=rfl
 have z2:((2:Nat):Int)=2:=rfl
 have wr1:IntKind.i64.wrap 1=1:=by rw [IntKind.wrap_i64]; omega
 have wr2:IntKind.i64.wrap 2=2:=by rw [IntKind.wrap_i64]; omega
 refine Fn.intro (fn:=Tryz.f117) Tryz.call117 Tryz.func117 rfl mixed 6 [6,7,8] [] [] (by kernel_rfl) (Nat.le_of_ble_eq_true rfl) (by simpa using hset) (X00 1000 ?_)
 simp only [AS.start,↓X03,wA,↓reduceIte,reduceIte,reduceCtorEq,Y1,Y2,Y3,Y4,Y5,Y6,Y7,Y8,Y9,YA,zA,qA,qC,vA,vC,wN]
 refine X0d (fun i:Nat=>⟨6,[6,7,8],[.any,.any,.ref 0 0 0,.ref 1 0 0,.any,.any],[(6,.sl 2 8 (ofL (qC a ++ qC b)) false),(7,I 2),(8,I i)],
  [.row 0 4 (ofL [.bool false,.sl 0 0 (fun _=>.any) true,.bool false,.sl 0 0 (fun _=>.any) true]),.row 0 4 (ofL (qC (if i=0 then 0 else if i=1 then a else a+b)))]⟩) (fun i=>i≤2) (fun i=>2 - i) 0 (by omega) ?_ ?_
 ·refine (X4c 1 (ofL (qC 0)) rfl fun j hj=>?_).trans (X09 rfl (by simp [X0p,qC,X0f,sl1]) (by simp [X0q,X0P,qC,X0f,sl1,I]) (by simp))
  match j,hj with
  | 0,_=>exact X1B _ _
  | 1,_=>exact X2Z (X1i (by rw [Rat.zero_num]; simp [X0O]))
  | 2,_=>exact X1B _ _
  | 3,_=>exact X2Z (X1i (X8M rfl))
  | j+4,h=>omega
 intro i hi next
 rcases (show i=0∨i=1∨i=2 by omega) with rfl | rfl | rfl
 ·refine X00 1000 ?_
  simp only [ite_true,z1,z2,wr1,wr2,Int.reduceLT,Int.reduceAdd,↓X03,wA,↓reduceIte,reduceIte,reduceCtorEq,Y1,Y2,Y3,Y4,Y5,Y6,Y7,Y8,Y9,YA,zA,qA,qC,vA,vC,wN]
  refine X01 c1 rfl ?_
  simp only [z1,z2,wr1,wr2,Int.reduceAdd,↓X03,wA,↓reduceIte,reduceIte,reduceCtorEq,Y1,Y2,Y3,Y4,Y5,Y6,Y7,Y8,Y9,YA,zA,qA,qC,vA,vC,wN]
  exact next 1 _ (by omega) (by omega) (X0t (m:=2) (Nat.zero_le _) rfl (by simp [qC,X0p,X0f,sl1,I]) (by simp [qC,X0q,X0P,X0f,sl1,I]) (by simp [qC,X0f,sl1,I]) (by simp [X0L]) (by simp [qC,X0L,bel2]) (by simp [qC,X0L]))
 ·have e1:((1:Nat)=0)=False:=eq_false (by omega)
  refine X00 1000 ?_
  simp only [e1,ite_true,ite_false,z1,z2,wr1,wr2,Int.reduceLT,Int.reduceAdd,↓X03,wA,↓reduceIte,reduceIte,reduceCtorEq,Y1,Y2,Y3,Y4,Y5,Y6,Y7,Y8,Y9,YA,zA,qA,qC,vA,vC,wN]
  refine ⟨by omega,X01 c2 rfl ?_⟩
  simp only [hR,z1,z2,wr1,wr2,Int.reduceAdd,↓X03,wA,↓reduceIte,reduceIte,reduceCtorEq,Y1,Y2,Y3,Y4,Y5,Y6,Y7,Y8,Y9,YA,zA,qA,qC,vA,vC,wN]
  exact next 2 _ (by omega) (by omega) (X0t (m:=2) (Nat.zero_le _) rfl (by simp [qC,X0p,X0f,sl1,I]) (by simp [qC,X0q,X0P,X0f,sl1,I]) (by simp [qC,X0f,sl1,I]) (by simp [X0L]) (by simp [qC,X0L,bel2]) (by simp [qC,X0L]))
 ·have e1:((2:Nat)=0)=False:=eq_false (by omega)
  have e2:((2:Nat)=1)=False:=eq_false (by omega)
  refine X00 1000 ?_
  simp only [e1,e2,ite_false,z1,z2,wr1,wr2,Int.reduceLT,Int.reduceAdd,↓X03,wA,↓reduceIte,reduceIte,reduceCtorEq,Y1,Y2,Y3,Y4,Y5,Y6,Y7,Y8,Y9,YA,zA,qA,qC,vA,vC,wN]
  exact X3V rfl X1k rfl rfl rfl sR (hR.trans rfl)
def vm:Nat:=1000000
theorem X6f {P:Program} {fn:Func} {str hcs:List Nat} {r:AV} {s:AS} {t u id ver n:Nat} {L:List AV} (hr:fn.results=#[.cell t u]) (hk:ldk P u=some (some n)) (hs:s.get t=.ref id ver 0)
  (ho:s.h[id]?=some (.row ver n (ofL L))) (hn:L.length=n) (hset:Settled r) (e:r=.agg L):RetOk (X2f P fn str hcs r) s:=X15 hr hk hs ho hn e hset (X0X L)
theorem X72 (a b:V2) (ha:vb a≤rm) (hb:vb b≤rm):Fn Tryz.prog 44 [vA a,vA b] (vA (a.sub b)):=by
 obtain ⟨R,hR⟩:∃ R,R=vA (a.sub b):=⟨_,rfl⟩
 have sR:Settled R:=hR▸X0k _
 have:=X2w a; have:=X2w b; have:=X2k a; have:=X2k b
 have c1:=Xga a.x b.x (by omega) (by omega)
 have c2:=Xga a.y b.y (by omega) (by omega)
 rw [← hR]
 refine Fq Tryz.call44 Tryz.func44 5 [] [] [] (by simp [X07,X08,X2g,X1H,X02,X2h,X0y,X0a,X0k,X0g,X2i,X21]) (X00 1000 ?_); simp (config:={ maxSteps:=2000000 }) only [AS.start,↓X03,wA,↓reduceIte,reduceIte,reduceCtorEq,Y1,Y2,Y3,Y4,Y5,Y6,Y7,Y8,Y9,YA,zA,qA,qC,vA,vC,wN]
 refine X01 c1 rfl ?_
 simp only [↓X03,wA,↓reduceIte,reduceIte,reduceCtorEq,Y1,Y2,Y3,Y4,Y5,Y6,Y7,Y8,Y9,YA,zA,qA,qC,vA,vC,wN]
 refine X01 c2 rfl ?_
 simp only [↓X03,wA,↓reduceIte,reduceIte,reduceCtorEq,Y1,Y2,Y3,Y4,Y5,Y6,Y7,Y8,Y9,YA,zA,qA,qC,vA,vC,wN]
 exact X6f rfl X2z rfl rfl rfl sR (hR.trans rfl)
theorem Xbx (x y:Int) (hx:X51 x) (hy:X51 y):Fn Tryz.prog 120 [I x,I y] (vA ⟨x,y⟩):=by
 have e:∀ n:Int,Rat.divInt n 1=(n:Rat):=fun n=>by
  rw [show (1:Int)=((1:Nat):Int) from rfl,Rat.divInt_ofNat]
  have:=Rat.mkRat_self (n:Rat)
  rwa [Rat.num_intCast,Rat.den_intCast] at this
 obtain ⟨R,hR⟩:∃ R,R=vA ⟨x,y⟩:=⟨_,rfl⟩
 have sR:Settled R:=hR▸X0k _
 have c1:=X7P x 1 hx ⟨by omega,by omega⟩
 have c2:=X7P y 1 hy ⟨by omega,by omega⟩
 rw [e] at c1 c2
 rw [← hR]
 refine Fq Tryz.call120 Tryz.func120 5 [] [] [] (by simp [X07,X08,X2g,X1H,X02,X2h,X0y,X0a,X0k,X0g,X2i,X21]) (X00 1000 ?_); simp (config:={ maxSteps:=2000000 }) only [AS.start,↓X03,wA,↓reduceIte,reduceIte,reduceCtorEq,Y1,Y2,Y3,Y4,Y5,Y6,Y7,Y8,Y9,YA,zA,qA,qC,vA,vC,wN]
 refine X01 c1 rfl ?_
 simp only [↓X03,wA,↓reduceIte,reduceIte,reduceCtorEq,Y1,Y2,Y3,Y4,Y5,Y6,Y7,Y8,Y9,YA,zA,qA,qC,vA,vC,wN]
 refine X01 c2 rfl ?_
 simp only [↓X03,wA,↓reduceIte,reduceIte,reduceCtorEq,Y1,Y2,Y3,Y4,Y5,Y6,Y7,Y8,Y9,YA,zA,qA,qC,vA,vC,wN]
 exact X6f rfl X2z rfl rfl rfl sR (hR.trans rfl)
theorem Xa4 (a b:V2) (ha:vb a≤vm) (hb:vb b≤vm):Fn Tryz.prog 159 [vA a,vA b] (qA (X1E a b)):=by
 unfold vm at ha hb
 obtain ⟨R,hR⟩:∃ R,R=qA (X1E a b):=⟨_,rfl⟩
 have sR:Settled R:=hR▸X0a _
 have:=X2w a; have:=X2w b; have:=X2k a; have:=X2k b
 have m1:=X1u a.x b.y; have m2:=X1u a.y b.x
 have c1:=X32 a.x b.y (by unfold rm; omega) (by unfold rm; omega)
 have c2:=X32 a.y b.x (by unfold rm; omega) (by unfold rm; omega)
 have c3:=X75 (a.y*b.x)
 have c4:=Xa9 (a.x*b.y) (-(a.y*b.x)) (by omega) (by rw [X6d]; omega)
 rw [← Rat.sub_eq_add_neg,show a.x*b.y - a.y*b.x=X1E a b from rfl,← hR] at c4
 rw [← hR]
 refine Fq Tryz.call159 Tryz.func159 5 [] [] [] (by simp [X07,X08,X2g,X1H,X02,X2h,X0y,X0a,X0k,X0g,X2i,X21]) (X00 1000 ?_); simp (config:={ maxSteps:=2000000 }) only [AS.start,↓X03,wA,↓reduceIte,reduceIte,reduceCtorEq,Y1,Y2,Y3,Y4,Y5,Y6,Y7,Y8,Y9,YA,zA,qA,qC,vA,vC,wN]
 refine X01 c1 rfl ?_
 simp only [↓X03,wA,↓reduceIte,reduceIte,reduceCtorEq,Y1,Y2,Y3,Y4,Y5,Y6,Y7,Y8,Y9,YA,zA,qA,qC,vA,vC,wN]
 refine X01 c2 rfl ?_
 simp only [↓X03,wA,↓reduceIte,reduceIte,reduceCtorEq,Y1,Y2,Y3,Y4,Y5,Y6,Y7,Y8,Y9,YA,zA,qA,qC,vA,vC,wN]
 refine X01 c3 rfl ?_
 simp only [↓X03,wA,↓reduceIte,reduceIte,reduceCtorEq,Y1,Y2,Y3,Y4,Y5,Y6,Y7,Y8,Y9,YA,zA,qA,qC,vA,vC,wN]
 refine X01 c4 rfl ?_
 simp only [hR,↓X03,wA,↓reduceIte,reduceIte,reduceCtorEq,Y1,Y2,Y3,Y4,Y5,Y6,Y7,Y8,Y9,YA,zA,qA,qC,vA,vC,wN]
 exact X6f rfl X1k rfl rfl rfl sR (hR.trans rfl)
theorem Xa5 (a b:V2) (ha:vb a≤vm) (hb:vb b≤vm):Fn Tryz.prog 191 [vA a,vA b] (qA (dot a b)):=by
 unfold vm at ha hb
 obtain ⟨R,hR⟩:∃ R,R=qA (dot a b):=⟨_,rfl⟩
 have sR:Settled R:=hR▸X0a _
 have:=X2w a; have:=X2w b; have:=X2k a; have:=X2k b
 have m1:=X1u a.x b.x; have m2:=X1u a.y b.y
 have c1:=X32 a.x b.x (by unfold rm; omega) (by unfold rm; omega)
 have c2:=X32 a.y b.y (by unfold rm; omega) (by unfold rm; omega)
 have c4:=Xa9 (a.x*b.x) (a.y*b.y) (by omega) (by omega)
 rw [show a.x*b.x+a.y*b.y=dot a b from rfl,← hR] at c4
 rw [← hR]
 refine Fq Tryz.call191 Tryz.func191 5 [] [] [] (by simp [X07,X08,X2g,X1H,X02,X2h,X0y,X0a,X0k,X0g,X2i,X21]) (X00 1000 ?_); simp (config:={ maxSteps:=2000000 }) only [AS.start,↓X03,wA,↓reduceIte,reduceIte,reduceCtorEq,Y1,Y2,Y3,Y4,Y5,Y6,Y7,Y8,Y9,YA,zA,qA,qC,vA,vC,wN]
 refine X01 c1 rfl ?_
 simp only [↓X03,wA,↓reduceIte,reduceIte,reduceCtorEq,Y1,Y2,Y3,Y4,Y5,Y6,Y7,Y8,Y9,YA,zA,qA,qC,vA,vC,wN]
 refine X01 c2 rfl ?_
 simp only [↓X03,wA,↓reduceIte,reduceIte,reduceCtorEq,Y1,Y2,Y3,Y4,Y5,Y6,Y7,Y8,Y9,YA,zA,qA,qC,vA,vC,wN]
 refine X01 c4 rfl ?_
 simp only [hR,↓X03,wA,↓reduceIte,reduceIte,reduceCtorEq,Y1,Y2,Y3,Y4,Y5,Y6,Y7,Y8,Y9,YA,zA,qA,qC,vA,vC,wN]
 exact X6f rfl X1k rfl rfl rfl sR (hR.trans rfl)
def vs:Nat:=100000
theorem X3D (a b c:V2) (ha:vb a≤vs) (hb:vb b≤vs) (hc:vb c≤vs):Fn Tryz.prog 179 [vA a,vA b,vA c] (I (X3H a b c)):=by
 unfold vs at ha hb hc
 have m1:=X2Y b a; have m2:=X2Y c a
 have c1:=X72 b a (by unfold rm; omega) (by unfold rm; omega)
 have c2:=X72 c a (by unfold rm; omega) (by unfold rm; omega)
 have c3:=Xa4 (b.sub a) (c.sub a) (by unfold vm; omega) (by unfold vm; omega)
 have c4:=X30 (X1E (b.sub a) (c.sub a))
 refine Fq Tryz.call179 Tryz.func179 7 [] [] [] (by simp [X07,X08,X2g,X1H,X02,X2h,X0y,X0a,X0k,X0g,X2i,X21]) (X00 1000 ?_); simp (config:={ maxSteps:=2000000 }) only [AS.start,↓X03,wA,↓reduceIte,reduceIte,reduceCtorEq,Y1,Y2,Y3,Y4,Y5,Y6,Y7,Y8,Y9,YA,zA,qA,qC,vA,vC,wN]
 refine X01 c1 rfl ?_
 simp only [↓X03,wA,↓reduceIte,reduceIte,reduceCtorEq,Y1,Y2,Y3,Y4,Y5,Y6,Y7,Y8,Y9,YA,zA,qA,qC,vA,vC,wN]
 refine X01 c2 rfl ?_
 simp only [↓X03,wA,↓reduceIte,reduceIte,reduceCtorEq,Y1,Y2,Y3,Y4,Y5,Y6,Y7,Y8,Y9,YA,zA,qA,qC,vA,vC,wN]
 refine X01 c3 rfl ?_
 simp only [↓X03,wA,↓reduceIte,reduceIte,reduceCtorEq,Y1,Y2,Y3,Y4,Y5,Y6,Y7,Y8,Y9,YA,zA,qA,qC,vA,vC,wN]
 refine X01 c4 rfl ?_
 simp only [↓X03,wA,↓reduceIte,reduceIte,reduceCtorEq,Y1,Y2,Y3,Y4,Y5,Y6,Y7,Y8,Y9,YA,zA,qA,qC,vA,vC,wN]
 exact X0r rfl rfl (X08 _) rfl
def onF (a b p:V2):Bool:=decide (X3H a b p=0) && decide ((dot (a.sub p) (b.sub p)).num.sign≤0)
theorem XpJ (a b p:V2) (ha:vb a≤vs) (hb:vb b≤vs) (hp:vb p≤vs):Fn Tryz.prog 228 [vA a,vA b,vA p] (.bool (onF a b p)):=by
 have c1:=X3D a b p ha hb hp
 unfold vs at ha hb hp
 have m1:=X2Y a p; have m2:=X2Y b p
 have c2:=X72 a p (by unfold rm; omega) (by unfold rm; omega)
 have c3:=X72 b p (by unfold rm; omega) (by unfold rm; omega)
 have c4:=Xa5 (a.sub p) (b.sub p) (by unfold vm; omega) (by unfold vm; omega)
 have c5:=X30 (dot (a.sub p) (b.sub p))
 obtain ⟨V,hV⟩:∃ V,V=onF a b p:=⟨_,rfl⟩
 rw [← hV]
 unfold onF at hV
 refine Fq Tryz.call228 Tryz.func228 7 [] [] [] (by simp [X07,X08,X2g,X1H,X02,X2h,X0y,X0a,X0k,X0g,X2i,X21]) (X00 1000 ?_); simp (config:={ maxSteps:=2000000 }) only [AS.start,↓X03,wA,↓reduceIte,reduceIte,reduceCtorEq,Y1,Y2,Y3,Y4,Y5,Y6,Y7,Y8,Y9,YA,zA,qA,qC,vA,vC,wN]
 refine X01 c1 rfl ?_
 by_cases h:X3H a b p=0
 ·have f1:(X3H a b p=0)=True:=eq_true h
  simp only [f1,↓X03,wA,↓reduceIte,reduceIte,reduceCtorEq,Y1,Y2,Y3,Y4,Y5,Y6,Y7,Y8,Y9,YA,zA,qA,qC,vA,vC,wN]
  refine X01 c2 rfl ?_
  simp only [↓X03,wA,↓reduceIte,reduceIte,reduceCtorEq,Y1,Y2,Y3,Y4,Y5,Y6,Y7,Y8,Y9,YA,zA,qA,qC,vA,vC,wN]
  refine X01 c3 rfl ?_
  simp only [↓X03,wA,↓reduceIte,reduceIte,reduceCtorEq,Y1,Y2,Y3,Y4,Y5,Y6,Y7,Y8,Y9,YA,zA,qA,qC,vA,vC,wN]
  refine X01 c4 rfl ?_
  simp only [↓X03,wA,↓reduceIte,reduceIte,reduceCtorEq,Y1,Y2,Y3,Y4,Y5,Y6,Y7,Y8,Y9,YA,zA,qA,qC,vA,vC,wN]
  refine X01 c5 rfl ?_
  simp only [↓X03,wA,↓reduceIte,reduceIte,reduceCtorEq,Y1,Y2,Y3,Y4,Y5,Y6,Y7,Y8,Y9,YA,zA,qA,qC,vA,vC,wN]
  exact X0r rfl rfl (X02 _) (by rw [hV,decide_eq_true h]; rfl)
 ·have f1:(X3H a b p=0)=False:=eq_false h
  simp only [f1,↓X03,wA,↓reduceIte,reduceIte,reduceCtorEq,Y1,Y2,Y3,Y4,Y5,Y6,Y7,Y8,Y9,YA,zA,qA,qC,vA,vC,wN]
  exact X0r rfl rfl (X02 _) (by rw [hV,decide_eq_false h]; rfl)
def XcU (a b c d:V2):Bool:=decide (X3H a b c*X3H a b d<0) && decide (X3H c d a*X3H c d b<0)
def X7w (a b c d:V2):Bool:=XcU a b c d || onF a b c || onF a b d || onF c d a || onF c d b
theorem X9l (a b c:V2):-1≤X3H a b c∧X3H a b c≤1:=by
 unfold X3H
 generalize (X1E (b.sub a) (c.sub a)).num=n
 rcases Int.lt_trichotomy n 0 with h | h | h
 ·rw [Int.sign_eq_neg_one_of_neg h]; omega
 ·rw [h]; simp
 ·rw [Int.sign_eq_one_of_pos h]; omega
theorem XkP {x y:Int} (hx:-1≤x∧x≤1) (hy:-1≤y∧y≤1):IntKind.i64.wrap (x*y)=x*y:=by
 rcases (show x = -1∨x=0∨x=1 by omega) with rfl | rfl | rfl <;> rw [IntKind.wrap_i64] <;> omega
theorem Xpz (a b c d:V2) (ha:vb a≤vs) (hb:vb b≤vs) (hc:vb c≤vs) (hd:vb d≤vs):Fn Tryz.prog 180 [vA a,vA b,vA c,vA d] (.bool (X7w a b c d)):=by
 have c1:=X3D a b c ha hb hc
 have c2:=X3D a b d ha hb hd
 have c3:=X3D c d a hc hd ha
 have c4:=X3D c d b hc hd hb
 have d1:=XpJ a b c ha hb hc
 have d2:=XpJ a b d ha hb hd
 have d3:=XpJ c d a hc hd ha
 have d4:=XpJ c d b hc hd hb
 have w1:=XkP (X9l a b c) (X9l a b d)
 have w2:=XkP (X9l c d a) (X9l c d b)
 obtain ⟨V,hV⟩:∃ V,V=X7w a b c d:=⟨_,rfl⟩
 rw [← hV]
 unfold X7w XcU at hV
 have fin:∀ {s:AS} {v:Bool},s.get 8=.bool v→v=V→RetOk (X2f Tryz.prog Tryz.f180 [] [] (.bool V)) s:=fun h e=>X0r rfl h (X02 _) (by rw [e])
 obtain ⟨B1,hB1⟩:∃ B,B=onF a b c:=⟨_,rfl⟩
 obtain ⟨B2,hB2⟩:∃ B,B=onF a b d:=⟨_,rfl⟩
 obtain ⟨B3,hB3⟩:∃ B,B=onF c d a:=⟨_,rfl⟩
 obtain ⟨B4,hB4⟩:∃ B,B=onF c d b:=⟨_,rfl⟩
 rw [← hB1] at d1 hV
 rw [← hB2] at d2 hV
 rw [← hB3] at d3 hV
 rw [← hB4] at d4 hV
 refine Fq Tryz.call180 Tryz.func180 9 [] [] [] (by simp [X07,X08,X2g,X1H,X02,X2h,X0y,X0a,X0k,X0g,X2i,X21]) (X00 1000 ?_); simp (config:={ maxSteps:=2000000 }) only [AS.start,↓X03,wA,↓reduceIte,reduceIte,reduceCtorEq,Y1,Y2,Y3,Y4,Y5,Y6,Y7,Y8,Y9,YA,zA,qA,qC,vA,vC,wN]
 refine X01 c1 rfl ?_
 simp only [↓X03,wA,↓reduceIte,reduceIte,reduceCtorEq,Y1,Y2,Y3,Y4,Y5,Y6,Y7,Y8,Y9,YA,zA,qA,qC,vA,vC,wN]
 refine X01 c2 rfl ?_
 by_cases h1:X3H a b c*X3H a b d<0
 ·have f1:(X3H a b c*X3H a b d<0)=True:=eq_true h1
  simp only [w1,f1,↓X03,wA,↓reduceIte,reduceIte,reduceCtorEq,Y1,Y2,Y3,Y4,Y5,Y6,Y7,Y8,Y9,YA,zA,qA,qC,vA,vC,wN]
  refine X01 c3 rfl ?_
  simp only [↓X03,wA,↓reduceIte,reduceIte,reduceCtorEq,Y1,Y2,Y3,Y4,Y5,Y6,Y7,Y8,Y9,YA,zA,qA,qC,vA,vC,wN]
  refine X01 c4 rfl ?_
  by_cases h2:X3H c d a*X3H c d b<0
  ·have f2:(X3H c d a*X3H c d b<0)=True:=eq_true h2
   simp only [w2,f2,↓X03,wA,↓reduceIte,reduceIte,reduceCtorEq,Y1,Y2,Y3,Y4,Y5,Y6,Y7,Y8,Y9,YA,zA,qA,qC,vA,vC,wN]
   exact fin rfl (by rw [hV,decide_eq_true h1,decide_eq_true h2]; rfl)
  ·have f2:(X3H c d a*X3H c d b<0)=False:=eq_false h2
   simp only [w2,f2,↓X03,wA,↓reduceIte,reduceIte,reduceCtorEq,Y1,Y2,Y3,Y4,Y5,Y6,Y7,Y8,Y9,YA,zA,qA,qC,vA,vC,wN]
   rw [decide_eq_true h1,decide_eq_false h2] at hV
   refine X01 d1 rfl ?_
   cases B1
   rotate_left
   ·simp only [↓X03,wA,↓reduceIte,reduceIte,reduceCtorEq,Y1,Y2,Y3,Y4,Y5,Y6,Y7,Y8,Y9,YA,zA,qA,qC,vA,vC,wN]
    exact fin rfl (by rw [hV]; simp)
   simp only [↓X03,wA,↓reduceIte,reduceIte,reduceCtorEq,Y1,Y2,Y3,Y4,Y5,Y6,Y7,Y8,Y9,YA,zA,qA,qC,vA,vC,wN]
   refine X01 d2 rfl ?_
   cases B2
   rotate_left
   ·simp only [↓X03,wA,↓reduceIte,reduceIte,reduceCtorEq,Y1,Y2,Y3,Y4,Y5,Y6,Y7,Y8,Y9,YA,zA,qA,qC,vA,vC,wN]
    exact fin rfl (by rw [hV]; simp)
   simp only [↓X03,wA,↓reduceIte,reduceIte,reduceCtorEq,Y1,Y2,Y3,Y4,Y5,Y6,Y7,Y8,Y9,YA,zA,qA,qC,vA,vC,wN]
   refine X01 d3 rfl ?_
   cases B3
   rotate_left
   ·simp only [↓X03,wA,↓reduceIte,reduceIte,reduceCtorEq,Y1,Y2,Y3,Y4,Y5,Y6,Y7,Y8,Y9,YA,zA,qA,qC,vA,vC,wN]
    exact fin rfl (by rw [hV]; simp)
   simp only [↓X03,wA,↓reduceIte,reduceIte,reduceCtorEq,Y1,Y2,Y3,Y4,Y5,Y6,Y7,Y8,Y9,YA,zA,qA,qC,vA,vC,wN]
   refine X01 d4 rfl ?_
   simp only [↓X03,wA,↓reduceIte,reduceIte,reduceCtorEq,Y1,Y2,Y3,Y4,Y5,Y6,Y7,Y8,Y9,YA,zA,qA,qC,vA,vC,wN]
   exact fin rfl (by rw [hV]; simp)
 ·have f1:(X3H a b c*X3H a b d<0)=False:=eq_false h1
  simp only [w1,f1,↓X03,wA,↓reduceIte,reduceIte,reduceCtorEq,Y1,Y2,Y3,Y4,Y5,Y6,Y7,Y8,Y9,YA,zA,qA,qC,vA,vC,wN]
  rw [decide_eq_false h1] at hV
  refine X01 d1 rfl ?_
  cases B1
  rotate_left
  ·simp only [↓X03,wA,↓reduceIte,reduceIte,reduceCtorEq,Y1,Y2,Y3,Y4,Y5,Y6,Y7,Y8,Y9,YA,zA,qA,qC,vA,vC,wN]
   exact fin rfl (by rw [hV]; simp)
  simp only [↓X03,wA,↓reduceIte,reduceIte,reduceCtorEq,Y1,Y2,Y3,Y4,Y5,Y6,Y7,Y8,Y9,YA,zA,qA,qC,vA,vC,wN]
  refine X01 d2 rfl ?_
  cases B2
  rotate_left
  ·simp only [↓X03,wA,↓reduceIte,reduceIte,reduceCtorEq,Y1,Y2,Y3,Y4,Y5,Y6,Y7,Y8,Y9,YA,zA,qA,qC,vA,vC,wN]
   exact fin rfl (by rw [hV]; simp)
  simp only [↓X03,wA,↓reduceIte,reduceIte,reduceCtorEq,Y1,Y2,Y3,Y4,Y5,Y6,Y7,Y8,Y9,YA,zA,qA,qC,vA,vC,wN]
  refine X01 d3 rfl ?_
  cases B3
  rotate_left
  ·simp only [↓X03,wA,↓reduceIte,reduceIte,reduceCtorEq,Y1,Y2,Y3,Y4,Y5,Y6,Y7,Y8,Y9,YA,zA,qA,qC,vA,vC,wN]
   exact fin rfl (by rw [hV]; simp)
  simp only [↓X03,wA,↓reduceIte,reduceIte,reduceCtorEq,Y1,Y2,Y3,Y4,Y5,Y6,Y7,Y8,Y9,YA,zA,qA,qC,vA,vC,wN]
  refine X01 d4 rfl ?_
  simp only [↓X03,wA,↓reduceIte,reduceIte,reduceCtorEq,Y1,Y2,Y3,Y4,Y5,Y6,Y7,Y8,Y9,YA,zA,qA,qC,vA,vC,wN]
  exact fin rfl (by rw [hV]; simp)
def v0:V2:=⟨0,0⟩
def X0A (l:List V2):AV:=sls vC 8 v0 l
theorem X0b (l:List V2):Settled (X0A l):=X5M fun a x hx=>by
 have:∀ x∈vC a,Settled x:=by simp [vC,X07,X02]
 exact this x hx
theorem X05 (l:List V2):X0A l=.sl l.length (l.length*8) (X0M vC 8 v0 l) false:=nrfl rfl
theorem vF (l:List V2) (i:Nat):X0M vC 8 v0 l (i*8)=.bool (decide ((l.getD i v0).x.num<0))∧X0M vC 8 v0 l (i*8+1)=X0f (X0i (l.getD i v0).x.num.natAbs)∧X0M vC 8 v0 l (i*8+2)=.bool false∧X0M vC 8 v0 l (i*8+3)=X0f (X0i (qd (l.getD i v0).x)) ∧
  X0M vC 8 v0 l (i*8+4)=.bool (decide ((l.getD i v0).y.num<0))∧X0M vC 8 v0 l (i*8+5)=X0f (X0i (l.getD i v0).y.num.natAbs)∧X0M vC 8 v0 l (i*8+6)=.bool false∧X0M vC 8 v0 l (i*8+7)=X0f (X0i (qd (l.getD i v0).y)):=by
 refine ⟨?_,?_,?_,?_,?_,?_,?_,?_⟩
 ·rw [X3I _ _ _ _ _ (by omega)]; rfl
 all_goals rw [X3z _ _ _ _ _ _ (by omega)]; rfl
theorem Xqe (l:List V2):Fn Tryz.prog 158 [X0A l] (.fn 218 [.ptr 1 (ofL [X0A l]) 0]):=by
 have hset:Settled (.fn 218 [.ptr 1 (ofL [X0A l]) 0]):=X2p (by
  intro a ha
  simp only [List.mem_cons,List.not_mem_nil,or_false] at ha
  rw [ha]
  exact X1N fun j hj=>by
    obtain rfl:j=0:=by omega
    exact X0b l)
 refine Fq Tryz.call158 Tryz.func158 4 [] [] [] (by simp [X0b]) (X00 1000 ?_)
 simp only [AS.start,X05,↓X03,wA,seval,zA,qA,qC,vA,vC,X3J,wN]
 refine X8R rfl (X8w ⟨X4O (.inl rfl) (by omega) fun j hj=>?_,trivial⟩)
 obtain rfl:j=0:=by omega
 exact (X0b l).sees _
theorem XjD (L:List V2) (t:Tok) (A B:Nat→AO) (hL:L.length<1000000) (hy:∀ i,i<L.length→YCall Tryz.prog t [vA (L.getD i v0),vA (L.getD ((i+1) % L.length) v0)] [A i,B i] (.bool true) [A (i+1),B (i+1)])
  (hA:∀ i,X1j 2 (A i)∧A i≠.unborn∧∀ v n f,A i≠.con v n f) (hB:∀ i,X1j 2 (B i)∧B i≠.unborn∧∀ v n f,B i≠.con v n f) (hce:t.ce.H.length≤2) :
  ICall Tryz.prog t 218 [.yld t.l,.ptr 1 (ofL [X0A L]) 0] [A 0,B 0] [A L.length,B L.length]:=by
 have hAO:∀ i,X1j 2 (A i)=True:=fun i=>eq_true (hA i).1
 have hBO:∀ i,X1j 2 (B i)=True:=fun i=>eq_true (hB i).1
 refine ICall.intro (fn:=Tryz.f218) Tryz.call218 Tryz.func218 rfl mixed 5 [5,6,7] [3,40000004] [3] (by kernel_rfl) (Nat.le_of_ble_eq_true rfl) hce (by simp [hAO,hBO]) (X00 1000 ?_)
 simp only [AS.start,X05,↓X03,wA,seval,zA,qA,qC,vA,vC,X3J,wN]
 refine X0d (fun i:Nat=>⟨5,[5,6,7],[.yld t.l,.ptr 1 (ofL [X0A L]) 0,.any,.any,.any],[(5,X0A L),(6,I L.length),(7,I i)],[A i,B i]⟩) (fun i=>i≤L.length) (fun i=>L.length - i) 0 (by omega)
  (X09 rfl (by simp [X0p,X05]) (by simp [X0q,X0P,X05,I]) rfl) ?_
 intro i hi next
 have w1:=wj i (by omega)
 by_cases hi2:i<L.length
 ·have f1:((i:Int)<L.length)=True:=eq_true (by omega)
  have f2:(i<L.length)=True:=eq_true hi2
  have f3:(i*8+8≤L.length*8)=True:=eq_true (by omega)
  have hm:((i+1:Nat):Int).tmod L.length=(((i+1) % L.length:Nat):Int):=rfl
  have hml:(i+1) % L.length<L.length:=Nat.mod_lt _ (by omega)
  have f4:((i+1) % L.length<L.length)=True:=eq_true hml
  have f5:((i+1) % L.length*8+8≤L.length*8)=True:=eq_true (by omega)
  have f6:((L.length:Int)=0)=False:=eq_false (by omega)
  have f6':(L.length=0)=False:=eq_false (by omega)
  have v1:=vF L i
  have v2:=vF L ((i+1) % L.length)
  refine X00 1000 ?_
  simp only [X05,w1,f1,f2,f3,f4,f5,f6,f6',hm,v1,v2,Int.toNat_natCast,↓X03,wA,seval,zA,qA,qC,vA,vC,X3J,wN]
  refine X8c (t:=t) (H1:=[A i,B i]) (H1':=[A (i+1),B (i+1)]) rfl rfl (List.mem_singleton.2 rfl) (hy i hi2) rfl rfl hce ?_ ?_ ?_ ?_ ?_ ⟨Weak.rfl' _,Weak.rfl' _,trivial⟩ ?_
  ·intro a ha
   simp only [List.mem_cons,List.not_mem_nil,or_false] at ha
   rcases ha with rfl | rfl <;> exact X06 (X0k _)
  ·intro o ho
   simp only [List.mem_cons,List.not_mem_nil,or_false] at ho
   rcases ho with rfl | rfl
   ·exact (hA i).1
   ·exact (hB i).1
  ·intro o ho
   simp only [List.mem_cons,List.not_mem_nil,or_false] at ho
   rcases ho with rfl | rfl
   ·exact (hA i).2.1
   ·exact (hB i).2.1
  ·intro o ho
   simp only [List.mem_cons,List.not_mem_nil,or_false] at ho
   rcases ho with rfl | rfl
   ·exact (hA (i+1)).2.1
   ·exact (hB (i+1)).2.1
  ·refine X1V ?_ ?_
   ·intro o ho
    simp only [List.mem_cons,List.not_mem_nil,or_false] at ho
    rcases ho with rfl | rfl
    ·exact (hA i).2.2
    ·exact (hB i).2.2
   ·intro o ho
    simp only [List.mem_cons,List.not_mem_nil,or_false] at ho
    rcases ho with rfl | rfl
    ·exact (hA (i+1)).2.2
    ·exact (hB (i+1)).2.2
  simp only [X05,w1,↓X03,wA,seval,zA,qA,qC,vA,vC,X3J,wN]
  have hbv:Bel 2 (X0A L)=True:=eq_true (X06 (X0b L))
  have hbp:Bel 2 (.ptr 1 (ofL [X0A L]) 0)=True:=eq_true (X06 (X1N fun j hj=>by
    obtain rfl:j=0:=by omega
    exact X0b L))
  have hby:Bel 2 (.yld t.l)=True:=eq_true fun c v hv=>by cases hv; exact .yld _
  exact next (i+1) _ (by omega) (by omega) (X0t (m:=2) (Nat.le_refl 2) rfl (by simp [X05,X0p,X0f,sl1,I]) (by simp [X05,X0q,X0P,I]) rfl (by simp [hby,hbp,X0L]) (by simp [hbv,X0L]) (by simp [hAO,hBO]))
 ·obtain rfl:i=L.length:=by omega
  refine X00 1000 ?_
  simp only [X05,Int.lt_irrefl,Nat.lt_irrefl,↓X03,wA,seval,zA,qA,qC,vA,vC,X3J,wN]
  exact retI rfl rfl
def X45 (L:List V2):Nat→Rat
 | 0=>0
 | i+1=>X45 L i+X1E (L.getD i v0) (L.getD ((i+1) % L.length) v0)
def X4S (L:List V2):Rat:=X45 L L.length*Rat.divInt 1 2
def X0Y (L:List V2) (k:Nat):Prop:=∀ i,vb (L.getD i v0)≤k
theorem Xch (L:List V2) (k:Nat) (h:X0Y L k):∀ i,qb (X45 L i)≤(4*k+2)*i+1
 | 0=>by have:=X5G; simp only [X45]; omega
 | i+1=>by
  have ih:=Xch L k h i
  have h1:=X6v (L.getD i v0) (L.getD ((i+1) % L.length) v0)
  have h2:=h i
  have h3:=h ((i+1) % L.length)
  have h4:=X2n (X45 L i) (X1E (L.getD i v0) (L.getD ((i+1) % L.length) v0))
  have e:(4*k+2)*(i+1)=(4*k+2)*i+(4*k+2):=Nat.mul_succ _ _
  simp only [X45]
  omega
theorem XkA (L:List V2) (k:Nat) (h:X0Y L k) (hk:k≤1000) (hl:L.length≤1000):qb (X45 L L.length)≤10000000∧qb (X4S L)≤10000000:=by
 have h1:=Xch L k h L.length
 have h2:(4*k+2)*L.length≤4002*1000:=Nat.mul_le_mul (by omega) hl
 have h3:=X1u (X45 L L.length) (Rat.divInt 1 2)
 have h4:qb (Rat.divInt 1 2)≤3:=X2V _ _ _ (by omega) (X1n ⟨by omega,by omega⟩) (X1n ⟨by omega,by omega⟩)
 unfold X4S
 omega
def X44:AO:=.row 0 4 (ofL [.bool false,.sl 0 0 (fun _=>.any) true,.bool false,.sl 0 0 (fun _=>.any) true])
def X8b (L:List V2) (i:Nat):AO:=.row 0 4 (ofL (qC (X45 L i)))
theorem Xsb (L:List V2) (k:Nat) (h:X0Y L k) (hk:k≤1000) (hl:L.length≤1000):Fn Tryz.prog 71 [X0A L] (qA (X4S L)):=by
 obtain ⟨R,hR⟩:∃ R,R=qA (X4S L):=⟨_,rfl⟩
 have sR:Settled R:=hR▸X0a _
 obtain ⟨q1,q2⟩:=XkA L k h hk hl
 have cs:=Xqe L
 rw [← hR]
 refine Fq Tryz.call71 Tryz.func71 6 [8,9] [] [] (by simp [X0b]) (X00 1000 ?_)
 simp only [AS.start,X05,↓X03,wA,seval,zA,qA,qC,vA,vC,X3J,wN]
 refine X01 cs rfl ?_
 simp only [↓X03,wA,seval,zA,qA,qC,vA,vC,X3J,wN]
 have bA:X1j 2 X44∧X44≠.unborn∧∀ v n f,X44≠.con v n f:=⟨by simp [X44,X0L],by simp [X44],by simp [X44]⟩
 have bB:∀ i,X1j 2 (X8b L i)∧X8b L i≠.unborn∧∀ v n f,X8b L i≠.con v n f:=fun i=>⟨by simp [X8b,qC,X0L],by simp [X8b],by simp [X8b]⟩
 refine Run.sub (s':=⟨6,[8,9],[X0A L,.any,.ref 0 0 0,.ref 1 0 0,.any,.any],[(7,.fn 218 [.ptr 1 (ofL [X0A L]) 0])],[X44,X8b L 0]⟩) ?_ ((X4c 1 (ofL (qC 0)) rfl fun j hj=>?_).trans (X09 rfl (by simp [X0p,X05]) (by simp [X0q,X0P]) (by simp [X44,X8b,X45])))
 rotate_left
 ·match j,hj with
  | 0,_=>exact X1B _ _
  | 1,_=>exact X2Z (X1i (by rw [Rat.zero_num]; simp [X0O]))
  | 2,_=>exact X1B _ _
  | 3,_=>exact X2Z (X1i (X8M rfl))
  | j+4,h=>omega
 refine Xdb (gf:=218) (caps:=[.ptr 1 (ofL [X0A L]) 0]) (Hn:=[X44,X8b L L.length]) rfl rfl rfl (fun t ht=>?_) ?_
 ·refine XjD L t (fun _=>X44) (X8b L) (by omega) (fun i hi=>?_) (fun _=>bA) bB (by rw [ht.ch]; exact Nat.le_refl _)
  have hc:=Xa4 (L.getD i v0) (L.getD ((i+1) % L.length) v0) (by have:=h i; unfold vm; omega) (by have:=h ((i+1) % L.length); unfold vm; omega)
  have b1:=Xch L k h i
  have b2:(4*k+2)*i≤4002*1000:=Nat.mul_le_mul (by omega) (by omega)
  have b3:=X6v (L.getD i v0) (L.getD ((i+1) % L.length) v0)
  have b4:=h i
  have b5:=h ((i+1) % L.length)
  have ha:=X4W (X45 L i) (X1E (L.getD i v0) (L.getD ((i+1) % L.length) v0)) (by unfold rm; omega) (by unfold rm; omega)
  refine XaI (str:=[]) (hcs:=[]) ht mixed (by kernel_rfl) (by kernel_rfl) rfl (fun p hp=>?_) (fun o ho=>?_) (fun l r hr=>?_)
  ·have hp':p=8∨p=9:=by simpa using hp
   rcases hp' with rfl | rfl <;> exact Nat.le_of_ble_eq_true rfl
  ·simp only [List.mem_cons,List.not_mem_nil,or_false] at ho
   rcases ho with rfl | rfl
   ·exact bA.1
   ·exact (bB (i+1)).1
  show Run _ _ ⟨6,[8,9],[X0A L,.any,.ref 0 0 0,.ref 1 0 0,.any,.any],[(9,vA (L.getD ((i+1) % L.length) v0)),(8,vA (L.getD i v0)),(7,.fn 218 [.ptr 1 (ofL [X0A L]) 0])],[X44,X8b L i]⟩
  refine X00 1000 ?_
  simp only [X44,X8b,↓X03,wA,seval,zA,qA,qC,vA,vC,X3J,wN]
  refine Xbi hr ?_
  refine X00 1000 ?_
  simp only [↓X03,wA,seval,zA,qA,qC,vA,vC,X3J,wN]
  refine X01 hc rfl ?_
  simp only [↓X03,wA,seval,zA,qA,qC,vA,vC,X3J,wN]
  refine X01 ha rfl ?_
  simp only [↓X03,wA,seval,zA,qA,qC,vA,vC,X3J,wN]
  exact retR rfl
 ·refine X00 1000 ?_
  simp only [X44,X8b,↓X03,wA,seval,zA,qA,qC,vA,vC,X3J,wN]
  refine X01 (X7P 1 2 ⟨by omega,by omega⟩ ⟨by omega,by omega⟩) rfl ?_
  simp only [↓X03,wA,seval,zA,qA,qC,vA,vC,X3J,wN]
  have hm:=X32 (X45 L L.length) (Rat.divInt 1 2) (by unfold rm; omega) (by
   have:qb (Rat.divInt 1 2)≤3:=X2V _ _ _ (by omega) (X1n ⟨by omega,by omega⟩) (X1n ⟨by omega,by omega⟩)
   unfold rm; omega)
  rw [show X45 L L.length*Rat.divInt 1 2=X4S L from rfl,← hR] at hm
  refine X01 hm rfl ?_
  simp only [hR,↓X03,wA,seval,zA,qA,qC,vA,vC,X3J,wN]
  exact X3V rfl X1k rfl rfl rfl sR (hR.trans rfl)
theorem Xy0 (L:List V2) (i:Nat) (hn:L.length<1000000) (h0:L.length≠0) (hi:i<1000000000) :
  Fn Tryz.prog 178 [I i,.ptr 1 (ofL [X0A L]) 0,.ptr 1 (ofL [I L.length]) 0] (vA (L.getD (i % L.length) v0)):=by
 obtain ⟨R,hR⟩:∃ R,R=vA (L.getD (i % L.length) v0):=⟨_,rfl⟩
 have sR:Settled R:=hR▸X0k _
 have hm:(i:Int).tmod L.length=((i % L.length:Nat):Int):=rfl
 have hml:i % L.length<L.length:=Nat.mod_lt _ (by omega)
 have f4:(i % L.length<L.length)=True:=eq_true hml
 have f5:(i % L.length*8+8≤L.length*8)=True:=eq_true (by omega)
 have f6:((L.length:Int)=0)=False:=eq_false (by omega)
 have f6':(L.length=0)=False:=eq_false h0
 have v1:=vF L (i % L.length)
 have hs0:Settled (.ptr 1 (ofL [X0A L]) 0):=X1N fun j hj=>by
   obtain rfl:j=0:=by omega
   exact X0b L
 have hs1:Settled (.ptr 1 (ofL [I L.length]) 0):=X1N fun j hj=>by
   obtain rfl:j=0:=by omega
   exact X08 _
 rw [← hR]
 refine Fq Tryz.call178 Tryz.func178 5 [] [] [] (by simp [X08,hs0,hs1]) (X00 1000 ?_)
 simp only [AS.start,X05,f4,f5,f6,f6',hm,v1,Int.toNat_natCast,↓X03,wA,seval,zA,qA,qC,vA,vC,X3J,wN]
 exact X6f rfl X2z rfl rfl rfl sR (hR.trans rfl)
def atF (L:List V2) (i:Nat):V2:=L.getD (i % L.length) v0
def X6R (L:List V2) (i:Nat):Prop:=X3H (atF L i) (atF L (i+1)) (atF L (i+2))=0
def XkL (L:List V2) (i k:Nat):Prop:=(k+1) % L.length≠i∧X7w (atF L i) (atF L (i+1)) (atF L k) (atF L (k+1))=true
def Xri (L:List V2) (i:Nat):Prop:=¬ X6R L i∧∀ k,i+2≤k→k<L.length→¬ XkL L i k
def X5j (L:List V2):Prop:=(3≤L.length∧L.length≤12)∧(∀ i,i<L.length→Xri L i)∧0<(X4S L).num.sign
theorem Xex (L:List V2) (h:X0Y L 1000) (hl:L.length<1000000):Fn Tryz.prog 90 [X0A L] (.bool (decide (X5j L))):=by
 obtain ⟨V,hV⟩:∃ V,V=decide (X5j L):=⟨_,rfl⟩
 rw [← hV]
 have fin:∀ {s:AS} {v:Bool},s.get 2=.bool v→v=V→RetOk (X2f Tryz.prog Tryz.f90 [] [] (.bool V)) s:=fun h e=>X0r rfl h (X02 _) (by rw [e])
 have hs0:Settled (.ptr 1 (ofL [X0A L]) 0):=X1N fun j hj=>by
   obtain rfl:j=0:=by omega
   exact X0b L
 have hs1:Settled (.ptr 1 (ofL [I L.length]) 0):=X1N fun j hj=>by
   obtain rfl:j=0:=by omega
   exact X08 _
 have sm:∀ i,vb (atF L i)≤vs:=fun i=>by have:=h (i % L.length); unfold atF vs; omega
 refine Fq Tryz.call90 Tryz.func90 9 [17,18,19,35,36] [] [] (by simp [X0b]) (X00 1000 ?_)
 by_cases hlo:(L.length:Int)<3
 ·have f1:((L.length:Int)<3)=True:=eq_true hlo
  simp only [AS.start,X05,f1,↓X03,wA,seval,zA,qA,qC,vA,vC,X3J,wN]
  exact fin rfl (by rw [hV,decide_eq_false]; unfold X5j; omega)
 have f1:((L.length:Int)<3)=False:=eq_false hlo
 by_cases hhi:(12:Int)<L.length
 ·have f2:((12:Int)<L.length)=True:=eq_true hhi
  simp only [AS.start,X05,f1,f2,↓X03,wA,seval,zA,qA,qC,vA,vC,X3J,wN]
  exact fin rfl (by rw [hV,decide_eq_false]; unfold X5j; omega)
 have f2:((12:Int)<L.length)=False:=eq_false hhi
 simp only [AS.start,X05,f1,f2,↓X03,wA,seval,zA,qA,qC,vA,vC,X3J,wN]
 have b0:Bel 0 (.ptr 1 (ofL [X0A L]) 0)=True:=eq_true (X06 hs0)
 have b1:Bel 0 (.ptr 1 (ofL [I L.length]) 0)=True:=eq_true (X06 hs1)
 have b2:Bel 0 (X0A L)=True:=eq_true (X06 (X0b L))
 refine X0d (fun i:Nat=>⟨9,[17,18,19,35,36],[.any,.ptr 1 (ofL [X0A L]) 0,.bool false,.ptr 1 (ofL [I L.length]) 0,.any,.any,.any,.any,.any],[(17,X0A L),(18,I L.length),(19,I i)],[]⟩) (fun i=>i≤L.length) (fun i=>L.length - i) 0 (by omega)
  ((X1a 0 rfl).trans ((X1a 1 rfl).trans ((XeO 1 rfl rfl (by omega)).trans ((XeO 3 rfl rfl (by omega)).trans (X0t (m:=0) (Nat.zero_le _) rfl (by simp [AS.put,X05,X0p,X0f,sl1,I]) (by simp [AS.put,X05,X0q,X0P,I]) rfl (by simp [b0,b1,X0L]) (by simp [b2,X0L]) (by simp)))))) ?_
 intro i hi next
 have w1:=wj i (by omega)
 have rv:∀ r:Rat,qb r≤1000→Fn Tryz.prog 79 [qA r] (.bool true):=fun r hr=>by
  have h1:=RQ.of_sz r
  have:=X7R (RQ.of r) (by omega)
  rwa [decide_eq_true ⟨r,rfl⟩] at this
 by_cases hi2:i<L.length
 ·have f3:((i:Int)<L.length)=True:=eq_true (by omega)
  have f4:(i<L.length)=True:=eq_true hi2
  have f5:(i*8+8≤L.length*8)=True:=eq_true (by omega)
  have v1:=vF L i
  have hx:=X2w (L.getD i v0); have hy:=X2k (L.getD i v0); have hb:=h i
  refine X00 1000 ?_
  simp only [X05,w1,f3,f4,f5,v1,Int.toNat_natCast,↓X03,wA,seval,zA,qA,qC,vA,vC,X3J,wN]
  refine X01 (rv (L.getD i v0).x (by omega)) rfl ?_
  simp only [↓X03,wA,seval,zA,qA,qC,vA,vC,X3J,wN]
  refine X01 (rv (L.getD i v0).y (by omega)) rfl ?_
  simp only [w1,↓X03,wA,seval,zA,qA,qC,vA,vC,X3J,wN]
  exact next (i+1) _ (by omega) (by omega) (X0t (m:=0) (Nat.zero_le _) rfl (by simp [X05,X0p,X0f,sl1,I]) (by simp [X05,X0q,X0P,I]) rfl (by simp [b0,b1,X0L]) (by simp [b2,X0L]) (by simp))
 obtain rfl:i=L.length:=by omega
 refine X00 1000 ?_
 simp only [X05,Int.lt_irrefl,Nat.lt_irrefl,↓X03,wA,seval,zA,qA,qC,vA,vC,X3J,wN]
 have hn0:L.length≠0:=by omega
 have cat:∀ j:Nat,j<1000000000→Fn Tryz.prog 178 [I j,.ptr 1 (ofL [X0A L]) 0,.ptr 1 (ofL [I L.length]) 0] (vA (atF L j)):=fun j hj=>Xy0 L j hl hn0 hj
 have b3:Bel 0 (.fn 178 [.ptr 1 (ofL [X0A L]) 0,.ptr 1 (ofL [I L.length]) 0])=True:=eq_true (X06 (X2p (by
  intro a ha
  simp only [List.mem_cons,List.not_mem_nil,or_false] at ha
  rcases ha with rfl | rfl
  ·exact hs0
  ·exact hs1)))
 refine X0d (fun i:Nat=>⟨9,[17,18,19,35,36],[.any,.ptr 1 (ofL [X0A L]) 0,.bool false,.ptr 1 (ofL [I L.length]) 0,.any,.any,.fn 178 [.ptr 1 (ofL [X0A L]) 0,.ptr 1 (ofL [I L.length]) 0],.any,.any],[(35,I L.length),(36,I i)],[]⟩) (fun i=>i≤L.length∧∀ j,j<i→Xri L j) (fun i=>L.length - i) 0 ⟨by omega,by omega⟩
  (X0t (m:=0) (Nat.zero_le _) rfl (by simp [X05,X0p,X0f,sl1,I]) (by simp [X05,X0q,X0P,I]) rfl (by simp [b0,b1,b3,X0L]) (by simp [b2,X0L]) (by simp)) ?_
 rintro i ⟨hi,hgood⟩ next
 have w1:=wj i (by omega)
 have w2:IntKind.i64.wrap ((i:Int)+2)=((i+2:Nat):Int):=by rw [IntKind.wrap_i64]; omega
 by_cases hi2:i<L.length
 rotate_left
 ·obtain rfl:i=L.length:=by omega
  refine X00 1000 ?_
  simp only [X05,Int.lt_irrefl,Nat.lt_irrefl,↓X03,wA,seval,zA,qA,qC,vA,vC,X3J,wN]
  have ca:=Xsb L 1000 h (by omega) (by omega)
  have cs:=X30 (X4S L)
  refine X01 ca rfl ?_
  simp only [↓X03,wA,seval,zA,qA,qC,vA,vC,X3J,wN]
  refine X01 cs rfl ?_
  simp only [↓X03,wA,seval,zA,qA,qC,vA,vC,X3J,wN]
  exact fin rfl (by rw [hV,decide_eq_decide]; unfold X5j; exact ⟨fun h=>⟨by omega,hgood,h⟩,fun h=>h.2.2⟩)
 have f3:((i:Int)<L.length)=True:=eq_true (by omega)
 have f4:(i<L.length)=True:=eq_true hi2
 refine X00 1000 ?_
 simp only [w1,w2,f3,f4,Int.toNat_natCast,↓X03,wA,seval,zA,qA,qC,vA,vC,X3J,wN]
 refine X01 (cat i (by omega)) rfl ?_
 simp only [w1,w2,↓X03,wA,seval,zA,qA,qC,vA,vC,X3J,wN]
 refine X01 (cat (i+1) (by omega)) rfl ?_
 simp only [w1,w2,↓X03,wA,seval,zA,qA,qC,vA,vC,X3J,wN]
 refine X01 (cat (i+2) (by omega)) rfl ?_
 simp only [w1,w2,↓X03,wA,seval,zA,qA,qC,vA,vC,X3J,wN]
 refine X01 (X3D _ _ _ (sm _) (sm _) (sm _)) rfl ?_
 by_cases hs:X3H (atF L i) (atF L (i+1)) (atF L (i+2))=0
 ·have f5:(X3H (atF L i) (atF L (i+1)) (atF L (i+2))=0)=True:=eq_true hs
  simp only [f5,↓X03,wA,seval,zA,qA,qC,vA,vC,X3J,wN]
  exact fin rfl (by rw [hV,decide_eq_false]; exact fun hp=>(hp.2.1 i hi2).1 hs)
 have f5:(X3H (atF L i) (atF L (i+1)) (atF L (i+2))=0)=False:=eq_false hs
 simp only [f5,w1,w2,↓X03,wA,seval,zA,qA,qC,vA,vC,X3J,wN]
 refine X0d (fun k:Nat=>⟨9,[17,18,19,35,36],[.any,.ptr 1 (ofL [X0A L]) 0,.bool false,.ptr 1 (ofL [I L.length]) 0,.any,.any,.fn 178 [.ptr 1 (ofL [X0A L]) 0,.ptr 1 (ofL [I L.length]) 0],I i,I k],[(35,I L.length),(36,I i)],[]⟩) (fun k=>i+2≤k∧k≤L.length+2∧∀ j,i+2≤j→j<k→j<L.length→¬ XkL L i j) (fun k=>L.length+2 - k) (i+2) ⟨by omega,by omega,by omega⟩
  (X09 rfl (by simp [X0p,I]) (by simp [X0q,X0P,I]) rfl) ?_
 rintro k ⟨hk1,hk2,hpair⟩ nextk
 have u1:=wj k (by omega)
 by_cases hk3:k<L.length
 rotate_left
 ·have g3:((k:Int)<L.length)=False:=eq_false (by omega)
  have g4:(k<L.length)=False:=eq_false hk3
  refine X00 1000 ?_
  simp only [g3,g4,w1,↓X03,wA,seval,zA,qA,qC,vA,vC,X3J,wN]
  refine next (i+1) _ ⟨by omega,fun j hj=>?_⟩ (by omega) (X09 rfl (by simp [X0p,I]) (by simp [X0q,X0P,I]) rfl)
  by_cases hji:j<i
  ·exact hgood j hji
  ·obtain rfl:j=i:=by omega
   exact ⟨hs,fun q hq1 hq2=>hpair q hq1 (by omega) hq2⟩
 have g3:((k:Int)<L.length)=True:=eq_true (by omega)
 have g4:(k<L.length)=True:=eq_true hk3
 have hm:((k+1:Nat):Int).tmod L.length=(((k+1) % L.length:Nat):Int):=rfl
 have f6:((L.length:Int)=0)=False:=eq_false (by omega)
 have f6':(L.length=0)=False:=eq_false hn0
 by_cases hne:(k+1) % L.length=i
 ·have g5:((k+1) % L.length=i)=True:=eq_true hne
  have g6:((((k+1) % L.length:Nat):Int)=(i:Int))=True:=eq_true (by omega)
  refine X00 1000 ?_
  simp only [g3,g4,g5,g6,w1,u1,hm,f6,f6',↓X03,wA,seval,zA,qA,qC,vA,vC,X3J,wN]
  exact nextk (k+1) _ ⟨by omega,by omega,fun j h1 h2 h3=>by
   by_cases hjk:j<k
   ·exact hpair j h1 hjk h3
   ·obtain rfl:j=k:=by omega
    exact fun hb=>hb.1 hne⟩ (by omega) (X09 rfl (by simp [X0p,I]) (by simp [X0q,X0P,I]) rfl)
 have g5:((k+1) % L.length=i)=False:=eq_false hne
 have g6:((((k+1) % L.length:Nat):Int)=(i:Int))=False:=eq_false (by omega)
 refine X00 1000 ?_
 simp only [g3,g4,g5,g6,w1,u1,hm,f6,f6',↓X03,wA,seval,zA,qA,qC,vA,vC,X3J,wN]
 refine X01 (cat i (by omega)) rfl ?_
 simp only [g5,g6,w1,u1,↓X03,wA,seval,zA,qA,qC,vA,vC,X3J,wN]
 refine X01 (cat (i+1) (by omega)) rfl ?_
 simp only [g5,g6,w1,u1,↓X03,wA,seval,zA,qA,qC,vA,vC,X3J,wN]
 refine X01 (cat k (by omega)) rfl ?_
 simp only [g5,g6,w1,u1,↓X03,wA,seval,zA,qA,qC,vA,vC,X3J,wN]
 refine X01 (cat (k+1) (by omega)) rfl ?_
 simp only [g5,g6,w1,u1,↓X03,wA,seval,zA,qA,qC,vA,vC,X3J,wN]
 refine X01 (Xpz _ _ _ _ (sm _) (sm _) (sm _) (sm _)) rfl ?_
 by_cases hmt:X7w (atF L i) (atF L (i+1)) (atF L k) (atF L (k+1))=true
 ·rw [hmt]
  simp only [g5,g6,↓X03,wA,seval,zA,qA,qC,vA,vC,X3J,wN]
  exact fin rfl (by rw [hV,decide_eq_false]; exact fun hp=>(hp.2.1 i hi2).2 k hk1 hk3 ⟨hne,hmt⟩)
 ·have hmf:=Bool.not_eq_true _▸hmt
  rw [hmf]
  simp only [g5,g6,u1,↓X03,wA,seval,zA,qA,qC,vA,vC,X3J,wN]
  exact nextk (k+1) _ ⟨by omega,by omega,fun j h1 h2 h3=>by
   by_cases hjk:j<k
   ·exact hpair j h1 hjk h3
   ·obtain rfl:j=k:=by omega
    exact fun hb=>hmt hb.2⟩ (by omega) (X09 rfl (by simp [X0p,I]) (by simp [X0q,X0P,I]) rfl)
def ptC (p:Int×Int):List AV:=[I p.1,I p.2]
def pts (l:List (Int×Int)):AV:=sls ptC 2 (0,0) l
theorem X1c (l:List (Int×Int)):Settled (pts l):=X5M fun a x hx=>by
 have:∀ x∈ptC a,Settled x:=by simp [ptC,X08]
 exact this x hx
theorem X0e (l:List (Int×Int)):pts l=.sl l.length (l.length*2) (X0M ptC 2 (0,0) l) false:=nrfl rfl
theorem X0j (l:List Bool):X2R l=.sl l.length l.length (slF AV.bool false l) false:=nrfl rfl
theorem X04 (l:List Int):X0f l=.sl l.length l.length (slF I 0 l) false:=nrfl rfl
theorem XhU {α:Type} (e:α→List AV) (s:Nat) (d:α) (l:List α) (j:Nat) (hs:0<s) (he:∀ a,(e a).length=s∧∀ x∈e a,x.one=true):(X0M e s d l j).one=true:=by
 have h:=he (l.getD (j / s) d)
 have hj:j % s<(e (l.getD (j / s) d)).length:=by rw [h.1]; exact Nat.mod_lt _ hs
 unfold X0M
 rw [List.getD_eq_getElem?_getD,List.getElem?_eq_getElem hj]
 exact h.2 _ (List.getElem_mem hj)
theorem X2C (p:Int×Int):∀ x∈ptC p,Settled x:=by simp [ptC,X08]
theorem ptF (l:List (Int×Int)) (i:Nat):X0M ptC 2 (0,0) l (i*2)=I (l.getD i (0,0)).1∧X0M ptC 2 (0,0) l (i*2+1)=I (l.getD i (0,0)).2:=by
 refine ⟨?_,?_⟩
 ·rw [X3I _ _ _ _ _ (by omega)]; rfl
 ·rw [X3z _ _ _ _ _ _ (by omega)]; rfl
theorem XvR (f:Nat→AV) (m:Nat) (g:Nat→AV) (j:Nat):X2H 0 f m g j=if j<m then g j else f j:=by simp [X2H]
theorem X9E {P:Program} {fn:Func} {str hcs:List Nat} {s:AS} {t n m es ver id:Nat} {f g:Nat→AV} (hr:fn.results=#[.tmp t]) (hs:s.get t=.osl id ver es 0 n) (ho:s.h[id]?=some (.row ver m (X2H 0 f m g))) (hn:n=0→m=0) (hg:∀ j,j<m→Settled (g j)) :
  RetOk (X2f P fn str hcs (.sl n m g false)) s:=by
 refine X8R hr ?_
 rw [hs]
 refine X1e (.inl ho) (by omega) hn fun j hj=>?_
 rw [Nat.zero_add,XvR,if_pos hj]
 exact (hg j hj).sees _
theorem X8f {P:Program} {fn:Func} {str hcs:List Nat} {s:AS} {t:Nat} {f g:Nat→AV} {b:Bool} (hr:fn.results=#[.tmp t]) (hs:s.get t=.sl 0 0 f b):RetOk (X2f P fn str hcs (.sl 0 0 g false)) s:=by
 refine X8R hr ?_
 rw [hs]
 exact Xjz
theorem Xl9 (l:List Int) (hl:l.length<1000000):Fn Tryz.prog 82 [X0f l] (X0f l):=by
 refine Fq Tryz.call82 Tryz.func82 3 [] [] [] (by simp [X07]) (X00 1000 ?_)
 simp only [AS.start,X04,↓X03,wA,seval,zA,qA,qC,vA,vC,X3J,wN]
 have hb:l.length*8≤140737488355328∧l.length≤9223372036854775807:=⟨by omega,by omega⟩
 have hc:XxN (X2f Tryz.prog Tryz.f82 [] [] (X0f l)) .mk ⟨3,[],[X0f l,.any,.osl 0 0 1 0 l.length],[(7,.osl 0 0 1 0 l.length),(6,X0f l),(5,.sl 0 0 (ofL []) true)],[.row 0 (l.length) (X2H 0 (ofL []) (l.length) (slF I 0 l))]⟩:=by
  rw [X04]
  exact X9E rfl rfl rfl (fun h=>by rw [h]) fun j hj=>X08 _
 by_cases h0:l.length=0
 ·rw [if_pos h0,X60]
  refine ⟨?_,hb,hc⟩
  have e:l=[]:=List.eq_nil_of_length_eq_zero h0
  subst e
  exact X8f rfl rfl
 ·rw [if_neg h0,X7e,X3M]
  exact ⟨hb,hc⟩
theorem Xl8 (l:List Bool) (hl:l.length<1000000):Fn Tryz.prog 81 [X2R l] (X2R l):=by
 refine Fq Tryz.call81 Tryz.func81 3 [] [] [] (by simp [X3o]) (X00 1000 ?_)
 simp only [AS.start,X0j,↓X03,wA,seval,zA,qA,qC,vA,vC,X3J,wN]
 have hb:l.length≤140737488355328∧l.length≤9223372036854775807:=⟨by omega,by omega⟩
 have hc:XxN (X2f Tryz.prog Tryz.f81 [] [] (X2R l)) .mk ⟨3,[],[X2R l,.any,.osl 0 0 1 0 l.length],[(7,.osl 0 0 1 0 l.length),(6,X2R l),(5,.sl 0 0 (ofL []) true)],[.row 0 (l.length) (X2H 0 (ofL []) (l.length) (slF AV.bool false l))]⟩:=by
  rw [X0j]
  exact X9E rfl rfl rfl (fun h=>by rw [h]) fun j hj=>X02 _
 by_cases h0:l.length=0
 ·rw [if_pos h0,X60]
  refine ⟨?_,hb,hc⟩
  have e:l=[]:=List.eq_nil_of_length_eq_zero h0
  subst e
  exact X8f rfl rfl
 ·rw [if_neg h0,X7e,X3M]
  exact ⟨hb,hc⟩
theorem Xla (l:List (Int×Int)) (hl:l.length<1000000):Fn Tryz.prog 80 [pts l] (pts l):=by
 refine Fq Tryz.call80 Tryz.func80 3 [] [] [] (by simp [X1c]) (X00 1000 ?_)
 simp only [AS.start,X0e,↓X03,wA,seval,zA,qA,qC,vA,vC,X3J,wN]
 have hb:((∀ (j:Nat),j<l.length*2→(X0M ptC 2 (0,0) l j).one=true)∧l.length*16≤140737488355328∧l.length≤9223372036854775807):=⟨fun j _=>XhU _ _ _ _ _ (by omega) fun a=>⟨rfl,by simp [ptC,I,AV.one]⟩,by omega,by omega⟩
 have hc:XxN (X2f Tryz.prog Tryz.f80 [] [] (pts l)) .mk ⟨3,[],[pts l,.any,.osl 0 0 2 0 l.length],[(7,.osl 0 0 2 0 l.length),(6,pts l),(5,.sl 0 0 (ofL []) true)],[.row 0 (l.length*2) (X2H 0 (ofL []) (l.length*2) (X0M ptC 2 (0,0) l))]⟩:=by
  rw [X0e]
  exact X9E rfl rfl rfl (fun h=>by rw [h]) fun j hj=>X0c (X2C _) _
 by_cases h0:l.length=0
 ·rw [if_pos h0,X60]
  refine ⟨?_,hb,hc⟩
  have e:l=[]:=List.eq_nil_of_length_eq_zero h0
  subst e
  exact X8f rfl rfl
 ·rw [if_neg h0,X7e,X3M]
  exact ⟨hb,hc⟩
theorem Xj4 (a b:List Bool) (la:a.length<4611686018427387904) (lb:b.length<4611686018427387904):Fn Tryz.prog 176 [X2R a,X2R b] (.bool (decide (a=b))):=by
 obtain ⟨V,hV⟩:∃ V,V=decide (a=b):=⟨_,rfl⟩
 rw [← hV]
 refine Fq Tryz.call176 Tryz.func176 6 [11,12,13] [] [] (by simp [X3o]) (X00 1000 ?_)
 by_cases hl:a.length=b.length
 ·have f1:((a.length:Int)=b.length)=True:=eq_true (by omega)
  have f1':(a.length=b.length)=True:=eq_true hl
  simp only [AS.start,X0j,f1,f1',↓X03,wA,seval,zA,qA,qC,vA,vC,X3J,wN]
  refine X0d (fun j:Nat=>⟨6,[11,12,13],[X2R a,X2R b,.any,.any,.any,.any],[(11,X2R a),(12,I a.length),(13,I j)],[]⟩) (fun j=>j≤a.length∧∀ i,i<j→a.getD i false=b.getD i false) (fun j=>a.length - j) 0 ⟨by omega,by omega⟩
   (X09 rfl (by simp [X0p,X2R,sl1,I,hl]) (by simp [X0q,X0P,X2R,sl1,I,hl]) rfl) ?_
  rintro j ⟨hj,hno⟩ next
  have w1:=wj j (by omega)
  by_cases hj2:j<a.length
  ·have f2:((j:Int)<a.length)=True:=eq_true (by omega)
   have f3:(j<a.length)=True:=eq_true hj2
   have f4:(j<b.length)=True:=eq_true (by omega)
   refine X00 1000 ?_
   simp only [X0j,w1,f2,f3,f4,↓X03,wA,seval,zA,qA,qC,vA,vC,X3J,wN]
   refine ⟨fun h=>X0r (v:=.bool false) rfl rfl (X02 _) ?_,fun h=>next (j+1) _ ⟨by omega,fun i hi=>?_⟩ (by omega) (X09 rfl (by simp [X0p,X2R,sl1,I]) (by simp [X0q,X0P,X2R,sl1,I]) rfl)⟩
   ·rw [hV,decide_eq_false fun e=>by rw [e] at h; simp at h]
   ·by_cases e:i=j
    ·rw [e]; simpa using h
    ·exact hno i (by omega)
  ·have f2:((j:Int)<a.length)=False:=eq_false (by omega)
   have f3:(j<a.length)=False:=eq_false hj2
   refine X00 1000 ?_
   simp only [X0j,w1,f2,f3,↓X03,wA,seval,zA,qA,qC,vA,vC,X3J,wN]
   refine X0r (v:=.bool true) rfl rfl (X02 _) ?_
   rw [hV,decide_eq_true]
   refine List.ext_getElem hl fun i h1 h2=>?_
   have:=hno i (by omega)
   rw [List.getD_eq_getElem?_getD,List.getElem?_eq_getElem h1,List.getD_eq_getElem?_getD,List.getElem?_eq_getElem h2] at this
   exact this
 ·have f1:((a.length:Int)=b.length)=False:=eq_false (by omega)
  have f1':(a.length=b.length)=False:=eq_false hl
  simp only [AS.start,X0j,f1,f1',↓X03,wA,seval,zA,qA,qC,vA,vC,X3J,wN]
  refine X0r (v:=.bool false) rfl rfl (X02 _) ?_
  rw [hV,decide_eq_false fun e=>hl (by rw [e])]
theorem XoY (a b:List (Int×Int)) (la:a.length<4611686018427387904) (lb:b.length<4611686018427387904):Fn Tryz.prog 175 [pts a,pts b] (.bool (decide (a=b))):=by
 obtain ⟨V,hV⟩:∃ V,V=decide (a=b):=⟨_,rfl⟩
 rw [← hV]
 refine Fq Tryz.call175 Tryz.func175 6 [11,12,13] [] [] (by simp [X1c]) (X00 1000 ?_)
 by_cases hl:a.length=b.length
 ·have f1:((a.length:Int)=b.length)=True:=eq_true (by omega)
  have f1':(a.length=b.length)=True:=eq_true hl
  simp only [AS.start,X0e,f1,f1',↓X03,wA,seval,zA,qA,qC,vA,vC,X3J,wN]
  refine X0d (fun j:Nat=>⟨6,[11,12,13],[pts a,pts b,.any,.any,.any,.any],[(11,pts a),(12,I a.length),(13,I j)],[]⟩) (fun j=>j≤a.length∧∀ i,i<j→a.getD i (0,0)=b.getD i (0,0)) (fun j=>a.length - j) 0 ⟨by omega,by omega⟩
   (X09 rfl (by simp [X0p,X0e,sl1,I,hl]) (by simp [X0q,X0P,X0e,sl1,I,hl]) rfl) ?_
  rintro j ⟨hj,hno⟩ next
  have w1:=wj j (by omega)
  by_cases hj2:j<a.length
  ·have f2:((j:Int)<a.length)=True:=eq_true (by omega)
   have f3:(j<a.length)=True:=eq_true hj2
   have f4:(j<b.length)=True:=eq_true (by omega)
   have f5:(j*2+2≤a.length*2)=True:=eq_true (by omega)
   have f6:(j*2+2≤b.length*2)=True:=eq_true (by omega)
   have v1:=ptF a j
   have v2:=ptF b j
   by_cases hx:(a.getD j (0,0)).1=(b.getD j (0,0)).1
   rotate_left
   ·have g1:((a.getD j (0,0)).1=(b.getD j (0,0)).1)=False:=eq_false hx
    refine X00 1000 ?_
    simp only [X0e,w1,f2,f3,f4,f5,f6,v1,v2,g1,↓X03,wA,seval,zA,qA,qC,vA,vC,X3J,wN]
    refine X0r (v:=.bool false) rfl rfl (X02 _) ?_
    rw [hV,decide_eq_false fun e=>hx (by rw [e])]
   have g1:((a.getD j (0,0)).1=(b.getD j (0,0)).1)=True:=eq_true hx
   by_cases hy:(a.getD j (0,0)).2=(b.getD j (0,0)).2
   rotate_left
   ·have g2:((a.getD j (0,0)).2=(b.getD j (0,0)).2)=False:=eq_false hy
    refine X00 1000 ?_
    simp only [X0e,w1,f2,f3,f4,f5,f6,v1,v2,g1,g2,↓X03,wA,seval,zA,qA,qC,vA,vC,X3J,wN]
    refine X0r (v:=.bool false) rfl rfl (X02 _) ?_
    rw [hV,decide_eq_false fun e=>hy (by rw [e])]
   have g2:((a.getD j (0,0)).2=(b.getD j (0,0)).2)=True:=eq_true hy
   refine X00 1000 ?_
   simp only [X0e,w1,f2,f3,f4,f5,f6,v1,v2,g1,g2,↓X03,wA,seval,zA,qA,qC,vA,vC,X3J,wN]
   refine next (j+1) _ ⟨by omega,fun i hi=>?_⟩ (by omega) (X09 rfl (by simp [X0p,X0e,sl1,I]) (by simp [X0q,X0P,X0e,sl1,I]) rfl)
   by_cases e:i=j
   ·rw [e]; exact Prod.ext hx hy
   ·exact hno i (by omega)
  ·have f2:((j:Int)<a.length)=False:=eq_false (by omega)
   have f3:(j<a.length)=False:=eq_false hj2
   refine X00 1000 ?_
   simp only [X0e,w1,f2,f3,↓X03,wA,seval,zA,qA,qC,vA,vC,X3J,wN]
   refine X0r (v:=.bool true) rfl rfl (X02 _) ?_
   rw [hV,decide_eq_true]
   refine List.ext_getElem hl fun i h1 h2=>?_
   have:=hno i (by omega)
   rw [List.getD_eq_getElem?_getD,List.getElem?_eq_getElem h1,List.getD_eq_getElem?_getD,List.getElem?_eq_getElem h2] at this
   exact this
 ·have f1:((a.length:Int)=b.length)=False:=eq_false (by omega)
  have f1':(a.length=b.length)=False:=eq_false hl
  simp only [AS.start,X0e,f1,f1',↓X03,wA,seval,zA,qA,qC,vA,vC,X3J,wN]
  refine X0r (v:=.bool false) rfl rfl (X02 _) ?_
  rw [hV,decide_eq_false fun e=>hl (by rw [e])]
theorem zA_u (z:Int):zA z=.agg [.bool (decide (z<0)),X0f (X0i z.natAbs)]:=nrfl rfl
theorem vC_u (v:V2):vC v=[.bool (decide (v.x.num<0)),X0f (X0i v.x.num.natAbs),.bool false,X0f (X0i (qd v.x)),.bool (decide (v.y.num<0)),X0f (X0i v.y.num.natAbs),.bool false,X0f (X0i (qd v.y))]:=nrfl rfl
theorem vA_u (v:V2):vA v=.agg (vC v):=nrfl rfl
theorem qC_u (r:Rat):qC r=[.bool (decide (r.num<0)),X0f (X0i r.num.natAbs),.bool false,X0f (X0i (qd r))]:=nrfl rfl
theorem qA_u (r:Rat):qA r=.agg (qC r):=nrfl rfl
set_option linter.defProp false in
def wS:=And.intro wS0 (And.intro @X0a (And.intro @X0k (And.intro @X0g (And.intro @X1c @X3o))))
set_option linter.defProp false in
def wE:=And.intro @zA_u (And.intro @vC_u (And.intro @vA_u (And.intro @qC_u (And.intro @qA_u (And.intro @X0e (And.intro @X0j (And.intro X3J wN)))))))
structure PV where
 id:Int
 home:Int
 rim:List (Int×Int)
 worn:List Bool
 marks:List Int
 tol:RQ
 light:RQ
 heavy:RQ
 strength:RQ
 rough:RQ
def pvC (p:PV):List AV:=[I p.id,I p.home,pts p.rim,X2R p.worn,X0f p.marks,.bool p.tol.pn,X0f p.tol.pd,.bool p.tol.qn,X0f p.tol.qd,.bool p.light.pn,X0f p.light.pd,.bool p.light.qn,X0f p.light.qd,
 .bool p.heavy.pn,X0f p.heavy.pd,.bool p.heavy.qn,X0f p.heavy.qd,.bool p.strength.pn,X0f p.strength.pd,.bool p.strength.qn,X0f p.strength.qd,.bool p.rough.pn,X0f p.rough.pd,.bool p.rough.qn,X0f p.rough.qd]
def pvA (p:PV):AV:=.agg (pvC p)
theorem X0o (p:PV):Settled (pvA p):=X0V (by simp [pvC,X08,X1c,X3o,X07,X02])
def X9Z (p:PV):List AV:=[.bool p.tol.pn,X0f p.tol.pd,.bool p.tol.qn,X0f p.tol.qd,.bool p.light.pn,X0f p.light.pd,.bool p.light.qn,X0f p.light.qd,
 .bool p.heavy.pn,X0f p.heavy.pd,.bool p.heavy.qn,X0f p.heavy.qd,.bool p.strength.pn,X0f p.strength.pd,.bool p.strength.qn,X0f p.strength.qd,.bool p.rough.pn,X0f p.rough.pd,.bool p.rough.qn,X0f p.rough.qd]
def PV.num (p:PV):Nat→RQ
 | 0=>p.tol
 | 1=>p.light
 | 2=>p.heavy
 | 3=>p.strength
 | _=>p.rough
theorem X8s (p:PV):Fn Tryz.prog 89 [pvA p] (.agg (X9Z p)):=by
 have sR:Settled (.agg (X9Z p)):=X0V (by simp [X9Z,X07,X02])
 refine Fq Tryz.call89 Tryz.func89 3 [] [] [] (by simp [X0o]) (X00 1000 ?_)
 simp only [AS.start,pvA,pvC,↓X03,wA,seval,wE]
 exact X6f rfl Xrl rfl rfl rfl sR rfl
theorem X0B {m v n:Nat} {L:List AV} (h:∀ x∈L,Settled x):X1j m (.row v n (ofL L)):=fun j _=>X06 (X0c h j)
theorem X0w (p:PV):∀ x∈pvC p,Settled x:=by simp [pvC,X08,X1c,X3o,X07,X02]
def wb (n lo hi:Int):Bool:=decide (lo≤n) && decide (n≤hi)
theorem X6k (n lo hi:Int):Fn Tryz.prog 177 [I n,I lo,I hi] (.bool (wb n lo hi)):=by
 unfold wb
 refine Fq Tryz.call177 Tryz.func177 6 [] [] [] (by simp [wS]) (X00 1000 ?_); simp (config:={ maxSteps:=2000000 }) only [AS.start,↓X03,wA,seval,wE]
 refine ⟨fun h=>X0r rfl rfl (X02 _) (by rw [decide_eq_true h]; rfl),fun h=>X0r rfl rfl (X02 _) (by rw [decide_eq_false h]; rfl)⟩
def Xdp (c:Int×Int):Bool:=wb c.1 (-65536) 65536 && wb c.2 (-65536) 65536
def Xbq (m:Int):Bool:=wb m 0 1024
def Xai (p:PV):Prop:=(∀ i,i<p.rim.length→Xdp (p.rim.getD i (0,0))=true)∧(∀ i,i<p.marks.length→Xbq (p.marks.getD i 0)=true)∧wb p.id 0 999=true∧wb p.home 0 4=true
theorem Xja (p:PV) (hr:p.rim.length<1000000) (hm:p.marks.length<1000000):Fn Tryz.prog 88 [pvA p] (.bool (decide (Xai p))):=by
 obtain ⟨V,hV⟩:∃ V,V=decide (Xai p):=⟨_,rfl⟩
 have bp:Bel 1 (pts p.rim)=True:=eq_true (X06 (X1c _))
 have bm:Bel 1 (X0f p.marks)=True:=eq_true (X06 (X07 _))
 have bo:X1j 1 (.row 0 25 (ofL (pvC p)))=True:=eq_true (X0B (X0w p))
 have fin:∀ {s:AS} {v:Bool},s.get 2=.bool v→v=V→RetOk (X2f Tryz.prog Tryz.f88 [] [] (.bool V)) s:=fun h e=>X0r rfl h (X02 _) (by rw [e])
 rw [← hV]
 refine Fq Tryz.call88 Tryz.func88 7 [8,9,10,26,27,28] [] [] (by simp [X0o]) (X00 1000 ?_)
 simp only [AS.start,pvA,pvC,↓X03,wA,seval,wE]
 refine X0d (fun i:Nat=>⟨7,[8,9,10,26,27,28],[.any,.ref 0 0 0,.bool false,.any,.any,.any,.any],[(8,pts p.rim),(9,I p.rim.length),(10,I i)],[.row 0 25 (ofL (pvC p))]⟩) (fun i=>i≤p.rim.length∧∀ j,j<i→Xdp (p.rim.getD j (0,0))=true) (fun i=>p.rim.length - i) 0 ⟨by omega,by omega⟩
  (X09 rfl (by simp [X0p]) (by simp [X0q,X0P,X0e,I]) (by simp [pvC,X0e,X0j,X04,I])) ?_
 rintro i ⟨hi,hok⟩ next
 have w1:=wj i (by omega)
 by_cases hi2:i<p.rim.length
 ·have f1:((i:Int)<p.rim.length)=True:=eq_true (by omega)
  have f2:(i<p.rim.length)=True:=eq_true hi2
  have f3:(i*2+2≤p.rim.length*2)=True:=eq_true (by omega)
  have v1:=ptF p.rim i
  have c1:=X6k (p.rim.getD i (0,0)).1 (-65536) 65536
  have c2:=X6k (p.rim.getD i (0,0)).2 (-65536) 65536
  have bad:Xdp (p.rim.getD i (0,0))=false→V=false:=fun h=>by
   rw [hV,decide_eq_false]
   intro hp
   have:=hp.1 i hi2
   rw [h] at this; cases this
  refine X00 1000 ?_
  simp only [pvC,w1,f1,f2,f3,v1,Int.toNat_natCast,↓X03,wA,seval,wE]
  refine X01 c1 rfl ?_
  by_cases h1:wb (p.rim.getD i (0,0)).1 (-65536) 65536=true
  rotate_left
  ·rw [Bool.not_eq_true] at h1
   rw [h1]
   simp only [w1,↓X03,wA,seval,wE]
   exact fin rfl (bad (by unfold Xdp; rw [h1]; rfl)).symm
  rw [h1]
  simp only [w1,↓X03,wA,seval,wE]
  refine X01 c2 rfl ?_
  by_cases h2:wb (p.rim.getD i (0,0)).2 (-65536) 65536=true
  rotate_left
  ·rw [Bool.not_eq_true] at h2
   rw [h2]
   simp only [w1,↓X03,wA,seval,wE]
   exact fin rfl (bad (by unfold Xdp; rw [h1,h2]; rfl)).symm
  rw [h2]
  simp only [w1,↓X03,wA,seval,wE]
  refine next (i+1) _ ⟨by omega,fun j hj=>?_⟩ (by omega) (X0t (m:=1) (Nat.zero_le _) rfl (by simp [X0p]) (by simp [X0q,X0P,X0e,I]) (by simp [pvC,X0e,X0j,X04,I]) (by simp [X0L]) (by simp [X0L,bp]) (by simp [bo]))
  by_cases hji:j<i
  ·exact hok j hji
  ·obtain rfl:j=i:=by omega
   unfold Xdp; rw [h1,h2]; rfl
 obtain rfl:i=p.rim.length:=by omega
 refine X00 1000 ?_
 simp only [pvC,Int.lt_irrefl,Nat.lt_irrefl,↓X03,wA,seval,wE]
 refine X0d (fun i:Nat=>⟨7,[8,9,10,26,27,28],[.any,.ref 0 0 0,.bool false,.any,.any,.any,.any],[(26,X0f p.marks),(27,I p.marks.length),(28,I i)],[.row 0 25 (ofL (pvC p))]⟩) (fun i=>i≤p.marks.length∧∀ j,j<i→Xbq (p.marks.getD j 0)=true) (fun i=>p.marks.length - i) 0 ⟨by omega,by omega⟩
  (X09 rfl (by simp [X0p]) (by simp [X0q,X0P,X04,I]) (by simp [pvC,X0e,X0j,X04,I])) ?_
 rintro i ⟨hi,hmk⟩ next
 have w1:=wj i (by omega)
 by_cases hi2:i<p.marks.length
 ·have f1:((i:Int)<p.marks.length)=True:=eq_true (by omega)
  have f2:(i<p.marks.length)=True:=eq_true hi2
  have c1:=X6k (p.marks.getD i 0) 0 1024
  refine X00 1000 ?_
  simp only [pvC,w1,f1,f2,X04,Int.toNat_natCast,↓X03,wA,seval,wE]
  refine X01 c1 rfl ?_
  by_cases h1:wb (p.marks.getD i 0) 0 1024=true
  rotate_left
  ·rw [Bool.not_eq_true] at h1
   rw [h1]
   simp only [w1,↓X03,wA,seval,wE]
   refine fin rfl ?_
   rw [hV,decide_eq_false]
   intro hp
   have:=hp.2.1 i hi2
   unfold Xbq at this
   rw [h1] at this; cases this
  rw [h1]
  simp only [w1,↓X03,wA,seval,wE]
  refine next (i+1) _ ⟨by omega,fun j hj=>?_⟩ (by omega) (X0t (m:=1) (Nat.zero_le _) rfl (by simp [X0p]) (by simp [X0q,X0P,X04,I]) (by simp [pvC,X0e,X0j,X04,I]) (by simp [X0L]) (by simp [X0L,bm]) (by simp [bo]))
  by_cases hji:j<i
  ·exact hmk j hji
  ·obtain rfl:j=i:=by omega
   exact h1
 obtain rfl:i=p.marks.length:=by omega
 have c1:=X6k p.id 0 999
 have c2:=X6k p.home 0 4
 refine X00 1000 ?_
 simp only [pvC,X04,Int.lt_irrefl,Nat.lt_irrefl,↓X03,wA,seval,wE]
 refine X01 c1 rfl ?_
 by_cases h1:wb p.id 0 999=true
 rotate_left
 ·rw [Bool.not_eq_true] at h1
  rw [h1]
  simp only [↓X03,wA,seval,wE]
  refine fin rfl ?_
  rw [hV,decide_eq_false]
  intro hp
  have:=hp.2.2.1
  rw [h1] at this; cases this
 rw [h1]
 simp only [↓X03,wA,seval,wE]
 refine X01 c2 rfl ?_
 simp only [↓X03,wA,seval,wE]
 refine fin rfl ?_
 rw [hV]
 by_cases h2:wb p.home 0 4=true
 ·rw [h2,decide_eq_true ⟨hok,hmk,h1,h2⟩]
 ·rw [Bool.not_eq_true] at h2
  rw [h2,decide_eq_false]
  intro hp
  have:=hp.2.2.2
  rw [h2] at this; cases this
theorem X0E {α:Type} (e:α→List AV) (s:Nat) (d:α) (l:List α) (x:α) (hs:0<s):X2H (l.length*s) (X0M e s d l) s (ofL (e x))=X0M e s d (l ++ [x]):=by
 funext j
 unfold X2H X0M ofL
 by_cases h1:j<l.length*s
 ·have:j / s<l.length:=by rw [Nat.div_lt_iff_lt_mul hs]; exact h1
  have e1:(l ++ [x]).getD (j / s) d=l.getD (j / s) d:=by rw [List.getD_eq_getElem?_getD,List.getD_eq_getElem?_getD,List.getElem?_append_left this]
  rw [if_pos h1,e1]
 ·rw [if_neg h1]
  by_cases h2:j<l.length*s+s
  ·rw [if_pos h2]
   have hj:j / s=l.length:=by
    refine Nat.div_eq_of_lt_le (by omega) ?_
    rw [Nat.add_mul]; omega
   have hm:j % s=j - l.length*s:=by
    have:=Nat.div_add_mod j s
    rw [hj,Nat.mul_comm] at this
    omega
   rw [hj,hm]
   simp
  ·rw [if_neg h2]
   have hj:l.length+1≤j / s:=by
    rw [Nat.le_div_iff_mul_le hs,Nat.add_mul]; omega
   have e1:(l ++ [x]).getD (j / s) d=d:=by rw [List.getD_eq_getElem?_getD,List.getElem?_eq_none (by simp; omega)]; rfl
   have e2:l.getD (j / s) d=d:=by rw [List.getD_eq_getElem?_getD,List.getElem?_eq_none (by omega)]; rfl
   rw [e1,e2]
def ptV (c:Int×Int):V2:=⟨c.1,c.2⟩
def X0Q (l:List (Int×Int)):List V2:=l.map ptV
theorem X4i {α:Type} (l:List α) (d:α) {i:Nat} (h:i<l.length):l.take (i+1)=l.take i ++ [l.getD i d]:=by
 rw [List.take_succ_eq_append_getElem h,List.getD_eq_getElem?_getD,List.getElem?_eq_getElem h]; rfl
theorem XhM (p:PV) (hl:p.rim.length<1000000) (hr:∀ i,i<p.rim.length→Xdp (p.rim.getD i (0,0))=true):Fn Tryz.prog 54 [pvA p] (X0A (X0Q p.rim)):=by
 obtain ⟨R,hR⟩:∃ R,R=X0A (X0Q p.rim):=⟨_,rfl⟩
 have sR:Settled R:=hR▸X0b _
 have bp:Bel 2 (pts p.rim)=True:=eq_true (X06 (X1c _))
 have bo:X1j 2 (.row 0 25 (ofL (pvC p)))=True:=eq_true (X0B (X0w p))
 have hvc:∀ a:V2,∀ x∈vC a,Settled x:=fun a=>by simp [vC,X07,X02]
 have br:∀ i l n,X1j 2 (.row i n (X0M vC 8 v0 l))=True:=fun i l n=>eq_true fun j _=>X06 (X0c (hvc _) _)
 rw [← hR]
 refine Fq Tryz.call54 Tryz.func54 6 [7,8,9] [] [] (by simp [X0o]) (X00 1000 ?_)
 simp only [AS.start,pvA,pvC,↓X03,wA,seval,wE]
 refine X0d (fun i:Nat=>⟨6,[7,8,9],[.any,.ref 0 0 0,.any,.osl 1 i 8 0 i,.any,.any],[(7,pts p.rim),(8,I p.rim.length),(9,I i)],[.row 0 25 (ofL (pvC p)),.row i (i*8) (X0M vC 8 v0 (X0Q (p.rim.take i)))]⟩) (fun i=>i≤p.rim.length) (fun i=>p.rim.length - i) 0 (by omega)
  ((X0W 3 8 (X0M vC 8 v0 []) rfl).trans (X09 rfl (by simp [AS.put,X0p]) (by simp [AS.put,X0q,X0P,X0e,I]) (by simp [AS.put,pvC,X0e,X0j,X04,I,X0Q]))) ?_
 intro i hi next
 have w1:=wj i (by omega)
 by_cases hi2:i<p.rim.length
 ·have f1:((i:Int)<p.rim.length)=True:=eq_true (by omega)
  have f2:(i<p.rim.length)=True:=eq_true hi2
  have f3:(i*2+2≤p.rim.length*2)=True:=eq_true (by omega)
  have v1:=ptF p.rim i
  have hok:=hr i hi2
  unfold Xdp wb at hok
  simp only [Bool.and_eq_true,decide_eq_true_eq] at hok
  have c1:=Xbx (p.rim.getD i (0,0)).1 (p.rim.getD i (0,0)).2 ⟨by omega,by omega⟩ ⟨by omega,by omega⟩
  refine X00 1000 ?_
  simp only [pvC,w1,f1,f2,f3,v1,Int.toNat_natCast,↓X03,wA,seval,wE]
  refine X01 c1 rfl ?_
  simp only [w1,↓X03,wA,seval,wE]
  have hap:=X0E vC 8 v0 (X0Q (p.rim.take i)) (ptV (p.rim.getD i (0,0))) (by omega)
  have hlen:(X0Q (p.rim.take i)).length=i:=by simp [X0Q]; omega
  have htk:X0Q (p.rim.take i) ++ [ptV (p.rim.getD i (0,0))]=X0Q (p.rim.take (i+1)):=by rw [X4i _ (0,0) hi2]; simp [X0Q]
  rw [hlen,htk] at hap
  refine ⟨⟨fun j hj=>?_,by omega,by omega⟩,next (i+1) _ (by omega) (by omega) (X0t (m:=2) (Nat.zero_le _) rfl (by simp [X0p]) (by simp [X0q,X0P,X0e,I]) (by rw [← hap]; rfl) (by simp [X0L]) (by simp [X0L,bp]) (by simp [bo,br]))⟩
  match j,hj with
  | 0,_=>rfl
  | 1,_=>rfl
  | 2,_=>rfl
  | 3,_=>rfl
  | 4,_=>rfl
  | 5,_=>rfl
  | 6,_=>rfl
  | 7,_=>rfl
  | j+8,h=>omega
 obtain rfl:i=p.rim.length:=by omega
 refine X00 1000 ?_
 simp only [pvC,Int.lt_irrefl,Nat.lt_irrefl,↓X03,wA,seval,wE]
 refine X8R rfl ?_
 have hlen:(X0Q p.rim).length=p.rim.length:=by simp [X0Q]
 rw [hR,X05,hlen]
 refine X1e (n:=p.rim.length) (.inl rfl) (by omega) (fun h=>by rw [h]) fun j hj=>?_
 rw [List.take_length,Nat.zero_add]
 exact (X0c (hvc _) _).sees _
end
end Go.Ab.N
