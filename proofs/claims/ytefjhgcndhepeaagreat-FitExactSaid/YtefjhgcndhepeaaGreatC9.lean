/- Contracts of functions of these chapters, for every argument that fits, and what they need. -/
import Derived.Test.YtefjhgcndhepeaaGreatC8
import Derived.Test.YtefjhgcndhepeaaGreatC7
set_option linter.unusedSimpArgs false
set_option linter.unusedVariables false
open Nat renaming reducePow → Y1, reduceLT → Y2, reduceLeDiff → Y3, reduceEqDiff → Y4, reduceAdd → Y5, reduceMul → Y6, reduceSub → Y7, reduceBEq → Y8, reduceDiv → Y9, reduceMod → YA
namespace Go.Ab.N
open Go Go.RowKit Go.Proofs
noncomputable section
set_option maxRecDepth 10000
set_option maxHeartbeats 4000000
open Classical
structure FV where
 A:Int
 B:Int
 EA:Int
 EB:Int
 M:Int
 turn:V2
 lo:V2
 hi:V2
def Qo (f:FV):List AV:=[I f.A,I f.B,I f.EA,I f.EB,I f.M,.bool (decide (f.turn.x.num<0)),X6 (X8 f.turn.x.num.natAbs),.bool false,X6 (X8 (qd f.turn.x)),.bool (decide (f.turn.y.num<0)),X6 (X8 f.turn.y.num.natAbs),.bool false,X6 (X8 (qd f.turn.y)),
 .bool (decide (f.lo.x.num<0)),X6 (X8 f.lo.x.num.natAbs),.bool false,X6 (X8 (qd f.lo.x)),.bool (decide (f.lo.y.num<0)),X6 (X8 f.lo.y.num.natAbs),.bool false,X6 (X8 (qd f.lo.y)),
 .bool (decide (f.hi.x.num<0)),X6 (X8 f.hi.x.num.natAbs),.bool false,X6 (X8 (qd f.hi.x)),.bool (decide (f.hi.y.num<0)),X6 (X8 f.hi.y.num.natAbs),.bool false,X6 (X8 (qd f.hi.y))]
def Ap (f:FV):AV:=.agg (Qo f)
theorem Qe (f:FV):∀ x∈Qo f,Settled x:=by simp [Qo,Xa,X4,X3]
theorem QX (f:FV):Settled (Ap f):=Qd (Qe f)
theorem Vx (k:Int) (n:Nat) (h:0<n):(k.tmod n+n).tmod n=k % n:=by
 have h1:=Int.tmod_lt_of_pos k (show (0:Int)<n by omega)
 have h2:-(n:Int)<k.tmod n:=by
  have:=Int.lt_tmod_of_pos k (show (0:Int)<n by omega)
  omega
 rw [Int.tmod_eq_emod_of_nonneg (by omega),Int.add_emod_right]
 have h3:=Int.mul_tdiv_add_tmod k n
 have h4:k % n=(k.tmod n+n*k.tdiv n) % n:=by rw [Int.add_comm]; rw [h3]
 rw [h4,Int.add_mul_emod_self_left]
theorem Zu (k:Int) (n:Nat) (h:0<n) (hk:-1000000000≤k∧k≤1000000000) (hn:n≤1000000000):Fn Tryz.prog 124 [I k,I n] (I (k % n)):=by
 have h1:=Int.tmod_lt_of_pos k (show (0:Int)<n by omega)
 have h2:=Int.lt_tmod_of_pos k (show (0:Int)<n by omega)
 have w1:IntKind.i64.wrap (k.tmod n+n)=k.tmod n+n:=by rw [IntKind.wrap_i64]; omega
 have f1:((n:Int)=0)=False:=eq_false (by omega)
 have f1':(n=0)=False:=eq_false (by omega)
 obtain ⟨R,hR⟩:∃ R,R=k % (n:Int):=⟨_,rfl⟩
 have e:=Vx k n h
 rw [← hR] at e ⊢
 refine Fq Tryz.call124 Tryz.func124 5 [] [] [] (by simp [Xa]) (X0 1000 ?_)
 simp only [AS.start,f1,f1',w1,e,↓X2,wA,seval,wE]
 exact Xv rfl rfl (Xa _) rfl
def Cr (n m:Nat) (f:FV):Prop:=(0≤f.EA∧f.EA<n)∧(0≤f.EB∧f.EB<m)∧1≤f.M∧f.M<n∧f.M<m
theorem CF (a b:PV) (f:FV) (ha:a.rim.length<1000000) (hb:b.rim.length<1000000):Fn Tryz.prog 122 [JM a,JM b,Ap f] (.bool (decide (Cr a.rim.length b.rim.length f))):=by
 obtain ⟨V,hV⟩:∃ V,V=decide (Cr a.rim.length b.rim.length f):=⟨_,rfl⟩
 have fin:∀ {s:AS} {v:Bool},s.get 6=.bool v→v=V→RetOk (J4 Tryz.prog Tryz.f122 [] [] (.bool V)) s:=fun h e=>Xv rfl h (X3 _) (by rw [e])
 rw [← hV]
 refine Fq Tryz.call122 Tryz.func122 9 [] [] [] (by simp [XI,QX]) (X0 1000 ?_)
 by_cases hmn:(b.rim.length:Int)<a.rim.length
 ·have fmn:((b.rim.length:Int)<a.rim.length)=True:=eq_true hmn
  by_cases g0:0≤f.EA
  rotate_left
  ·have f0:(0≤f.EA)=False:=eq_false g0
   simp only [AS.start,JM,XW,Ap,Qo,fmn,if_true,f0,↓X2,wA,seval,wE]
   exact fin rfl (by rw [hV,decide_eq_false fun h=>g0 h.1.1])
  have f0:(0≤f.EA)=True:=eq_true g0
  by_cases g1:f.EA<(a.rim.length:Int)
  rotate_left
  ·have f1:(f.EA<(a.rim.length:Int))=False:=eq_false g1
   simp only [AS.start,JM,XW,Ap,Qo,fmn,if_true,f0,f1,↓X2,wA,seval,wE]
   exact fin rfl (by rw [hV,decide_eq_false fun h=>g1 h.1.2])
  have f1:(f.EA<(a.rim.length:Int))=True:=eq_true g1
  by_cases g2:0≤f.EB
  rotate_left
  ·have f2:(0≤f.EB)=False:=eq_false g2
   simp only [AS.start,JM,XW,Ap,Qo,fmn,if_true,f0,f1,f2,↓X2,wA,seval,wE]
   exact fin rfl (by rw [hV,decide_eq_false fun h=>g2 h.2.1.1])
  have f2:(0≤f.EB)=True:=eq_true g2
  by_cases g3:f.EB<(b.rim.length:Int)
  rotate_left
  ·have f3:(f.EB<(b.rim.length:Int))=False:=eq_false g3
   simp only [AS.start,JM,XW,Ap,Qo,fmn,if_true,f0,f1,f2,f3,↓X2,wA,seval,wE]
   exact fin rfl (by rw [hV,decide_eq_false fun h=>g3 h.2.1.2])
  have f3:(f.EB<(b.rim.length:Int))=True:=eq_true g3
  by_cases g4:1≤f.M
  rotate_left
  ·have f4:(1≤f.M)=False:=eq_false g4
   simp only [AS.start,JM,XW,Ap,Qo,fmn,if_true,f0,f1,f2,f3,f4,↓X2,wA,seval,wE]
   exact fin rfl (by rw [hV,decide_eq_false fun h=>g4 h.2.2.1])
  have f4:(1≤f.M)=True:=eq_true g4
  by_cases g5:f.M<(b.rim.length:Int)
  rotate_left
  ·have f5:(f.M<(b.rim.length:Int))=False:=eq_false g5
   simp only [AS.start,JM,XW,Ap,Qo,fmn,if_true,f0,f1,f2,f3,f4,f5,↓X2,wA,seval,wE]
   exact fin rfl (by rw [hV,decide_eq_false fun h=>g5 h.2.2.2.2])
  have f5:(f.M<(b.rim.length:Int))=True:=eq_true g5
  simp only [AS.start,JM,XW,Ap,Qo,fmn,if_true,f0,f1,f2,f3,f4,f5,↓X2,wA,seval,wE]
  exact fin rfl (by rw [hV,decide_eq_true]; exact ⟨⟨g0,g1⟩,⟨g2,g3⟩,g4,by omega,g5⟩)
 ·have fmn:((b.rim.length:Int)<a.rim.length)=False:=eq_false hmn
  by_cases g0:0≤f.EA
  rotate_left
  ·have f0:(0≤f.EA)=False:=eq_false g0
   simp only [AS.start,JM,XW,Ap,Qo,fmn,if_false,f0,↓X2,wA,seval,wE]
   exact fin rfl (by rw [hV,decide_eq_false fun h=>g0 h.1.1])
  have f0:(0≤f.EA)=True:=eq_true g0
  by_cases g1:f.EA<(a.rim.length:Int)
  rotate_left
  ·have f1:(f.EA<(a.rim.length:Int))=False:=eq_false g1
   simp only [AS.start,JM,XW,Ap,Qo,fmn,if_false,f0,f1,↓X2,wA,seval,wE]
   exact fin rfl (by rw [hV,decide_eq_false fun h=>g1 h.1.2])
  have f1:(f.EA<(a.rim.length:Int))=True:=eq_true g1
  by_cases g2:0≤f.EB
  rotate_left
  ·have f2:(0≤f.EB)=False:=eq_false g2
   simp only [AS.start,JM,XW,Ap,Qo,fmn,if_false,f0,f1,f2,↓X2,wA,seval,wE]
   exact fin rfl (by rw [hV,decide_eq_false fun h=>g2 h.2.1.1])
  have f2:(0≤f.EB)=True:=eq_true g2
  by_cases g3:f.EB<(b.rim.length:Int)
  rotate_left
  ·have f3:(f.EB<(b.rim.length:Int))=False:=eq_false g3
   simp only [AS.start,JM,XW,Ap,Qo,fmn,if_false,f0,f1,f2,f3,↓X2,wA,seval,wE]
   exact fin rfl (by rw [hV,decide_eq_false fun h=>g3 h.2.1.2])
  have f3:(f.EB<(b.rim.length:Int))=True:=eq_true g3
  by_cases g4:1≤f.M
  rotate_left
  ·have f4:(1≤f.M)=False:=eq_false g4
   simp only [AS.start,JM,XW,Ap,Qo,fmn,if_false,f0,f1,f2,f3,f4,↓X2,wA,seval,wE]
   exact fin rfl (by rw [hV,decide_eq_false fun h=>g4 h.2.2.1])
  have f4:(1≤f.M)=True:=eq_true g4
  by_cases g5:f.M<(a.rim.length:Int)
  rotate_left
  ·have f5:(f.M<(a.rim.length:Int))=False:=eq_false g5
   simp only [AS.start,JM,XW,Ap,Qo,fmn,if_false,f0,f1,f2,f3,f4,f5,↓X2,wA,seval,wE]
   exact fin rfl (by rw [hV,decide_eq_false fun h=>g5 h.2.2.2.1])
  have f5:(f.M<(a.rim.length:Int))=True:=eq_true g5
  simp only [AS.start,JM,XW,Ap,Qo,fmn,if_false,f0,f1,f2,f3,f4,f5,↓X2,wA,seval,wE]
  exact fin rfl (by rw [hV,decide_eq_true]; exact ⟨⟨g0,g1⟩,⟨g2,g3⟩,g4,g5,by omega⟩)
def FB (R:List (Int×Int)) (k:Nat):Int×Int:=((R.getD ((k+1) % R.length) (0,0)).1 - (R.getD k (0,0)).1,(R.getD ((k+1) % R.length) (0,0)).2 - (R.getD k (0,0)).2)
def BQ (R:List (Int×Int)) (k:Nat):V2:=(JB (R.getD ((k+1) % R.length) (0,0))).sub (JB (R.getD k (0,0)))
def RC (R:List (Int×Int)) (k:Nat):Int:=(FB R k).1*(FB R k).1+(FB R k).2*(FB R k).2
theorem SA (R:List (Int×Int)) (k:Nat):BQ R k=⟨((FB R k).1:Rat),((FB R k).2:Rat)⟩:=by
 unfold BQ FB V2.sub JB
 simp only [Rat.intCast_sub]
def QV (R:List (Int×Int)):Prop:=∀ c∈R,(-65536≤c.1∧c.1≤65536)∧(-65536≤c.2∧c.2≤65536)
theorem CP {R:List (Int×Int)} (h:QV R) (i:Nat):(-65536≤(R.getD i (0,0)).1∧(R.getD i (0,0)).1≤65536)∧(-65536≤(R.getD i (0,0)).2∧(R.getD i (0,0)).2≤65536):=by
 rw [List.getD_eq_getElem?_getD]
 cases hx:R[i]? with
 | none=>exact ⟨⟨by decide,by decide⟩,⟨by decide,by decide⟩⟩
 | some c=>exact h c (List.mem_of_getElem? hx)
theorem CQ {R:List (Int×Int)} (h:QV R):∀ i,i<R.length→Io (R.getD i (0,0))=true:=fun i _=>by
 have:=CP h i
 unfold Io wb
 simp only [Bool.and_eq_true,decide_eq_true_eq]
 omega
theorem CB {R:List (Int×Int)} (h:QV R) (k:Nat):(-131072≤(FB R k).1∧(FB R k).1≤131072)∧(-131072≤(FB R k).2∧(FB R k).2≤131072):=by
 have h1:=CP h k
 have h2:=CP h ((k+1) % R.length)
 unfold FB
 simp only
 omega
theorem Dj {R:List (Int×Int)} (h:QV R) (k:Nat):vb (BQ R k)≤3:=by
 have:=CB h k
 rw [SA]
 have q1:=ZA (FB R k).1 3 (by omega) (QA ⟨by omega,by omega⟩)
 have q2:=ZA (FB R k).2 3 (by omega) (QA ⟨by omega,by omega⟩)
 unfold vb
 simp only
 omega
theorem Pw (p:PV) (k:Nat) (hk:k<p.rim.length) (hl:p.rim.length<1000000) (hn:QV p.rim):Fn Tryz.prog 121 [JM p,I k] (.tup [I (FB p.rim k).1,I (FB p.rim k).2]):=by
 obtain ⟨D,hD⟩:∃ D,D=FB p.rim k:=⟨_,rfl⟩
 have h0:=CB hn k
 rw [← hD] at h0 ⊢
 have hD1:(p.rim.getD ((k+1) % p.rim.length) (0,0)).1 - (p.rim.getD k (0,0)).1=D.1:=by rw [hD]; rfl
 have hD2:(p.rim.getD ((k+1) % p.rim.length) (0,0)).2 - (p.rim.getD k (0,0)).2=D.2:=by rw [hD]; rfl
 have f0:((p.rim.length:Int)=0)=False:=eq_false (by omega)
 have f0':(p.rim.length=0)=False:=eq_false (by omega)
 have r1:(k:Int).tmod p.rim.length=(k:Int):=by rw [show (k:Int).tmod p.rim.length=((k % p.rim.length:Nat):Int) from rfl,Nat.mod_eq_of_lt hk]
 have w1:IntKind.i64.wrap ((k:Int)+p.rim.length)=((k+p.rim.length:Nat):Int):=by rw [IntKind.wrap_i64]; omega
 have r2:((k+p.rim.length:Nat):Int).tmod p.rim.length=(k:Int):=by rw [show ((k+p.rim.length:Nat):Int).tmod p.rim.length=(((k+p.rim.length) % p.rim.length:Nat):Int) from rfl,Nat.add_mod_right,Nat.mod_eq_of_lt hk]
 have w2:=wj k (by omega)
 have r3:((k+1:Nat):Int).tmod p.rim.length=(((k+1) % p.rim.length:Nat):Int):=rfl
 have hm:(k+1) % p.rim.length<p.rim.length:=Nat.mod_lt _ (by omega)
 obtain ⟨m,hme⟩:∃ m,m=(k+1) % p.rim.length:=⟨_,rfl⟩
 rw [← hme] at hD1 hD2 r3 hm
 have f1:((k:Int)<p.rim.length)=True:=eq_true (by omega)
 have f2:(k<p.rim.length)=True:=eq_true hk
 have f3:((m:Int)<p.rim.length)=True:=eq_true (by omega)
 have f4:(m<p.rim.length)=True:=eq_true hm
 have f5:(k*2+2≤p.rim.length*2)=True:=eq_true (by omega)
 have f6:(m*2+2≤p.rim.length*2)=True:=eq_true (by omega)
 have v1:=kM p.rim k
 have v2:=kM p.rim m
 have w3:IntKind.i64.wrap D.1=D.1:=by rw [IntKind.wrap_i64]; omega
 have w4:IntKind.i64.wrap D.2=D.2:=by rw [IntKind.wrap_i64]; omega
 refine Fq Tryz.call121 Tryz.func121 9 [] [3,40000002] [] (by simp [XI,Xa]) (X0 1000 ?_)
 simp only [AS.start,JM,XW,f0,f0',f1,f2,f3,f4,f5,f6,r1,r2,r3,w1,w2,w3,w4,v1,v2,hD1,hD2,Int.toNat_natCast,↓X2,wA,seval,wE]
 exact PK rfl rfl rfl (Xa _) (Xa _) rfl rfl
theorem Pv (p:PV) (k:Nat) (hk:k<p.rim.length) (hl:p.rim.length<1000000) (hn:QV p.rim):Fn Tryz.prog 45 [JM p,I k] (vA (BQ p.rim k)):=by
 have c1:=Pw p k hk hl hn
 have h0:=CB hn k
 rw [SA]
 generalize FB p.rim k=D at *
 have c2:=G0 D.1 D.2 ⟨by omega,by omega⟩ ⟨by omega,by omega⟩
 obtain ⟨R,hR⟩:∃ R,R=vA ⟨(D.1:Rat),(D.2:Rat)⟩:=⟨_,rfl⟩
 have sR:Settled R:=hR▸Xo _
 rw [← hR]
 refine Fq Tryz.call45 Tryz.func45 5 [] [] [] (by simp [XI,Xa]) (X0 1000 ?_)
 simp only [AS.start,JM,XW,↓X2,wA,seval,wE]
 refine X1 c1 rfl ?_
 simp only [↓X2,wA,seval,wE]
 refine X1 c2 rfl ?_
 simp only [↓X2,wA,seval,wE]
 exact A4 rfl Ko rfl rfl rfl sR (hR.trans rfl)
theorem Ej (p:PV) (k:Nat) (hk:k<p.rim.length) (hl:p.rim.length<1000000) (hn:QV p.rim):Fn Tryz.prog 113 [JM p,I k] (I (RC p.rim k)):=by
 have c1:=Pw p k hk hl hn
 have h0:=CB hn k
 unfold RC
 generalize FB p.rim k=D at *
 have b1:D.1*D.1≤131072*131072:=by
  rcases Int.le_total 0 D.1 with h | h
  ·exact Int.mul_le_mul h0.1.2 h0.1.2 h (by omega)
  ·have:=Int.mul_le_mul (show -D.1≤131072 by omega) (show -D.1≤131072 by omega) (by omega) (by omega)
   rwa [Int.neg_mul_neg] at this
 have b2:D.2*D.2≤131072*131072:=by
  rcases Int.le_total 0 D.2 with h | h
  ·exact Int.mul_le_mul h0.2.2 h0.2.2 h (by omega)
  ·have:=Int.mul_le_mul (show -D.2≤131072 by omega) (show -D.2≤131072 by omega) (by omega) (by omega)
   rwa [Int.neg_mul_neg] at this
 have b3:0≤D.1*D.1:=by
  rcases Int.le_total 0 D.1 with h | h
  ·exact Int.mul_nonneg h h
  ·exact Int.mul_nonneg_of_nonpos_of_nonpos h h
 have b4:0≤D.2*D.2:=by
  rcases Int.le_total 0 D.2 with h | h
  ·exact Int.mul_nonneg h h
  ·exact Int.mul_nonneg_of_nonpos_of_nonpos h h
 have w1:IntKind.i64.wrap (D.1*D.1)=D.1*D.1:=by rw [IntKind.wrap_i64]; omega
 have w2:IntKind.i64.wrap (D.2*D.2)=D.2*D.2:=by rw [IntKind.wrap_i64]; omega
 have w3:IntKind.i64.wrap (D.1*D.1+D.2*D.2)=D.1*D.1+D.2*D.2:=by rw [IntKind.wrap_i64]; omega
 refine Fq Tryz.call113 Tryz.func113 7 [] [] [] (by simp [XI,Xa]) (X0 1000 ?_)
 simp only [AS.start,JM,XW,↓X2,wA,seval,wE]
 refine X1 c1 rfl ?_
 simp only [w1,w2,w3,↓X2,wA,seval,wE]
 exact Xv rfl rfl (Xa _) rfl
theorem NB (R:List (Int×Int)) (i:Nat):(Xx R).getD i v0=JB (R.getD i (0,0)):=by
 unfold Xx
 rw [List.getD_eq_getElem?_getD,List.getD_eq_getElem?_getD,List.getElem?_map]
 cases R[i]? with
 | none=>show v0=JB (0,0); unfold v0 JB; simp
 | some c=>rfl
def ZO (a:V2):V2:=⟨-a.x,-a.y⟩
theorem ga (a:V2):vb (ZO a)=vb a:=by
 unfold vb ZO
 simp only [Nv]
theorem Y0 (a:V2):a.scale (-1)=ZO a:=by
 unfold V2.scale ZO
 rw [V2.ext']
 exact ⟨by simp only; grind,by simp only; grind⟩
theorem ju (a:V2):Q7 (ZO a) (ZO a)=Q7 a a:=by unfold Q7 ZO; grind
theorem TW (R:List (Int×Int)) (k:Nat):Q7 (BQ R k) (BQ R k)=(RC R k:Rat):=by
 rw [SA]
 unfold Q7 RC
 simp only [Rat.intCast_add,Rat.intCast_mul]
theorem IW (t:Bool):WeakL [.bool false,.sl 0 0 (fun _=>.any) t,.bool false,.sl 0 0 (fun _=>.any) t,.bool false,.sl 0 0 (fun _=>.any) t,.bool false,.sl 0 0 (fun _=>.any) t] (vC v0) :=
 have h1:X8 (0:Rat).num.natAbs=[]:=by rw [Rat.zero_num]; simp [XQ]
 have h2:X8 (qd (0:Rat))=[]:=CV rfl
 ⟨Weak.rfl' _,Qv h1,Weak.rfl' _,Qv h2,Weak.rfl' _,Qv h1,Weak.rfl' _,Qv h2,trivial⟩
def dF (n m:Nat) (i j:Int):Prop:=(0≤i∧i<n)∧0≤j∧j<m
noncomputable def QF (a b:List (Int×Int)) (i j:Int):V2×Bool :=
 if dF a.length b.length i j then ((K3 (ZO (BQ b j.toNat)) (BQ a i.toNat)).1,decide ((K3 (ZO (BQ b j.toNat)) (BQ a i.toNat)).2=0)) else (v0,false)
theorem EF (a b:V2) (h:Q7 a a≠Q7 b b):(K3 a b).1=v0∧(K3 a b).2≠0:=by
 unfold K3
 by_cases h0:Q7 a a=0∨Q7 b b=0
 ·rw [if_pos h0]; exact ⟨rfl,by decide⟩
 ·rw [if_neg h0,if_neg h]; exact ⟨rfl,by decide⟩
theorem fZ (a b:V2) (k:Nat) (ha:vb a≤k) (hb:vb b≤k):vb (K3 a b).1≤8*k+2:=by
 have q0:=Zh
 have z:vb v0≤8*k+2:=by unfold vb v0; simp only; omega
 have q1:=Bf a a; have q3:=Bf a b; have q4:=CU a b
 have d1:=ff (Q7 a b) (Q7 a a); have d2:=ff (Qg a b) (Q7 a a)
 unfold K3
 by_cases h0:Q7 a a=0∨Q7 b b=0
 ·rw [if_pos h0]; exact z
 ·rw [if_neg h0]
  by_cases h1:Q7 a a=Q7 b b
  ·rw [if_pos h1]
   show max (qb (Q7 a b / Q7 a a)) (qb (Qg a b / Q7 a a))≤_
   omega
  ·rw [if_neg h1]; exact z
theorem EG {a b:List (Int×Int)} (ha:QV a) (hb:QV b) (i j:Int):vb (QF a b i j).1≤26:=by
 unfold QF
 by_cases h:dF a.length b.length i j
 ·rw [if_pos h]
  exact fZ _ _ 3 (by rw [ga]; exact Dj hb _) (Dj ha _)
 ·rw [if_neg h]
  have q0:=Zh
  unfold vb v0; simp only; omega
theorem BW (a b:PV) (i j:Int) (hla:a.rim.length<1000000) (hlb:b.rim.length<1000000) (na:QV a.rim) (nb:QV b.rim):Fn Tryz.prog 39 [JM a,JM b,I i,I j] (.tup [vA (QF a.rim b.rim i j).1,.bool (QF a.rim b.rim i j).2]):=by
 obtain ⟨R,hR⟩:∃ R,R=QF a.rim b.rim i j:=⟨_,rfl⟩
 rw [← hR]
 have zret:∀ {s:AS} {ver id':Nat},s.get 8=.ref id' ver 0→s.h[id']?=some (.row ver 8 (Xn Zq))→s.get 9=.bool false→R=(v0,false)→RetOk (J4 Tryz.prog Tryz.f39 [3,40000004,40000005] [] (.tup [vA R.1,.bool R.2])) s:=fun h1 h2 h3 h4=>by
  subst h4
  exact K8 rfl (Xm M6 h1 h2 rfl) (by unfold Jb; rfl) (XG (Xo _) (Qi Cf)) (by rw [h3]; exact (X3 _).sees _)
 refine Fq Tryz.call39 Tryz.func39 12 [] [3,40000004,40000005] [] (by simp [XI,Xa]) (X0 1000 ?_)
 by_cases g0:i<0
 ·have f0:(i<0)=True:=eq_true g0
  simp only [AS.start,JM,XW,f0,↓X2,wA,seval,wE]
  exact zret rfl rfl rfl (by rw [hR]; unfold QF; rw [if_neg (by unfold dF; omega)])
 have f0:(i<0)=False:=eq_false g0
 by_cases g1:(a.rim.length:Int)≤i
 ·have f1:((a.rim.length:Int)≤i)=True:=eq_true g1
  simp only [AS.start,JM,XW,f0,f1,↓X2,wA,seval,wE]
  exact zret rfl rfl rfl (by rw [hR]; unfold QF; rw [if_neg (by unfold dF; omega)])
 have f1:((a.rim.length:Int)≤i)=False:=eq_false g1
 by_cases g2:j<0
 ·have f2:(j<0)=True:=eq_true g2
  simp only [AS.start,JM,XW,f0,f1,f2,↓X2,wA,seval,wE]
  exact zret rfl rfl rfl (by rw [hR]; unfold QF; rw [if_neg (by unfold dF; omega)])
 have f2:(j<0)=False:=eq_false g2
 by_cases g3:(b.rim.length:Int)≤j
 ·have f3:((b.rim.length:Int)≤j)=True:=eq_true g3
  simp only [AS.start,JM,XW,f0,f1,f2,f3,↓X2,wA,seval,wE]
  exact zret rfl rfl rfl (by rw [hR]; unfold QF; rw [if_neg (by unfold dF; omega)])
 have f3:((b.rim.length:Int)≤j)=False:=eq_false g3
 obtain ⟨i,rfl⟩:∃ n:Nat,i=n:=⟨i.toNat,by omega⟩
 obtain ⟨j,rfl⟩:∃ n:Nat,j=n:=⟨j.toNat,by omega⟩
 have hin:dF a.rim.length b.rim.length i j:=by unfold dF; omega
 have hR1:R=((K3 (ZO (BQ b.rim j)) (BQ a.rim i)).1,decide ((K3 (ZO (BQ b.rim j)) (BQ a.rim i)).2=0)):=by rw [hR]; unfold QF; rw [if_pos hin]; rfl
 have s1:=Ej a i (by omega) hla na
 have s2:=Ej b j (by omega) hlb nb
 simp only [AS.start,JM,XW,f0,f1,f2,f3,↓X2,wA,seval,wE]
 refine X1 s1 rfl ?_
 simp only [f0,f1,f2,f3,↓X2,wA,seval,wE]
 refine X1 s2 rfl ?_
 by_cases hs:RC a.rim i=RC b.rim j
 rotate_left
 ·have fs:(RC a.rim i=RC b.rim j)=False:=eq_false hs
  simp only [fs,↓X2,wA,seval,wE]
  refine zret rfl rfl rfl ?_
  have hd:=EF (ZO (BQ b.rim j)) (BQ a.rim i) (by rw [ju,TW,TW]; exact fun h=>hs (Rat.intCast_inj.1 h).symm)
  rw [hR1,hd.1,decide_eq_false hd.2]
 have fs:(RC a.rim i=RC b.rim j)=True:=eq_true hs
 have e1:=Pv b j (by omega) hlb nb
 have e2:=Pv a i (by omega) hla na
 have k1:=Dj nb j; have k2:=Dj na i
 have o1:=C9 (-1) 1 ⟨by omega,by omega⟩ ⟨by omega,by omega⟩
 rw [show Rat.divInt (-1) 1 = -1 by decide +kernel] at o1
 have o2:=G1 (BQ b.rim j) (-1) (by unfold vm; omega) (by have:=Be (-1) 1 ⟨by omega,by omega⟩ ⟨by omega,by omega⟩; rw [show Rat.divInt (-1) 1 = -1 by decide +kernel] at this; unfold vm; omega)
 rw [Y0] at o2
 have o3:=WI (ZO (BQ b.rim j)) (BQ a.rim i) (by rw [ga]; omega) (by omega)
 generalize K3 (ZO (BQ b.rim j)) (BQ a.rim i)=X at *
 simp only [fs,↓X2,wA,seval,wE]
 refine X1 e1 rfl ?_
 simp only [↓X2,wA,seval,wE]
 refine X1 o1 rfl ?_
 simp only [↓X2,wA,seval,wE]
 refine X1 o2 rfl ?_
 simp only [↓X2,wA,seval,wE]
 refine X1 e2 rfl ?_
 simp only [↓X2,wA,seval,wE]
 refine X1 o3 rfl ?_
 simp only [↓X2,wA,seval,wE]
 subst hR1
 exact K8 rfl (Xm M6 rfl rfl rfl) (by unfold Jb; rfl) (XG (Xo _) (Qi (Qc (vC X.1)))) ((X3 _).sees _)
def xK (n:Nat) (f:FV) (k:Nat):Nat:=((f.EA+k) % n).toNat
def yK (m:Nat) (f:FV) (k:Nat):Nat:=((f.EB - k) % m).toNat
theorem Ry (n:Nat) (f:FV) (k:Nat) (h:0<n):(f.EA+k) % (n:Int)=(xK n f k:Int):=by
 have:=Int.emod_nonneg (f.EA+k) (show (n:Int)≠0 by omega)
 unfold xK; omega
theorem gy (m:Nat) (f:FV) (k:Nat) (h:0<m):(f.EB - k) % (m:Int)=(yK m f k:Int):=by
 have:=Int.emod_nonneg (f.EB - k) (show (m:Int)≠0 by omega)
 unfold yK; omega
theorem UW (n:Nat) (f:FV) (k:Nat) (h:0<n):xK n f k<n:=by
 have:=Ry n f k h
 have:=Int.emod_lt_of_pos (f.EA+k) (show (0:Int)<n by omega)
 omega
theorem mA (m:Nat) (f:FV) (k:Nat) (h:0<m):yK m f k<m:=by
 have:=gy m f k h
 have:=Int.emod_lt_of_pos (f.EB - k) (show (0:Int)<m by omega)
 omega
def CC (n m:Nat) (f:FV):List (Int×Int):=(List.range f.M.toNat).map fun k=>((xK n f k:Int),(yK m f k:Int))
theorem Dv {α:Type} (f:Nat→α) (d:α) (n j:Nat) (h:j<n):((List.range n).map f).getD j d=f j:=by
 rw [List.getD_eq_getElem?_getD,List.getElem?_map,List.getElem?_range h]; rfl
theorem Ao (n m:Nat) (f:FV):(CC n m f).length=f.M.toNat:=by simp [CC]
theorem kN {P:Program} {fn:Func} {str hcs:List Nat} {s:AS} {t id ver:Nat} (L:List (Int×Int)) (hr:fn.results=#[.tmp t]) (hs:s.get t=.osl id ver 2 0 L.length) (ho:s.h[id]?=some (.row ver (L.length*2) (Xr JQ 2 (0,0) L))):RetOk (J4 P fn str hcs (Ck L)) s:=by
 refine AH hr ?_
 rw [hs,Xj]
 refine QD (.inl ho) (by omega) (fun h=>by rw [h]) fun j hj=>?_
 rw [Nat.zero_add]
 exact (Xg (K1 _) _).sees _
theorem Dq (c:Int×Int):∀ j,j<2→((JQ c).getD j .any).one=true:=fun j hj=>by
 match j,hj with
 | 0,_=>rfl
 | 1,_=>rfl
 | j+2,h=>omega
theorem EQ (a b:PV) (f:FV) (hf:Cr a.rim.length b.rim.length f) (ha:a.rim.length<1000000) (hb:b.rim.length<1000000):Fn Tryz.prog 152 [JM a,JM b,Ap f] (Ck (CC a.rim.length b.rim.length f)):=by
 obtain ⟨⟨s1,s2⟩,⟨s3,s4⟩,s5,s6,s7⟩:=hf
 obtain ⟨N,hN⟩:∃ N:Nat,f.M=N:=⟨f.M.toNat,by omega⟩
 obtain ⟨L,hL⟩:∃ L,L=CC a.rim.length b.rim.length f:=⟨_,rfl⟩
 have hlen:L.length=N:=by rw [hL,Ao,hN]; rfl
 have hat:∀ k,k<N→L.getD k (0,0)=((xK a.rim.length f k:Int),(yK b.rim.length f k:Int)):=fun k hk=>by rw [hL]; exact Dv _ _ _ _ (by omega)
 rw [← hL]
 have ba:XS 4 (.con 0 25 (Xn (XW a)))=True:=eq_true (fun j _=>X9 (Xg (XE a) j))
 have bb:XS 4 (.con 0 25 (Xn (XW b)))=True:=eq_true (fun j _=>X9 (Xg (XE b) j))
 have bf:XS 4 (.con 0 29 (Xn (Qo f)))=True:=eq_true (fun j _=>X9 (Xg (Qe f) j))
 have br:∀ i l n,XS 4 (.row i n (Xr JQ 2 (0,0) l))=True:=fun i l n=>eq_true fun j _=>X9 (Xg (K1 _) _)
 refine Fq Tryz.call152 Tryz.func152 9 [10,11] [5,60000003,60000004,60000005] [] (by simp [XI,QX]) (X0 1000 ?_)
 simp only [AS.start,JM,XW,Ap,Qo,↓X2,wA,seval,wE]
 refine Xf (fun k:Nat=>⟨9,[10,11],[.any,.any,.any,.ref 0 0 0,.ref 1 0 0,.ref 2 0 0,.any,.osl 3 k 2 0 k,.any],[(10,I f.M),(11,I k)],[.con 0 25 (Xn (XW a)),.con 0 25 (Xn (XW b)),.con 0 29 (Xn (Qo f)),.row k (k*2) (Xr JQ 2 (0,0) (L.take k))]⟩) (fun k=>k≤N) (fun k=>N - k) 0 (by omega)
  (Sub.trans (Qu 0 rfl) (Sub.trans (Qu 1 rfl) (Sub.trans (Qu 2 rfl) (Sub.trans (QL 7 2 (Xr JQ 2 (0,0) []) rfl) (Xb rfl (by simp [AS.put,Xh,I]) (by simp [AS.put,Xi,Xp,I]) (by simp [AS.put,XW,Qo,Xj,Xw,X5,I])))))) ?_
 intro k hk next
 have w1:=wj k (by omega)
 by_cases hk2:k<N
 ·have f1:((k:Int)<f.M)=True:=eq_true (by omega)
  have wx:IntKind.i64.wrap (f.EA+(k:Int))=f.EA+(k:Int):=by rw [IntKind.wrap_i64]; omega
  have wy:IntKind.i64.wrap (f.EB - (k:Int))=f.EB - (k:Int):=by rw [IntKind.wrap_i64]; omega
  have c1:=Zu (f.EA+(k:Int)) a.rim.length (by omega) (by omega) (by omega)
  have c2:=Zu (f.EB - (k:Int)) b.rim.length (by omega) (by omega) (by omega)
  rw [Ry _ _ _ (by omega)] at c1
  rw [gy _ _ _ (by omega)] at c2
  have hap:=Qq JQ 2 (0,0) (L.take k) (L.getD k (0,0)) (by omega)
  rw [← AD _ _ (by omega),hat k hk2,show (L.take k).length=k by simp; omega] at hap
  refine X0 1000 ?_
  simp only [XW,Qo,Xj,w1,wx,wy,f1,Int.toNat_natCast,↓X2,wA,seval,wE]
  refine X1 c1 rfl ?_
  simp only [XW,Qo,Xj,w1,wx,wy,f1,Int.toNat_natCast,↓X2,wA,seval,wE]
  refine X1 c2 rfl ?_
  simp only [XW,Qo,Xj,w1,wx,wy,f1,Int.toNat_natCast,↓X2,wA,seval,wE]
  exact ⟨⟨Dq ((xK a.rim.length f k:Int),(yK b.rim.length f k:Int)),by omega,by omega⟩,next (k+1) _ (by omega) (by omega) (XA (m:=4) (Nat.zero_le _) rfl (by simp [Xh,I]) (by simp [Xi,Xp,I]) (by rw [← hap]; simp [XW,Qo,Xj,Xw,X5,I,JQ]) (by simp [Xz]) (by simp [Xz]) (by simp [ba,bb,bf,br]))⟩
 obtain rfl:k=N:=by omega
 have f1:((k:Int)<f.M)=False:=eq_false (by omega)
 refine X0 1000 ?_
 simp only [XW,Qo,f1,↓X2,wA,seval,wE]
 rw [List.take_of_length_le (by omega)]
 exact kN _ rfl (by rw [hlen]; rfl) (by rw [hlen]; rfl)
def N6 (wa wb:Bool) (x y:Int):Bool:=wa || wb || (decide (x≠y) && decide (x≠0) && decide (y≠0))
def aN (a b:PV) (f:FV) (k:Nat):Bool:=N6 (a.worn.getD (xK a.rim.length f k) false) (b.worn.getD (yK b.rim.length f k) false) (a.marks.getD (xK a.rim.length f k) 0) (b.marks.getD (yK b.rim.length f k) 0)
def GU (a b:PV) (f:FV):Prop:=∀ k,k<f.M.toNat→aN a b f k=false
theorem aO (wa wb:Bool) (x y:Int) :
  (N6 wa wb x y=true∧wa=true∧True∧True∧True∧True)∨(N6 wa wb x y=true∧wa=false∧wb=true∧True∧True∧True)∨(N6 wa wb x y=false∧wa=false∧wb=false∧(x=y)=True∧True∧True) ∨
  (N6 wa wb x y=false∧wa=false∧wb=false∧(x=y)=False∧(x=0)=True∧True)∨(N6 wa wb x y=false∧wa=false∧wb=false∧(x=y)=False∧(x=0)=False∧(y=0)=True) ∨
  (N6 wa wb x y=true∧wa=false∧wb=false∧(x=y)=False∧(x=0)=False∧(y=0)=False):=by
 unfold N6
 cases wa
 rotate_left
 ·exact .inl ⟨rfl,rfl,trivial,trivial,trivial,trivial⟩
 cases wb
 rotate_left
 ·exact .inr (.inl ⟨rfl,rfl,rfl,trivial,trivial,trivial⟩)
 by_cases h1:x=y
 ·exact .inr (.inr (.inl ⟨by simp [h1],rfl,rfl,eq_true h1,trivial,trivial⟩))
 by_cases h2:x=0
 ·exact .inr (.inr (.inr (.inl ⟨by simp [h2],rfl,rfl,eq_false h1,eq_true h2,trivial⟩)))
 by_cases h3:y=0
 ·exact .inr (.inr (.inr (.inr (.inl ⟨by simp [h3],rfl,rfl,eq_false h1,eq_false h2,eq_true h3⟩))))
 ·exact .inr (.inr (.inr (.inr (.inr ⟨by simp [h1,h2,h3],rfl,rfl,eq_false h1,eq_false h2,eq_false h3⟩))))
structure PV.even (p:PV):Prop where
 rim:p.rim.length<1000000
 worn:p.worn.length=p.rim.length
 marks:p.marks.length=p.rim.length
 near:QV p.rim
theorem Gy (a b:PV) (f:FV) (hf:Cr a.rim.length b.rim.length f) (ha:a.even) (hb:b.even):Fn Tryz.prog 132 [JM a,JM b,Ap f] (.bool (decide (GU a b f))):=by
 have ce:=EQ a b f hf ha.rim hb.rim
 obtain ⟨⟨s1,s2⟩,⟨s3,s4⟩,s5,s6,s7⟩:=hf
 obtain ⟨N,hN⟩:∃ N:Nat,f.M=N:=⟨f.M.toNat,by omega⟩
 have la:=ha.rim; have lb:=hb.rim
 obtain ⟨V,hV⟩:∃ V,V=decide (GU a b f):=⟨_,rfl⟩
 rw [← hV]
 obtain ⟨L,hL⟩:∃ L,L=CC a.rim.length b.rim.length f:=⟨_,rfl⟩
 have hlen:L.length=N:=by rw [hL,Ao,hN]; rfl
 have hat:∀ k,k<N→L.getD k (0,0)=((xK a.rim.length f k:Int),(yK b.rim.length f k:Int)):=fun k hk=>by rw [hL]; exact Dv _ _ _ _ (by omega)
 rw [← hL] at ce
 clear hL
 have fin:∀ {s:AS} {v:Bool},s.get 6=.bool v→v=V→RetOk (J4 Tryz.prog Tryz.f132 [] [] (.bool V)) s:=fun h e=>Xv rfl h (X3 _) (by rw [e])
 have ba:XS 3 (.row 0 25 (Xn (XW a)))=True:=eq_true (XM (XE a))
 have bb:XS 3 (.row 0 25 (Xn (XW b)))=True:=eq_true (XM (XE b))
 have bf:XS 3 (.row 0 29 (Xn (Qo f)))=True:=eq_true (XM (Qe f))
 have bL:Kd 3 (Ck L)=True:=eq_true (X9 (Qn _))
 refine Fq Tryz.call132 Tryz.func132 12 [15,16,17] [] [] (by simp [XI,QX]) (X0 1000 ?_)
 simp only [AS.start,JM,XW,Ap,Qo,↓X2,wA,seval,wE]
 refine X1 ce rfl ?_
 simp only [Xj,hlen,↓X2,wA,seval,wE]
 refine Xf (fun k:Nat=>⟨12,[15,16,17],[.any,.any,.any,.ref 0 0 0,.ref 1 0 0,.ref 2 0 0,.any,.bool true,.any,.any,.any,.any],[(15,Ck L),(16,I N),(17,I k)],[.row 0 25 (Xn (XW a)),.row 0 25 (Xn (XW b)),.row 0 29 (Xn (Qo f))]⟩) (fun k=>k≤N∧∀ j,j<k→aN a b f j=false) (fun k=>N - k) 0 ⟨by omega,by omega⟩
  (Xb rfl (by simp [Xh,I]) (by simp [Xi,Xp,Xj,hlen,I]) (by simp [XW,Qo,Xj,Xw,X5,I])) ?_
 rintro k ⟨hk,hok⟩ next
 have w1:=wj k (by omega)
 by_cases hk2:k<N
 rotate_left
 ·obtain rfl:k=N:=by omega
  refine X0 1000 ?_
  simp only [XW,Qo,Int.lt_irrefl,Nat.lt_irrefl,↓X2,wA,seval,wE]
  exact fin rfl (by rw [hV,decide_eq_true]; exact fun j hj=>hok j (by omega))
 have nx:=next (k+1)
 have f1:((k:Int)<N)=True:=eq_true (by omega)
 have f2:(k<N)=True:=eq_true hk2
 have f3:(k*2+2≤N*2)=True:=eq_true (by omega)
 have v1:=kM L k
 rw [hat k hk2] at v1
 have hx:=UW a.rim.length f k (by omega)
 have hy:=mA b.rim.length f k (by omega)
 have ex:=Ry a.rim.length f k (by omega)
 have ey:=gy b.rim.length f k (by omega)
 have six:=aO (a.worn.getD (xK a.rim.length f k) false) (b.worn.getD (yK b.rim.length f k) false) (a.marks.getD (xK a.rim.length f k) 0) (b.marks.getD (yK b.rim.length f k) 0)
 have hbad:aN a b f k=N6 (a.worn.getD (xK a.rim.length f k) false) (b.worn.getD (yK b.rim.length f k) false) (a.marks.getD (xK a.rim.length f k) 0) (b.marks.getD (yK b.rim.length f k) 0):=rfl
 rw [← hbad] at six
 clear hbad
 have no:aN a b f k=true→false=V:=fun h=>by rw [hV,decide_eq_false]; intro hp; rw [hp k (by omega)] at h; cases h
 generalize xK a.rim.length f k=X at *
 generalize yK b.rim.length f k=Y at *
 have g1:((X:Int)<a.worn.length)=True:=eq_true (by have:=ha.worn; omega)
 have g2:(X<a.worn.length)=True:=eq_true (by have:=ha.worn; omega)
 have g3:((Y:Int)<b.worn.length)=True:=eq_true (by have:=hb.worn; omega)
 have g4:(Y<b.worn.length)=True:=eq_true (by have:=hb.worn; omega)
 have g5:((X:Int)<a.marks.length)=True:=eq_true (by have:=ha.marks; omega)
 have g6:(X<a.marks.length)=True:=eq_true (by have:=ha.marks; omega)
 have g7:((Y:Int)<b.marks.length)=True:=eq_true (by have:=hb.marks; omega)
 have g8:(Y<b.marks.length)=True:=eq_true (by have:=hb.marks; omega)
 have n2:((2:Nat):Int)=2:=rfl
 have t1:(1:Int).toNat=1:=rfl
 rcases six with ⟨hB,q1,q2,q3,q4,q5⟩ | ⟨hB,q1,q2,q3,q4,q5⟩ | ⟨hB,q1,q2,q3,q4,q5⟩ | ⟨hB,q1,q2,q3,q4,q5⟩ | ⟨hB,q1,q2,q3,q4,q5⟩ | ⟨hB,q1,q2,q3,q4,q5⟩
 all_goals
  refine X0 1000 ?_
  simp only [XW,Qo,Xj,Xw,X5,hlen,w1,f1,f2,f3,v1,g1,g2,g3,g4,g5,g6,g7,g8,q1,q2,q3,q4,q5,n2,t1,Int.toNat_zero,Int.reduceLT,Int.reduceLE,Int.toNat_natCast,↓X2,wA,seval,wE]
  first
   | exact fin rfl (no hB)
   | exact nx _ ⟨by omega,Bn.2 ⟨hok,hB⟩⟩ (by omega) (XA (m:=3) (Nat.zero_le _) rfl (by simp [Xh,I]) (by simp [Xi,Xp,Xj,hlen,I]) (by simp [XW,Qo,Xj,Xw,X5,I]) (by simp [Xz]) (by simp [Xz,bL]) (by simp [ba,bb,bf]))
def OY (p:V2→Bool) (s:List V2):Int:=if s.any p=true then (s.findIdx p:Nat) else -1
theorem Gc {s:List V2} {j:Nat} (h:j<s.length):s.getD j v0∈s:=by
 rw [List.getD_eq_getElem?_getD,List.getElem?_eq_getElem h]; exact List.getElem_mem h
theorem dE {p:V2→Bool} {s:List V2} {j:Nat} (hj:j<s.length) (h:p (s.getD j v0)=true) (hno:∀ i,i<j→p (s.getD i v0)=false):OY p s=j:=by
 have at_:∀ i (hi:i<s.length),s.getD i v0=s[i]:=fun i hi=>by rw [List.getD_eq_getElem?_getD,List.getElem?_eq_getElem hi]; rfl
 have e:s.findIdx p=j:=by
  rw [List.findIdx_eq hj]
  exact ⟨by rw [← at_ j hj]; exact h,fun i hi=>by rw [← at_ i (by omega)]; exact hno i hi⟩
 unfold OY
 rw [if_pos (List.any_eq_true.2 ⟨_,Gc hj,h⟩),e]
theorem Wm {p:V2→Bool} {s:List V2} (hno:∀ i,i<s.length→p (s.getD i v0)=false):OY p s = -1:=by
 unfold OY
 rw [if_neg]
 intro h
 obtain ⟨x,hx,hp⟩:=List.any_eq_true.1 h
 obtain ⟨i,hi,rfl⟩:=List.getElem_of_mem hx
 have:=hno i hi
 rw [List.getD_eq_getElem?_getD,List.getElem?_eq_getElem hi] at this
 simp only [Option.getD_some] at this
 rw [this] at hp; cases hp
theorem OZ (p:V2→Bool) (s:List V2):decide (0≤OY p s)=s.any p:=by
 unfold OY
 cases h:s.any p
 ·simp
 ·rw [if_pos rfl]; exact decide_eq_true (by omega)
theorem To (s:List V2) (f:FuncId) (caps:List AV) (p:V2→Bool) (hl:s.length<1000000) (hc:∀ a∈caps,Settled a) (hp:∀ x∈s,Fn Tryz.prog f ([vA x] ++ caps) (.bool (p x))) :
  Fn Tryz.prog 205 [Xs s,.fn f caps] (I (OY p s)):=by
 refine Fn.intro (fn:=Tryz.f205) Tryz.call205 Tryz.func205 rfl mixed 6 [6,7,8] [] [] (by kernel_rfl) (Nat.le_of_ble_eq_true rfl) (by simpa [Xk] using J7 hc) (X0 1000 ?_)
 simp only [AS.start,X7,↓X2,wA,seval,wE]
 refine Xf (fun j:Nat=>⟨6,[6,7,8],[Xs s,.fn f caps,.any,.any,.any,.any],[(6,Xs s),(7,I s.length),(8,I j)],[]⟩) (fun j=>j≤s.length∧∀ i,i<j→p (s.getD i v0)=false) (fun j=>s.length - j) 0 ⟨by omega,by omega⟩
  (Xb rfl (by simp [Xh,X7,I]) (by simp [Xi,Xp,X7,I]) rfl) ?_
 rintro j ⟨hj,hno⟩ next
 have w1:=wj j (by omega)
 by_cases hj2:j<s.length
 ·have f1:((j:Int)<s.length)=True:=eq_true (by omega)
  have f2:(j<s.length)=True:=eq_true hj2
  have f3:(j*8+8≤s.length*8)=True:=eq_true (by omega)
  have v1:=vF s j
  refine X0 1000 ?_
  simp only [X7,w1,f1,f2,f3,v1,Int.toNat_natCast,↓X2,wA,seval,wE]
  refine XV (hp _ (Gc hj2)) (Qc _) ?_
  simp only [w1,↓X2,wA,seval,wE]
  refine QG (fun ht=>Xv (v:=I j) rfl rfl (Xa _) ?_) (fun hf=>next (j+1) _ ⟨by omega,Bn.2 ⟨hno,hf⟩⟩ (by omega) (Xb rfl (by simp [Xh,X7,I]) (by simp [Xi,Xp,X7,I]) rfl))
  rw [dE hj2 ht hno]
 ·have f1:((j:Int)<s.length)=False:=eq_false (by omega)
  refine X0 1000 ?_
  simp only [X7,w1,f1,↓X2,wA,seval,wE]
  refine Xv (v:=I (-1)) rfl rfl (Xa _) ?_
  rw [Wm fun i hi=>hno i (by omega)]
theorem Lu (s:List V2) (f:FuncId) (caps:List AV) (p:V2→Bool) (hl:s.length<1000000) (hc:∀ a∈caps,Settled a) (hp:∀ x∈s,Fn Tryz.prog f ([vA x] ++ caps) (.bool (p x))) :
  Fn Tryz.prog 141 [Xs s,.fn f caps] (.bool (s.any p)):=by
 have hi:=OZ p s
 refine Fn.intro (fn:=Tryz.f141) Tryz.call141 Tryz.func141 rfl mixed 5 [] [] [] (by kernel_rfl) (Nat.le_of_ble_eq_true rfl) (by simpa [Xk] using J7 hc) (X0 1000 ?_)
 simp only [AS.start,↓X2,wA,seval,wE]
 refine X1 (To s f caps p hl hc hp) rfl ?_
 simp only [↓X2,wA,seval,wE]
 exact Xv (v:=.bool (decide (0≤OY p s))) rfl rfl (X3 _) (by rw [OZ])
def me (f:FV):AV:=.ptr 29 (Xn (Qo f)) 0
theorem B6 (f:FV):Settled (me f):=QK fun j _=>Xg (Qe f) j
theorem VQ (t:V2) (f:FV) (ht:vb t≤vm) (hf:vb f.turn≤vm):Fn Tryz.prog 142 ([vA t] ++ [me f]) (.bool (decide (t=f.turn))):=by
 have c1:=AR t f.turn ht hf
 refine Fq Tryz.call142 Tryz.func142 4 [] [] [] (by simp [Xo,B6]) (X0 1000 ?_)
 simp only [AS.start,me,Qo,List.cons_append,List.nil_append,↓X2,wA,seval,wE]
 refine X1 c1 rfl ?_
 simp only [↓X2,wA,seval,wE]
 exact Xv rfl rfl (X3 _) rfl
noncomputable def L3 (a b:PV) (f:FV) (k:Nat):V2×Bool:=QF a.rim b.rim (xK a.rim.length f k) (yK b.rim.length f k)
noncomputable def Qa (a b:PV) (f:FV):Nat→List V2
 | 0=>[]
 | k+1=>if (L3 a b f k).2=true then Qa a b f k ++ [(L3 a b f k).1] else Qa a b f k
theorem Cv (a b:PV) (f:FV):∀ k,(Qa a b f k).length≤k
 | 0=>Nat.le_refl _
 | k+1=>by
  have ih:=Cv a b f k
  simp only [Qa]
  split
  ·rw [List.length_append]; simp only [List.length_singleton]; omega
  ·omega
theorem E0 (a b:PV) (f:FV) (ha:QV a.rim) (hb:QV b.rim):∀ k,∀ t∈Qa a b f k,vb t≤26
 | 0=>fun t h=>by simp [Qa] at h
 | k+1=>by
  have ih:=E0 a b f ha hb k
  intro t h
  simp only [Qa] at h
  split at h
  ·rcases List.mem_append.1 h with h | h
   ·exact ih t h
   ·simp only [List.mem_cons,List.not_mem_nil,or_false] at h
    subst h; exact EG ha hb _ _
  ·exact ih t h
def Sc (a b:PV) (f:FV):Prop:=∃ k,k<f.M.toNat∧(L3 a b f k).2=true∧(L3 a b f k).1=f.turn
theorem Hz (a b:PV) (f:FV) (t:V2):∀ n,(Qa a b f n).any (fun x=>decide (x=t))=true↔∃ k,k<n∧(L3 a b f k).2=true∧(L3 a b f k).1=t
 | 0=>by simp [Qa]
 | n+1=>by
  have ih:=Hz a b f t n
  by_cases h:(L3 a b f n).2=true
  ·have e:Qa a b f (n+1)=Qa a b f n ++ [(L3 a b f n).1]:=if_pos h
   rw [e,List.any_append,Bool.or_eq_true,ih]
   simp only [List.any_cons,List.any_nil,Bool.or_false,decide_eq_true_eq]
   constructor
   ·rintro (⟨k,h1,h2⟩ | h1)
    ·exact ⟨k,by omega,h2⟩
    ·exact ⟨n,by omega,h,h1⟩
   ·rintro ⟨k,h1,h2,h3⟩
    by_cases hk:k=n
    ·subst hk; exact .inr h3
    ·exact .inl ⟨k,by omega,h2,h3⟩
  ·have e:Qa a b f (n+1)=Qa a b f n:=if_neg h
   rw [e,ih]
   constructor
   ·rintro ⟨k,h1,h2⟩; exact ⟨k,by omega,h2⟩
   ·rintro ⟨k,h1,h2,h3⟩
    by_cases hk:k=n
    ·subst hk; exact absurd h2 h
    ·exact ⟨k,by omega,h2,h3⟩
theorem Sd (a b:PV) (f:FV) (hf:Cr a.rim.length b.rim.length f) (ha:a.even) (hb:b.even):Fn Tryz.prog 133 [JM a,JM b,Ap f] (Xs (Qa a b f f.M.toNat)):=by
 have ce:=EQ a b f hf ha.rim hb.rim
 obtain ⟨⟨s1,s2⟩,⟨s3,s4⟩,s5,s6,s7⟩:=hf
 obtain ⟨N,hN⟩:∃ N:Nat,f.M=N:=⟨f.M.toNat,by omega⟩
 have la:=ha.rim; have lb:=hb.rim
 have hNt:f.M.toNat=N:=by rw [hN]; rfl
 rw [hNt]
 obtain ⟨L,hL⟩:∃ L,L=CC a.rim.length b.rim.length f:=⟨_,rfl⟩
 have hlen:L.length=N:=by rw [hL,Ao,hN]; rfl
 have hat:∀ k,k<N→L.getD k (0,0)=((xK a.rim.length f k:Int),(yK b.rim.length f k:Int)):=fun k hk=>by rw [hL]; exact Dv _ _ _ _ (by omega)
 rw [← hL] at ce
 clear hL
 have ba:XS 4 (.row 0 25 (Xn (XW a)))=True:=eq_true (XM (XE a))
 have bb:XS 4 (.row 0 25 (Xn (XW b)))=True:=eq_true (XM (XE b))
 have bf:XS 4 (.row 0 29 (Xn (Qo f)))=True:=eq_true (XM (Qe f))
 have bL:Kd 4 (Ck L)=True:=eq_true (X9 (Qn _))
 have hvc:∀ a:V2,∀ x∈vC a,Settled x:=fun a=>by simp [vC,X4,X3]
 have br:∀ i l n,XS 4 (.row i n (Xr vC 8 v0 l))=True:=fun i l n=>eq_true fun j _=>X9 (Xg (hvc _) _)
 refine Fq Tryz.call133 Tryz.func133 12 [15,16,17] [] [] (by simp [XI,QX]) (X0 1000 ?_)
 simp only [AS.start,JM,XW,Ap,Qo,↓X2,wA,seval,wE]
 refine X1 ce rfl ?_
 simp only [Xj,hlen,↓X2,wA,seval,wE]
 refine Xf (fun k:Nat=>⟨12,[15,16,17],[.any,.any,.any,.ref 0 0 0,.ref 1 0 0,.ref 2 0 0,.any,.osl 3 (Qa a b f k).length 8 0 (Qa a b f k).length,.any,.any,.any,.any],[(15,Ck L),(16,I N),(17,I k)],[.row 0 25 (Xn (XW a)),.row 0 25 (Xn (XW b)),.row 0 29 (Xn (Qo f)),.row (Qa a b f k).length ((Qa a b f k).length*8) (Xr vC 8 v0 (Qa a b f k))]⟩) (fun k=>k≤N) (fun k=>N - k) 0 (by omega)
  (Sub.trans (QL 7 8 (Xr vC 8 v0 []) rfl) (Xb rfl (by simp [AS.put,Qa,Xh,I]) (by simp [AS.put,Xi,Xp,Xj,hlen,I]) (by simp [AS.put,Qa,XW,Qo,Xj,Xw,X5,I]))) ?_
 intro k hk next
 have w1:=wj k (by omega)
 have hln:=Cv a b f k
 by_cases hk2:k<N
 rotate_left
 ·obtain rfl:k=N:=by omega
  refine X0 1000 ?_
  simp only [XW,Qo,Int.lt_irrefl,Nat.lt_irrefl,↓X2,wA,seval,wE]
  exact Rp _ rfl rfl rfl
 have nx:=next (k+1)
 have f1:((k:Int)<N)=True:=eq_true (by omega)
 have f2:(k<N)=True:=eq_true hk2
 have f3:(k*2+2≤N*2)=True:=eq_true (by omega)
 have v1:=kM L k
 rw [hat k hk2] at v1
 have n2:((2:Nat):Int)=2:=rfl
 have t1:(1:Int).toNat=1:=rfl
 have ca:=BW a b (xK a.rim.length f k) (yK b.rim.length f k) la lb ha.near hb.near
 rw [show QF a.rim b.rim (xK a.rim.length f k) (yK b.rim.length f k)=L3 a b f k from rfl] at ca
 have hs:Qa a b f (k+1)=if (L3 a b f k).2=true then Qa a b f k ++ [(L3 a b f k).1] else Qa a b f k:=rfl
 generalize L3 a b f k=X at *
 obtain ⟨t,ok⟩:=X
 refine X0 1000 ?_
 simp only [XW,Qo,Xj,Xw,X5,hlen,w1,f1,f2,f3,v1,n2,t1,Int.toNat_zero,Int.reduceLT,Int.reduceLE,Int.toNat_natCast,↓X2,wA,seval,wE]
 refine X1 ca rfl ?_
 cases ok with
 | false =>
  rw [if_neg (show ¬ ((t,false).2=true) from Bool.false_ne_true)] at hs
  simp only [hs] at nx
  simp only [w1,↓X2,wA,seval,wE]
  exact nx _ (by omega) (by omega) (XA (m:=4) (Nat.zero_le _) rfl (by simp [Xh,I]) (by simp [Xi,Xp,Xj,hlen,I]) (by simp [XW,Qo,Xj,Xw,X5,I]) (by simp [Xz]) (by simp [Xz,bL]) (by simp [ba,bb,bf,br]))
 | true =>
  rw [if_pos rfl] at hs
  have hlen2:(Qa a b f (k+1)).length=(Qa a b f k).length+1:=by rw [hs]; simp
  have hap:=Qq vC 8 v0 (Qa a b f k) t (by omega)
  rw [← hs] at hap
  simp only [hlen2] at nx
  simp only [w1,↓X2,wA,seval,wE]
  exact ⟨⟨Et t,by omega,by omega⟩,nx _ (by omega) (by omega) (XA (m:=4) (Nat.zero_le _) rfl (by simp [Xh,I]) (by simp [Xi,Xp,Xj,hlen,I]) (by rw [← hap]; simp [XW,Qo,Xj,Xw,X5,I,vC]) (by simp [Xz]) (by simp [Xz,bL]) (by simp [ba,bb,bf,br]))⟩
noncomputable def Yw (x y:Rat):Rat:=if x<y then y else x
noncomputable def Yv (x y:Rat):Rat:=if y<x then y else x
theorem oN (x y:Rat) (k:Nat) (hx:qb x≤k) (hy:qb y≤k):qb (Yw x y)≤k:=by unfold Yw; split <;> assumption
theorem oM (x y:Rat) (k:Nat) (hx:qb x≤k) (hy:qb y≤k):qb (Yv x y)≤k:=by unfold Yv; split <;> assumption
theorem LJ (x y:Rat) (hx:qb x≤rm) (hy:qb y≤rm):Fn Tryz.prog 125 [qA x,qA y] (qA (Yw x y)):=by
 have c1:=K0 x y hx hy
 obtain ⟨R,hR⟩:∃ R,R=qA (Yw x y):=⟨_,rfl⟩
 have sR:Settled R:=hR▸Xc _
 rw [← hR]
 refine Fq Tryz.call125 Tryz.func125 5 [] [] [] (by simp [wS]) (X0 1000 ?_); simp (config:={ maxSteps:=2000000 }) only [AS.start,↓X2,wA,seval,wE]
 refine X1 c1 rfl ?_
 by_cases h:x<y
 ·have f1:(Js x y<0)=True:=eq_true ((Ad x y).2 h)
  simp only [f1,↓X2,wA,seval,wE]
  have e:Yw x y=y:=if_pos h
  rw [e] at hR
  exact JD rfl Q8 rfl rfl rfl sR (hR.trans rfl)
 ·have f1:(Js x y<0)=False:=eq_false fun hh=>h ((Ad x y).1 hh)
  simp only [f1,↓X2,wA,seval,wE]
  have e:Yw x y=x:=if_neg h
  rw [e] at hR
  exact JD rfl Q8 rfl rfl rfl sR (hR.trans rfl)
theorem IH (x y:Rat) (hx:qb x≤rm) (hy:qb y≤rm):Fn Tryz.prog 126 [qA x,qA y] (qA (Yv x y)):=by
 have c1:=K0 x y hx hy
 obtain ⟨R,hR⟩:∃ R,R=qA (Yv x y):=⟨_,rfl⟩
 have sR:Settled R:=hR▸Xc _
 rw [← hR]
 refine Fq Tryz.call126 Tryz.func126 5 [] [] [] (by simp [wS]) (X0 1000 ?_); simp (config:={ maxSteps:=2000000 }) only [AS.start,↓X2,wA,seval,wE]
 refine X1 c1 rfl ?_
 by_cases h:y<x
 ·have f1:(0<Js x y)=True:=eq_true ((KW x y).2 h)
  simp only [f1,↓X2,wA,seval,wE]
  have e:Yv x y=y:=if_pos h
  rw [e] at hR
  exact JD rfl Q8 rfl rfl rfl sR (hR.trans rfl)
 ·have f1:(0<Js x y)=False:=eq_false fun hh=>h ((KW x y).1 hh)
  simp only [f1,↓X2,wA,seval,wE]
  have e:Yv x y=x:=if_neg h
  rw [e] at hR
  exact JD rfl Q8 rfl rfl rfl sR (hR.trans rfl)
noncomputable def ek (g:Nat→Rat):Nat→Rat
 | 0=>g 0
 | k+1=>Yw (ek g k) (g (k+1))
noncomputable def e6 (g:Nat→Rat):Nat→Rat
 | 0=>g 0
 | k+1=>Yv (e6 g k) (g (k+1))
theorem Ir (g:Nat→Rat) (c:Nat) (h:∀ k,qb (g k)≤c):∀ n,qb (ek g n)≤c
 | 0=>h 0
 | n+1=>oN _ _ _ (Ir g c h n) (h _)
theorem Iq (g:Nat→Rat) (c:Nat) (h:∀ k,qb (g k)≤c):∀ n,qb (e6 g n)≤c
 | 0=>h 0
 | n+1=>oM _ _ _ (Iq g c h n) (h _)
def AE (a b:List (Int×Int)) (f:FV) (k:Nat):V2 :=
 (JB (a.getD (xK a.length f k) (0,0))).sub (L4 f.turn (JB (b.getD ((f.EB+1 - k) % b.length).toNat (0,0))))
noncomputable def CM (a b:List (Int×Int)) (f:FV) (k:Nat):V2:=⟨ek (fun j=>(AE a b f j).x) k,ek (fun j=>(AE a b f j).y) k⟩
noncomputable def CJ (a b:List (Int×Int)) (f:FV) (k:Nat):V2:=⟨e6 (fun j=>(AE a b f j).x) k,e6 (fun j=>(AE a b f j).y) k⟩
noncomputable def XC (a b:List (Int×Int)) (f:FV) (e:Rat):V2×V2×Bool :=
 if Cr a.length b.length f∧Ga f.turn then
  let lo:=(CM a b f f.M.toNat).sub ⟨e,e⟩
  let hi:=(CJ a b f f.M.toNat).add ⟨e,e⟩
  if hi.x<lo.x∨hi.y<lo.y then (v0,v0,false) else (lo,hi,true)
 else (v0,v0,false)
theorem Kf {R:List (Int×Int)} (h:QV R) (i:Nat):vb (JB (R.getD i (0,0)))≤3:=by
 have:=CP h i
 have q1:=ZA (R.getD i (0,0)).1 3 (by omega) (QA ⟨by omega,by omega⟩)
 have q2:=ZA (R.getD i (0,0)).2 3 (by omega) (QA ⟨by omega,by omega⟩)
 unfold vb JB
 simp only
 omega
theorem Br {a b:List (Int×Int)} (ha:QV a) (hb:QV b) (f:FV) (ht:vb f.turn≤1000) (k:Nat):vb (AE a b f k)≤3000:=by
 have h1:=Kf ha (xK a.length f k)
 have h2:=Kf hb ((f.EB+1 - k) % b.length).toNat
 unfold AE
 have h3:=Eu f.turn (JB (b.getD ((f.EB+1 - k) % b.length).toNat (0,0)))
 have h4:=Kk (JB (a.getD (xK a.length f k) (0,0))) (L4 f.turn (JB (b.getD ((f.EB+1 - k) % b.length).toNat (0,0))))
 omega
theorem FW {a b:List (Int×Int)} (ha:QV a) (hb:QV b) (f:FV) (ht:vb f.turn≤1000) (k:Nat):vb (CM a b f k)≤3000:=by
 have h1:=Ir (fun j=>(AE a b f j).x) 3000 (fun j=>Nat.le_trans (QO _) (Br ha hb f ht j)) k
 have h2:=Ir (fun j=>(AE a b f j).y) 3000 (fun j=>Nat.le_trans (QJ _) (Br ha hb f ht j)) k
 exact Nat.max_le.2 ⟨h1,h2⟩
theorem FT {a b:List (Int×Int)} (ha:QV a) (hb:QV b) (f:FV) (ht:vb f.turn≤1000) (k:Nat):vb (CJ a b f k)≤3000:=by
 have h1:=Iq (fun j=>(AE a b f j).x) 3000 (fun j=>Nat.le_trans (QO _) (Br ha hb f ht j)) k
 have h2:=Iq (fun j=>(AE a b f j).y) 3000 (fun j=>Nat.le_trans (QJ _) (Br ha hb f ht j)) k
 exact Nat.max_le.2 ⟨h1,h2⟩
theorem UA {P:Program} {fn:Func} {str hcs:List Nat} {a b c x y z:AV} {s:AS} {r1 r2 r3:ResultVar} (hr:fn.results=#[r1,r2,r3]) (h1:Jb P s r1=some x) (h2:Jb P s r2=some y) (h3:Jb P s r3=some z) (g1:Jn s.h x a) (g2:Jn s.h y b) (g3:Jn s.h z c) :
  RetOk (J4 P fn str hcs (.tup [a,b,c])) s :=
 ⟨.tup [x,y,z],by simp [Ku,HW,BR,hr,QR,Zf,h1,h2,h3],AA ⟨g1,g2,g3,trivial⟩⟩
def Qf:List AV:=[.bool false,.sl 0 0 (fun _=>.any) true,.bool false,.sl 0 0 (fun _=>.any) true,.bool false,.sl 0 0 (fun _=>.any) true,.bool false,.sl 0 0 (fun _=>.any) true]
noncomputable def Wr (a b:List (Int×Int)) (f:FV):Nat→List AV
 | 0=>Qf
 | k+1=>vC (CM a b f k)
noncomputable def Wj (a b:List (Int×Int)) (f:FV):Nat→List AV
 | 0=>Qf
 | k+1=>vC (CJ a b f k)
theorem D4 (a b:List (Int×Int)) (f:FV):∀ k,∀ x∈Wr a b f k,Settled x
 | 0=>fun x h=>by
  simp only [Wr,Qf,List.mem_cons,List.not_mem_nil,or_false] at h
  rcases h with rfl | rfl | rfl | rfl | rfl | rfl | rfl | rfl <;> first | exact X3 _ | exact QS (fun j hj=>absurd hj (Nat.not_lt_zero j))
 | k+1=>by simp [Wr,vC,X4,X3]
theorem R3 (a b:List (Int×Int)) (f:FV):∀ k,∀ x∈Wj a b f k,Settled x
 | 0=>fun x h=>by
  simp only [Wj,Qf,List.mem_cons,List.not_mem_nil,or_false] at h
  rcases h with rfl | rfl | rfl | rfl | rfl | rfl | rfl | rfl <;> first | exact X3 _ | exact QS (fun j hj=>absurd hj (Nat.not_lt_zero j))
 | k+1=>by simp [Wj,vC,X4,X3]
def yL (m:Nat) (f:FV) (k:Nat):Nat:=((f.EB+1 - k) % m).toNat
theorem gz (m:Nat) (f:FV) (k:Nat) (h:0<m):(f.EB+1 - k) % (m:Int)=(yL m f k:Int):=by
 have:=Int.emod_nonneg (f.EB+1 - k) (show (m:Int)≠0 by omega)
 unfold yL; omega
theorem mB (m:Nat) (f:FV) (k:Nat) (h:0<m):yL m f k<m:=by
 have:=gz m f k h
 have:=Int.emod_lt_of_pos (f.EB+1 - k) (show (0:Int)<m by omega)
 omega
theorem EC (a b:PV) (f:FV) (ha:a.even) (hb:b.even) (ht:vb f.turn≤1000) {ta tb:Rat} (ea:a.tol=RQ.of ta) (eb:b.tol=RQ.of tb) (qa:qb ta≤1000) (q2:qb tb≤1000) :
  Fn Tryz.prog 46 [JM a,JM b,Ap f] (.tup [vA (XC a.rim b.rim f (ta+tb)).1,vA (XC a.rim b.rim f (ta+tb)).2.1,.bool (XC a.rim b.rim f (ta+tb)).2.2]):=by
 have la:=ha.rim; have lb:=hb.rim
 obtain ⟨R,hR⟩:∃ R,R=XC a.rim b.rim f (ta+tb):=⟨_,rfl⟩
 rw [← hR]
 have zret:∀ {s:AS} {i j v w:Nat},s.get 6=.ref i v 0→s.h[i]?=some (.row v 8 (Xn Zq))→s.get 7=.ref j w 0→s.h[j]?=some (.row w 8 (Xn Zq))→s.get 8=.bool false→R=(v0,v0,false)→RetOk (J4 Tryz.prog Tryz.f46 [9,100000005,11,120000015,18,190000012,190000013] [] (.tup [vA R.1,vA R.2.1,.bool R.2.2])) s:=fun h1 h2 h3 h4 h5 h6=>by
  subst h6
  exact UA rfl (Xm Ko h1 h2 rfl) (Xm Ko h3 h4 rfl) (by unfold Jb; rfl) (XG (Xo _) (Qi Cf)) (XG (Xo _) (Qi Cf)) (by rw [h5]; exact (X3 _).sees _)
 have cs:=CF a b f la lb
 have ct:=eZ f.turn (by unfold vm; omega)
 refine Fq Tryz.call46 Tryz.func46 16 [40,41] [9,100000005,11,120000015,18,190000012,190000013] [] (by simp [XI,QX]) (X0 1000 ?_)
 simp only [AS.start,JM,XW,Ap,Qo,↓X2,wA,↓reduceIte,reduceIte,reduceCtorEq,Y1,Y2,Y3,Y4,Y5,Y6,Y7,Y8,Y9,YA,wE]
 refine X1 cs rfl ?_
 by_cases hf:Cr a.rim.length b.rim.length f
 rotate_left
 ·rw [decide_eq_false hf]
  simp only [↓X2,wA,↓reduceIte,reduceIte,reduceCtorEq,Y1,Y2,Y3,Y4,Y5,Y6,Y7,Y8,Y9,YA,wE]
  exact zret rfl rfl rfl rfl rfl (by rw [hR]; unfold XC; rw [if_neg fun h=>hf h.1])
 rw [decide_eq_true hf]
 simp only [↓X2,wA,↓reduceIte,reduceIte,reduceCtorEq,Y1,Y2,Y3,Y4,Y5,Y6,Y7,Y8,Y9,YA,wE]
 refine X1 ct rfl ?_
 by_cases hto:Ga f.turn
 rotate_left
 ·rw [decide_eq_false hto]
  simp only [↓X2,wA,↓reduceIte,reduceIte,reduceCtorEq,Y1,Y2,Y3,Y4,Y5,Y6,Y7,Y8,Y9,YA,wE]
  exact zret rfl rfl rfl rfl rfl (by rw [hR]; unfold XC; rw [if_neg fun h=>hto h.2])
 rw [decide_eq_true hto]
 have hRe:R=if ((CJ a.rim b.rim f f.M.toNat).add ⟨ta+tb,ta+tb⟩).x<((CM a.rim b.rim f f.M.toNat).sub ⟨ta+tb,ta+tb⟩).x∨((CJ a.rim b.rim f f.M.toNat).add ⟨ta+tb,ta+tb⟩).y<((CM a.rim b.rim f f.M.toNat).sub ⟨ta+tb,ta+tb⟩).y then (v0,v0,false) else ((CM a.rim b.rim f f.M.toNat).sub ⟨ta+tb,ta+tb⟩,(CJ a.rim b.rim f f.M.toNat).add ⟨ta+tb,ta+tb⟩,true):=by
  rw [hR]; unfold XC; rw [if_pos ⟨hf,hto⟩]
 clear hR
 obtain ⟨⟨s1,s2⟩,⟨s3,s4⟩,s5,s6,s7⟩:=hf
 obtain ⟨N,hN⟩:∃ N:Nat,f.M=N:=⟨f.M.toNat,by omega⟩
 have hNt:f.M.toNat=N:=by rw [hN]; rfl
 rw [hNt] at hRe
 have r1:=Iy a la (CQ ha.near)
 have r2:=Iy b lb (CQ hb.near)
 have hla:(Xx a.rim).length=a.rim.length:=by simp [Xx]
 have hlb:(Xx b.rim).length=b.rim.length:=by simp [Xx]
 have c3:Fn Tryz.prog 70 [a.tol.A,b.tol.A] (qA (ta+tb)):=by rw [ea,eb]; exact Ae ta tb (by unfold rm; omega) (by unfold rm; omega)
 have qe:=Kt ta tb
 simp only [↓X2,wA,↓reduceIte,reduceIte,reduceCtorEq,Y1,Y2,Y3,Y4,Y5,Y6,Y7,Y8,Y9,YA,wE]
 refine X1 r1 rfl ?_
 simp only [↓X2,wA,↓reduceIte,reduceIte,reduceCtorEq,Y1,Y2,Y3,Y4,Y5,Y6,Y7,Y8,Y9,YA,wE]
 refine X1 r2 rfl ?_
 simp only [↓X2,wA,↓reduceIte,reduceIte,reduceCtorEq,Y1,Y2,Y3,Y4,Y5,Y6,Y7,Y8,Y9,YA,wE]
 refine X1 c3 rfl ?_
 have wM:IntKind.i64.wrap (f.M+1)=((N+1:Nat):Int):=by rw [IntKind.wrap_i64]; omega
 simp only [wM,↓X2,wA,↓reduceIte,reduceIte,reduceCtorEq,Y1,Y2,Y3,Y4,Y5,Y6,Y7,Y8,Y9,YA,wE]
 have ba:XS 8 (.row 0 25 (Xn (XW a)))=True:=eq_true (XM (XE a))
 have bb:XS 8 (.row 0 25 (Xn (XW b)))=True:=eq_true (XM (XE b))
 have bf:XS 8 (.con 0 29 (Xn (Qo f)))=True:=eq_true (fun j _=>X9 (Xg (Qe f) j))
 have bz:XS 8 (.row 0 8 (Xn Qf))=True:=eq_true (XM (D4 a.rim b.rim f 0))
 have be:XS 8 (.row 0 4 (Xn [.bool (decide ((ta+tb).num<0)),X6 (X8 (ta+tb).num.natAbs),.bool false,X6 (X8 (qd (ta+tb)))]))=True:=eq_true (XM (by simp [X4,X3]))
 have bl:∀ k,XS 8 (.row 0 8 (Xn (Wr a.rim b.rim f k)))=True:=fun k=>eq_true (XM (D4 a.rim b.rim f k))
 have bh:∀ k,XS 8 (.row 0 8 (Xn (Wj a.rim b.rim f k)))=True:=fun k=>eq_true (XM (R3 a.rim b.rim f k))
 have bx:Kd 8 (Xs (Xx a.rim))=True:=eq_true (X9 (Xk _))
 have by':Kd 8 (Xs (Xx b.rim))=True:=eq_true (X9 (Xk _))
 refine Xf (fun k:Nat=>⟨16,[40,41],[.any,.any,.any,.ref 0 0 0,.ref 1 0 0,.ref 2 0 0,.ref 3 0 0,.ref 4 0 0,.bool false,Xs (Xx a.rim),Xs (Xx b.rim),.ref 5 0 0,.ref 6 0 0,.ref 7 0 0,.any,.any],[(40,I ((N+1:Nat):Int)),(41,I k)],[.row 0 25 (Xn (XW a)),.row 0 25 (Xn (XW b)),.con 0 29 (Xn (Qo f)),.row 0 8 (Xn Qf),.row 0 8 (Xn Qf),.row 0 4 (Xn [.bool (decide ((ta+tb).num<0)),X6 (X8 (ta+tb).num.natAbs),.bool false,X6 (X8 (qd (ta+tb)))]),.row 0 8 (Xn (Wr a.rim b.rim f k)),.row 0 8 (Xn (Wj a.rim b.rim f k))]⟩) (fun k=>k≤N+1) (fun k=>N+1 - k) 0 (by omega)
  (Sub.trans (Qu 2 rfl) (Xb rfl (by simp [Xh,X7,I]) (by simp [Xi,Xp,I]) (by simp [XW,Qo,Qf,Wr,Wj,Xj,Xw,X5,I]))) ?_
 intro k hk next
 have w1:=wj k (by omega)
 by_cases hk2:k<N+1
 ·have nx:=next (k+1)
  have fk:((k:Int)<((N+1:Nat):Int))=True:=eq_true (by omega)
  have wx:IntKind.i64.wrap (f.EA+(k:Int))=f.EA+(k:Int):=by rw [IntKind.wrap_i64]; omega
  have wy1:IntKind.i64.wrap (f.EB+1)=f.EB+1:=by rw [IntKind.wrap_i64]; omega
  have wy:IntKind.i64.wrap (f.EB+1 - (k:Int))=f.EB+1 - (k:Int):=by rw [IntKind.wrap_i64]; omega
  have c1:=Zu (f.EA+(k:Int)) a.rim.length (by omega) (by omega) (by omega)
  have c2:=Zu (f.EB+1 - (k:Int)) b.rim.length (by omega) (by omega) (by omega)
  rw [Ry _ _ _ (by omega)] at c1
  rw [gz _ _ _ (by omega)] at c2
  have hX:=UW a.rim.length f k (by omega)
  have hY:=mB b.rim.length f k (by omega)
  have vx:=Kf ha.near (xK a.rim.length f k)
  have vy:=Kf hb.near (yL b.rim.length f k)
  have vr:=Eu f.turn (JB (b.rim.getD (yL b.rim.length f k) (0,0)))
  have c3:=In f.turn (JB (b.rim.getD (yL b.rim.length f k) (0,0))) (by unfold vm; omega) (by unfold vm; omega)
  have c4:=AU (JB (a.rim.getD (xK a.rim.length f k) (0,0))) (L4 f.turn (JB (b.rim.getD (yL b.rim.length f k) (0,0)))) (by unfold rm; omega) (by unfold rm; omega)
  rw [show (JB (a.rim.getD (xK a.rim.length f k) (0,0))).sub (L4 f.turn (JB (b.rim.getD (yL b.rim.length f k) (0,0))))=AE a.rim b.rim f k from rfl] at c4
  have hD:=Br ha.near hb.near f ht
  have hL:=FW ha.near hb.near f ht
  have hH:=FT ha.near hb.near f ht
  have v1:=vF (Xx a.rim) (xK a.rim.length f k)
  have v2:=vF (Xx b.rim) (yL b.rim.length f k)
  rw [NB] at v1 v2
  generalize xK a.rim.length f k=X at *
  generalize yL b.rim.length f k=Y at *
  generalize JB (a.rim.getD X (0,0))=PX at *
  generalize JB (b.rim.getD Y (0,0))=PY at *
  generalize L4 f.turn PY=RY at *
  have fX:((X:Int)<a.rim.length)=True:=eq_true (by omega)
  have fX':(X<a.rim.length)=True:=eq_true hX
  have fX8:(X*8+8≤a.rim.length*8)=True:=eq_true (by omega)
  have fY:((Y:Int)<b.rim.length)=True:=eq_true (by omega)
  have fY':(Y<b.rim.length)=True:=eq_true hY
  have fY8:(Y*8+8≤b.rim.length*8)=True:=eq_true (by omega)
  refine X0 1000 ?_
  simp only [Qo,X7,w1,wx,wy1,wy,fk,fX,fX',fX8,fY,fY',fY8,hla,hlb,v1,v2,Int.toNat_natCast,↓X2,wA,↓reduceIte,reduceIte,reduceCtorEq,Y1,Y2,Y3,Y4,Y5,Y6,Y7,Y8,Y9,YA,wE]
  refine X1 c1 rfl ?_
  simp only [Qo,X7,w1,wx,wy1,wy,fk,fX,fX',fX8,fY,fY',fY8,hla,hlb,v1,v2,Int.toNat_natCast,↓X2,wA,↓reduceIte,reduceIte,reduceCtorEq,Y1,Y2,Y3,Y4,Y5,Y6,Y7,Y8,Y9,YA,wE]
  refine X1 c2 rfl ?_
  simp only [Qo,X7,w1,wx,wy1,wy,fk,fX,fX',fX8,fY,fY',fY8,hla,hlb,v1,v2,Int.toNat_natCast,↓X2,wA,↓reduceIte,reduceIte,reduceCtorEq,Y1,Y2,Y3,Y4,Y5,Y6,Y7,Y8,Y9,YA,wE]
  refine X1 c3 rfl ?_
  simp only [Qo,X7,w1,wx,wy1,wy,fk,fX,fX',fX8,fY,fY',fY8,hla,hlb,v1,v2,Int.toNat_natCast,↓X2,wA,↓reduceIte,reduceIte,reduceCtorEq,Y1,Y2,Y3,Y4,Y5,Y6,Y7,Y8,Y9,YA,wE]
  refine X1 c4 rfl ?_
  match k,w1,fk,hk2,nx with
  | 0,w1,fk,hk2,nx =>
   have e0:((0:Nat):Int)=0:=rfl
   have hL0:Wr a.rim b.rim f 1=vC (AE a.rim b.rim f 0):=rfl
   have hH0:Wj a.rim b.rim f 1=vC (AE a.rim b.rim f 0):=rfl
   simp only [Nat.zero_add,hL0,hH0] at nx
   generalize AE a.rim b.rim f 0=D at *
   have w0:IntKind.i64.wrap (0+1)=1:=by decide
   have bD:XS 8 (.row 0 8 (Xn (vC D)))=True:=eq_true (XM (by simp [vC,X4,X3]))
   simp only [Wr,Wj,Qf,e0,w0,↓X2,wA,↓reduceIte,reduceIte,reduceCtorEq,Y1,Y2,Y3,Y4,Y5,Y6,Y7,Y8,Y9,YA,wE]
   exact nx _ (by omega) (by omega) (XA (m:=8) (Nat.zero_le _) rfl (by simp [Xh,X7,hla,hlb,I]) (by simp [Xi,Xp,I]) (by simp [XW,Qo,Qf,Wr,Wj,vC,Xj,Xw,X5,I]) (by simp [Xz,bx,by']) (by simp [Xz]) (by simp [ba,bb,bf,bz,be,bD,bl,bh]))
  | j+1,w1,fk,hk2,nx =>
   have g0:(((j+1:Nat):Int)=0)=False:=eq_false (by omega)
   have g0':((j:Int)+1=0)=False:=eq_false (by omega)
   have g0'':(j+1=0)=False:=eq_false (by omega)
   have bD:=bl 0
   have hl1:Wr a.rim b.rim f (j+1)=vC (CM a.rim b.rim f j):=rfl
   have hh1:Wj a.rim b.rim f (j+1)=vC (CJ a.rim b.rim f j):=rfl
   have hl2:Wr a.rim b.rim f (j+1+1)=vC (CM a.rim b.rim f (j+1)):=rfl
   have hh2:Wj a.rim b.rim f (j+1+1)=vC (CJ a.rim b.rim f (j+1)):=rfl
   have hDj:=hD (j+1); have hLj:=hL j; have hHj:=hH j
   have k1:=LJ (CM a.rim b.rim f j).x (AE a.rim b.rim f (j+1)).x (by have:=QO (CM a.rim b.rim f j); unfold rm; omega) (by have:=QO (AE a.rim b.rim f (j+1)); unfold rm; omega)
   have k2:=LJ (CM a.rim b.rim f j).y (AE a.rim b.rim f (j+1)).y (by have:=QJ (CM a.rim b.rim f j); unfold rm; omega) (by have:=QJ (AE a.rim b.rim f (j+1)); unfold rm; omega)
   have k3:=IH (CJ a.rim b.rim f j).x (AE a.rim b.rim f (j+1)).x (by have:=QO (CJ a.rim b.rim f j); unfold rm; omega) (by have:=QO (AE a.rim b.rim f (j+1)); unfold rm; omega)
   have k4:=IH (CJ a.rim b.rim f j).y (AE a.rim b.rim f (j+1)).y (by have:=QJ (CJ a.rim b.rim f j); unfold rm; omega) (by have:=QJ (AE a.rim b.rim f (j+1)); unfold rm; omega)
   rw [show Yw (CM a.rim b.rim f j).x (AE a.rim b.rim f (j+1)).x=(CM a.rim b.rim f (j+1)).x from rfl] at k1
   rw [show Yw (CM a.rim b.rim f j).y (AE a.rim b.rim f (j+1)).y=(CM a.rim b.rim f (j+1)).y from rfl] at k2
   rw [show Yv (CJ a.rim b.rim f j).x (AE a.rim b.rim f (j+1)).x=(CJ a.rim b.rim f (j+1)).x from rfl] at k3
   rw [show Yv (CJ a.rim b.rim f j).y (AE a.rim b.rim f (j+1)).y=(CJ a.rim b.rim f (j+1)).y from rfl] at k4
   have bl2:=bl (j+1+1); have bh2:=bh (j+1+1)
   simp only [hl2,hh2] at nx bl2 bh2
   rw [hl1,hh1]
   clear hD hL hH
   generalize AE a.rim b.rim f (j+1)=D at *
   generalize CM a.rim b.rim f (j+1)=L2 at *
   generalize CJ a.rim b.rim f (j+1)=H2 at *
   generalize CM a.rim b.rim f j=L1 at *
   generalize CJ a.rim b.rim f j=H1 at *
   simp only [g0,g0',g0'',w1,↓X2,wA,↓reduceIte,reduceIte,reduceCtorEq,Y1,Y2,Y3,Y4,Y5,Y6,Y7,Y8,Y9,YA,wE]
   refine X1 k1 rfl ?_
   simp only [g0,g0',g0'',w1,↓X2,wA,↓reduceIte,reduceIte,reduceCtorEq,Y1,Y2,Y3,Y4,Y5,Y6,Y7,Y8,Y9,YA,wE]
   refine X1 k3 rfl ?_
   simp only [g0,g0',g0'',w1,↓X2,wA,↓reduceIte,reduceIte,reduceCtorEq,Y1,Y2,Y3,Y4,Y5,Y6,Y7,Y8,Y9,YA,wE]
   refine X1 k2 rfl ?_
   simp only [g0,g0',g0'',w1,↓X2,wA,↓reduceIte,reduceIte,reduceCtorEq,Y1,Y2,Y3,Y4,Y5,Y6,Y7,Y8,Y9,YA,wE]
   refine X1 k4 rfl ?_
   simp only [g0,g0',g0'',w1,↓X2,wA,↓reduceIte,reduceIte,reduceCtorEq,Y1,Y2,Y3,Y4,Y5,Y6,Y7,Y8,Y9,YA,wE]
   exact nx _ (by omega) (by omega) (XA (m:=8) (Nat.zero_le _) rfl (by simp [Xh,X7,hla,hlb,I]) (by simp [Xi,Xp,I]) (by simp [XW,Qo,Qf,Wr,Wj,vC,Xj,Xw,X5,I]) (by simp [Xz,bx,by']) (by simp [Xz]) (by simp [ba,bb,bf,bz,be,bD,bl2,bh2]))
 obtain rfl:k=N+1:=by omega
 have hL:=FW ha.near hb.near f ht N
 have hH:=FT ha.near hb.near f ht N
 have hl1:Wr a.rim b.rim f (N+1)=vC (CM a.rim b.rim f N):=rfl
 have hh1:Wj a.rim b.rim f (N+1)=vC (CJ a.rim b.rim f N):=rfl
 rw [hl1,hh1]
 clear bl bh hl1 hh1
 generalize CM a.rim b.rim f N=LO at *
 generalize CJ a.rim b.rim f N=HI at *
 have m0:vb ⟨ta+tb,ta+tb⟩≤2001:=by unfold vb; simp only; omega
 have m1:=Kk LO ⟨ta+tb,ta+tb⟩
 have m2:=Dd HI ⟨ta+tb,ta+tb⟩
 have c1:=AU LO ⟨ta+tb,ta+tb⟩ (by unfold rm; omega) (by unfold rm; omega)
 have c2:=Hd HI ⟨ta+tb,ta+tb⟩ (by unfold vm; omega) (by unfold vm; omega)
 generalize LO.sub ⟨ta+tb,ta+tb⟩=A at *
 generalize HI.add ⟨ta+tb,ta+tb⟩=B at *
 have:=QO A; have:=QJ A; have:=QO B; have:=QJ B
 have q1:=K0 A.x B.x (by unfold rm; omega) (by unfold rm; omega)
 have q2:=K0 A.y B.y (by unfold rm; omega) (by unfold rm; omega)
 refine X0 1000 ?_
 simp only [Qo,Int.lt_irrefl,Nat.lt_irrefl,↓X2,wA,↓reduceIte,reduceIte,reduceCtorEq,Y1,Y2,Y3,Y4,Y5,Y6,Y7,Y8,Y9,YA,wE]
 refine X1 c1 rfl ?_
 simp only [↓X2,wA,↓reduceIte,reduceIte,reduceCtorEq,Y1,Y2,Y3,Y4,Y5,Y6,Y7,Y8,Y9,YA,wE]
 refine X1 c2 rfl ?_
 simp only [↓X2,wA,↓reduceIte,reduceIte,reduceCtorEq,Y1,Y2,Y3,Y4,Y5,Y6,Y7,Y8,Y9,YA,wE]
 refine X1 q1 rfl ?_
 by_cases h1:B.x<A.x
 ·have f1:(0<Js A.x B.x)=True:=eq_true ((KW _ _).2 h1)
  simp only [f1,Qf,↓X2,wA,↓reduceIte,reduceIte,reduceCtorEq,Y1,Y2,Y3,Y4,Y5,Y6,Y7,Y8,Y9,YA,wE]
  exact zret rfl rfl rfl rfl rfl (by rw [hRe,if_pos (.inl h1)])
 have f1:(0<Js A.x B.x)=False:=eq_false fun h=>h1 ((KW _ _).1 h)
 simp only [f1,↓X2,wA,↓reduceIte,reduceIte,reduceCtorEq,Y1,Y2,Y3,Y4,Y5,Y6,Y7,Y8,Y9,YA,wE]
 refine X1 q2 rfl ?_
 by_cases h2:B.y<A.y
 ·have f2:(0<Js A.y B.y)=True:=eq_true ((KW _ _).2 h2)
  simp only [f1,f2,Qf,↓X2,wA,↓reduceIte,reduceIte,reduceCtorEq,Y1,Y2,Y3,Y4,Y5,Y6,Y7,Y8,Y9,YA,wE]
  exact zret rfl rfl rfl rfl rfl (by rw [hRe,if_pos (.inr h2)])
 have f2:(0<Js A.y B.y)=False:=eq_false fun h=>h2 ((KW _ _).1 h)
 simp only [f1,f2,Qf,↓X2,wA,↓reduceIte,reduceIte,reduceCtorEq,Y1,Y2,Y3,Y4,Y5,Y6,Y7,Y8,Y9,YA,wE]
 rw [if_neg fun h=>h.elim h1 h2] at hRe
 subst hRe
 exact UA rfl (Xm Ko rfl rfl rfl) (Xm Ko rfl rfl rfl) (by unfold Jb; rfl) (XG (Xo _) (Qi (Qc (vC A)))) (XG (Xo _) (Qi (Qc (vC B)))) ((X3 _).sees _)
end
end Go.Ab.N
