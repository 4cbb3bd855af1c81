/- Contracts of functions of these chapters, for every argument that fits, and what they need. -/
import Derived.Test.YtefjhgcndhepeaaGreatC8
import Derived.Test.YtefjhgcndhepeaaGreatC7
set_option linter.unusedSimpArgs false
set_option linter.unusedVariables false
open Nat renaming reducePow → Y1, reduceLT → Y2, reduceLeDiff → Y3, reduceEqDiff → Y4, reduceAdd → Y5, reduceMul → Y6, reduceSub → Y7, reduceBEq → Y8, reduceDiv → Y9, reduceMod → YA
namespace Go.Ab.N
open Go Go.RowKit Go.Proofs
noncomputable section
set_option maxRecDepth 10000
set_option maxHeartbeats 4000000
open Classical
structure FV where
 A:Int
 B:Int
 EA:Int
 EB:Int
 M:Int
 turn:V2
 lo:V2
 hi:V2
def Qa (f:FV):List AV:=[I f.A,I f.B,I f.EA,I f.EB,I f.M,.bool (decide (f.turn.x.num<0)),X6 (X9 f.turn.x.num.natAbs),.bool false,X6 (X9 (qd f.turn.x)),.bool (decide (f.turn.y.num<0)),X6 (X9 f.turn.y.num.natAbs),.bool false,X6 (X9 (qd f.turn.y)),
 .bool (decide (f.lo.x.num<0)),X6 (X9 f.lo.x.num.natAbs),.bool false,X6 (X9 (qd f.lo.x)),.bool (decide (f.lo.y.num<0)),X6 (X9 f.lo.y.num.natAbs),.bool false,X6 (X9 (qd f.lo.y)),
 .bool (decide (f.hi.x.num<0)),X6 (X9 f.hi.x.num.natAbs),.bool false,X6 (X9 (qd f.hi.x)),.bool (decide (f.hi.y.num<0)),X6 (X9 f.hi.y.num.natAbs),.bool false,X6 (X9 (qd f.hi.y))]
def KP (f:FV):AV:=.agg (Qa f)
theorem Qd (f:FV):∀ x∈Qa f,Settled x:=by simp [Qa,Xa,X5,X3]
theorem Qk (f:FV):Settled (KP f):=Qj (Qd f)
theorem LR (k:Int) (n:Nat) (h:0<n):(k.tmod n+n).tmod n=k % n:=by
 have h1:=Int.tmod_lt_of_pos k (show (0:Int)<n by omega)
 have h2:-(n:Int)<k.tmod n:=by
  have:=Int.lt_tmod_of_pos k (show (0:Int)<n by omega)
  omega
 rw [Int.tmod_eq_emod_of_nonneg (by omega),Int.add_emod_right]
 have h3:=Int.mul_tdiv_add_tmod k n
 have h4:k % n=(k.tmod n+n*k.tdiv n) % n:=by rw [Int.add_comm]; rw [h3]
 rw [h4,Int.add_mul_emod_self_left]
theorem ZP (k:Int) (n:Nat) (h:0<n) (hk:-1000000000≤k∧k≤1000000000) (hn:n≤1000000000):Fn Tryz.prog 124 [I k,I n] (I (k % n)):=by
 have h1:=Int.tmod_lt_of_pos k (show (0:Int)<n by omega)
 have h2:=Int.lt_tmod_of_pos k (show (0:Int)<n by omega)
 have w1:IntKind.i64.wrap (k.tmod n+n)=k.tmod n+n:=by rw [IntKind.wrap_i64]; omega
 have f1:((n:Int)=0)=False:=eq_false (by omega)
 have f1':(n=0)=False:=eq_false (by omega)
 obtain ⟨R,hR⟩:∃ R,R=k % (n:Int):=⟨_,rfl⟩
 have e:=LR k n h
 rw [← hR] at e ⊢
 refine Fq Tryz.call124 Tryz.func124 5 [] [] [] (by simp [Xa]) (X1 1000 ?_)
 simp only [AS.start,f1,f1',w1,e,↓X2,wA,seval,wE]
 exact Xt rfl rfl (Xa _) rfl
theorem Bv (k:Int) (n:Nat) (h:0<n) (hk:-1000000000≤k∧k≤1000000000) (hn:n≤1000000000):Fn Tryz.prog 129 [I k,I n] (I (k % n)):=by
 have h1:=Int.tmod_lt_of_pos k (show (0:Int)<n by omega)
 have h2:=Int.lt_tmod_of_pos k (show (0:Int)<n by omega)
 have w1:IntKind.i64.wrap (k.tmod n+n)=k.tmod n+n:=by rw [IntKind.wrap_i64]; omega
 have f1:((n:Int)=0)=False:=eq_false (by omega)
 have f1':(n=0)=False:=eq_false (by omega)
 obtain ⟨R,hR⟩:∃ R,R=k % (n:Int):=⟨_,rfl⟩
 have e:=LR k n h
 rw [← hR] at e ⊢
 refine Fq Tryz.call129 Tryz.func129 5 [] [] [] (by simp [Xa]) (X1 1000 ?_)
 simp only [AS.start,f1,f1',w1,e,↓X2,wA,seval,wE]
 exact Xt rfl rfl (Xa _) rfl
def BF (n m:Nat) (f:FV):Prop:=(0≤f.EA∧f.EA<n)∧(0≤f.EB∧f.EB<m)∧1≤f.M∧f.M<n∧f.M<m
theorem D4 (a b:PV) (f:FV) (ha:a.rim.length<1000000) (hb:b.rim.length<1000000):Fn Tryz.prog 122 [Jg a,Jg b,KP f] (.bool (decide (BF a.rim.length b.rim.length f))):=by
 obtain ⟨V,hV⟩:∃ V,V=decide (BF a.rim.length b.rim.length f):=⟨_,rfl⟩
 have fin:∀ {s:AS} {v:Bool},s.get 6=.bool v→v=V→RetOk (QX Tryz.prog Tryz.f122 [] [] (.bool V)) s:=fun h e=>Xt rfl h (X3 _) (by rw [e])
 rw [← hV]
 refine Fq Tryz.call122 Tryz.func122 9 [] [] [] (by simp [XC,Qk]) (X1 1000 ?_)
 by_cases hmn:(b.rim.length:Int)<a.rim.length
 ·have fmn:((b.rim.length:Int)<a.rim.length)=True:=eq_true hmn
  by_cases g0:0≤f.EA
  rotate_left
  ·have f0:(0≤f.EA)=False:=eq_false g0
   simp only [AS.start,Jg,XO,KP,Qa,fmn,if_true,f0,↓X2,wA,seval,wE]
   exact fin rfl (by rw [hV,decide_eq_false fun h=>g0 h.1.1])
  have f0:(0≤f.EA)=True:=eq_true g0
  by_cases g1:f.EA<(a.rim.length:Int)
  rotate_left
  ·have f1:(f.EA<(a.rim.length:Int))=False:=eq_false g1
   simp only [AS.start,Jg,XO,KP,Qa,fmn,if_true,f0,f1,↓X2,wA,seval,wE]
   exact fin rfl (by rw [hV,decide_eq_false fun h=>g1 h.1.2])
  have f1:(f.EA<(a.rim.length:Int))=True:=eq_true g1
  by_cases g2:0≤f.EB
  rotate_left
  ·have f2:(0≤f.EB)=False:=eq_false g2
   simp only [AS.start,Jg,XO,KP,Qa,fmn,if_true,f0,f1,f2,↓X2,wA,seval,wE]
   exact fin rfl (by rw [hV,decide_eq_false fun h=>g2 h.2.1.1])
  have f2:(0≤f.EB)=True:=eq_true g2
  by_cases g3:f.EB<(b.rim.length:Int)
  rotate_left
  ·have f3:(f.EB<(b.rim.length:Int))=False:=eq_false g3
   simp only [AS.start,Jg,XO,KP,Qa,fmn,if_true,f0,f1,f2,f3,↓X2,wA,seval,wE]
   exact fin rfl (by rw [hV,decide_eq_false fun h=>g3 h.2.1.2])
  have f3:(f.EB<(b.rim.length:Int))=True:=eq_true g3
  by_cases g4:1≤f.M
  rotate_left
  ·have f4:(1≤f.M)=False:=eq_false g4
   simp only [AS.start,Jg,XO,KP,Qa,fmn,if_true,f0,f1,f2,f3,f4,↓X2,wA,seval,wE]
   exact fin rfl (by rw [hV,decide_eq_false fun h=>g4 h.2.2.1])
  have f4:(1≤f.M)=True:=eq_true g4
  by_cases g5:f.M<(b.rim.length:Int)
  rotate_left
  ·have f5:(f.M<(b.rim.length:Int))=False:=eq_false g5
   simp only [AS.start,Jg,XO,KP,Qa,fmn,if_true,f0,f1,f2,f3,f4,f5,↓X2,wA,seval,wE]
   exact fin rfl (by rw [hV,decide_eq_false fun h=>g5 h.2.2.2.2])
  have f5:(f.M<(b.rim.length:Int))=True:=eq_true g5
  simp only [AS.start,Jg,XO,KP,Qa,fmn,if_true,f0,f1,f2,f3,f4,f5,↓X2,wA,seval,wE]
  exact fin rfl (by rw [hV,decide_eq_true]; exact ⟨⟨g0,g1⟩,⟨g2,g3⟩,g4,by omega,g5⟩)
 ·have fmn:((b.rim.length:Int)<a.rim.length)=False:=eq_false hmn
  by_cases g0:0≤f.EA
  rotate_left
  ·have f0:(0≤f.EA)=False:=eq_false g0
   simp only [AS.start,Jg,XO,KP,Qa,fmn,if_false,f0,↓X2,wA,seval,wE]
   exact fin rfl (by rw [hV,decide_eq_false fun h=>g0 h.1.1])
  have f0:(0≤f.EA)=True:=eq_true g0
  by_cases g1:f.EA<(a.rim.length:Int)
  rotate_left
  ·have f1:(f.EA<(a.rim.length:Int))=False:=eq_false g1
   simp only [AS.start,Jg,XO,KP,Qa,fmn,if_false,f0,f1,↓X2,wA,seval,wE]
   exact fin rfl (by rw [hV,decide_eq_false fun h=>g1 h.1.2])
  have f1:(f.EA<(a.rim.length:Int))=True:=eq_true g1
  by_cases g2:0≤f.EB
  rotate_left
  ·have f2:(0≤f.EB)=False:=eq_false g2
   simp only [AS.start,Jg,XO,KP,Qa,fmn,if_false,f0,f1,f2,↓X2,wA,seval,wE]
   exact fin rfl (by rw [hV,decide_eq_false fun h=>g2 h.2.1.1])
  have f2:(0≤f.EB)=True:=eq_true g2
  by_cases g3:f.EB<(b.rim.length:Int)
  rotate_left
  ·have f3:(f.EB<(b.rim.length:Int))=False:=eq_false g3
   simp only [AS.start,Jg,XO,KP,Qa,fmn,if_false,f0,f1,f2,f3,↓X2,wA,seval,wE]
   exact fin rfl (by rw [hV,decide_eq_false fun h=>g3 h.2.1.2])
  have f3:(f.EB<(b.rim.length:Int))=True:=eq_true g3
  by_cases g4:1≤f.M
  rotate_left
  ·have f4:(1≤f.M)=False:=eq_false g4
   simp only [AS.start,Jg,XO,KP,Qa,fmn,if_false,f0,f1,f2,f3,f4,↓X2,wA,seval,wE]
   exact fin rfl (by rw [hV,decide_eq_false fun h=>g4 h.2.2.1])
  have f4:(1≤f.M)=True:=eq_true g4
  by_cases g5:f.M<(a.rim.length:Int)
  rotate_left
  ·have f5:(f.M<(a.rim.length:Int))=False:=eq_false g5
   simp only [AS.start,Jg,XO,KP,Qa,fmn,if_false,f0,f1,f2,f3,f4,f5,↓X2,wA,seval,wE]
   exact fin rfl (by rw [hV,decide_eq_false fun h=>g5 h.2.2.2.1])
  have f5:(f.M<(a.rim.length:Int))=True:=eq_true g5
  simp only [AS.start,Jg,XO,KP,Qa,fmn,if_false,f0,f1,f2,f3,f4,f5,↓X2,wA,seval,wE]
  exact fin rfl (by rw [hV,decide_eq_true]; exact ⟨⟨g0,g1⟩,⟨g2,g3⟩,g4,g5,by omega⟩)
theorem PQ (a b:PV) (f:FV) (ha:a.rim.length<1000000) (hb:b.rim.length<1000000):Fn Tryz.prog 127 [Jg a,Jg b,KP f] (.bool (decide (BF a.rim.length b.rim.length f))):=by
 obtain ⟨V,hV⟩:∃ V,V=decide (BF a.rim.length b.rim.length f):=⟨_,rfl⟩
 have fin:∀ {s:AS} {v:Bool},s.get 6=.bool v→v=V→RetOk (QX Tryz.prog Tryz.f127 [] [] (.bool V)) s:=fun h e=>Xt rfl h (X3 _) (by rw [e])
 rw [← hV]
 refine Fq Tryz.call127 Tryz.func127 9 [] [] [] (by simp [XC,Qk]) (X1 1000 ?_)
 by_cases g0:0≤f.EA
 rotate_left
 ·have f0:(0≤f.EA)=False:=eq_false g0
  simp only [AS.start,Jg,XO,KP,Qa,f0,↓X2,wA,seval,wE]
  exact fin rfl (by rw [hV,decide_eq_false fun h=>g0 h.1.1])
 have f0:(0≤f.EA)=True:=eq_true g0
 by_cases g1:f.EA<(a.rim.length:Int)
 rotate_left
 ·have f1:(f.EA<(a.rim.length:Int))=False:=eq_false g1
  simp only [AS.start,Jg,XO,KP,Qa,f0,f1,↓X2,wA,seval,wE]
  exact fin rfl (by rw [hV,decide_eq_false fun h=>g1 h.1.2])
 have f1:(f.EA<(a.rim.length:Int))=True:=eq_true g1
 by_cases g2:0≤f.EB
 rotate_left
 ·have f2:(0≤f.EB)=False:=eq_false g2
  simp only [AS.start,Jg,XO,KP,Qa,f0,f1,f2,↓X2,wA,seval,wE]
  exact fin rfl (by rw [hV,decide_eq_false fun h=>g2 h.2.1.1])
 have f2:(0≤f.EB)=True:=eq_true g2
 by_cases g3:f.EB<(b.rim.length:Int)
 rotate_left
 ·have f3:(f.EB<(b.rim.length:Int))=False:=eq_false g3
  simp only [AS.start,Jg,XO,KP,Qa,f0,f1,f2,f3,↓X2,wA,seval,wE]
  exact fin rfl (by rw [hV,decide_eq_false fun h=>g3 h.2.1.2])
 have f3:(f.EB<(b.rim.length:Int))=True:=eq_true g3
 by_cases g4:1≤f.M
 rotate_left
 ·have f4:(1≤f.M)=False:=eq_false g4
  simp only [AS.start,Jg,XO,KP,Qa,f0,f1,f2,f3,f4,↓X2,wA,seval,wE]
  exact fin rfl (by rw [hV,decide_eq_false fun h=>g4 h.2.2.1])
 have f4:(1≤f.M)=True:=eq_true g4
 by_cases g5:f.M<(a.rim.length:Int)
 rotate_left
 ·have f5:(f.M<(a.rim.length:Int))=False:=eq_false g5
  simp only [AS.start,Jg,XO,KP,Qa,f0,f1,f2,f3,f4,f5,↓X2,wA,seval,wE]
  exact fin rfl (by rw [hV,decide_eq_false fun h=>g5 h.2.2.2.1])
 have f5:(f.M<(a.rim.length:Int))=True:=eq_true g5
 by_cases g6:f.M<(b.rim.length:Int)
 rotate_left
 ·have f6:(f.M<(b.rim.length:Int))=False:=eq_false g6
  simp only [AS.start,Jg,XO,KP,Qa,f0,f1,f2,f3,f4,f5,f6,↓X2,wA,seval,wE]
  exact fin rfl (by rw [hV,decide_eq_false fun h=>g6 h.2.2.2.2])
 have f6:(f.M<(b.rim.length:Int))=True:=eq_true g6
 simp only [AS.start,Jg,XO,KP,Qa,f0,f1,f2,f3,f4,f5,f6,↓X2,wA,seval,wE]
 exact fin rfl (by rw [hV,decide_eq_true]; exact ⟨⟨g0,g1⟩,⟨g2,g3⟩,g4,g5,g6⟩)
def FT (R:List (Int×Int)) (k:Nat):Int×Int:=((R.getD ((k+1) % R.length) (0,0)).1 - (R.getD k (0,0)).1,(R.getD ((k+1) % R.length) (0,0)).2 - (R.getD k (0,0)).2)
def Zq (R:List (Int×Int)) (k:Nat):V2:=(JY (R.getD ((k+1) % R.length) (0,0))).sub (JY (R.getD k (0,0)))
def RP (R:List (Int×Int)) (k:Nat):Int:=(FT R k).1*(FT R k).1+(FT R k).2*(FT R k).2
theorem SN (R:List (Int×Int)) (k:Nat):Zq R k=⟨((FT R k).1:Rat),((FT R k).2:Rat)⟩:=by
 unfold Zq FT V2.sub JY
 simp only [Rat.intCast_sub]
def QP (R:List (Int×Int)):Prop:=∀ c∈R,(-65536≤c.1∧c.1≤65536)∧(-65536≤c.2∧c.2≤65536)
theorem Dd {R:List (Int×Int)} (h:QP R) (i:Nat):(-65536≤(R.getD i (0,0)).1∧(R.getD i (0,0)).1≤65536)∧(-65536≤(R.getD i (0,0)).2∧(R.getD i (0,0)).2≤65536):=by
 rw [List.getD_eq_getElem?_getD]
 cases hx:R[i]? with
 | none=>exact ⟨⟨by decide,by decide⟩,⟨by decide,by decide⟩⟩
 | some c=>exact h c (List.mem_of_getElem? hx)
theorem AL {R:List (Int×Int)} (h:QP R):∀ i,i<R.length→Iy (R.getD i (0,0))=true:=fun i _=>by
 have:=Dd h i
 unfold Iy wb
 simp only [Bool.and_eq_true,decide_eq_true_eq]
 omega
theorem CY {R:List (Int×Int)} (h:QP R) (k:Nat):(-131072≤(FT R k).1∧(FT R k).1≤131072)∧(-131072≤(FT R k).2∧(FT R k).2≤131072):=by
 have h1:=Dd h k
 have h2:=Dd h ((k+1) % R.length)
 unfold FT
 simp only
 omega
theorem Zh {R:List (Int×Int)} (h:QP R) (k:Nat):vb (Zq R k)≤3:=by
 have:=CY h k
 rw [SN]
 have q1:=KC (FT R k).1 3 (by omega) (Qm ⟨by omega,by omega⟩)
 have q2:=KC (FT R k).2 3 (by omega) (Qm ⟨by omega,by omega⟩)
 unfold vb
 simp only
 omega
theorem PH (p:PV) (k:Nat) (hk:k<p.rim.length) (hl:p.rim.length<1000000) (hn:QP p.rim):Fn Tryz.prog 121 [Jg p,I k] (.tup [I (FT p.rim k).1,I (FT p.rim k).2]):=by
 obtain ⟨D,hD⟩:∃ D,D=FT p.rim k:=⟨_,rfl⟩
 have h0:=CY hn k
 rw [← hD] at h0 ⊢
 have hD1:(p.rim.getD ((k+1) % p.rim.length) (0,0)).1 - (p.rim.getD k (0,0)).1=D.1:=by rw [hD]; rfl
 have hD2:(p.rim.getD ((k+1) % p.rim.length) (0,0)).2 - (p.rim.getD k (0,0)).2=D.2:=by rw [hD]; rfl
 have f0:((p.rim.length:Int)=0)=False:=eq_false (by omega)
 have f0':(p.rim.length=0)=False:=eq_false (by omega)
 have r1:(k:Int).tmod p.rim.length=(k:Int):=by rw [show (k:Int).tmod p.rim.length=((k % p.rim.length:Nat):Int) from rfl,Nat.mod_eq_of_lt hk]
 have w1:IntKind.i64.wrap ((k:Int)+p.rim.length)=((k+p.rim.length:Nat):Int):=by rw [IntKind.wrap_i64]; omega
 have r2:((k+p.rim.length:Nat):Int).tmod p.rim.length=(k:Int):=by rw [show ((k+p.rim.length:Nat):Int).tmod p.rim.length=(((k+p.rim.length) % p.rim.length:Nat):Int) from rfl,Nat.add_mod_right,Nat.mod_eq_of_lt hk]
 have w2:=wj k (by omega)
 have r3:((k+1:Nat):Int).tmod p.rim.length=(((k+1) % p.rim.length:Nat):Int):=rfl
 have hm:(k+1) % p.rim.length<p.rim.length:=Nat.mod_lt _ (by omega)
 obtain ⟨m,hme⟩:∃ m,m=(k+1) % p.rim.length:=⟨_,rfl⟩
 rw [← hme] at hD1 hD2 r3 hm
 have f1:((k:Int)<p.rim.length)=True:=eq_true (by omega)
 have f2:(k<p.rim.length)=True:=eq_true hk
 have f3:((m:Int)<p.rim.length)=True:=eq_true (by omega)
 have f4:(m<p.rim.length)=True:=eq_true hm
 have f5:(k*2+2≤p.rim.length*2)=True:=eq_true (by omega)
 have f6:(m*2+2≤p.rim.length*2)=True:=eq_true (by omega)
 have v1:=ls p.rim k
 have v2:=ls p.rim m
 have w3:IntKind.i64.wrap D.1=D.1:=by rw [IntKind.wrap_i64]; omega
 have w4:IntKind.i64.wrap D.2=D.2:=by rw [IntKind.wrap_i64]; omega
 refine Fq Tryz.call121 Tryz.func121 9 [] [3,40000002] [] (by simp [XC,Xa]) (X1 1000 ?_)
 simp only [AS.start,Jg,XO,f0,f0',f1,f2,f3,f4,f5,f6,r1,r2,r3,w1,w2,w3,w4,v1,v2,hD1,hD2,Int.toNat_natCast,↓X2,wA,seval,wE]
 exact PZ rfl rfl rfl (Xa _) (Xa _) rfl rfl
theorem Fl (p:PV) (k:Nat) (hk:k<p.rim.length) (hl:p.rim.length<1000000) (hn:QP p.rim):Fn Tryz.prog 45 [Jg p,I k] (vA (Zq p.rim k)):=by
 have c1:=PH p k hk hl hn
 have h0:=CY hn k
 rw [SN]
 generalize FT p.rim k=D at *
 have c2:=Gg D.1 D.2 ⟨by omega,by omega⟩ ⟨by omega,by omega⟩
 obtain ⟨R,hR⟩:∃ R,R=vA ⟨(D.1:Rat),(D.2:Rat)⟩:=⟨_,rfl⟩
 have sR:Settled R:=hR▸Xm _
 rw [← hR]
 refine Fq Tryz.call45 Tryz.func45 5 [] [] [] (by simp [XC,Xa]) (X1 1000 ?_)
 simp only [AS.start,Jg,XO,↓X2,wA,seval,wE]
 refine X0 c1 rfl ?_
 simp only [↓X2,wA,seval,wE]
 refine X0 c2 rfl ?_
 simp only [↓X2,wA,seval,wE]
 exact ZD rfl JD rfl rfl rfl sR (hR.trans rfl)
theorem EC (p:PV) (k:Nat) (hk:k<p.rim.length) (hl:p.rim.length<1000000) (hn:QP p.rim):Fn Tryz.prog 113 [Jg p,I k] (I (RP p.rim k)):=by
 have c1:=PH p k hk hl hn
 have h0:=CY hn k
 unfold RP
 generalize FT p.rim k=D at *
 have b1:D.1*D.1≤131072*131072:=by
  rcases Int.le_total 0 D.1 with h | h
  ·exact Int.mul_le_mul h0.1.2 h0.1.2 h (by omega)
  ·have:=Int.mul_le_mul (show -D.1≤131072 by omega) (show -D.1≤131072 by omega) (by omega) (by omega)
   rwa [Int.neg_mul_neg] at this
 have b2:D.2*D.2≤131072*131072:=by
  rcases Int.le_total 0 D.2 with h | h
  ·exact Int.mul_le_mul h0.2.2 h0.2.2 h (by omega)
  ·have:=Int.mul_le_mul (show -D.2≤131072 by omega) (show -D.2≤131072 by omega) (by omega) (by omega)
   rwa [Int.neg_mul_neg] at this
 have b3:0≤D.1*D.1:=by
  rcases Int.le_total 0 D.1 with h | h
  ·exact Int.mul_nonneg h h
  ·exact Int.mul_nonneg_of_nonpos_of_nonpos h h
 have b4:0≤D.2*D.2:=by
  rcases Int.le_total 0 D.2 with h | h
  ·exact Int.mul_nonneg h h
  ·exact Int.mul_nonneg_of_nonpos_of_nonpos h h
 have w1:IntKind.i64.wrap (D.1*D.1)=D.1*D.1:=by rw [IntKind.wrap_i64]; omega
 have w2:IntKind.i64.wrap (D.2*D.2)=D.2*D.2:=by rw [IntKind.wrap_i64]; omega
 have w3:IntKind.i64.wrap (D.1*D.1+D.2*D.2)=D.1*D.1+D.2*D.2:=by rw [IntKind.wrap_i64]; omega
 refine Fq Tryz.call113 Tryz.func113 7 [] [] [] (by simp [XC,Xa]) (X1 1000 ?_)
 simp only [AS.start,Jg,XO,↓X2,wA,seval,wE]
 refine X0 c1 rfl ?_
 simp only [w1,w2,w3,↓X2,wA,seval,wE]
 exact Xt rfl rfl (Xa _) rfl
theorem FB (R:List (Int×Int)) (i:Nat):(Xy R).getD i v0=JY (R.getD i (0,0)):=by
 unfold Xy
 rw [List.getD_eq_getElem?_getD,List.getD_eq_getElem?_getD,List.getElem?_map]
 cases R[i]? with
 | none=>show v0=JY (0,0); unfold v0 JY; simp
 | some c=>rfl
theorem PP (p:PV) (k:Nat) (hk:k<p.rim.length) (hl:p.rim.length<1000000) (hn:QP p.rim):Fn Tryz.prog 115 [Jg p,I k] (vA (Zq p.rim k)):=by
 have cr:=Fz p hl (AL hn)
 have hlen:(Xy p.rim).length=p.rim.length:=by simp [Xy]
 have hs:=GN (AL hn)
 have hm:(k+1) % p.rim.length<p.rim.length:=Nat.mod_lt _ (by omega)
 have cs:=JU ((Xy p.rim).getD ((k+1) % p.rim.length) v0) ((Xy p.rim).getD k v0) (by have:=hs ((k+1) % p.rim.length); unfold rm; omega) (by have:=hs k; unfold rm; omega)
 rw [show ((Xy p.rim).getD ((k+1) % p.rim.length) v0).sub ((Xy p.rim).getD k v0)=Zq p.rim k by rw [FB,FB]; rfl] at cs
 obtain ⟨R,hR⟩:∃ R,R=vA (Zq p.rim k):=⟨_,rfl⟩
 have sR:Settled R:=hR▸Xm _
 rw [← hR] at cs ⊢
 have w2:=wj k (by omega)
 have f0:((p.rim.length:Int)=0)=False:=eq_false (by omega)
 have f0':(p.rim.length=0)=False:=eq_false (by omega)
 have r3:((k+1:Nat):Int).tmod p.rim.length=(((k+1) % p.rim.length:Nat):Int):=rfl
 have v1:=vF (Xy p.rim) k
 have v2:=vF (Xy p.rim) ((k+1) % p.rim.length)
 generalize (k+1) % p.rim.length=m at *
 have f1:((k:Int)<p.rim.length)=True:=eq_true (by omega)
 have f2:(k<p.rim.length)=True:=eq_true hk
 have f3:((m:Int)<p.rim.length)=True:=eq_true (by omega)
 have f4:(m<p.rim.length)=True:=eq_true hm
 have f5:(k*8+8≤p.rim.length*8)=True:=eq_true (by omega)
 have f6:(m*8+8≤p.rim.length*8)=True:=eq_true (by omega)
 refine Fq Tryz.call115 Tryz.func115 6 [] [2] [] (by simp [XC,Xa]) (X1 1000 ?_)
 simp only [AS.start,Jg,XO,↓X2,wA,seval,wE]
 refine X0 cr rfl ?_
 simp only [X7,hlen,f0,f0',f1,f2,f3,f4,f5,f6,w2,r3,v1,v2,Int.toNat_natCast,↓X2,wA,seval,wE]
 refine X0 cs rfl ?_
 simp only [hR,↓X2,wA,seval,wE]
 exact ZD rfl JD rfl rfl rfl sR (hR.trans rfl)
def Z2 (a:V2):V2:=⟨-a.x,-a.y⟩
theorem TF (a:V2):vb (Z2 a)=vb a:=by
 unfold vb Z2
 simp only [NG]
theorem Yv (a:V2):a.scale (-1)=Z2 a:=by
 unfold V2.scale Z2
 rw [V2.ext']
 exact ⟨by simp only; grind,by simp only; grind⟩
theorem gG (a:V2):v0.sub a=Z2 a:=by
 unfold V2.sub Z2 v0
 rw [V2.ext']
 exact ⟨by simp only; grind,by simp only; grind⟩
theorem jW (a:V2):XR (Z2 a) (Z2 a)=XR a a:=by unfold XR Z2; grind
theorem Ud (R:List (Int×Int)) (k:Nat):XR (Zq R k) (Zq R k)=(RP R k:Rat):=by
 rw [SN]
 unfold XR RP
 simp only [Rat.intCast_add,Rat.intCast_mul]
theorem Ca (t:Bool):WeakL [.bool false,.sl 0 0 (fun _=>.any) t,.bool false,.sl 0 0 (fun _=>.any) t,.bool false,.sl 0 0 (fun _=>.any) t,.bool false,.sl 0 0 (fun _=>.any) t] (vC v0) :=
 have h1:X9 (0:Rat).num.natAbs=[]:=by rw [Rat.zero_num]; simp [XX]
 have h2:X9 (qd (0:Rat))=[]:=Dh rfl
 ⟨Weak.rfl' _,Qz h1,Weak.rfl' _,Qz h2,Weak.rfl' _,Qz h1,Weak.rfl' _,Qz h2,trivial⟩
def Nu (n m:Nat) (i j:Int):Prop:=(0≤i∧i<n)∧0≤j∧j<m
noncomputable def XU (a b:List (Int×Int)) (i j:Int):V2×Bool :=
 if Nu a.length b.length i j then ((QF (Z2 (Zq b j.toNat)) (Zq a i.toNat)).1,decide ((QF (Z2 (Zq b j.toNat)) (Zq a i.toNat)).2=0)) else (v0,false)
theorem EU (a b:V2) (h:XR a a≠XR b b):(QF a b).1=v0∧(QF a b).2≠0:=by
 unfold QF
 by_cases h0:XR a a=0∨XR b b=0
 ·rw [if_pos h0]; exact ⟨rfl,by decide⟩
 ·rw [if_neg h0,if_neg h]; exact ⟨rfl,by decide⟩
theorem gI (a b:V2) (k:Nat) (ha:vb a≤k) (hb:vb b≤k):vb (QF a b).1≤8*k+2:=by
 have q0:=ZA
 have z:vb v0≤8*k+2:=by unfold vb v0; simp only; omega
 have q1:=ZX a a; have q3:=ZX a b; have q4:=C4 a b
 have d1:=fO (XR a b) (XR a a); have d2:=fO (Q2 a b) (XR a a)
 unfold QF
 by_cases h0:XR a a=0∨XR b b=0
 ·rw [if_pos h0]; exact z
 ·rw [if_neg h0]
  by_cases h1:XR a a=XR b b
  ·rw [if_pos h1]
   show max (qb (XR a b / XR a a)) (qb (Q2 a b / XR a a))≤_
   omega
  ·rw [if_neg h1]; exact z
theorem Aq {a b:List (Int×Int)} (ha:QP a) (hb:QP b) (i j:Int):vb (XU a b i j).1≤26:=by
 unfold XU
 by_cases h:Nu a.length b.length i j
 ·rw [if_pos h]
  exact gI _ _ 3 (by rw [TF]; exact Zh hb _) (Zh ha _)
 ·rw [if_neg h]
  have q0:=ZA
  unfold vb v0; simp only; omega
theorem AM (a b:PV) (i j:Int) (hla:a.rim.length<1000000) (hlb:b.rim.length<1000000) (na:QP a.rim) (nb:QP b.rim):Fn Tryz.prog 39 [Jg a,Jg b,I i,I j] (.tup [vA (XU a.rim b.rim i j).1,.bool (XU a.rim b.rim i j).2]):=by
 obtain ⟨R,hR⟩:∃ R,R=XU a.rim b.rim i j:=⟨_,rfl⟩
 rw [← hR]
 have zret:∀ {s:AS} {ver id':Nat},s.get 8=.ref id' ver 0→s.h[id']?=some (.row ver 8 (Xo KR))→s.get 9=.bool false→R=(v0,false)→RetOk (QX Tryz.prog Tryz.f39 [3,40000004,40000005] [] (.tup [vA R.1,.bool R.2])) s:=fun h1 h2 h3 h4=>by
  subst h4
  exact Js rfl (Xn D9 h1 h2 rfl) (by unfold QR; rfl) (Xu (Xm _) (XT ZI)) (by rw [h3]; exact (X3 _).sees _)
 refine Fq Tryz.call39 Tryz.func39 12 [] [3,40000004,40000005] [] (by simp [XC,Xa]) (X1 1000 ?_)
 by_cases g0:i<0
 ·have f0:(i<0)=True:=eq_true g0
  simp only [AS.start,Jg,XO,f0,↓X2,wA,seval,wE]
  exact zret rfl rfl rfl (by rw [hR]; unfold XU; rw [if_neg (by unfold Nu; omega)])
 have f0:(i<0)=False:=eq_false g0
 by_cases g1:(a.rim.length:Int)≤i
 ·have f1:((a.rim.length:Int)≤i)=True:=eq_true g1
  simp only [AS.start,Jg,XO,f0,f1,↓X2,wA,seval,wE]
  exact zret rfl rfl rfl (by rw [hR]; unfold XU; rw [if_neg (by unfold Nu; omega)])
 have f1:((a.rim.length:Int)≤i)=False:=eq_false g1
 by_cases g2:j<0
 ·have f2:(j<0)=True:=eq_true g2
  simp only [AS.start,Jg,XO,f0,f1,f2,↓X2,wA,seval,wE]
  exact zret rfl rfl rfl (by rw [hR]; unfold XU; rw [if_neg (by unfold Nu; omega)])
 have f2:(j<0)=False:=eq_false g2
 by_cases g3:(b.rim.length:Int)≤j
 ·have f3:((b.rim.length:Int)≤j)=True:=eq_true g3
  simp only [AS.start,Jg,XO,f0,f1,f2,f3,↓X2,wA,seval,wE]
  exact zret rfl rfl rfl (by rw [hR]; unfold XU; rw [if_neg (by unfold Nu; omega)])
 have f3:((b.rim.length:Int)≤j)=False:=eq_false g3
 obtain ⟨i,rfl⟩:∃ n:Nat,i=n:=⟨i.toNat,by omega⟩
 obtain ⟨j,rfl⟩:∃ n:Nat,j=n:=⟨j.toNat,by omega⟩
 have hin:Nu a.rim.length b.rim.length i j:=by unfold Nu; omega
 have hR1:R=((QF (Z2 (Zq b.rim j)) (Zq a.rim i)).1,decide ((QF (Z2 (Zq b.rim j)) (Zq a.rim i)).2=0)):=by rw [hR]; unfold XU; rw [if_pos hin]; rfl
 have s1:=EC a i (by omega) hla na
 have s2:=EC b j (by omega) hlb nb
 simp only [AS.start,Jg,XO,f0,f1,f2,f3,↓X2,wA,seval,wE]
 refine X0 s1 rfl ?_
 simp only [f0,f1,f2,f3,↓X2,wA,seval,wE]
 refine X0 s2 rfl ?_
 by_cases hs:RP a.rim i=RP b.rim j
 rotate_left
 ·have fs:(RP a.rim i=RP b.rim j)=False:=eq_false hs
  simp only [fs,↓X2,wA,seval,wE]
  refine zret rfl rfl rfl ?_
  have hd:=EU (Z2 (Zq b.rim j)) (Zq a.rim i) (by rw [jW,Ud,Ud]; exact fun h=>hs (Rat.intCast_inj.1 h).symm)
  rw [hR1,hd.1,decide_eq_false hd.2]
 have fs:(RP a.rim i=RP b.rim j)=True:=eq_true hs
 have e1:=Fl b j (by omega) hlb nb
 have e2:=Fl a i (by omega) hla na
 have k1:=Zh nb j; have k2:=Zh na i
 have o1:=EH (-1) 1 ⟨by omega,by omega⟩ ⟨by omega,by omega⟩
 rw [show Rat.divInt (-1) 1 = -1 by decide +kernel] at o1
 have o2:=MB (Zq b.rim j) (-1) (by unfold vm; omega) (by have:=AQ (-1) 1 ⟨by omega,by omega⟩ ⟨by omega,by omega⟩; rw [show Rat.divInt (-1) 1 = -1 by decide +kernel] at this; unfold vm; omega)
 rw [Yv] at o2
 have o3:=Yb (Z2 (Zq b.rim j)) (Zq a.rim i) (by rw [TF]; omega) (by omega)
 generalize QF (Z2 (Zq b.rim j)) (Zq a.rim i)=X at *
 simp only [fs,↓X2,wA,seval,wE]
 refine X0 e1 rfl ?_
 simp only [↓X2,wA,seval,wE]
 refine X0 o1 rfl ?_
 simp only [↓X2,wA,seval,wE]
 refine X0 o2 rfl ?_
 simp only [↓X2,wA,seval,wE]
 refine X0 e2 rfl ?_
 simp only [↓X2,wA,seval,wE]
 refine X0 o3 rfl ?_
 simp only [↓X2,wA,seval,wE]
 subst hR1
 exact Js rfl (Xn D9 rfl rfl rfl) (by unfold QR; rfl) (Xu (Xm _) (XT (XY (vC X.1)))) ((X3 _).sees _)
theorem IC (a b:PV) (i j:Int) (hla:a.rim.length<1000000) (hlb:b.rim.length<1000000) (na:QP a.rim) (nb:QP b.rim):Fn Tryz.prog 40 [Jg a,Jg b,I i,I j] (.tup [vA (XU a.rim b.rim i j).1,.bool (XU a.rim b.rim i j).2]):=by
 obtain ⟨R,hR⟩:∃ R,R=XU a.rim b.rim i j:=⟨_,rfl⟩
 rw [← hR]
 have zret:∀ {s:AS} {ver id':Nat},s.get 8=.ref id' ver 0→s.h[id']?=some (.row ver 8 (Xo KR))→s.get 9=.bool false→R=(v0,false)→RetOk (QX Tryz.prog Tryz.f40 [] [] (.tup [vA R.1,.bool R.2])) s:=fun h1 h2 h3 h4=>by
  subst h4
  exact Js rfl (Xn D9 h1 h2 rfl) (by unfold QR; rfl) (Xu (Xm _) (XT ZI)) (by rw [h3]; exact (X3 _).sees _)
 refine Fq Tryz.call40 Tryz.func40 14 [] [] [] (by simp [XC,Xa]) (X1 1000 ?_)
 by_cases g0:i<0
 ·have f0:(i<0)=True:=eq_true g0
  simp only [AS.start,Jg,XO,f0,↓X2,wA,seval,wE]
  exact zret rfl rfl rfl (by rw [hR]; unfold XU; rw [if_neg (by unfold Nu; omega)])
 have f0:(i<0)=False:=eq_false g0
 by_cases g1:(a.rim.length:Int)≤i
 ·have f1:((a.rim.length:Int)≤i)=True:=eq_true g1
  simp only [AS.start,Jg,XO,f0,f1,↓X2,wA,seval,wE]
  exact zret rfl rfl rfl (by rw [hR]; unfold XU; rw [if_neg (by unfold Nu; omega)])
 have f1:((a.rim.length:Int)≤i)=False:=eq_false g1
 by_cases g2:j<0
 ·have f2:(j<0)=True:=eq_true g2
  simp only [AS.start,Jg,XO,f0,f1,f2,↓X2,wA,seval,wE]
  exact zret rfl rfl rfl (by rw [hR]; unfold XU; rw [if_neg (by unfold Nu; omega)])
 have f2:(j<0)=False:=eq_false g2
 by_cases g3:(b.rim.length:Int)≤j
 ·have f3:((b.rim.length:Int)≤j)=True:=eq_true g3
  simp only [AS.start,Jg,XO,f0,f1,f2,f3,↓X2,wA,seval,wE]
  exact zret rfl rfl rfl (by rw [hR]; unfold XU; rw [if_neg (by unfold Nu; omega)])
 have f3:((b.rim.length:Int)≤j)=False:=eq_false g3
 obtain ⟨i,rfl⟩:∃ n:Nat,i=n:=⟨i.toNat,by omega⟩
 obtain ⟨j,rfl⟩:∃ n:Nat,j=n:=⟨j.toNat,by omega⟩
 have hin:Nu a.rim.length b.rim.length i j:=by unfold Nu; omega
 have hR1:R=((QF (Z2 (Zq b.rim j)) (Zq a.rim i)).1,decide ((QF (Z2 (Zq b.rim j)) (Zq a.rim i)).2=0)):=by rw [hR]; unfold XU; rw [if_pos hin]; rfl
 have e1:=PP b j (by omega) hlb nb
 have e2:=PP a i (by omega) hla na
 have k1:=Zh nb j; have k2:=Zh na i
 have o2:=JU v0 (Zq b.rim j) (by have:=ZA; unfold vb v0 rm; simp only; omega) (by unfold rm; omega)
 rw [gG] at o2
 have o3:=NI (Z2 (Zq b.rim j)) (Zq a.rim i) (by rw [TF]; omega) (by omega)
 generalize QF (Z2 (Zq b.rim j)) (Zq a.rim i)=X at *
 simp only [AS.start,Jg,XO,f0,f1,f2,f3,↓X2,wA,seval,wE]
 refine X0 e2 rfl ?_
 simp only [↓X2,wA,seval,wE]
 refine X0 e1 rfl ?_
 simp only [↓X2,wA,seval,wE]
 refine XW o2 ⟨XT (Ca _),Weak.rfl' _,trivial⟩ ?_
 simp only [↓X2,wA,seval,wE]
 refine X0 o3 rfl ?_
 simp only [↓X2,wA,seval,wE]
 subst hR1
 exact Js rfl (Xn D9 rfl rfl rfl) (by unfold QR; rfl) (Xu (Xm _) (XT (XY (vC X.1)))) ((X3 _).sees _)
def xK (n:Nat) (f:FV) (k:Nat):Nat:=((f.EA+k) % n).toNat
def yK (m:Nat) (f:FV) (k:Nat):Nat:=((f.EB - k) % m).toNat
theorem RL (n:Nat) (f:FV) (k:Nat) (h:0<n):(f.EA+k) % (n:Int)=(xK n f k:Int):=by
 have:=Int.emod_nonneg (f.EA+k) (show (n:Int)≠0 by omega)
 unfold xK; omega
theorem ic (m:Nat) (f:FV) (k:Nat) (h:0<m):(f.EB - k) % (m:Int)=(yK m f k:Int):=by
 have:=Int.emod_nonneg (f.EB - k) (show (m:Int)≠0 by omega)
 unfold yK; omega
theorem Vh (n:Nat) (f:FV) (k:Nat) (h:0<n):xK n f k<n:=by
 have:=RL n f k h
 have:=Int.emod_lt_of_pos (f.EA+k) (show (0:Int)<n by omega)
 omega
theorem ns (m:Nat) (f:FV) (k:Nat) (h:0<m):yK m f k<m:=by
 have:=ic m f k h
 have:=Int.emod_lt_of_pos (f.EB - k) (show (0:Int)<m by omega)
 omega
def CZ (n m:Nat) (f:FV):List (Int×Int):=(List.range f.M.toNat).map fun k=>((xK n f k:Int),(yK m f k:Int))
theorem DL {α:Type} (f:Nat→α) (d:α) (n j:Nat) (h:j<n):((List.range n).map f).getD j d=f j:=by
 rw [List.getD_eq_getElem?_getD,List.getElem?_map,List.getElem?_range h]; rfl
theorem AG (n m:Nat) (f:FV):(CZ n m f).length=f.M.toNat:=by simp [CZ]
theorem lu {P:Program} {fn:Func} {str hcs:List Nat} {s:AS} {t id ver:Nat} (L:List (Int×Int)) (hr:fn.results=#[.tmp t]) (hs:s.get t=.osl id ver 2 0 L.length) (ho:s.h[id]?=some (.row ver (L.length*2) (Xs K1 2 (0,0) L))):RetOk (QX P fn str hcs (CO L)) s:=by
 refine Bd hr ?_
 rw [hs,Xh]
 refine QI (.inl ho) (by omega) (fun h=>by rw [h]) fun j hj=>?_
 rw [Nat.zero_add]
 exact (Xg (Ke _) _).sees _
theorem DI (c:Int×Int):∀ j,j<2→((K1 c).getD j .any).one=true:=fun j hj=>by
 match j,hj with
 | 0,_=>rfl
 | 1,_=>rfl
 | j+2,h=>omega
theorem F3 (a b:PV) (f:FV) (hf:BF a.rim.length b.rim.length f) (ha:a.rim.length<1000000) (hb:b.rim.length<1000000):Fn Tryz.prog 152 [Jg a,Jg b,KP f] (CO (CZ a.rim.length b.rim.length f)):=by
 obtain ⟨⟨s1,s2⟩,⟨s3,s4⟩,s5,s6,s7⟩:=hf
 obtain ⟨N,hN⟩:∃ N:Nat,f.M=N:=⟨f.M.toNat,by omega⟩
 obtain ⟨L,hL⟩:∃ L,L=CZ a.rim.length b.rim.length f:=⟨_,rfl⟩
 have hlen:L.length=N:=by rw [hL,AG,hN]; rfl
 have hat:∀ k,k<N→L.getD k (0,0)=((xK a.rim.length f k:Int),(yK b.rim.length f k:Int)):=fun k hk=>by rw [hL]; exact DL _ _ _ _ (by omega)
 rw [← hL]
 have ba:XQ 4 (.con 0 25 (Xo (XO a)))=True:=eq_true (fun j _=>X8 (Xg (XG a) j))
 have bb:XQ 4 (.con 0 25 (Xo (XO b)))=True:=eq_true (fun j _=>X8 (Xg (XG b) j))
 have bf:XQ 4 (.con 0 29 (Xo (Qa f)))=True:=eq_true (fun j _=>X8 (Xg (Qd f) j))
 have br:∀ i l n,XQ 4 (.row i n (Xs K1 2 (0,0) l))=True:=fun i l n=>eq_true fun j _=>X8 (Xg (Ke _) _)
 refine Fq Tryz.call152 Tryz.func152 9 [10,11] [5,60000003,60000004,60000005] [] (by simp [XC,Qk]) (X1 1000 ?_)
 simp only [AS.start,Jg,XO,KP,Qa,↓X2,wA,seval,wE]
 refine Xf (fun k:Nat=>⟨9,[10,11],[.any,.any,.any,.ref 0 0 0,.ref 1 0 0,.ref 2 0 0,.any,.osl 3 k 2 0 k,.any],[(10,I f.M),(11,I k)],[.con 0 25 (Xo (XO a)),.con 0 25 (Xo (XO b)),.con 0 29 (Xo (Qa f)),.row k (k*2) (Xs K1 2 (0,0) (L.take k))]⟩) (fun k=>k≤N) (fun k=>N - k) 0 (by omega)
  (Sub.trans (QL 0 rfl) (Sub.trans (QL 1 rfl) (Sub.trans (QL 2 rfl) (Sub.trans (QT 7 2 (Xs K1 2 (0,0) []) rfl) (Xb rfl (by simp [AS.put,Xi,I]) (by simp [AS.put,Xj,Xp,I]) (by simp [AS.put,XO,Qa,Xh,Xr,X4,I])))))) ?_
 intro k hk next
 have w1:=wj k (by omega)
 by_cases hk2:k<N
 ·have f1:((k:Int)<f.M)=True:=eq_true (by omega)
  have wx:IntKind.i64.wrap (f.EA+(k:Int))=f.EA+(k:Int):=by rw [IntKind.wrap_i64]; omega
  have wy:IntKind.i64.wrap (f.EB - (k:Int))=f.EB - (k:Int):=by rw [IntKind.wrap_i64]; omega
  have c1:=ZP (f.EA+(k:Int)) a.rim.length (by omega) (by omega) (by omega)
  have c2:=ZP (f.EB - (k:Int)) b.rim.length (by omega) (by omega) (by omega)
  rw [RL _ _ _ (by omega)] at c1
  rw [ic _ _ _ (by omega)] at c2
  have hap:=Qv K1 2 (0,0) (L.take k) (L.getD k (0,0)) (by omega)
  rw [← B9 _ _ (by omega),hat k hk2,show (L.take k).length=k by simp; omega] at hap
  refine X1 1000 ?_
  simp only [XO,Qa,Xh,w1,wx,wy,f1,Int.toNat_natCast,↓X2,wA,seval,wE]
  refine X0 c1 rfl ?_
  simp only [XO,Qa,Xh,w1,wx,wy,f1,Int.toNat_natCast,↓X2,wA,seval,wE]
  refine X0 c2 rfl ?_
  simp only [XO,Qa,Xh,w1,wx,wy,f1,Int.toNat_natCast,↓X2,wA,seval,wE]
  exact ⟨⟨DI ((xK a.rim.length f k:Int),(yK b.rim.length f k:Int)),by omega,by omega⟩,next (k+1) _ (by omega) (by omega) (Xz (m:=4) (Nat.zero_le _) rfl (by simp [Xi,I]) (by simp [Xj,Xp,I]) (by rw [← hap]; simp [XO,Qa,Xh,Xr,X4,I,K1]) (by simp [XA]) (by simp [XA]) (by simp [ba,bb,bf,br]))⟩
 obtain rfl:k=N:=by omega
 have f1:((k:Int)<f.M)=False:=eq_false (by omega)
 refine X1 1000 ?_
 simp only [XO,Qa,f1,↓X2,wA,seval,wE]
 rw [List.take_of_length_le (by omega)]
 exact lu _ rfl (by rw [hlen]; rfl) (by rw [hlen]; rfl)
def Nd (wa wb:Bool) (x y:Int):Bool:=wa || wb || (decide (x≠y) && decide (x≠0) && decide (y≠0))
def bJ (a b:PV) (f:FV) (k:Nat):Bool:=Nd (a.worn.getD (xK a.rim.length f k) false) (b.worn.getD (yK b.rim.length f k) false) (a.marks.getD (xK a.rim.length f k) 0) (b.marks.getD (yK b.rim.length f k) 0)
def H8 (a b:PV) (f:FV):Prop:=∀ k,k<f.M.toNat→bJ a b f k=false
theorem bM (wa wb:Bool) (x y:Int) :
  (Nd wa wb x y=true∧wa=true∧True∧True∧True∧True)∨(Nd wa wb x y=true∧wa=false∧wb=true∧True∧True∧True)∨(Nd wa wb x y=false∧wa=false∧wb=false∧(x=y)=True∧True∧True) ∨
  (Nd wa wb x y=false∧wa=false∧wb=false∧(x=y)=False∧(x=0)=True∧True)∨(Nd wa wb x y=false∧wa=false∧wb=false∧(x=y)=False∧(x=0)=False∧(y=0)=True) ∨
  (Nd wa wb x y=true∧wa=false∧wb=false∧(x=y)=False∧(x=0)=False∧(y=0)=False):=by
 unfold Nd
 cases wa
 rotate_left
 ·exact .inl ⟨rfl,rfl,trivial,trivial,trivial,trivial⟩
 cases wb
 rotate_left
 ·exact .inr (.inl ⟨rfl,rfl,rfl,trivial,trivial,trivial⟩)
 by_cases h1:x=y
 ·exact .inr (.inr (.inl ⟨by simp [h1],rfl,rfl,eq_true h1,trivial,trivial⟩))
 by_cases h2:x=0
 ·exact .inr (.inr (.inr (.inl ⟨by simp [h2],rfl,rfl,eq_false h1,eq_true h2,trivial⟩)))
 by_cases h3:y=0
 ·exact .inr (.inr (.inr (.inr (.inl ⟨by simp [h3],rfl,rfl,eq_false h1,eq_false h2,eq_true h3⟩))))
 ·exact .inr (.inr (.inr (.inr (.inr ⟨by simp [h1,h2,h3],rfl,rfl,eq_false h1,eq_false h2,eq_false h3⟩))))
structure PV.even (p:PV):Prop where
 rim:p.rim.length<1000000
 worn:p.worn.length=p.rim.length
 marks:p.marks.length=p.rim.length
 near:QP p.rim
theorem GK (a b:PV) (f:FV) (hf:BF a.rim.length b.rim.length f) (ha:a.even) (hb:b.even):Fn Tryz.prog 132 [Jg a,Jg b,KP f] (.bool (decide (H8 a b f))):=by
 have ce:=F3 a b f hf ha.rim hb.rim
 obtain ⟨⟨s1,s2⟩,⟨s3,s4⟩,s5,s6,s7⟩:=hf
 obtain ⟨N,hN⟩:∃ N:Nat,f.M=N:=⟨f.M.toNat,by omega⟩
 have la:=ha.rim; have lb:=hb.rim
 obtain ⟨V,hV⟩:∃ V,V=decide (H8 a b f):=⟨_,rfl⟩
 rw [← hV]
 obtain ⟨L,hL⟩:∃ L,L=CZ a.rim.length b.rim.length f:=⟨_,rfl⟩
 have hlen:L.length=N:=by rw [hL,AG,hN]; rfl
 have hat:∀ k,k<N→L.getD k (0,0)=((xK a.rim.length f k:Int),(yK b.rim.length f k:Int)):=fun k hk=>by rw [hL]; exact DL _ _ _ _ (by omega)
 rw [← hL] at ce
 clear hL
 have fin:∀ {s:AS} {v:Bool},s.get 6=.bool v→v=V→RetOk (QX Tryz.prog Tryz.f132 [] [] (.bool V)) s:=fun h e=>Xt rfl h (X3 _) (by rw [e])
 have ba:XQ 3 (.row 0 25 (Xo (XO a)))=True:=eq_true (XE (XG a))
 have bb:XQ 3 (.row 0 25 (Xo (XO b)))=True:=eq_true (XE (XG b))
 have bf:XQ 3 (.row 0 29 (Xo (Qa f)))=True:=eq_true (XE (Qd f))
 have bL:Kl 3 (CO L)=True:=eq_true (X8 (Qt _))
 refine Fq Tryz.call132 Tryz.func132 12 [15,16,17] [] [] (by simp [XC,Qk]) (X1 1000 ?_)
 simp only [AS.start,Jg,XO,KP,Qa,↓X2,wA,seval,wE]
 refine X0 ce rfl ?_
 simp only [Xh,hlen,↓X2,wA,seval,wE]
 refine Xf (fun k:Nat=>⟨12,[15,16,17],[.any,.any,.any,.ref 0 0 0,.ref 1 0 0,.ref 2 0 0,.any,.bool true,.any,.any,.any,.any],[(15,CO L),(16,I N),(17,I k)],[.row 0 25 (Xo (XO a)),.row 0 25 (Xo (XO b)),.row 0 29 (Xo (Qa f))]⟩) (fun k=>k≤N∧∀ j,j<k→bJ a b f j=false) (fun k=>N - k) 0 ⟨by omega,by omega⟩
  (Xb rfl (by simp [Xi,I]) (by simp [Xj,Xp,Xh,hlen,I]) (by simp [XO,Qa,Xh,Xr,X4,I])) ?_
 rintro k ⟨hk,hok⟩ next
 have w1:=wj k (by omega)
 by_cases hk2:k<N
 rotate_left
 ·obtain rfl:k=N:=by omega
  refine X1 1000 ?_
  simp only [XO,Qa,Int.lt_irrefl,Nat.lt_irrefl,↓X2,wA,seval,wE]
  exact fin rfl (by rw [hV,decide_eq_true]; exact fun j hj=>hok j (by omega))
 have nx:=next (k+1)
 have f1:((k:Int)<N)=True:=eq_true (by omega)
 have f2:(k<N)=True:=eq_true hk2
 have f3:(k*2+2≤N*2)=True:=eq_true (by omega)
 have v1:=ls L k
 rw [hat k hk2] at v1
 have hx:=Vh a.rim.length f k (by omega)
 have hy:=ns b.rim.length f k (by omega)
 have ex:=RL a.rim.length f k (by omega)
 have ey:=ic b.rim.length f k (by omega)
 have six:=bM (a.worn.getD (xK a.rim.length f k) false) (b.worn.getD (yK b.rim.length f k) false) (a.marks.getD (xK a.rim.length f k) 0) (b.marks.getD (yK b.rim.length f k) 0)
 have hbad:bJ a b f k=Nd (a.worn.getD (xK a.rim.length f k) false) (b.worn.getD (yK b.rim.length f k) false) (a.marks.getD (xK a.rim.length f k) 0) (b.marks.getD (yK b.rim.length f k) 0):=rfl
 rw [← hbad] at six
 clear hbad
 have no:bJ a b f k=true→false=V:=fun h=>by rw [hV,decide_eq_false]; intro hp; rw [hp k (by omega)] at h; cases h
 generalize xK a.rim.length f k=X at *
 generalize yK b.rim.length f k=Y at *
 have g1:((X:Int)<a.worn.length)=True:=eq_true (by have:=ha.worn; omega)
 have g2:(X<a.worn.length)=True:=eq_true (by have:=ha.worn; omega)
 have g3:((Y:Int)<b.worn.length)=True:=eq_true (by have:=hb.worn; omega)
 have g4:(Y<b.worn.length)=True:=eq_true (by have:=hb.worn; omega)
 have g5:((X:Int)<a.marks.length)=True:=eq_true (by have:=ha.marks; omega)
 have g6:(X<a.marks.length)=True:=eq_true (by have:=ha.marks; omega)
 have g7:((Y:Int)<b.marks.length)=True:=eq_true (by have:=hb.marks; omega)
 have g8:(Y<b.marks.length)=True:=eq_true (by have:=hb.marks; omega)
 have n2:((2:Nat):Int)=2:=rfl
 have t1:(1:Int).toNat=1:=rfl
 rcases six with ⟨hB,q1,q2,q3,q4,q5⟩ | ⟨hB,q1,q2,q3,q4,q5⟩ | ⟨hB,q1,q2,q3,q4,q5⟩ | ⟨hB,q1,q2,q3,q4,q5⟩ | ⟨hB,q1,q2,q3,q4,q5⟩ | ⟨hB,q1,q2,q3,q4,q5⟩
 all_goals
  refine X1 1000 ?_
  simp only [XO,Qa,Xh,Xr,X4,hlen,w1,f1,f2,f3,v1,g1,g2,g3,g4,g5,g6,g7,g8,q1,q2,q3,q4,q5,n2,t1,Int.toNat_zero,Int.reduceLT,Int.reduceLE,Int.toNat_natCast,↓X2,wA,seval,wE]
  first
   | exact fin rfl (no hB)
   | exact nx _ ⟨by omega,BL.2 ⟨hok,hB⟩⟩ (by omega) (Xz (m:=3) (Nat.zero_le _) rfl (by simp [Xi,I]) (by simp [Xj,Xp,Xh,hlen,I]) (by simp [XO,Qa,Xh,Xr,X4,I]) (by simp [XA]) (by simp [XA,bL]) (by simp [ba,bb,bf]))
def P8 (p:V2→Bool) (s:List V2):Int:=if s.any p=true then (s.findIdx p:Nat) else -1
theorem Gq {s:List V2} {j:Nat} (h:j<s.length):s.getD j v0∈s:=by
 rw [List.getD_eq_getElem?_getD,List.getElem?_eq_getElem h]; exact List.getElem_mem h
theorem eo {p:V2→Bool} {s:List V2} {j:Nat} (hj:j<s.length) (h:p (s.getD j v0)=true) (hno:∀ i,i<j→p (s.getD i v0)=false):P8 p s=j:=by
 have at_:∀ i (hi:i<s.length),s.getD i v0=s[i]:=fun i hi=>by rw [List.getD_eq_getElem?_getD,List.getElem?_eq_getElem hi]; rfl
 have e:s.findIdx p=j:=by
  rw [List.findIdx_eq hj]
  exact ⟨by rw [← at_ j hj]; exact h,fun i hi=>by rw [← at_ i (by omega)]; exact hno i hi⟩
 unfold P8
 rw [if_pos (List.any_eq_true.2 ⟨_,Gq hj,h⟩),e]
theorem WE {p:V2→Bool} {s:List V2} (hno:∀ i,i<s.length→p (s.getD i v0)=false):P8 p s = -1:=by
 unfold P8
 rw [if_neg]
 intro h
 obtain ⟨x,hx,hp⟩:=List.any_eq_true.1 h
 obtain ⟨i,hi,rfl⟩:=List.getElem_of_mem hx
 have:=hno i hi
 rw [List.getD_eq_getElem?_getD,List.getElem?_eq_getElem hi] at this
 simp only [Option.getD_some] at this
 rw [this] at hp; cases hp
theorem P9 (p:V2→Bool) (s:List V2):decide (0≤P8 p s)=s.any p:=by
 unfold P8
 cases h:s.any p
 ·simp
 ·rw [if_pos rfl]; exact decide_eq_true (by omega)
theorem TC (s:List V2) (f:FuncId) (caps:List AV) (p:V2→Bool) (hl:s.length<1000000) (hc:∀ a∈caps,Settled a) (hp:∀ x∈s,Fn Tryz.prog f ([vA x] ++ caps) (.bool (p x))) :
  Fn Tryz.prog 205 [Xw s,.fn f caps] (I (P8 p s)):=by
 refine Fn.intro (fn:=Tryz.f205) Tryz.call205 Tryz.func205 rfl mixed 6 [6,7,8] [] [] (by kernel_rfl) (Nat.le_of_ble_eq_true rfl) (by simpa [Xl] using Jc hc) (X1 1000 ?_)
 simp only [AS.start,X7,↓X2,wA,seval,wE]
 refine Xf (fun j:Nat=>⟨6,[6,7,8],[Xw s,.fn f caps,.any,.any,.any,.any],[(6,Xw s),(7,I s.length),(8,I j)],[]⟩) (fun j=>j≤s.length∧∀ i,i<j→p (s.getD i v0)=false) (fun j=>s.length - j) 0 ⟨by omega,by omega⟩
  (Xb rfl (by simp [Xi,X7,I]) (by simp [Xj,Xp,X7,I]) rfl) ?_
 rintro j ⟨hj,hno⟩ next
 have w1:=wj j (by omega)
 by_cases hj2:j<s.length
 ·have f1:((j:Int)<s.length)=True:=eq_true (by omega)
  have f2:(j<s.length)=True:=eq_true hj2
  have f3:(j*8+8≤s.length*8)=True:=eq_true (by omega)
  have v1:=vF s j
  refine X1 1000 ?_
  simp only [X7,w1,f1,f2,f3,v1,Int.toNat_natCast,↓X2,wA,seval,wE]
  refine XW (hp _ (Gq hj2)) (XY _) ?_
  simp only [w1,↓X2,wA,seval,wE]
  refine QK (fun ht=>Xt (v:=I j) rfl rfl (Xa _) ?_) (fun hf=>next (j+1) _ ⟨by omega,BL.2 ⟨hno,hf⟩⟩ (by omega) (Xb rfl (by simp [Xi,X7,I]) (by simp [Xj,Xp,X7,I]) rfl))
  rw [eo hj2 ht hno]
 ·have f1:((j:Int)<s.length)=False:=eq_false (by omega)
  refine X1 1000 ?_
  simp only [X7,w1,f1,↓X2,wA,seval,wE]
  refine Xt (v:=I (-1)) rfl rfl (Xa _) ?_
  rw [WE fun i hi=>hno i (by omega)]
theorem LD (s:List V2) (f:FuncId) (caps:List AV) (p:V2→Bool) (hl:s.length<1000000) (hc:∀ a∈caps,Settled a) (hp:∀ x∈s,Fn Tryz.prog f ([vA x] ++ caps) (.bool (p x))) :
  Fn Tryz.prog 141 [Xw s,.fn f caps] (.bool (s.any p)):=by
 have hi:=P9 p s
 refine Fn.intro (fn:=Tryz.f141) Tryz.call141 Tryz.func141 rfl mixed 5 [] [] [] (by kernel_rfl) (Nat.le_of_ble_eq_true rfl) (by simpa [Xl] using Jc hc) (X1 1000 ?_)
 simp only [AS.start,↓X2,wA,seval,wE]
 refine X0 (TC s f caps p hl hc hp) rfl ?_
 simp only [↓X2,wA,seval,wE]
 exact Xt (v:=.bool (decide (0≤P8 p s))) rfl rfl (X3 _) (by rw [P9])
def mQ (f:FV):AV:=.ptr 29 (Xo (Qa f)) 0
theorem Bt (f:FV):Settled (mQ f):=QS fun j _=>Xg (Qd f) j
theorem Wa (t:V2) (f:FV) (ht:vb t≤vm) (hf:vb f.turn≤vm):Fn Tryz.prog 142 ([vA t] ++ [mQ f]) (.bool (decide (t=f.turn))):=by
 have c1:=Bl t f.turn ht hf
 refine Fq Tryz.call142 Tryz.func142 4 [] [] [] (by simp [Xm,Bt]) (X1 1000 ?_)
 simp only [AS.start,mQ,Qa,List.cons_append,List.nil_append,↓X2,wA,seval,wE]
 refine X0 c1 rfl ?_
 simp only [↓X2,wA,seval,wE]
 exact Xt rfl rfl (X3 _) rfl
noncomputable def Lf (a b:PV) (f:FV) (k:Nat):V2×Bool:=XU a.rim b.rim (xK a.rim.length f k) (yK b.rim.length f k)
noncomputable def Qh (a b:PV) (f:FV):Nat→List V2
 | 0=>[]
 | k+1=>if (Lf a b f k).2=true then Qh a b f k ++ [(Lf a b f k).1] else Qh a b f k
theorem CS (a b:PV) (f:FV):∀ k,(Qh a b f k).length≤k
 | 0=>Nat.le_refl _
 | k+1=>by
  have ih:=CS a b f k
  simp only [Qh]
  split
  ·rw [List.length_append]; simp only [List.length_singleton]; omega
  ·omega
theorem Ek (a b:PV) (f:FV) (ha:QP a.rim) (hb:QP b.rim):∀ k,∀ t∈Qh a b f k,vb t≤26
 | 0=>fun t h=>by simp [Qh] at h
 | k+1=>by
  have ih:=Ek a b f ha hb k
  intro t h
  simp only [Qh] at h
  split at h
  ·rcases List.mem_append.1 h with h | h
   ·exact ih t h
   ·simp only [List.mem_cons,List.not_mem_nil,or_false] at h
    subst h; exact Aq ha hb _ _
  ·exact ih t h
def Sp (a b:PV) (f:FV):Prop:=∃ k,k<f.M.toNat∧(Lf a b f k).2=true∧(Lf a b f k).1=f.turn
theorem HM (a b:PV) (f:FV) (t:V2):∀ n,(Qh a b f n).any (fun x=>decide (x=t))=true↔∃ k,k<n∧(Lf a b f k).2=true∧(Lf a b f k).1=t
 | 0=>by simp [Qh]
 | n+1=>by
  have ih:=HM a b f t n
  by_cases h:(Lf a b f n).2=true
  ·have e:Qh a b f (n+1)=Qh a b f n ++ [(Lf a b f n).1]:=if_pos h
   rw [e,List.any_append,Bool.or_eq_true,ih]
   simp only [List.any_cons,List.any_nil,Bool.or_false,decide_eq_true_eq]
   constructor
   ·rintro (⟨k,h1,h2⟩ | h1)
    ·exact ⟨k,by omega,h2⟩
    ·exact ⟨n,by omega,h,h1⟩
   ·rintro ⟨k,h1,h2,h3⟩
    by_cases hk:k=n
    ·subst hk; exact .inr h3
    ·exact .inl ⟨k,by omega,h2,h3⟩
  ·have e:Qh a b f (n+1)=Qh a b f n:=if_neg h
   rw [e,ih]
   constructor
   ·rintro ⟨k,h1,h2⟩; exact ⟨k,by omega,h2⟩
   ·rintro ⟨k,h1,h2,h3⟩
    by_cases hk:k=n
    ·subst hk; exact absurd h2 h
    ·exact ⟨k,by omega,h2,h3⟩
theorem Sq (a b:PV) (f:FV) (hf:BF a.rim.length b.rim.length f) (ha:a.even) (hb:b.even):Fn Tryz.prog 133 [Jg a,Jg b,KP f] (Xw (Qh a b f f.M.toNat)):=by
 have ce:=F3 a b f hf ha.rim hb.rim
 obtain ⟨⟨s1,s2⟩,⟨s3,s4⟩,s5,s6,s7⟩:=hf
 obtain ⟨N,hN⟩:∃ N:Nat,f.M=N:=⟨f.M.toNat,by omega⟩
 have la:=ha.rim; have lb:=hb.rim
 have hNt:f.M.toNat=N:=by rw [hN]; rfl
 rw [hNt]
 obtain ⟨L,hL⟩:∃ L,L=CZ a.rim.length b.rim.length f:=⟨_,rfl⟩
 have hlen:L.length=N:=by rw [hL,AG,hN]; rfl
 have hat:∀ k,k<N→L.getD k (0,0)=((xK a.rim.length f k:Int),(yK b.rim.length f k:Int)):=fun k hk=>by rw [hL]; exact DL _ _ _ _ (by omega)
 rw [← hL] at ce
 clear hL
 have ba:XQ 4 (.row 0 25 (Xo (XO a)))=True:=eq_true (XE (XG a))
 have bb:XQ 4 (.row 0 25 (Xo (XO b)))=True:=eq_true (XE (XG b))
 have bf:XQ 4 (.row 0 29 (Xo (Qa f)))=True:=eq_true (XE (Qd f))
 have bL:Kl 4 (CO L)=True:=eq_true (X8 (Qt _))
 have hvc:∀ a:V2,∀ x∈vC a,Settled x:=fun a=>by simp [vC,X5,X3]
 have br:∀ i l n,XQ 4 (.row i n (Xs vC 8 v0 l))=True:=fun i l n=>eq_true fun j _=>X8 (Xg (hvc _) _)
 refine Fq Tryz.call133 Tryz.func133 12 [15,16,17] [] [] (by simp [XC,Qk]) (X1 1000 ?_)
 simp only [AS.start,Jg,XO,KP,Qa,↓X2,wA,seval,wE]
 refine X0 ce rfl ?_
 simp only [Xh,hlen,↓X2,wA,seval,wE]
 refine Xf (fun k:Nat=>⟨12,[15,16,17],[.any,.any,.any,.ref 0 0 0,.ref 1 0 0,.ref 2 0 0,.any,.osl 3 (Qh a b f k).length 8 0 (Qh a b f k).length,.any,.any,.any,.any],[(15,CO L),(16,I N),(17,I k)],[.row 0 25 (Xo (XO a)),.row 0 25 (Xo (XO b)),.row 0 29 (Xo (Qa f)),.row (Qh a b f k).length ((Qh a b f k).length*8) (Xs vC 8 v0 (Qh a b f k))]⟩) (fun k=>k≤N) (fun k=>N - k) 0 (by omega)
  (Sub.trans (QT 7 8 (Xs vC 8 v0 []) rfl) (Xb rfl (by simp [AS.put,Qh,Xi,I]) (by simp [AS.put,Xj,Xp,Xh,hlen,I]) (by simp [AS.put,Qh,XO,Qa,Xh,Xr,X4,I]))) ?_
 intro k hk next
 have w1:=wj k (by omega)
 have hln:=CS a b f k
 by_cases hk2:k<N
 rotate_left
 ·obtain rfl:k=N:=by omega
  refine X1 1000 ?_
  simp only [XO,Qa,Int.lt_irrefl,Nat.lt_irrefl,↓X2,wA,seval,wE]
  exact RC _ rfl rfl rfl
 have nx:=next (k+1)
 have f1:((k:Int)<N)=True:=eq_true (by omega)
 have f2:(k<N)=True:=eq_true hk2
 have f3:(k*2+2≤N*2)=True:=eq_true (by omega)
 have v1:=ls L k
 rw [hat k hk2] at v1
 have n2:((2:Nat):Int)=2:=rfl
 have t1:(1:Int).toNat=1:=rfl
 have ca:=AM a b (xK a.rim.length f k) (yK b.rim.length f k) la lb ha.near hb.near
 rw [show XU a.rim b.rim (xK a.rim.length f k) (yK b.rim.length f k)=Lf a b f k from rfl] at ca
 have hs:Qh a b f (k+1)=if (Lf a b f k).2=true then Qh a b f k ++ [(Lf a b f k).1] else Qh a b f k:=rfl
 generalize Lf a b f k=X at *
 obtain ⟨t,ok⟩:=X
 refine X1 1000 ?_
 simp only [XO,Qa,Xh,Xr,X4,hlen,w1,f1,f2,f3,v1,n2,t1,Int.toNat_zero,Int.reduceLT,Int.reduceLE,Int.toNat_natCast,↓X2,wA,seval,wE]
 refine X0 ca rfl ?_
 cases ok with
 | false =>
  rw [if_neg (show ¬ ((t,false).2=true) from Bool.false_ne_true)] at hs
  simp only [hs] at nx
  simp only [w1,↓X2,wA,seval,wE]
  exact nx _ (by omega) (by omega) (Xz (m:=4) (Nat.zero_le _) rfl (by simp [Xi,I]) (by simp [Xj,Xp,Xh,hlen,I]) (by simp [XO,Qa,Xh,Xr,X4,I]) (by simp [XA]) (by simp [XA,bL]) (by simp [ba,bb,bf,br]))
 | true =>
  rw [if_pos rfl] at hs
  have hlen2:(Qh a b f (k+1)).length=(Qh a b f k).length+1:=by rw [hs]; simp
  have hap:=Qv vC 8 v0 (Qh a b f k) t (by omega)
  rw [← hs] at hap
  simp only [hlen2] at nx
  simp only [w1,↓X2,wA,seval,wE]
  exact ⟨⟨EM t,by omega,by omega⟩,nx _ (by omega) (by omega) (Xz (m:=4) (Nat.zero_le _) rfl (by simp [Xi,I]) (by simp [Xj,Xp,Xh,hlen,I]) (by rw [← hap]; simp [XO,Qa,Xh,Xr,X4,I,vC]) (by simp [XA]) (by simp [XA,bL]) (by simp [ba,bb,bf,br]))⟩
noncomputable def Uy (x y:Rat):Rat:=if x<y then y else x
noncomputable def Uw (x y:Rat):Rat:=if y<x then y else x
theorem pH (x y:Rat) (k:Nat) (hx:qb x≤k) (hy:qb y≤k):qb (Uy x y)≤k:=by unfold Uy; split <;> assumption
theorem pG (x y:Rat) (k:Nat) (hx:qb x≤k) (hy:qb y≤k):qb (Uw x y)≤k:=by unfold Uw; split <;> assumption
theorem LU (x y:Rat) (hx:qb x≤rm) (hy:qb y≤rm):Fn Tryz.prog 125 [qA x,qA y] (qA (Uy x y)):=by
 have c1:=Kd x y hx hy
 obtain ⟨R,hR⟩:∃ R,R=qA (Uy x y):=⟨_,rfl⟩
 have sR:Settled R:=hR▸Xc _
 rw [← hR]
 refine Fq Tryz.call125 Tryz.func125 5 [] [] [] (by simp [wS]) (X1 1000 ?_); simp (config:={ maxSteps:=2000000 }) only [AS.start,↓X2,wA,seval,wE]
 refine X0 c1 rfl ?_
 by_cases h:x<y
 ·have f1:(QO x y<0)=True:=eq_true ((ZB x y).2 h)
  simp only [f1,↓X2,wA,seval,wE]
  have e:Uy x y=y:=if_pos h
  rw [e] at hR
  exact JA rfl Qc rfl rfl rfl sR (hR.trans rfl)
 ·have f1:(QO x y<0)=False:=eq_false fun hh=>h ((ZB x y).1 hh)
  simp only [f1,↓X2,wA,seval,wE]
  have e:Uy x y=x:=if_neg h
  rw [e] at hR
  exact JA rfl Qc rfl rfl rfl sR (hR.trans rfl)
theorem IX (x y:Rat) (hx:qb x≤rm) (hy:qb y≤rm):Fn Tryz.prog 126 [qA x,qA y] (qA (Uw x y)):=by
 have c1:=Kd x y hx hy
 obtain ⟨R,hR⟩:∃ R,R=qA (Uw x y):=⟨_,rfl⟩
 have sR:Settled R:=hR▸Xc _
 rw [← hR]
 refine Fq Tryz.call126 Tryz.func126 5 [] [] [] (by simp [wS]) (X1 1000 ?_); simp (config:={ maxSteps:=2000000 }) only [AS.start,↓X2,wA,seval,wE]
 refine X0 c1 rfl ?_
 by_cases h:y<x
 ·have f1:(0<QO x y)=True:=eq_true ((Jz x y).2 h)
  simp only [f1,↓X2,wA,seval,wE]
  have e:Uw x y=y:=if_pos h
  rw [e] at hR
  exact JA rfl Qc rfl rfl rfl sR (hR.trans rfl)
 ·have f1:(0<QO x y)=False:=eq_false fun hh=>h ((Jz x y).1 hh)
  simp only [f1,↓X2,wA,seval,wE]
  have e:Uw x y=x:=if_neg h
  rw [e] at hR
  exact JA rfl Qc rfl rfl rfl sR (hR.trans rfl)
noncomputable def l7 (g:Nat→Rat):Nat→Rat
 | 0=>g 0
 | k+1=>Uy (l7 g k) (g (k+1))
noncomputable def kY (g:Nat→Rat):Nat→Rat
 | 0=>g 0
 | k+1=>Uw (kY g k) (g (k+1))
theorem IB (g:Nat→Rat) (c:Nat) (h:∀ k,qb (g k)≤c):∀ n,qb (l7 g n)≤c
 | 0=>h 0
 | n+1=>pH _ _ _ (IB g c h n) (h _)
theorem IA (g:Nat→Rat) (c:Nat) (h:∀ k,qb (g k)≤c):∀ n,qb (kY g n)≤c
 | 0=>h 0
 | n+1=>pG _ _ _ (IA g c h n) (h _)
def KX (a b:List (Int×Int)) (f:FV) (k:Nat):V2 :=
 (JY (a.getD (xK a.length f k) (0,0))).sub (Ha f.turn (JY (b.getD ((f.EB+1 - k) % b.length).toNat (0,0))))
noncomputable def ZT (a b:List (Int×Int)) (f:FV) (k:Nat):V2:=⟨l7 (fun j=>(KX a b f j).x) k,l7 (fun j=>(KX a b f j).y) k⟩
noncomputable def ZR (a b:List (Int×Int)) (f:FV) (k:Nat):V2:=⟨kY (fun j=>(KX a b f j).x) k,kY (fun j=>(KX a b f j).y) k⟩
noncomputable def XD (a b:List (Int×Int)) (f:FV) (e:Rat):V2×V2×Bool :=
 if BF a.length b.length f∧CD f.turn then
  let lo:=(ZT a b f f.M.toNat).sub ⟨e,e⟩
  let hi:=(ZR a b f f.M.toNat).add ⟨e,e⟩
  if hi.x<lo.x∨hi.y<lo.y then (v0,v0,false) else (lo,hi,true)
 else (v0,v0,false)
theorem Kp {R:List (Int×Int)} (h:QP R) (i:Nat):vb (JY (R.getD i (0,0)))≤3:=by
 have:=Dd h i
 have q1:=KC (R.getD i (0,0)).1 3 (by omega) (Qm ⟨by omega,by omega⟩)
 have q2:=KC (R.getD i (0,0)).2 3 (by omega) (Qm ⟨by omega,by omega⟩)
 unfold vb JY
 simp only
 omega
theorem Av {a b:List (Int×Int)} (ha:QP a) (hb:QP b) (f:FV) (ht:vb f.turn≤1000) (k:Nat):vb (KX a b f k)≤3000:=by
 have h1:=Kp ha (xK a.length f k)
 have h2:=Kp hb ((f.EB+1 - k) % b.length).toNat
 unfold KX
 have h3:=Du f.turn (JY (b.getD ((f.EB+1 - k) % b.length).toNat (0,0)))
 have h4:=K9 (JY (a.getD (xK a.length f k) (0,0))) (Ha f.turn (JY (b.getD ((f.EB+1 - k) % b.length).toNat (0,0))))
 omega
theorem BX {a b:List (Int×Int)} (ha:QP a) (hb:QP b) (f:FV) (ht:vb f.turn≤1000) (k:Nat):vb (ZT a b f k)≤3000:=by
 have h1:=IB (fun j=>(KX a b f j).x) 3000 (fun j=>Nat.le_trans (Qy _) (Av ha hb f ht j)) k
 have h2:=IB (fun j=>(KX a b f j).y) 3000 (fun j=>Nat.le_trans (Qo _) (Av ha hb f ht j)) k
 exact Nat.max_le.2 ⟨h1,h2⟩
theorem BU {a b:List (Int×Int)} (ha:QP a) (hb:QP b) (f:FV) (ht:vb f.turn≤1000) (k:Nat):vb (ZR a b f k)≤3000:=by
 have h1:=IA (fun j=>(KX a b f j).x) 3000 (fun j=>Nat.le_trans (Qy _) (Av ha hb f ht j)) k
 have h2:=IA (fun j=>(KX a b f j).y) 3000 (fun j=>Nat.le_trans (Qo _) (Av ha hb f ht j)) k
 exact Nat.max_le.2 ⟨h1,h2⟩
theorem HA {P:Program} {fn:Func} {str hcs:List Nat} {a b c x y z:AV} {s:AS} {r1 r2 r3:ResultVar} (hr:fn.results=#[r1,r2,r3]) (h1:QR P s r1=some x) (h2:QR P s r2=some y) (h3:QR P s r3=some z) (g1:Jt s.h x a) (g2:Jt s.h y b) (g3:Jt s.h z c) :
  RetOk (QX P fn str hcs (.tup [a,b,c])) s :=
 ⟨.tup [x,y,z],by simp [KD,I8,Cl,hr,QZ,Zy,h1,h2,h3],B6 ⟨g1,g2,g3,trivial⟩⟩
def XN:List AV:=[.bool false,.sl 0 0 (fun _=>.any) true,.bool false,.sl 0 0 (fun _=>.any) true,.bool false,.sl 0 0 (fun _=>.any) true,.bool false,.sl 0 0 (fun _=>.any) true]
noncomputable def WJ (a b:List (Int×Int)) (f:FV):Nat→List AV
 | 0=>XN
 | k+1=>vC (ZT a b f k)
noncomputable def WB (a b:List (Int×Int)) (f:FV):Nat→List AV
 | 0=>XN
 | k+1=>vC (ZR a b f k)
theorem Zo (a b:List (Int×Int)) (f:FV):∀ k,∀ x∈WJ a b f k,Settled x
 | 0=>fun x h=>by
  simp only [WJ,XN,List.mem_cons,List.not_mem_nil,or_false] at h
  rcases h with rfl | rfl | rfl | rfl | rfl | rfl | rfl | rfl <;> first | exact X3 _ | exact J0 (fun j hj=>absurd hj (Nat.not_lt_zero j))
 | k+1=>by simp [WJ,vC,X5,X3]
theorem Rd (a b:List (Int×Int)) (f:FV):∀ k,∀ x∈WB a b f k,Settled x
 | 0=>fun x h=>by
  simp only [WB,XN,List.mem_cons,List.not_mem_nil,or_false] at h
  rcases h with rfl | rfl | rfl | rfl | rfl | rfl | rfl | rfl <;> first | exact X3 _ | exact J0 (fun j hj=>absurd hj (Nat.not_lt_zero j))
 | k+1=>by simp [WB,vC,X5,X3]
def yL (m:Nat) (f:FV) (k:Nat):Nat:=((f.EB+1 - k) % m).toNat
theorem ie (m:Nat) (f:FV) (k:Nat) (h:0<m):(f.EB+1 - k) % (m:Int)=(yL m f k:Int):=by
 have:=Int.emod_nonneg (f.EB+1 - k) (show (m:Int)≠0 by omega)
 unfold yL; omega
theorem nt (m:Nat) (f:FV) (k:Nat) (h:0<m):yL m f k<m:=by
 have:=ie m f k h
 have:=Int.emod_lt_of_pos (f.EB+1 - k) (show (0:Int)<m by omega)
 omega
theorem ES (a b:PV) (f:FV) (ha:a.even) (hb:b.even) (ht:vb f.turn≤1000) {ta tb:Rat} (ea:a.tol=RQ.of ta) (eb:b.tol=RQ.of tb) (qa:qb ta≤1000) (q2:qb tb≤1000) :
  Fn Tryz.prog 46 [Jg a,Jg b,KP f] (.tup [vA (XD a.rim b.rim f (ta+tb)).1,vA (XD a.rim b.rim f (ta+tb)).2.1,.bool (XD a.rim b.rim f (ta+tb)).2.2]):=by
 have la:=ha.rim; have lb:=hb.rim
 obtain ⟨R,hR⟩:∃ R,R=XD a.rim b.rim f (ta+tb):=⟨_,rfl⟩
 rw [← hR]
 have zret:∀ {s:AS} {i j v w:Nat},s.get 6=.ref i v 0→s.h[i]?=some (.row v 8 (Xo KR))→s.get 7=.ref j w 0→s.h[j]?=some (.row w 8 (Xo KR))→s.get 8=.bool false→R=(v0,v0,false)→RetOk (QX Tryz.prog Tryz.f46 [9,100000005,11,120000015,18,190000012,190000013] [] (.tup [vA R.1,vA R.2.1,.bool R.2.2])) s:=fun h1 h2 h3 h4 h5 h6=>by
  subst h6
  exact HA rfl (Xn JD h1 h2 rfl) (Xn JD h3 h4 rfl) (by unfold QR; rfl) (Xu (Xm _) (XT ZI)) (Xu (Xm _) (XT ZI)) (by rw [h5]; exact (X3 _).sees _)
 have cs:=D4 a b f la lb
 have ct:=fM f.turn (by unfold vm; omega)
 refine Fq Tryz.call46 Tryz.func46 16 [40,41] [9,100000005,11,120000015,18,190000012,190000013] [] (by simp [XC,Qk]) (X1 1000 ?_)
 simp only [AS.start,Jg,XO,KP,Qa,↓X2,wA,↓reduceIte,reduceIte,reduceCtorEq,Y1,Y2,Y3,Y4,Y5,Y6,Y7,Y8,Y9,YA,wE]
 refine X0 cs rfl ?_
 by_cases hf:BF a.rim.length b.rim.length f
 rotate_left
 ·rw [decide_eq_false hf]
  simp only [↓X2,wA,↓reduceIte,reduceIte,reduceCtorEq,Y1,Y2,Y3,Y4,Y5,Y6,Y7,Y8,Y9,YA,wE]
  exact zret rfl rfl rfl rfl rfl (by rw [hR]; unfold XD; rw [if_neg fun h=>hf h.1])
 rw [decide_eq_true hf]
 simp only [↓X2,wA,↓reduceIte,reduceIte,reduceCtorEq,Y1,Y2,Y3,Y4,Y5,Y6,Y7,Y8,Y9,YA,wE]
 refine X0 ct rfl ?_
 by_cases hto:CD f.turn
 rotate_left
 ·rw [decide_eq_false hto]
  simp only [↓X2,wA,↓reduceIte,reduceIte,reduceCtorEq,Y1,Y2,Y3,Y4,Y5,Y6,Y7,Y8,Y9,YA,wE]
  exact zret rfl rfl rfl rfl rfl (by rw [hR]; unfold XD; rw [if_neg fun h=>hto h.2])
 rw [decide_eq_true hto]
 have hRe:R=if ((ZR a.rim b.rim f f.M.toNat).add ⟨ta+tb,ta+tb⟩).x<((ZT a.rim b.rim f f.M.toNat).sub ⟨ta+tb,ta+tb⟩).x∨((ZR a.rim b.rim f f.M.toNat).add ⟨ta+tb,ta+tb⟩).y<((ZT a.rim b.rim f f.M.toNat).sub ⟨ta+tb,ta+tb⟩).y then (v0,v0,false) else ((ZT a.rim b.rim f f.M.toNat).sub ⟨ta+tb,ta+tb⟩,(ZR a.rim b.rim f f.M.toNat).add ⟨ta+tb,ta+tb⟩,true):=by
  rw [hR]; unfold XD; rw [if_pos ⟨hf,hto⟩]
 clear hR
 obtain ⟨⟨s1,s2⟩,⟨s3,s4⟩,s5,s6,s7⟩:=hf
 obtain ⟨N,hN⟩:∃ N:Nat,f.M=N:=⟨f.M.toNat,by omega⟩
 have hNt:f.M.toNat=N:=by rw [hN]; rfl
 rw [hNt] at hRe
 have r1:=Ts a la (AL ha.near)
 have r2:=Ts b lb (AL hb.near)
 have hla:(Xy a.rim).length=a.rim.length:=by simp [Xy]
 have hlb:(Xy b.rim).length=b.rim.length:=by simp [Xy]
 have c3:Fn Tryz.prog 70 [a.tol.A,b.tol.A] (qA (ta+tb)):=by rw [ea,eb]; exact As ta tb (by unfold rm; omega) (by unfold rm; omega)
 have qe:=K2 ta tb
 simp only [↓X2,wA,↓reduceIte,reduceIte,reduceCtorEq,Y1,Y2,Y3,Y4,Y5,Y6,Y7,Y8,Y9,YA,wE]
 refine X0 r1 rfl ?_
 simp only [↓X2,wA,↓reduceIte,reduceIte,reduceCtorEq,Y1,Y2,Y3,Y4,Y5,Y6,Y7,Y8,Y9,YA,wE]
 refine X0 r2 rfl ?_
 simp only [↓X2,wA,↓reduceIte,reduceIte,reduceCtorEq,Y1,Y2,Y3,Y4,Y5,Y6,Y7,Y8,Y9,YA,wE]
 refine X0 c3 rfl ?_
 have wM:IntKind.i64.wrap (f.M+1)=((N+1:Nat):Int):=by rw [IntKind.wrap_i64]; omega
 simp only [wM,↓X2,wA,↓reduceIte,reduceIte,reduceCtorEq,Y1,Y2,Y3,Y4,Y5,Y6,Y7,Y8,Y9,YA,wE]
 have ba:XQ 8 (.row 0 25 (Xo (XO a)))=True:=eq_true (XE (XG a))
 have bb:XQ 8 (.row 0 25 (Xo (XO b)))=True:=eq_true (XE (XG b))
 have bf:XQ 8 (.con 0 29 (Xo (Qa f)))=True:=eq_true (fun j _=>X8 (Xg (Qd f) j))
 have bz:XQ 8 (.row 0 8 (Xo XN))=True:=eq_true (XE (Zo a.rim b.rim f 0))
 have be:XQ 8 (.row 0 4 (Xo [.bool (decide ((ta+tb).num<0)),X6 (X9 (ta+tb).num.natAbs),.bool false,X6 (X9 (qd (ta+tb)))]))=True:=eq_true (XE (by simp [X5,X3]))
 have bl:∀ k,XQ 8 (.row 0 8 (Xo (WJ a.rim b.rim f k)))=True:=fun k=>eq_true (XE (Zo a.rim b.rim f k))
 have bh:∀ k,XQ 8 (.row 0 8 (Xo (WB a.rim b.rim f k)))=True:=fun k=>eq_true (XE (Rd a.rim b.rim f k))
 have bx:Kl 8 (Xw (Xy a.rim))=True:=eq_true (X8 (Xl _))
 have by':Kl 8 (Xw (Xy b.rim))=True:=eq_true (X8 (Xl _))
 refine Xf (fun k:Nat=>⟨16,[40,41],[.any,.any,.any,.ref 0 0 0,.ref 1 0 0,.ref 2 0 0,.ref 3 0 0,.ref 4 0 0,.bool false,Xw (Xy a.rim),Xw (Xy b.rim),.ref 5 0 0,.ref 6 0 0,.ref 7 0 0,.any,.any],[(40,I ((N+1:Nat):Int)),(41,I k)],[.row 0 25 (Xo (XO a)),.row 0 25 (Xo (XO b)),.con 0 29 (Xo (Qa f)),.row 0 8 (Xo XN),.row 0 8 (Xo XN),.row 0 4 (Xo [.bool (decide ((ta+tb).num<0)),X6 (X9 (ta+tb).num.natAbs),.bool false,X6 (X9 (qd (ta+tb)))]),.row 0 8 (Xo (WJ a.rim b.rim f k)),.row 0 8 (Xo (WB a.rim b.rim f k))]⟩) (fun k=>k≤N+1) (fun k=>N+1 - k) 0 (by omega)
  (Sub.trans (QL 2 rfl) (Xb rfl (by simp [Xi,X7,I]) (by simp [Xj,Xp,I]) (by simp [XO,Qa,XN,WJ,WB,Xh,Xr,X4,I]))) ?_
 intro k hk next
 have w1:=wj k (by omega)
 by_cases hk2:k<N+1
 ·have nx:=next (k+1)
  have fk:((k:Int)<((N+1:Nat):Int))=True:=eq_true (by omega)
  have wx:IntKind.i64.wrap (f.EA+(k:Int))=f.EA+(k:Int):=by rw [IntKind.wrap_i64]; omega
  have wy1:IntKind.i64.wrap (f.EB+1)=f.EB+1:=by rw [IntKind.wrap_i64]; omega
  have wy:IntKind.i64.wrap (f.EB+1 - (k:Int))=f.EB+1 - (k:Int):=by rw [IntKind.wrap_i64]; omega
  have c1:=ZP (f.EA+(k:Int)) a.rim.length (by omega) (by omega) (by omega)
  have c2:=ZP (f.EB+1 - (k:Int)) b.rim.length (by omega) (by omega) (by omega)
  rw [RL _ _ _ (by omega)] at c1
  rw [ie _ _ _ (by omega)] at c2
  have hX:=Vh a.rim.length f k (by omega)
  have hY:=nt b.rim.length f k (by omega)
  have vx:=Kp ha.near (xK a.rim.length f k)
  have vy:=Kp hb.near (yL b.rim.length f k)
  have vr:=Du f.turn (JY (b.rim.getD (yL b.rim.length f k) (0,0)))
  have c3:=ED f.turn (JY (b.rim.getD (yL b.rim.length f k) (0,0))) (by unfold vm; omega) (by unfold vm; omega)
  have c4:=Bm (JY (a.rim.getD (xK a.rim.length f k) (0,0))) (Ha f.turn (JY (b.rim.getD (yL b.rim.length f k) (0,0)))) (by unfold rm; omega) (by unfold rm; omega)
  rw [show (JY (a.rim.getD (xK a.rim.length f k) (0,0))).sub (Ha f.turn (JY (b.rim.getD (yL b.rim.length f k) (0,0))))=KX a.rim b.rim f k from rfl] at c4
  have hD:=Av ha.near hb.near f ht
  have hL:=BX ha.near hb.near f ht
  have hH:=BU ha.near hb.near f ht
  have v1:=vF (Xy a.rim) (xK a.rim.length f k)
  have v2:=vF (Xy b.rim) (yL b.rim.length f k)
  rw [FB] at v1 v2
  generalize xK a.rim.length f k=X at *
  generalize yL b.rim.length f k=Y at *
  generalize JY (a.rim.getD X (0,0))=PX at *
  generalize JY (b.rim.getD Y (0,0))=PY at *
  generalize Ha f.turn PY=RY at *
  have fX:((X:Int)<a.rim.length)=True:=eq_true (by omega)
  have fX':(X<a.rim.length)=True:=eq_true hX
  have fX8:(X*8+8≤a.rim.length*8)=True:=eq_true (by omega)
  have fY:((Y:Int)<b.rim.length)=True:=eq_true (by omega)
  have fY':(Y<b.rim.length)=True:=eq_true hY
  have fY8:(Y*8+8≤b.rim.length*8)=True:=eq_true (by omega)
  refine X1 1000 ?_
  simp only [Qa,X7,w1,wx,wy1,wy,fk,fX,fX',fX8,fY,fY',fY8,hla,hlb,v1,v2,Int.toNat_natCast,↓X2,wA,↓reduceIte,reduceIte,reduceCtorEq,Y1,Y2,Y3,Y4,Y5,Y6,Y7,Y8,Y9,YA,wE]
  refine X0 c1 rfl ?_
  simp only [Qa,X7,w1,wx,wy1,wy,fk,fX,fX',fX8,fY,fY',fY8,hla,hlb,v1,v2,Int.toNat_natCast,↓X2,wA,↓reduceIte,reduceIte,reduceCtorEq,Y1,Y2,Y3,Y4,Y5,Y6,Y7,Y8,Y9,YA,wE]
  refine X0 c2 rfl ?_
  simp only [Qa,X7,w1,wx,wy1,wy,fk,fX,fX',fX8,fY,fY',fY8,hla,hlb,v1,v2,Int.toNat_natCast,↓X2,wA,↓reduceIte,reduceIte,reduceCtorEq,Y1,Y2,Y3,Y4,Y5,Y6,Y7,Y8,Y9,YA,wE]
  refine X0 c3 rfl ?_
  simp only [Qa,X7,w1,wx,wy1,wy,fk,fX,fX',fX8,fY,fY',fY8,hla,hlb,v1,v2,Int.toNat_natCast,↓X2,wA,↓reduceIte,reduceIte,reduceCtorEq,Y1,Y2,Y3,Y4,Y5,Y6,Y7,Y8,Y9,YA,wE]
  refine X0 c4 rfl ?_
  match k,w1,fk,hk2,nx with
  | 0,w1,fk,hk2,nx =>
   have e0:((0:Nat):Int)=0:=rfl
   have hL0:WJ a.rim b.rim f 1=vC (KX a.rim b.rim f 0):=rfl
   have hH0:WB a.rim b.rim f 1=vC (KX a.rim b.rim f 0):=rfl
   simp only [Nat.zero_add,hL0,hH0] at nx
   generalize KX a.rim b.rim f 0=D at *
   have w0:IntKind.i64.wrap (0+1)=1:=by decide
   have bD:XQ 8 (.row 0 8 (Xo (vC D)))=True:=eq_true (XE (by simp [vC,X5,X3]))
   simp only [WJ,WB,XN,e0,w0,↓X2,wA,↓reduceIte,reduceIte,reduceCtorEq,Y1,Y2,Y3,Y4,Y5,Y6,Y7,Y8,Y9,YA,wE]
   exact nx _ (by omega) (by omega) (Xz (m:=8) (Nat.zero_le _) rfl (by simp [Xi,X7,hla,hlb,I]) (by simp [Xj,Xp,I]) (by simp [XO,Qa,XN,WJ,WB,vC,Xh,Xr,X4,I]) (by simp [XA,bx,by']) (by simp [XA]) (by simp [ba,bb,bf,bz,be,bD,bl,bh]))
  | j+1,w1,fk,hk2,nx =>
   have g0:(((j+1:Nat):Int)=0)=False:=eq_false (by omega)
   have g0':((j:Int)+1=0)=False:=eq_false (by omega)
   have g0'':(j+1=0)=False:=eq_false (by omega)
   have bD:=bl 0
   have hl1:WJ a.rim b.rim f (j+1)=vC (ZT a.rim b.rim f j):=rfl
   have hh1:WB a.rim b.rim f (j+1)=vC (ZR a.rim b.rim f j):=rfl
   have hl2:WJ a.rim b.rim f (j+1+1)=vC (ZT a.rim b.rim f (j+1)):=rfl
   have hh2:WB a.rim b.rim f (j+1+1)=vC (ZR a.rim b.rim f (j+1)):=rfl
   have hDj:=hD (j+1); have hLj:=hL j; have hHj:=hH j
   have k1:=LU (ZT a.rim b.rim f j).x (KX a.rim b.rim f (j+1)).x (by have:=Qy (ZT a.rim b.rim f j); unfold rm; omega) (by have:=Qy (KX a.rim b.rim f (j+1)); unfold rm; omega)
   have k2:=LU (ZT a.rim b.rim f j).y (KX a.rim b.rim f (j+1)).y (by have:=Qo (ZT a.rim b.rim f j); unfold rm; omega) (by have:=Qo (KX a.rim b.rim f (j+1)); unfold rm; omega)
   have k3:=IX (ZR a.rim b.rim f j).x (KX a.rim b.rim f (j+1)).x (by have:=Qy (ZR a.rim b.rim f j); unfold rm; omega) (by have:=Qy (KX a.rim b.rim f (j+1)); unfold rm; omega)
   have k4:=IX (ZR a.rim b.rim f j).y (KX a.rim b.rim f (j+1)).y (by have:=Qo (ZR a.rim b.rim f j); unfold rm; omega) (by have:=Qo (KX a.rim b.rim f (j+1)); unfold rm; omega)
   rw [show Uy (ZT a.rim b.rim f j).x (KX a.rim b.rim f (j+1)).x=(ZT a.rim b.rim f (j+1)).x from rfl] at k1
   rw [show Uy (ZT a.rim b.rim f j).y (KX a.rim b.rim f (j+1)).y=(ZT a.rim b.rim f (j+1)).y from rfl] at k2
   rw [show Uw (ZR a.rim b.rim f j).x (KX a.rim b.rim f (j+1)).x=(ZR a.rim b.rim f (j+1)).x from rfl] at k3
   rw [show Uw (ZR a.rim b.rim f j).y (KX a.rim b.rim f (j+1)).y=(ZR a.rim b.rim f (j+1)).y from rfl] at k4
   have bl2:=bl (j+1+1); have bh2:=bh (j+1+1)
   simp only [hl2,hh2] at nx bl2 bh2
   rw [hl1,hh1]
   clear hD hL hH
   generalize KX a.rim b.rim f (j+1)=D at *
   generalize ZT a.rim b.rim f (j+1)=L2 at *
   generalize ZR a.rim b.rim f (j+1)=H2 at *
   generalize ZT a.rim b.rim f j=L1 at *
   generalize ZR a.rim b.rim f j=H1 at *
   simp only [g0,g0',g0'',w1,↓X2,wA,↓reduceIte,reduceIte,reduceCtorEq,Y1,Y2,Y3,Y4,Y5,Y6,Y7,Y8,Y9,YA,wE]
   refine X0 k1 rfl ?_
   simp only [g0,g0',g0'',w1,↓X2,wA,↓reduceIte,reduceIte,reduceCtorEq,Y1,Y2,Y3,Y4,Y5,Y6,Y7,Y8,Y9,YA,wE]
   refine X0 k3 rfl ?_
   simp only [g0,g0',g0'',w1,↓X2,wA,↓reduceIte,reduceIte,reduceCtorEq,Y1,Y2,Y3,Y4,Y5,Y6,Y7,Y8,Y9,YA,wE]
   refine X0 k2 rfl ?_
   simp only [g0,g0',g0'',w1,↓X2,wA,↓reduceIte,reduceIte,reduceCtorEq,Y1,Y2,Y3,Y4,Y5,Y6,Y7,Y8,Y9,YA,wE]
   refine X0 k4 rfl ?_
   simp only [g0,g0',g0'',w1,↓X2,wA,↓reduceIte,reduceIte,reduceCtorEq,Y1,Y2,Y3,Y4,Y5,Y6,Y7,Y8,Y9,YA,wE]
   exact nx _ (by omega) (by omega) (Xz (m:=8) (Nat.zero_le _) rfl (by simp [Xi,X7,hla,hlb,I]) (by simp [Xj,Xp,I]) (by simp [XO,Qa,XN,WJ,WB,vC,Xh,Xr,X4,I]) (by simp [XA,bx,by']) (by simp [XA]) (by simp [ba,bb,bf,bz,be,bD,bl2,bh2]))
 obtain rfl:k=N+1:=by omega
 have hL:=BX ha.near hb.near f ht N
 have hH:=BU ha.near hb.near f ht N
 have hl1:WJ a.rim b.rim f (N+1)=vC (ZT a.rim b.rim f N):=rfl
 have hh1:WB a.rim b.rim f (N+1)=vC (ZR a.rim b.rim f N):=rfl
 rw [hl1,hh1]
 clear bl bh hl1 hh1
 generalize ZT a.rim b.rim f N=LO at *
 generalize ZR a.rim b.rim f N=HI at *
 have m0:vb ⟨ta+tb,ta+tb⟩≤2001:=by unfold vb; simp only; omega
 have m1:=K9 LO ⟨ta+tb,ta+tb⟩
 have m2:=Ba HI ⟨ta+tb,ta+tb⟩
 have c1:=Bm LO ⟨ta+tb,ta+tb⟩ (by unfold rm; omega) (by unfold rm; omega)
 have c2:=NA HI ⟨ta+tb,ta+tb⟩ (by unfold vm; omega) (by unfold vm; omega)
 generalize LO.sub ⟨ta+tb,ta+tb⟩=A at *
 generalize HI.add ⟨ta+tb,ta+tb⟩=B at *
 have:=Qy A; have:=Qo A; have:=Qy B; have:=Qo B
 have q1:=Kd A.x B.x (by unfold rm; omega) (by unfold rm; omega)
 have q2:=Kd A.y B.y (by unfold rm; omega) (by unfold rm; omega)
 refine X1 1000 ?_
 simp only [Qa,Int.lt_irrefl,Nat.lt_irrefl,↓X2,wA,↓reduceIte,reduceIte,reduceCtorEq,Y1,Y2,Y3,Y4,Y5,Y6,Y7,Y8,Y9,YA,wE]
 refine X0 c1 rfl ?_
 simp only [↓X2,wA,↓reduceIte,reduceIte,reduceCtorEq,Y1,Y2,Y3,Y4,Y5,Y6,Y7,Y8,Y9,YA,wE]
 refine X0 c2 rfl ?_
 simp only [↓X2,wA,↓reduceIte,reduceIte,reduceCtorEq,Y1,Y2,Y3,Y4,Y5,Y6,Y7,Y8,Y9,YA,wE]
 refine X0 q1 rfl ?_
 by_cases h1:B.x<A.x
 ·have f1:(0<QO A.x B.x)=True:=eq_true ((Jz _ _).2 h1)
  simp only [f1,XN,↓X2,wA,↓reduceIte,reduceIte,reduceCtorEq,Y1,Y2,Y3,Y4,Y5,Y6,Y7,Y8,Y9,YA,wE]
  exact zret rfl rfl rfl rfl rfl (by rw [hRe,if_pos (.inl h1)])
 have f1:(0<QO A.x B.x)=False:=eq_false fun h=>h1 ((Jz _ _).1 h)
 simp only [f1,↓X2,wA,↓reduceIte,reduceIte,reduceCtorEq,Y1,Y2,Y3,Y4,Y5,Y6,Y7,Y8,Y9,YA,wE]
 refine X0 q2 rfl ?_
 by_cases h2:B.y<A.y
 ·have f2:(0<QO A.y B.y)=True:=eq_true ((Jz _ _).2 h2)
  simp only [f1,f2,XN,↓X2,wA,↓reduceIte,reduceIte,reduceCtorEq,Y1,Y2,Y3,Y4,Y5,Y6,Y7,Y8,Y9,YA,wE]
  exact zret rfl rfl rfl rfl rfl (by rw [hRe,if_pos (.inr h2)])
 have f2:(0<QO A.y B.y)=False:=eq_false fun h=>h2 ((Jz _ _).1 h)
 simp only [f1,f2,XN,↓X2,wA,↓reduceIte,reduceIte,reduceCtorEq,Y1,Y2,Y3,Y4,Y5,Y6,Y7,Y8,Y9,YA,wE]
 rw [if_neg fun h=>h.elim h1 h2] at hRe
 subst hRe
 exact HA rfl (Xn JD rfl rfl rfl) (Xn JD rfl rfl rfl) (by unfold QR; rfl) (Xu (Xm _) (XT (XY (vC A)))) (Xu (Xm _) (XT (XY (vC B)))) ((X3 _).sees _)
end
end Go.Ab.N
