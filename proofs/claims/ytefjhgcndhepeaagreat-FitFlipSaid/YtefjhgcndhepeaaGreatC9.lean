/- Own texts. -/
import Derived.Test.YtefjhgcndhepeaaGreatC8
import Derived.Test.YtefjhgcndhepeaaGreatC7
set_option linter.unusedSimpArgs false
set_option linter.unusedVariables false
open Nat renaming reducePow → Y1, reduceLT → Y2, reduceLeDiff → Y3, reduceEqDiff → Y4, reduceAdd → Y5, reduceMul → Y6, reduceSub → Y7, reduceBEq → Y8, reduceDiv → Y9, reduceMod → YA
namespace Go.Ab.N
open Go Go.RowKit Go.Proofs
noncomputable section
set_option maxRecDepth 10000
set_option maxHeartbeats 4000000
open Classical
structure FV where
 A:Int
 B:Int
 EA:Int
 EB:Int
 M:Int
 turn:V2
 lo:V2
 hi:V2
def XJ (f:FV):List AV:=[I f.A,I f.B,I f.EA,I f.EB,I f.M,.bool (decide (f.turn.x.num<0)),X7 (X8 f.turn.x.num.natAbs),.bool false,X7 (X8 (qd f.turn.x)),.bool (decide (f.turn.y.num<0)),X7 (X8 f.turn.y.num.natAbs),.bool false,X7 (X8 (qd f.turn.y)),
 .bool (decide (f.lo.x.num<0)),X7 (X8 f.lo.x.num.natAbs),.bool false,X7 (X8 (qd f.lo.x)),.bool (decide (f.lo.y.num<0)),X7 (X8 f.lo.y.num.natAbs),.bool false,X7 (X8 (qd f.lo.y)),
 .bool (decide (f.hi.x.num<0)),X7 (X8 f.hi.x.num.natAbs),.bool false,X7 (X8 (qd f.hi.x)),.bool (decide (f.hi.y.num<0)),X7 (X8 f.hi.y.num.natAbs),.bool false,X7 (X8 (qd f.hi.y))]
def Jz (f:FV):AV:=.agg (XJ f)
theorem XN (f:FV):∀ x∈XJ f,Settled x:=by simp [XJ,X9,X6,X2]
theorem Ka (f:FV):Settled (Jz f):=Qn (XN f)
theorem N5 (k:Int) (n:Nat) (h:0<n):(k.tmod n+n).tmod n=k % n:=by
 have h1:=Int.tmod_lt_of_pos k (show (0:Int)<n by omega)
 have h2:-(n:Int)<k.tmod n:=by
  have:=Int.lt_tmod_of_pos k (show (0:Int)<n by omega)
  omega
 rw [Int.tmod_eq_emod_of_nonneg (by omega),Int.add_emod_right]
 have h3:=Int.mul_tdiv_add_tmod k n
 have h4:k % n=(k.tmod n+n*k.tdiv n) % n:=by rw [Int.add_comm]; rw [h3]
 rw [h4,Int.add_mul_emod_self_left]
theorem Z4 (k:Int) (n:Nat) (h:0<n) (hk:-1000000000≤k∧k≤1000000000) (hn:n≤1000000000):Fn Tryz.prog 124 [I k,I n] (I (k % n)):=by
 have h1:=Int.tmod_lt_of_pos k (show (0:Int)<n by omega)
 have h2:=Int.lt_tmod_of_pos k (show (0:Int)<n by omega)
 have w1:IntKind.i64.wrap (k.tmod n+n)=k.tmod n+n:=by rw [IntKind.wrap_i64]; omega
 have f1:((n:Int)=0)=False:=eq_false (by omega)
 have f1':(n=0)=False:=eq_false (by omega)
 obtain ⟨R,hR⟩:∃ R,R=k % (n:Int):=⟨_,rfl⟩
 have e:=N5 k n h
 rw [← hR] at e ⊢
 refine Fr Tryz.call124 Tryz.func124 5 [] [] [] ?_
 simp only [AS.start,f1,f1',w1,e,↓X1,wF,seval]
 exact Xt rfl rfl (X9 _) rfl
theorem Ql (k:Int) (n:Nat) (h:0<n) (hk:-1000000000≤k∧k≤1000000000) (hn:n≤1000000000):Fn Tryz.prog 129 [I k,I n] (I (k % n)):=by
 have h1:=Int.tmod_lt_of_pos k (show (0:Int)<n by omega)
 have h2:=Int.lt_tmod_of_pos k (show (0:Int)<n by omega)
 have w1:IntKind.i64.wrap (k.tmod n+n)=k.tmod n+n:=by rw [IntKind.wrap_i64]; omega
 have f1:((n:Int)=0)=False:=eq_false (by omega)
 have f1':(n=0)=False:=eq_false (by omega)
 obtain ⟨R,hR⟩:∃ R,R=k % (n:Int):=⟨_,rfl⟩
 have e:=N5 k n h
 rw [← hR] at e ⊢
 refine Fr Tryz.call129 Tryz.func129 5 [] [] [] ?_
 simp only [AS.start,f1,f1',w1,e,↓X1,wF,seval]
 exact Xt rfl rfl (X9 _) rfl
def Zd (n m:Nat) (f:FV):Prop:=(0≤f.EA∧f.EA<n)∧(0≤f.EB∧f.EB<m)∧1≤f.M∧f.M<n∧f.M<m
theorem C7 (a b:PV) (f:FV) (ha:a.rim.length<1000000) (hb:b.rim.length<1000000):Fn Tryz.prog 122 [QP a,QP b,Jz f] (.bool (decide (Zd a.rim.length b.rim.length f))):=by
 obtain ⟨V,hV⟩:∃ V,V=decide (Zd a.rim.length b.rim.length f):=⟨_,rfl⟩
 have fin:∀ {s:AS} {v:Bool},s.get 6=.bool v→v=V→RetOk (QJ Tryz.prog Tryz.f122 [] [] (.bool V)) s:=fun h e=>Xt rfl h (X2 _) (by rw [e])
 rw [← hV]
 refine Fq Tryz.call122 Tryz.func122 9 [] [] [] (by simp [Je,Ka]) (Xl ?_)
 by_cases hmn:(b.rim.length:Int)<a.rim.length
 ·have fmn:((b.rim.length:Int)<a.rim.length)=True:=eq_true hmn
  by_cases g0:0≤f.EA
  rotate_left
  ·have f0:(0≤f.EA)=False:=eq_false g0
   simp only [AS.start,QP,XG,Jz,XJ,fmn,if_true,f0,↓X1,wF,seval]
   exact fin rfl (by rw [hV,decide_eq_false fun h=>g0 h.1.1])
  have f0:(0≤f.EA)=True:=eq_true g0
  by_cases g1:f.EA<(a.rim.length:Int)
  rotate_left
  ·have f1:(f.EA<(a.rim.length:Int))=False:=eq_false g1
   simp only [AS.start,QP,XG,Jz,XJ,fmn,if_true,f0,f1,↓X1,wF,seval]
   exact fin rfl (by rw [hV,decide_eq_false fun h=>g1 h.1.2])
  have f1:(f.EA<(a.rim.length:Int))=True:=eq_true g1
  by_cases g2:0≤f.EB
  rotate_left
  ·have f2:(0≤f.EB)=False:=eq_false g2
   simp only [AS.start,QP,XG,Jz,XJ,fmn,if_true,f0,f1,f2,↓X1,wF,seval]
   exact fin rfl (by rw [hV,decide_eq_false fun h=>g2 h.2.1.1])
  have f2:(0≤f.EB)=True:=eq_true g2
  by_cases g3:f.EB<(b.rim.length:Int)
  rotate_left
  ·have f3:(f.EB<(b.rim.length:Int))=False:=eq_false g3
   simp only [AS.start,QP,XG,Jz,XJ,fmn,if_true,f0,f1,f2,f3,↓X1,wF,seval]
   exact fin rfl (by rw [hV,decide_eq_false fun h=>g3 h.2.1.2])
  have f3:(f.EB<(b.rim.length:Int))=True:=eq_true g3
  by_cases g4:1≤f.M
  rotate_left
  ·have f4:(1≤f.M)=False:=eq_false g4
   simp only [AS.start,QP,XG,Jz,XJ,fmn,if_true,f0,f1,f2,f3,f4,↓X1,wF,seval]
   exact fin rfl (by rw [hV,decide_eq_false fun h=>g4 h.2.2.1])
  have f4:(1≤f.M)=True:=eq_true g4
  by_cases g5:f.M<(b.rim.length:Int)
  rotate_left
  ·have f5:(f.M<(b.rim.length:Int))=False:=eq_false g5
   simp only [AS.start,QP,XG,Jz,XJ,fmn,if_true,f0,f1,f2,f3,f4,f5,↓X1,wF,seval]
   exact fin rfl (by rw [hV,decide_eq_false fun h=>g5 h.2.2.2.2])
  have f5:(f.M<(b.rim.length:Int))=True:=eq_true g5
  simp only [AS.start,QP,XG,Jz,XJ,fmn,if_true,f0,f1,f2,f3,f4,f5,↓X1,wF,seval]
  exact fin rfl (by rw [hV,decide_eq_true]; exact ⟨⟨g0,g1⟩,⟨g2,g3⟩,g4,by omega,g5⟩)
 ·have fmn:((b.rim.length:Int)<a.rim.length)=False:=eq_false hmn
  by_cases g0:0≤f.EA
  rotate_left
  ·have f0:(0≤f.EA)=False:=eq_false g0
   simp only [AS.start,QP,XG,Jz,XJ,fmn,if_false,f0,↓X1,wF,seval]
   exact fin rfl (by rw [hV,decide_eq_false fun h=>g0 h.1.1])
  have f0:(0≤f.EA)=True:=eq_true g0
  by_cases g1:f.EA<(a.rim.length:Int)
  rotate_left
  ·have f1:(f.EA<(a.rim.length:Int))=False:=eq_false g1
   simp only [AS.start,QP,XG,Jz,XJ,fmn,if_false,f0,f1,↓X1,wF,seval]
   exact fin rfl (by rw [hV,decide_eq_false fun h=>g1 h.1.2])
  have f1:(f.EA<(a.rim.length:Int))=True:=eq_true g1
  by_cases g2:0≤f.EB
  rotate_left
  ·have f2:(0≤f.EB)=False:=eq_false g2
   simp only [AS.start,QP,XG,Jz,XJ,fmn,if_false,f0,f1,f2,↓X1,wF,seval]
   exact fin rfl (by rw [hV,decide_eq_false fun h=>g2 h.2.1.1])
  have f2:(0≤f.EB)=True:=eq_true g2
  by_cases g3:f.EB<(b.rim.length:Int)
  rotate_left
  ·have f3:(f.EB<(b.rim.length:Int))=False:=eq_false g3
   simp only [AS.start,QP,XG,Jz,XJ,fmn,if_false,f0,f1,f2,f3,↓X1,wF,seval]
   exact fin rfl (by rw [hV,decide_eq_false fun h=>g3 h.2.1.2])
  have f3:(f.EB<(b.rim.length:Int))=True:=eq_true g3
  by_cases g4:1≤f.M
  rotate_left
  ·have f4:(1≤f.M)=False:=eq_false g4
   simp only [AS.start,QP,XG,Jz,XJ,fmn,if_false,f0,f1,f2,f3,f4,↓X1,wF,seval]
   exact fin rfl (by rw [hV,decide_eq_false fun h=>g4 h.2.2.1])
  have f4:(1≤f.M)=True:=eq_true g4
  by_cases g5:f.M<(a.rim.length:Int)
  rotate_left
  ·have f5:(f.M<(a.rim.length:Int))=False:=eq_false g5
   simp only [AS.start,QP,XG,Jz,XJ,fmn,if_false,f0,f1,f2,f3,f4,f5,↓X1,wF,seval]
   exact fin rfl (by rw [hV,decide_eq_false fun h=>g5 h.2.2.2.1])
  have f5:(f.M<(a.rim.length:Int))=True:=eq_true g5
  simp only [AS.start,QP,XG,Jz,XJ,fmn,if_false,f0,f1,f2,f3,f4,f5,↓X1,wF,seval]
  exact fin rfl (by rw [hV,decide_eq_true]; exact ⟨⟨g0,g1⟩,⟨g2,g3⟩,g4,g5,by omega⟩)
theorem HQ (a b:PV) (f:FV) (ha:a.rim.length<1000000) (hb:b.rim.length<1000000):Fn Tryz.prog 127 [QP a,QP b,Jz f] (.bool (decide (Zd a.rim.length b.rim.length f))):=by
 obtain ⟨V,hV⟩:∃ V,V=decide (Zd a.rim.length b.rim.length f):=⟨_,rfl⟩
 have fin:∀ {s:AS} {v:Bool},s.get 6=.bool v→v=V→RetOk (QJ Tryz.prog Tryz.f127 [] [] (.bool V)) s:=fun h e=>Xt rfl h (X2 _) (by rw [e])
 rw [← hV]
 refine Fq Tryz.call127 Tryz.func127 9 [] [] [] (by simp [Je,Ka]) (Xl ?_)
 by_cases g0:0≤f.EA
 rotate_left
 ·have f0:(0≤f.EA)=False:=eq_false g0
  simp only [AS.start,QP,XG,Jz,XJ,f0,↓X1,wF,seval]
  exact fin rfl (by rw [hV,decide_eq_false fun h=>g0 h.1.1])
 have f0:(0≤f.EA)=True:=eq_true g0
 by_cases g1:f.EA<(a.rim.length:Int)
 rotate_left
 ·have f1:(f.EA<(a.rim.length:Int))=False:=eq_false g1
  simp only [AS.start,QP,XG,Jz,XJ,f0,f1,↓X1,wF,seval]
  exact fin rfl (by rw [hV,decide_eq_false fun h=>g1 h.1.2])
 have f1:(f.EA<(a.rim.length:Int))=True:=eq_true g1
 by_cases g2:0≤f.EB
 rotate_left
 ·have f2:(0≤f.EB)=False:=eq_false g2
  simp only [AS.start,QP,XG,Jz,XJ,f0,f1,f2,↓X1,wF,seval]
  exact fin rfl (by rw [hV,decide_eq_false fun h=>g2 h.2.1.1])
 have f2:(0≤f.EB)=True:=eq_true g2
 by_cases g3:f.EB<(b.rim.length:Int)
 rotate_left
 ·have f3:(f.EB<(b.rim.length:Int))=False:=eq_false g3
  simp only [AS.start,QP,XG,Jz,XJ,f0,f1,f2,f3,↓X1,wF,seval]
  exact fin rfl (by rw [hV,decide_eq_false fun h=>g3 h.2.1.2])
 have f3:(f.EB<(b.rim.length:Int))=True:=eq_true g3
 by_cases g4:1≤f.M
 rotate_left
 ·have f4:(1≤f.M)=False:=eq_false g4
  simp only [AS.start,QP,XG,Jz,XJ,f0,f1,f2,f3,f4,↓X1,wF,seval]
  exact fin rfl (by rw [hV,decide_eq_false fun h=>g4 h.2.2.1])
 have f4:(1≤f.M)=True:=eq_true g4
 by_cases g5:f.M<(a.rim.length:Int)
 rotate_left
 ·have f5:(f.M<(a.rim.length:Int))=False:=eq_false g5
  simp only [AS.start,QP,XG,Jz,XJ,f0,f1,f2,f3,f4,f5,↓X1,wF,seval]
  exact fin rfl (by rw [hV,decide_eq_false fun h=>g5 h.2.2.2.1])
 have f5:(f.M<(a.rim.length:Int))=True:=eq_true g5
 by_cases g6:f.M<(b.rim.length:Int)
 rotate_left
 ·have f6:(f.M<(b.rim.length:Int))=False:=eq_false g6
  simp only [AS.start,QP,XG,Jz,XJ,f0,f1,f2,f3,f4,f5,f6,↓X1,wF,seval]
  exact fin rfl (by rw [hV,decide_eq_false fun h=>g6 h.2.2.2.2])
 have f6:(f.M<(b.rim.length:Int))=True:=eq_true g6
 simp only [AS.start,QP,XG,Jz,XJ,f0,f1,f2,f3,f4,f5,f6,↓X1,wF,seval]
 exact fin rfl (by rw [hV,decide_eq_true]; exact ⟨⟨g0,g1⟩,⟨g2,g3⟩,g4,g5,g6⟩)
def GT (R:List (Int×Int)) (k:Nat):Int×Int:=((R.getD ((k+1) % R.length) (0,0)).1 - (R.getD k (0,0)).1,(R.getD ((k+1) % R.length) (0,0)).2 - (R.getD k (0,0)).2)
def Ba (R:List (Int×Int)) (k:Nat):V2:=(Jv (R.getD ((k+1) % R.length) (0,0))).sub (Jv (R.getD k (0,0)))
def TA (R:List (Int×Int)) (k:Nat):Int:=(GT R k).1*(GT R k).1+(GT R k).2*(GT R k).2
theorem Uz (R:List (Int×Int)) (k:Nat):Ba R k=⟨((GT R k).1:Rat),((GT R k).2:Rat)⟩:=by
 unfold Ba GT V2.sub Jv
 simp only [Rat.intCast_sub]
def QW (R:List (Int×Int)):Prop:=∀ c∈R,(-65536≤c.1∧c.1≤65536)∧(-65536≤c.2∧c.2≤65536)
theorem DV {R:List (Int×Int)} (h:QW R) (i:Nat):(-65536≤(R.getD i (0,0)).1∧(R.getD i (0,0)).1≤65536)∧(-65536≤(R.getD i (0,0)).2∧(R.getD i (0,0)).2≤65536):=by
 rw [List.getD_eq_getElem?_getD]
 cases hx:R[i]? with
 | none=>exact ⟨⟨by decide,by decide⟩,⟨by decide,by decide⟩⟩
 | some c=>exact h c (List.mem_of_getElem? hx)
theorem AU {R:List (Int×Int)} (h:QW R):∀ i,i<R.length→LP (R.getD i (0,0))=true:=fun i _=>by
 have:=DV h i
 unfold LP wb
 simp only [Bool.and_eq_true,decide_eq_true_eq]
 omega
theorem DJ {R:List (Int×Int)} (h:QW R) (k:Nat):(-131072≤(GT R k).1∧(GT R k).1≤131072)∧(-131072≤(GT R k).2∧(GT R k).2≤131072):=by
 have h1:=DV h k
 have h2:=DV h ((k+1) % R.length)
 unfold GT
 simp only
 omega
theorem Bs {R:List (Int×Int)} (h:QW R) (k:Nat):vb (Ba R k)≤3:=by
 have:=DJ h k
 rw [Uz]
 have q1:=Z7 (GT R k).1 3 (by omega) (Qy ⟨by omega,by omega⟩)
 have q2:=Z7 (GT R k).2 3 (by omega) (Qy ⟨by omega,by omega⟩)
 unfold vb
 simp only
 omega
theorem Sq (p:PV) (k:Nat) (hk:k<p.rim.length) (hl:p.rim.length<1000000) (hn:QW p.rim):Fn Tryz.prog 121 [QP p,I k] (.tup [I (GT p.rim k).1,I (GT p.rim k).2]):=by
 obtain ⟨D,hD⟩:∃ D,D=GT p.rim k:=⟨_,rfl⟩
 have h0:=DJ hn k
 rw [← hD] at h0 ⊢
 have hD1:(p.rim.getD ((k+1) % p.rim.length) (0,0)).1 - (p.rim.getD k (0,0)).1=D.1:=by rw [hD]; rfl
 have hD2:(p.rim.getD ((k+1) % p.rim.length) (0,0)).2 - (p.rim.getD k (0,0)).2=D.2:=by rw [hD]; rfl
 have f0:((p.rim.length:Int)=0)=False:=eq_false (by omega)
 have f0':(p.rim.length=0)=False:=eq_false (by omega)
 have r1:(k:Int).tmod p.rim.length=(k:Int):=by rw [show (k:Int).tmod p.rim.length=((k % p.rim.length:Nat):Int) from rfl,Nat.mod_eq_of_lt hk]
 have w1:IntKind.i64.wrap ((k:Int)+p.rim.length)=((k+p.rim.length:Nat):Int):=by rw [IntKind.wrap_i64]; omega
 have r2:((k+p.rim.length:Nat):Int).tmod p.rim.length=(k:Int):=by rw [show ((k+p.rim.length:Nat):Int).tmod p.rim.length=(((k+p.rim.length) % p.rim.length:Nat):Int) from rfl,Nat.add_mod_right,Nat.mod_eq_of_lt hk]
 have w2:=wj k (by omega)
 have r3:((k+1:Nat):Int).tmod p.rim.length=(((k+1) % p.rim.length:Nat):Int):=rfl
 have hm:(k+1) % p.rim.length<p.rim.length:=Nat.mod_lt _ (by omega)
 obtain ⟨m,hme⟩:∃ m,m=(k+1) % p.rim.length:=⟨_,rfl⟩
 rw [← hme] at hD1 hD2 r3 hm
 have f1:((k:Int)<p.rim.length)=True:=eq_true (by omega)
 have f2:(k<p.rim.length)=True:=eq_true hk
 have f3:((m:Int)<p.rim.length)=True:=eq_true (by omega)
 have f4:(m<p.rim.length)=True:=eq_true hm
 have f5:(k*2+2≤p.rim.length*2)=True:=eq_true (by omega)
 have f6:(m*2+2≤p.rim.length*2)=True:=eq_true (by omega)
 have v1:=oz p.rim k
 have v2:=oz p.rim m
 have w3:IntKind.i64.wrap D.1=D.1:=by rw [IntKind.wrap_i64]; omega
 have w4:IntKind.i64.wrap D.2=D.2:=by rw [IntKind.wrap_i64]; omega
 refine Fr Tryz.call121 Tryz.func121 9 [] [3,40000002] [] ?_
 simp only [AS.start,QP,XG,f0,f0',f1,f2,f3,f4,f5,f6,r1,r2,r3,w1,w2,w3,w4,v1,v2,hD1,hD2,Int.toNat_natCast,↓X1,wF,seval]
 exact SK rfl rfl rfl (X9 _) (X9 _) rfl rfl
theorem So (p:PV) (k:Nat) (hk:k<p.rim.length) (hl:p.rim.length<1000000) (hn:QW p.rim):Fn Tryz.prog 45 [QP p,I k] (vA (Ba p.rim k)):=by
 have c1:=Sq p k hk hl hn
 have h0:=DJ hn k
 rw [Uz]
 generalize GT p.rim k=D at *
 have c2:=Hj D.1 D.2 ⟨by omega,by omega⟩ ⟨by omega,by omega⟩
 obtain ⟨R,hR⟩:∃ R,R=vA ⟨(D.1:Rat),(D.2:Rat)⟩:=⟨_,rfl⟩
 have sR:Settled R:=hR▸Xk _
 rw [← hR]
 refine Fr Tryz.call45 Tryz.func45 5 [] [] [] ?_
 simp only [AS.start,QP,XG,↓X1,wF,seval]
 refine X0 c1 rfl ?_
 simp only [↓X1,wF,seval]
 refine X0 c2 rfl ?_
 simp only [↓X1,wF,seval]
 exact Zm rfl Ju rfl rfl rfl sR (hR.trans rfl)
theorem Fy (p:PV) (k:Nat) (hk:k<p.rim.length) (hl:p.rim.length<1000000) (hn:QW p.rim):Fn Tryz.prog 113 [QP p,I k] (I (TA p.rim k)):=by
 have c1:=Sq p k hk hl hn
 have h0:=DJ hn k
 unfold TA
 generalize GT p.rim k=D at *
 have b1:D.1*D.1≤131072*131072:=by
  rcases Int.le_total 0 D.1 with h | h
  ·exact Int.mul_le_mul h0.1.2 h0.1.2 h (by omega)
  ·have:=Int.mul_le_mul (show -D.1≤131072 by omega) (show -D.1≤131072 by omega) (by omega) (by omega)
   rwa [Int.neg_mul_neg] at this
 have b2:D.2*D.2≤131072*131072:=by
  rcases Int.le_total 0 D.2 with h | h
  ·exact Int.mul_le_mul h0.2.2 h0.2.2 h (by omega)
  ·have:=Int.mul_le_mul (show -D.2≤131072 by omega) (show -D.2≤131072 by omega) (by omega) (by omega)
   rwa [Int.neg_mul_neg] at this
 have b3:0≤D.1*D.1:=by
  rcases Int.le_total 0 D.1 with h | h
  ·exact Int.mul_nonneg h h
  ·exact Int.mul_nonneg_of_nonpos_of_nonpos h h
 have b4:0≤D.2*D.2:=by
  rcases Int.le_total 0 D.2 with h | h
  ·exact Int.mul_nonneg h h
  ·exact Int.mul_nonneg_of_nonpos_of_nonpos h h
 have w1:IntKind.i64.wrap (D.1*D.1)=D.1*D.1:=by rw [IntKind.wrap_i64]; omega
 have w2:IntKind.i64.wrap (D.2*D.2)=D.2*D.2:=by rw [IntKind.wrap_i64]; omega
 have w3:IntKind.i64.wrap (D.1*D.1+D.2*D.2)=D.1*D.1+D.2*D.2:=by rw [IntKind.wrap_i64]; omega
 refine Fr Tryz.call113 Tryz.func113 7 [] [] [] ?_
 simp only [AS.start,QP,XG,↓X1,wF,seval]
 refine X0 c1 rfl ?_
 simp only [w1,w2,w3,↓X1,wF,seval]
 exact Xt rfl rfl (X9 _) rfl
theorem GC (R:List (Int×Int)) (i:Nat):(Xz R).getD i v0=Jv (R.getD i (0,0)):=by
 unfold Xz
 rw [List.getD_eq_getElem?_getD,List.getD_eq_getElem?_getD,List.getElem?_map]
 cases R[i]? with
 | none=>show v0=Jv (0,0); unfold v0 Jv; simp
 | some c=>rfl
theorem SD (p:PV) (k:Nat) (hk:k<p.rim.length) (hl:p.rim.length<1000000) (hn:QW p.rim):Fn Tryz.prog 115 [QP p,I k] (vA (Ba p.rim k)):=by
 have cr:=E8 p hl (AU hn)
 have hlen:(Xz p.rim).length=p.rim.length:=by simp [Xz]
 have hs:=HS (AU hn)
 have hm:(k+1) % p.rim.length<p.rim.length:=Nat.mod_lt _ (by omega)
 have cs:=JW ((Xz p.rim).getD ((k+1) % p.rim.length) v0) ((Xz p.rim).getD k v0) (by have:=hs ((k+1) % p.rim.length); unfold rm; omega) (by have:=hs k; unfold rm; omega)
 rw [show ((Xz p.rim).getD ((k+1) % p.rim.length) v0).sub ((Xz p.rim).getD k v0)=Ba p.rim k by rw [GC,GC]; rfl] at cs
 obtain ⟨R,hR⟩:∃ R,R=vA (Ba p.rim k):=⟨_,rfl⟩
 have sR:Settled R:=hR▸Xk _
 rw [← hR] at cs ⊢
 have w2:=wj k (by omega)
 have f0:((p.rim.length:Int)=0)=False:=eq_false (by omega)
 have f0':(p.rim.length=0)=False:=eq_false (by omega)
 have r3:((k+1:Nat):Int).tmod p.rim.length=(((k+1) % p.rim.length:Nat):Int):=rfl
 have v1:=vF (Xz p.rim) k
 have v2:=vF (Xz p.rim) ((k+1) % p.rim.length)
 generalize (k+1) % p.rim.length=m at *
 have f1:((k:Int)<p.rim.length)=True:=eq_true (by omega)
 have f2:(k<p.rim.length)=True:=eq_true hk
 have f3:((m:Int)<p.rim.length)=True:=eq_true (by omega)
 have f4:(m<p.rim.length)=True:=eq_true hm
 have f5:(k*8+8≤p.rim.length*8)=True:=eq_true (by omega)
 have f6:(m*8+8≤p.rim.length*8)=True:=eq_true (by omega)
 refine Fr Tryz.call115 Tryz.func115 6 [] [2] [] ?_
 simp only [AS.start,QP,XG,↓X1,wF,seval]
 refine X0 cr rfl ?_
 simp only [X4,hlen,f0,f0',f1,f2,f3,f4,f5,f6,w2,r3,v1,v2,Int.toNat_natCast,↓X1,wF,seval]
 refine X0 cs rfl ?_
 simp only [hR,↓X1,wF,seval]
 exact Zm rfl Ju rfl rfl rfl sR (hR.trans rfl)
theorem Fv {f:FuncId} {fn:Func} {body:Code} {args:List AV} {r:AV} (he:A7 Tryz.prog f) (hf:Tryz.prog.funcs[f]?=some fn) (n0:Nat) (hid str hcs:List Nat) (h:QF (BZ (AS.start n0 hid args [])) fun s=>vc (QJ Tryz.prog fn str hcs r) 1000 [.code body] s) (hs:∀ a∈args,Settled a:=by simp [wS,Je,Ka]) (hb:fn.body=some body:=by rfl) (hok:Qq fn.ntmps str hcs body=true:=by kernel_rfl) (hlen:args.length≤fn.ntmps:=by exact Nat.le_of_ble_eq_true rfl):Fn Tryz.prog f args r:=Fq he hf n0 hid str hcs hs (Xl h) hb hok hlen
def Jb (a:V2):V2:=⟨-a.x,-a.y⟩
theorem Vy (a:V2):vb (Jb a)=vb a:=by
 unfold vb Jb
 simp only [IC]
theorem cV (a:V2):a.scale (-1)=Jb a:=by
 unfold V2.scale Jb
 rw [V2.ext']
 exact ⟨by simp only; grind,by simp only; grind⟩
theorem tv (a:V2):v0.sub a=Jb a:=by
 unfold V2.sub Jb v0
 rw [V2.ext']
 exact ⟨by simp only; grind,by simp only; grind⟩
theorem Iq (a:V2):XS (Jb a) (Jb a)=XS a a:=by unfold XS Jb; grind
theorem W6 (R:List (Int×Int)) (k:Nat):XS (Ba R k) (Ba R k)=(TA R k:Rat):=by
 rw [Uz]
 unfold XS TA
 simp only [Rat.intCast_add,Rat.intCast_mul]
theorem CM (t:Bool):WeakL [.bool false,.sl 0 0 (fun _=>.any) t,.bool false,.sl 0 0 (fun _=>.any) t,.bool false,.sl 0 0 (fun _=>.any) t,.bool false,.sl 0 0 (fun _=>.any) t] (vC v0) :=
 have h1:X8 (0:Rat).num.natAbs=[]:=by rw [Rat.zero_num]; simp [Q1]
 have h2:X8 (qd (0:Rat))=[]:=Da rfl
 ⟨Weak.rfl' _,Qw h1,Weak.rfl' _,Qw h2,Weak.rfl' _,Qw h1,Weak.rfl' _,Qw h2,trivial⟩
def ON (n m:Nat) (i j:Int):Prop:=(0≤i∧i<n)∧0≤j∧j<m
noncomputable def Q9 (a b:List (Int×Int)) (i j:Int):V2×Bool :=
 if ON a.length b.length i j then ((QI (Jb (Ba b j.toNat)) (Ba a i.toNat)).1,decide ((QI (Jb (Ba b j.toNat)) (Ba a i.toNat)).2=0)) else (v0,false)
theorem FQ (a b:V2) (h:XS a a≠XS b b):(QI a b).1=v0∧(QI a b).2≠0:=by
 unfold QI
 by_cases h0:XS a a=0∨XS b b=0
 ·rw [if_pos h0]; exact ⟨rfl,by decide⟩
 ·rw [if_neg h0,if_neg h]; exact ⟨rfl,by decide⟩
theorem kp (a b:V2) (k:Nat) (ha:vb a≤k) (hb:vb b≤k):vb (QI a b).1≤8*k+2:=by
 have q0:=Aj
 have z:vb v0≤8*k+2:=by unfold vb v0; simp only; omega
 have q1:=Ai a a; have q3:=Ai a b; have q4:=CG a b
 have d1:=jx (XS a b) (XS a a); have d2:=jx (Qe a b) (XS a a)
 unfold QI
 by_cases h0:XS a a=0∨XS b b=0
 ·rw [if_pos h0]; exact z
 ·rw [if_neg h0]
  by_cases h1:XS a a=XS b b
  ·rw [if_pos h1]
   show max (qb (XS a b / XS a a)) (qb (Qe a b / XS a a))≤_
   omega
  ·rw [if_neg h1]; exact z
theorem CP {a b:List (Int×Int)} (ha:QW a) (hb:QW b) (i j:Int):vb (Q9 a b i j).1≤26:=by
 unfold Q9
 by_cases h:ON a.length b.length i j
 ·rw [if_pos h]
  exact kp _ _ 3 (by rw [Vy]; exact Bs hb _) (Bs ha _)
 ·rw [if_neg h]
  have q0:=Aj
  unfold vb v0; simp only; omega
theorem D4 (a b:PV) (i j:Int) (hla:a.rim.length<1000000) (hlb:b.rim.length<1000000) (na:QW a.rim) (nb:QW b.rim):Fn Tryz.prog 39 [QP a,QP b,I i,I j] (.tup [vA (Q9 a.rim b.rim i j).1,.bool (Q9 a.rim b.rim i j).2]):=by
 obtain ⟨R,hR⟩:∃ R,R=Q9 a.rim b.rim i j:=⟨_,rfl⟩
 rw [← hR]
 have zret:∀ {s:AS} {ver id':Nat},s.get 8=.ref id' ver 0→s.h[id']?=some (.row ver 8 (Xn Zt))→s.get 9=.bool false→R=(v0,false)→RetOk (QJ Tryz.prog Tryz.f39 [3,40000004,40000005] [] (.tup [vA R.1,.bool R.2])) s:=fun h1 h2 h3 h4=>by
  subst h4
  exact J2 rfl (Xo C9 h1 h2 rfl) (by unfold QH; rfl) (Xr (Xk _) (XO Zp)) (by rw [h3]; exact (X2 _).sees _)
 refine Fr Tryz.call39 Tryz.func39 12 [] [3,40000004,40000005] [] ?_
 by_cases g0:i<0
 ·have f0:(i<0)=True:=eq_true g0
  simp only [AS.start,QP,XG,f0,↓X1,wF,seval]
  exact zret rfl rfl rfl (by rw [hR]; unfold Q9; rw [if_neg (by unfold ON; omega)])
 have f0:(i<0)=False:=eq_false g0
 by_cases g1:(a.rim.length:Int)≤i
 ·have f1:((a.rim.length:Int)≤i)=True:=eq_true g1
  simp only [AS.start,QP,XG,f0,f1,↓X1,wF,seval]
  exact zret rfl rfl rfl (by rw [hR]; unfold Q9; rw [if_neg (by unfold ON; omega)])
 have f1:((a.rim.length:Int)≤i)=False:=eq_false g1
 by_cases g2:j<0
 ·have f2:(j<0)=True:=eq_true g2
  simp only [AS.start,QP,XG,f0,f1,f2,↓X1,wF,seval]
  exact zret rfl rfl rfl (by rw [hR]; unfold Q9; rw [if_neg (by unfold ON; omega)])
 have f2:(j<0)=False:=eq_false g2
 by_cases g3:(b.rim.length:Int)≤j
 ·have f3:((b.rim.length:Int)≤j)=True:=eq_true g3
  simp only [AS.start,QP,XG,f0,f1,f2,f3,↓X1,wF,seval]
  exact zret rfl rfl rfl (by rw [hR]; unfold Q9; rw [if_neg (by unfold ON; omega)])
 have f3:((b.rim.length:Int)≤j)=False:=eq_false g3
 obtain ⟨i,rfl⟩:∃ n:Nat,i=n:=⟨i.toNat,by omega⟩
 obtain ⟨j,rfl⟩:∃ n:Nat,j=n:=⟨j.toNat,by omega⟩
 have hin:ON a.rim.length b.rim.length i j:=by unfold ON; omega
 have hR1:R=((QI (Jb (Ba b.rim j)) (Ba a.rim i)).1,decide ((QI (Jb (Ba b.rim j)) (Ba a.rim i)).2=0)):=by rw [hR]; unfold Q9; rw [if_pos hin]; rfl
 have s1:=Fy a i (by omega) hla na
 have s2:=Fy b j (by omega) hlb nb
 simp only [AS.start,QP,XG,f0,f1,f2,f3,↓X1,wF,seval]
 refine X0 s1 rfl ?_
 simp only [f0,f1,f2,f3,↓X1,wF,seval]
 refine X0 s2 rfl ?_
 by_cases hs:TA a.rim i=TA b.rim j
 rotate_left
 ·have fs:(TA a.rim i=TA b.rim j)=False:=eq_false hs
  simp only [fs,↓X1,wF,seval]
  refine zret rfl rfl rfl ?_
  have hd:=FQ (Jb (Ba b.rim j)) (Ba a.rim i) (by rw [Iq,W6,W6]; exact fun h=>hs (Rat.intCast_inj.1 h).symm)
  rw [hR1,hd.1,decide_eq_false hd.2]
 have fs:(TA a.rim i=TA b.rim j)=True:=eq_true hs
 have e1:=So b j (by omega) hlb nb
 have e2:=So a i (by omega) hla na
 have k1:=Bs nb j; have k2:=Bs na i
 have o1:=FC (-1) 1 ⟨by omega,by omega⟩ ⟨by omega,by omega⟩
 rw [show Rat.divInt (-1) 1 = -1 by decide +kernel] at o1
 have o2:=NT (Ba b.rim j) (-1) (by unfold vm; omega) (by have:=BJ (-1) 1 ⟨by omega,by omega⟩ ⟨by omega,by omega⟩; rw [show Rat.divInt (-1) 1 = -1 by decide +kernel] at this; unfold vm; omega)
 rw [cV] at o2
 have o3:=bX (Jb (Ba b.rim j)) (Ba a.rim i) (by rw [Vy]; omega) (by omega)
 generalize QI (Jb (Ba b.rim j)) (Ba a.rim i)=X at *
 simp only [fs,↓X1,wF,seval]
 refine X0 e1 rfl ?_
 simp only [↓X1,wF,seval]
 refine X0 o1 rfl ?_
 simp only [↓X1,wF,seval]
 refine X0 o2 rfl ?_
 simp only [↓X1,wF,seval]
 refine X0 e2 rfl ?_
 simp only [↓X1,wF,seval]
 refine X0 o3 rfl ?_
 simp only [↓X1,wF,seval]
 subst hR1
 exact J2 rfl (Xo C9 rfl rfl rfl) (by unfold QH; rfl) (Xr (Xk _) (XO (XZ (vC X.1)))) ((X2 _).sees _)
theorem Vc (a b:PV) (i j:Int) (hla:a.rim.length<1000000) (hlb:b.rim.length<1000000) (na:QW a.rim) (nb:QW b.rim):Fn Tryz.prog 40 [QP a,QP b,I i,I j] (.tup [vA (Q9 a.rim b.rim i j).1,.bool (Q9 a.rim b.rim i j).2]):=by
 obtain ⟨R,hR⟩:∃ R,R=Q9 a.rim b.rim i j:=⟨_,rfl⟩
 rw [← hR]
 have zret:∀ {s:AS} {ver id':Nat},s.get 8=.ref id' ver 0→s.h[id']?=some (.row ver 8 (Xn Zt))→s.get 9=.bool false→R=(v0,false)→RetOk (QJ Tryz.prog Tryz.f40 [] [] (.tup [vA R.1,.bool R.2])) s:=fun h1 h2 h3 h4=>by
  subst h4
  exact J2 rfl (Xo C9 h1 h2 rfl) (by unfold QH; rfl) (Xr (Xk _) (XO Zp)) (by rw [h3]; exact (X2 _).sees _)
 refine Fr Tryz.call40 Tryz.func40 14 [] [] [] ?_
 by_cases g0:i<0
 ·have f0:(i<0)=True:=eq_true g0
  simp only [AS.start,QP,XG,f0,↓X1,wF,seval]
  exact zret rfl rfl rfl (by rw [hR]; unfold Q9; rw [if_neg (by unfold ON; omega)])
 have f0:(i<0)=False:=eq_false g0
 by_cases g1:(a.rim.length:Int)≤i
 ·have f1:((a.rim.length:Int)≤i)=True:=eq_true g1
  simp only [AS.start,QP,XG,f0,f1,↓X1,wF,seval]
  exact zret rfl rfl rfl (by rw [hR]; unfold Q9; rw [if_neg (by unfold ON; omega)])
 have f1:((a.rim.length:Int)≤i)=False:=eq_false g1
 by_cases g2:j<0
 ·have f2:(j<0)=True:=eq_true g2
  simp only [AS.start,QP,XG,f0,f1,f2,↓X1,wF,seval]
  exact zret rfl rfl rfl (by rw [hR]; unfold Q9; rw [if_neg (by unfold ON; omega)])
 have f2:(j<0)=False:=eq_false g2
 by_cases g3:(b.rim.length:Int)≤j
 ·have f3:((b.rim.length:Int)≤j)=True:=eq_true g3
  simp only [AS.start,QP,XG,f0,f1,f2,f3,↓X1,wF,seval]
  exact zret rfl rfl rfl (by rw [hR]; unfold Q9; rw [if_neg (by unfold ON; omega)])
 have f3:((b.rim.length:Int)≤j)=False:=eq_false g3
 obtain ⟨i,rfl⟩:∃ n:Nat,i=n:=⟨i.toNat,by omega⟩
 obtain ⟨j,rfl⟩:∃ n:Nat,j=n:=⟨j.toNat,by omega⟩
 have hin:ON a.rim.length b.rim.length i j:=by unfold ON; omega
 have hR1:R=((QI (Jb (Ba b.rim j)) (Ba a.rim i)).1,decide ((QI (Jb (Ba b.rim j)) (Ba a.rim i)).2=0)):=by rw [hR]; unfold Q9; rw [if_pos hin]; rfl
 have e1:=SD b j (by omega) hlb nb
 have e2:=SD a i (by omega) hla na
 have k1:=Bs nb j; have k2:=Bs na i
 have o2:=JW v0 (Ba b.rim j) (by have:=Aj; unfold vb v0 rm; simp only; omega) (by unfold rm; omega)
 rw [tv] at o2
 have o3:=P5 (Jb (Ba b.rim j)) (Ba a.rim i) (by rw [Vy]; omega) (by omega)
 generalize QI (Jb (Ba b.rim j)) (Ba a.rim i)=X at *
 simp only [AS.start,QP,XG,f0,f1,f2,f3,↓X1,wF,seval]
 refine X0 e2 rfl ?_
 simp only [↓X1,wF,seval]
 refine X0 e1 rfl ?_
 simp only [↓X1,wF,seval]
 refine XW o2 ⟨XO (CM _),Weak.rfl' _,trivial⟩ ?_
 simp only [↓X1,wF,seval]
 refine X0 o3 rfl ?_
 simp only [↓X1,wF,seval]
 subst hR1
 exact J2 rfl (Xo C9 rfl rfl rfl) (by unfold QH; rfl) (Xr (Xk _) (XO (XZ (vC X.1)))) ((X2 _).sees _)
def xK (n:Nat) (f:FV) (k:Nat):Nat:=((f.EA+k) % n).toNat
def yK (m:Nat) (f:FV) (k:Nat):Nat:=((f.EB - k) % m).toNat
theorem Mu (n:Nat) (f:FV) (k:Nat) (h:0<n):(f.EA+k) % (n:Int)=(xK n f k:Int):=by
 have:=Int.emod_nonneg (f.EA+k) (show (n:Int)≠0 by omega)
 unfold xK; omega
theorem Ty (m:Nat) (f:FV) (k:Nat) (h:0<m):(f.EB - k) % (m:Int)=(yK m f k:Int):=by
 have:=Int.emod_nonneg (f.EB - k) (show (m:Int)≠0 by omega)
 unfold yK; omega
theorem Tx (n:Nat) (f:FV) (k:Nat) (h:0<n):xK n f k<n:=by
 have:=Mu n f k h
 have:=Int.emod_lt_of_pos (f.EA+k) (show (0:Int)<n by omega)
 omega
theorem kI (m:Nat) (f:FV) (k:Nat) (h:0<m):yK m f k<m:=by
 have:=Ty m f k h
 have:=Int.emod_lt_of_pos (f.EB - k) (show (0:Int)<m by omega)
 omega
def DK (n m:Nat) (f:FV):List (Int×Int):=(List.range f.M.toNat).map fun k=>((xK n f k:Int),(yK m f k:Int))
theorem EL {α:Type} (f:Nat→α) (d:α) (n j:Nat) (h:j<n):((List.range n).map f).getD j d=f j:=by
 rw [List.getD_eq_getElem?_getD,List.getElem?_map,List.getElem?_range h]; rfl
theorem BE (n m:Nat) (f:FV):(DK n m f).length=f.M.toNat:=by simp [DK]
theorem oA {P:Program} {fn:Func} {str hcs:List Nat} {s:AS} {t id ver:Nat} (L:List (Int×Int)) (hr:fn.results=#[.tmp t]) (hs:s.get t=.osl id ver 2 0 L.length) (ho:s.h[id]?=some (.row ver (L.length*2) (Xs Kq 2 (0,0) L))):RetOk (QJ P fn str hcs (Dz L)) s:=by
 refine Bm hr ?_
 rw [hs,Xd]
 refine Qx (.inl ho) (by omega) (fun h=>by rw [h]) fun j hj=>?_
 rw [Nat.zero_add]
 exact (Xb (KB _) _).sees _
theorem EG (c:Int×Int):∀ j,j<2→((Kq c).getD j .any).one=true:=fun j hj=>by
 match j,hj with
 | 0,_=>rfl
 | 1,_=>rfl
 | j+2,h=>omega
theorem G2 (a b:PV) (f:FV) (hf:Zd a.rim.length b.rim.length f) (ha:a.rim.length<1000000) (hb:b.rim.length<1000000):Fn Tryz.prog 152 [QP a,QP b,Jz f] (Dz (DK a.rim.length b.rim.length f)):=by
 obtain ⟨⟨s1,s2⟩,⟨s3,s4⟩,s5,s6,s7⟩:=hf
 obtain ⟨N,hN⟩:∃ N:Nat,f.M=N:=⟨f.M.toNat,by omega⟩
 obtain ⟨L,hL⟩:∃ L,L=DK a.rim.length b.rim.length f:=⟨_,rfl⟩
 have hlen:L.length=N:=by rw [hL,BE,hN]; rfl
 have hat:∀ k,k<N→L.getD k (0,0)=((xK a.rim.length f k:Int),(yK b.rim.length f k:Int)):=fun k hk=>by rw [hL]; exact EL _ _ _ _ (by omega)
 rw [← hL]
 have ba:XI 4 (.con 0 25 (Xn (XG a)))=True:=eq_true (fun j _=>X5 (Xb (Xy a) j))
 have bb:XI 4 (.con 0 25 (Xn (XG b)))=True:=eq_true (fun j _=>X5 (Xb (Xy b) j))
 have bf:XI 4 (.con 0 29 (Xn (XJ f)))=True:=eq_true (fun j _=>X5 (Xb (XN f) j))
 have br:∀ i l n,XI 4 (.row i n (Xs Kq 2 (0,0) l))=True:=fun i l n=>eq_true fun j _=>X5 (Xb (KB _) _)
 refine Fv Tryz.call152 Tryz.func152 9 [10,11] [5,60000003,60000004,60000005] [] ?_
 simp only [AS.start,QP,XG,Jz,XJ,↓X1,wF,seval]
 refine Xe (fun k:Nat=>⟨9,[10,11],[.any,.any,.any,.ref 0 0 0,.ref 1 0 0,.ref 2 0 0,.any,.osl 3 k 2 0 k,.any],[(10,I f.M),(11,I k)],[.con 0 25 (Xn (XG a)),.con 0 25 (Xn (XG b)),.con 0 29 (Xn (XJ f)),.row k (k*2) (Xs Kq 2 (0,0) (L.take k))]⟩) (fun k=>k≤N) (fun k=>N - k) 0 (by omega)
  (Sub.trans (XX 0 rfl) (Sub.trans (XX 1 rfl) (Sub.trans (XX 2 rfl) (Sub.trans (Q5 7 2 (Xs Kq 2 (0,0) []) rfl) (Xi rfl (by simp [AS.put,Xf,I]) (by simp [AS.put,Xq,Xw,I]) (by simp [AS.put,XG,XJ,Xd,Xm,X3,I])))))) ?_
 intro k hk next
 have w1:=wj k (by omega)
 by_cases hk2:k<N
 ·have f1:((k:Int)<f.M)=True:=eq_true (by omega)
  have wx:IntKind.i64.wrap (f.EA+(k:Int))=f.EA+(k:Int):=by rw [IntKind.wrap_i64]; omega
  have wy:IntKind.i64.wrap (f.EB - (k:Int))=f.EB - (k:Int):=by rw [IntKind.wrap_i64]; omega
  have c1:=Z4 (f.EA+(k:Int)) a.rim.length (by omega) (by omega) (by omega)
  have c2:=Z4 (f.EB - (k:Int)) b.rim.length (by omega) (by omega) (by omega)
  rw [Mu _ _ _ (by omega)] at c1
  rw [Ty _ _ _ (by omega)] at c2
  have hap:=XR Kq 2 (0,0) (L.take k) (L.getD k (0,0)) (by omega)
  rw [← BS _ _ (by omega),hat k hk2,show (L.take k).length=k by simp; omega] at hap
  refine Xl ?_
  simp only [XG,XJ,Xd,w1,wx,wy,f1,Int.toNat_natCast,↓X1,wF,seval]
  refine X0 c1 rfl ?_
  simp only [XG,XJ,Xd,w1,wx,wy,f1,Int.toNat_natCast,↓X1,wF,seval]
  refine X0 c2 rfl ?_
  simp only [XG,XJ,Xd,w1,wx,wy,f1,Int.toNat_natCast,↓X1,wF,seval]
  exact ⟨⟨EG ((xK a.rim.length f k:Int),(yK b.rim.length f k:Int)),by omega,by omega⟩,next (k+1) _ (by omega) (by omega) (XE (m:=4) (Nat.zero_le _) rfl (by simp [Xf,I]) (by simp [Xq,Xw,I]) (by rw [← hap]; simp [XG,XJ,Xd,Xm,X3,I,Kq]) (by simp [XA]) (by simp [XA]) (by simp [ba,bb,bf,br]))⟩
 obtain rfl:k=N:=by omega
 have f1:((k:Int)<f.M)=False:=eq_false (by omega)
 refine Xl ?_
 simp only [XG,XJ,f1,↓X1,wF,seval]
 rw [List.take_of_length_le (by omega)]
 exact oA _ rfl (by rw [hlen]; rfl) (by rw [hlen]; rfl)
def H4 (wa wb:Bool) (x y:Int):Bool:=wa || wb || (decide (x≠y) && decide (x≠0) && decide (y≠0))
def OA (a b:PV) (f:FV) (k:Nat):Bool:=H4 (a.worn.getD (xK a.rim.length f k) false) (b.worn.getD (yK b.rim.length f k) false) (a.marks.getD (xK a.rim.length f k) 0) (b.marks.getD (yK b.rim.length f k) 0)
def Dy (a b:PV) (f:FV):Prop:=∀ k,k<f.M.toNat→OA a b f k=false
theorem PT (wa wb:Bool) (x y:Int) :
  (H4 wa wb x y=true∧wa=true∧True∧True∧True∧True)∨(H4 wa wb x y=true∧wa=false∧wb=true∧True∧True∧True)∨(H4 wa wb x y=false∧wa=false∧wb=false∧(x=y)=True∧True∧True) ∨
  (H4 wa wb x y=false∧wa=false∧wb=false∧(x=y)=False∧(x=0)=True∧True)∨(H4 wa wb x y=false∧wa=false∧wb=false∧(x=y)=False∧(x=0)=False∧(y=0)=True) ∨
  (H4 wa wb x y=true∧wa=false∧wb=false∧(x=y)=False∧(x=0)=False∧(y=0)=False):=by
 unfold H4
 cases wa
 rotate_left
 ·exact .inl ⟨rfl,rfl,trivial,trivial,trivial,trivial⟩
 cases wb
 rotate_left
 ·exact .inr (.inl ⟨rfl,rfl,rfl,trivial,trivial,trivial⟩)
 by_cases h1:x=y
 ·exact .inr (.inr (.inl ⟨by simp [h1],rfl,rfl,eq_true h1,trivial,trivial⟩))
 by_cases h2:x=0
 ·exact .inr (.inr (.inr (.inl ⟨by simp [h2],rfl,rfl,eq_false h1,eq_true h2,trivial⟩)))
 by_cases h3:y=0
 ·exact .inr (.inr (.inr (.inr (.inl ⟨by simp [h3],rfl,rfl,eq_false h1,eq_false h2,eq_true h3⟩))))
 ·exact .inr (.inr (.inr (.inr (.inr ⟨by simp [h1,h2,h3],rfl,rfl,eq_false h1,eq_false h2,eq_false h3⟩))))
structure PV.even (p:PV):Prop where
 rim:p.rim.length<1000000
 worn:p.worn.length=p.rim.length
 marks:p.marks.length=p.rim.length
 near:QW p.rim
theorem HN (a b:PV) (f:FV) (hf:Zd a.rim.length b.rim.length f) (ha:a.even) (hb:b.even):Fn Tryz.prog 132 [QP a,QP b,Jz f] (.bool (decide (Dy a b f))):=by
 have ce:=G2 a b f hf ha.rim hb.rim
 obtain ⟨⟨s1,s2⟩,⟨s3,s4⟩,s5,s6,s7⟩:=hf
 obtain ⟨N,hN⟩:∃ N:Nat,f.M=N:=⟨f.M.toNat,by omega⟩
 have la:=ha.rim; have lb:=hb.rim
 obtain ⟨V,hV⟩:∃ V,V=decide (Dy a b f):=⟨_,rfl⟩
 rw [← hV]
 obtain ⟨L,hL⟩:∃ L,L=DK a.rim.length b.rim.length f:=⟨_,rfl⟩
 have hlen:L.length=N:=by rw [hL,BE,hN]; rfl
 have hat:∀ k,k<N→L.getD k (0,0)=((xK a.rim.length f k:Int),(yK b.rim.length f k:Int)):=fun k hk=>by rw [hL]; exact EL _ _ _ _ (by omega)
 rw [← hL] at ce
 clear hL
 have fin:∀ {s:AS} {v:Bool},s.get 6=.bool v→v=V→RetOk (QJ Tryz.prog Tryz.f132 [] [] (.bool V)) s:=fun h e=>Xt rfl h (X2 _) (by rw [e])
 have ba:XI 3 (.row 0 25 (Xn (XG a)))=True:=eq_true (XD (Xy a))
 have bb:XI 3 (.row 0 25 (Xn (XG b)))=True:=eq_true (XD (Xy b))
 have bf:XI 3 (.row 0 29 (Xn (XJ f)))=True:=eq_true (XD (XN f))
 have bL:JO 3 (Dz L)=True:=eq_true (X5 (Jd _))
 refine Fv Tryz.call132 Tryz.func132 12 [15,16,17] [] [] ?_
 simp only [AS.start,QP,XG,Jz,XJ,↓X1,wF,seval]
 refine X0 ce rfl ?_
 simp only [Xd,hlen,↓X1,wF,seval]
 refine Xe (fun k:Nat=>⟨12,[15,16,17],[.any,.any,.any,.ref 0 0 0,.ref 1 0 0,.ref 2 0 0,.any,.bool true,.any,.any,.any,.any],[(15,Dz L),(16,I N),(17,I k)],[.row 0 25 (Xn (XG a)),.row 0 25 (Xn (XG b)),.row 0 29 (Xn (XJ f))]⟩) (fun k=>k≤N∧∀ j,j<k→OA a b f j=false) (fun k=>N - k) 0 ⟨by omega,by omega⟩
  (Xi rfl (by simp [Xf,I]) (by simp [Xq,Xw,Xd,hlen,I]) (by simp [XG,XJ,Xd,Xm,X3,I])) ?_
 rintro k ⟨hk,hok⟩ next
 have w1:=wj k (by omega)
 by_cases hk2:k<N
 rotate_left
 ·obtain rfl:k=N:=by omega
  refine Xl ?_
  simp only [XG,XJ,Int.lt_irrefl,Nat.lt_irrefl,↓X1,wF,seval]
  exact fin rfl (by rw [hV,decide_eq_true]; exact fun j hj=>hok j (by omega))
 have nx:=next (k+1)
 have f1:((k:Int)<N)=True:=eq_true (by omega)
 have f2:(k<N)=True:=eq_true hk2
 have f3:(k*2+2≤N*2)=True:=eq_true (by omega)
 have v1:=oz L k
 rw [hat k hk2] at v1
 have hx:=Tx a.rim.length f k (by omega)
 have hy:=kI b.rim.length f k (by omega)
 have ex:=Mu a.rim.length f k (by omega)
 have ey:=Ty b.rim.length f k (by omega)
 have six:=PT (a.worn.getD (xK a.rim.length f k) false) (b.worn.getD (yK b.rim.length f k) false) (a.marks.getD (xK a.rim.length f k) 0) (b.marks.getD (yK b.rim.length f k) 0)
 have hbad:OA a b f k=H4 (a.worn.getD (xK a.rim.length f k) false) (b.worn.getD (yK b.rim.length f k) false) (a.marks.getD (xK a.rim.length f k) 0) (b.marks.getD (yK b.rim.length f k) 0):=rfl
 rw [← hbad] at six
 clear hbad
 have no:OA a b f k=true→false=V:=fun h=>by rw [hV,decide_eq_false]; intro hp; rw [hp k (by omega)] at h; cases h
 generalize xK a.rim.length f k=X at *
 generalize yK b.rim.length f k=Y at *
 have g1:((X:Int)<a.worn.length)=True:=eq_true (by have:=ha.worn; omega)
 have g2:(X<a.worn.length)=True:=eq_true (by have:=ha.worn; omega)
 have g3:((Y:Int)<b.worn.length)=True:=eq_true (by have:=hb.worn; omega)
 have g4:(Y<b.worn.length)=True:=eq_true (by have:=hb.worn; omega)
 have g5:((X:Int)<a.marks.length)=True:=eq_true (by have:=ha.marks; omega)
 have g6:(X<a.marks.length)=True:=eq_true (by have:=ha.marks; omega)
 have g7:((Y:Int)<b.marks.length)=True:=eq_true (by have:=hb.marks; omega)
 have g8:(Y<b.marks.length)=True:=eq_true (by have:=hb.marks; omega)
 have n2:((2:Nat):Int)=2:=rfl
 have t1:(1:Int).toNat=1:=rfl
 rcases six with ⟨hB,q1,q2,q3,q4,q5⟩ | ⟨hB,q1,q2,q3,q4,q5⟩ | ⟨hB,q1,q2,q3,q4,q5⟩ | ⟨hB,q1,q2,q3,q4,q5⟩ | ⟨hB,q1,q2,q3,q4,q5⟩ | ⟨hB,q1,q2,q3,q4,q5⟩
 all_goals
  refine Xl ?_
  simp only [XG,XJ,Xd,Xm,X3,hlen,w1,f1,f2,f3,v1,g1,g2,g3,g4,g5,g6,g7,g8,q1,q2,q3,q4,q5,n2,t1,Int.toNat_zero,Int.reduceLT,Int.reduceLE,Int.toNat_natCast,↓X1,wF,seval]
  first
   | exact fin rfl (no hB)
   | exact nx _ ⟨by omega,KJ.2 ⟨hok,hB⟩⟩ (by omega) (XE (m:=3) (Nat.zero_le _) rfl (by simp [Xf,I]) (by simp [Xq,Xw,Xd,hlen,I]) (by simp [XG,XJ,Xd,Xm,X3,I]) (by simp [XA]) (by simp [XA,bL]) (by simp [ba,bb,bf]))
theorem Pc (a b:PV) (f:FV) (hf:Zd a.rim.length b.rim.length f) (ha:a.even) (hb:b.even):Fn Tryz.prog 149 [QP a,QP b,Jz f] (.bool (decide (Dy a b f))):=by
 obtain ⟨⟨s1,s2⟩,⟨s3,s4⟩,s5,s6,s7⟩:=hf
 obtain ⟨N,hN⟩:∃ N:Nat,f.M=N:=⟨f.M.toNat,by omega⟩
 have la:=ha.rim; have lb:=hb.rim
 obtain ⟨V,hV⟩:∃ V,V=decide (Dy a b f):=⟨_,rfl⟩
 rw [← hV]
 have fin:∀ {s:AS} {v:Bool},s.get 6=.bool v→v=V→RetOk (QJ Tryz.prog Tryz.f149 [] [] (.bool V)) s:=fun h e=>Xt rfl h (X2 _) (by rw [e])
 refine Fv Tryz.call149 Tryz.func149 10 [] [] [] ?_
 simp only [AS.start,QP,XG,Jz,XJ,↓X1,wF,seval]
 refine Xe (fun k:Nat=>⟨10,[],[.any,.any,.any,.ref 0 0 0,.ref 1 0 0,.ref 2 0 0,.bool false,I k,.any,.any],[],[.row 0 25 (Xn (XG a)),.row 0 25 (Xn (XG b)),.row 0 29 (Xn (XJ f))]⟩) (fun k=>k≤N∧∀ j,j<k→OA a b f j=false) (fun k=>N - k) 0 ⟨by omega,by omega⟩
  (Jm (by simp [Xf,I]) (by simp [XG,XJ,Xd,Xm,X3,I])) ?_
 rintro k ⟨hk,hok⟩ next
 have w1:=wj k (by omega)
 by_cases hk2:k<N
 rotate_left
 ·have f1:((k:Int)<f.M)=False:=eq_false (by omega)
  refine Xl ?_
  simp only [XG,XJ,f1,↓X1,wF,seval]
  exact fin rfl (by rw [hV,decide_eq_true]; exact fun j hj=>hok j (by omega))
 have nx:=next (k+1)
 have f1:((k:Int)<f.M)=True:=eq_true (by omega)
 have wx:IntKind.i64.wrap (f.EA+(k:Int))=f.EA+(k:Int):=by rw [IntKind.wrap_i64]; omega
 have wy:IntKind.i64.wrap (f.EB - (k:Int))=f.EB - (k:Int):=by rw [IntKind.wrap_i64]; omega
 have c1:=Ql (f.EA+(k:Int)) a.rim.length (by omega) (by omega) (by omega)
 have c2:=Ql (f.EB - (k:Int)) b.rim.length (by omega) (by omega) (by omega)
 have hx:=Tx a.rim.length f k (by omega)
 have hy:=kI b.rim.length f k (by omega)
 have ex:=Mu a.rim.length f k (by omega)
 have ey:=Ty b.rim.length f k (by omega)
 have six:=PT (a.worn.getD (xK a.rim.length f k) false) (b.worn.getD (yK b.rim.length f k) false) (a.marks.getD (xK a.rim.length f k) 0) (b.marks.getD (yK b.rim.length f k) 0)
 have hbad:OA a b f k=H4 (a.worn.getD (xK a.rim.length f k) false) (b.worn.getD (yK b.rim.length f k) false) (a.marks.getD (xK a.rim.length f k) 0) (b.marks.getD (yK b.rim.length f k) 0):=rfl
 rw [← hbad] at six
 clear hbad
 have no:OA a b f k=true→false=V:=fun h=>by rw [hV,decide_eq_false]; intro hp; rw [hp k (by omega)] at h; cases h
 rw [ex] at c1
 rw [ey] at c2
 generalize xK a.rim.length f k=X at *
 generalize yK b.rim.length f k=Y at *
 have g1:((X:Int)<a.worn.length)=True:=eq_true (by have:=ha.worn; omega)
 have g2:(X<a.worn.length)=True:=eq_true (by have:=ha.worn; omega)
 have g3:((Y:Int)<b.worn.length)=True:=eq_true (by have:=hb.worn; omega)
 have g4:(Y<b.worn.length)=True:=eq_true (by have:=hb.worn; omega)
 have g5:((X:Int)<a.marks.length)=True:=eq_true (by have:=ha.marks; omega)
 have g6:(X<a.marks.length)=True:=eq_true (by have:=ha.marks; omega)
 have g7:((Y:Int)<b.marks.length)=True:=eq_true (by have:=hb.marks; omega)
 have g8:(Y<b.marks.length)=True:=eq_true (by have:=hb.marks; omega)
 have n2:((2:Nat):Int)=2:=rfl
 have t1:(1:Int).toNat=1:=rfl
 rcases six with ⟨hB,q1,q2,q3,q4,q5⟩ | ⟨hB,q1,q2,q3,q4,q5⟩ | ⟨hB,q1,q2,q3,q4,q5⟩ | ⟨hB,q1,q2,q3,q4,q5⟩ | ⟨hB,q1,q2,q3,q4,q5⟩ | ⟨hB,q1,q2,q3,q4,q5⟩
 all_goals
  refine Xl ?_
  simp only [XG,XJ,Xd,Xm,X3,w1,wx,wy,f1,Int.toNat_natCast,↓X1,wF,seval]
  refine X0 c1 rfl ?_
  simp only [XG,XJ,Xd,Xm,X3,w1,wx,wy,f1,Int.toNat_natCast,↓X1,wF,seval]
  refine X0 c2 rfl ?_
  simp only [XG,XJ,Xd,Xm,X3,w1,g1,g2,g3,g4,g5,g6,g7,g8,q1,q2,q3,q4,q5,n2,t1,Int.toNat_zero,Int.reduceLT,Int.reduceLE,Int.toNat_natCast,↓X1,wF,seval]
  first
   | exact fin rfl (no hB)
   | exact nx _ ⟨by omega,KJ.2 ⟨hok,hB⟩⟩ (by omega) (Jm (by simp [Xf,I]) (by simp [XG,XJ,Xd,Xm,X3,I]))
def RG (p:V2→Bool) (s:List V2):Int:=if s.any p=true then (s.findIdx p:Nat) else -1
theorem EP {s:List V2} {j:Nat} (h:j<s.length):s.getD j v0∈s:=by
 rw [List.getD_eq_getElem?_getD,List.getElem?_eq_getElem h]; exact List.getElem_mem h
theorem iC {p:V2→Bool} {s:List V2} {j:Nat} (hj:j<s.length) (h:p (s.getD j v0)=true) (hno:∀ i,i<j→p (s.getD i v0)=false):RG p s=j:=by
 have at_:∀ i (hi:i<s.length),s.getD i v0=s[i]:=fun i hi=>by rw [List.getD_eq_getElem?_getD,List.getElem?_eq_getElem hi]; rfl
 have e:s.findIdx p=j:=by
  rw [List.findIdx_eq hj]
  exact ⟨by rw [← at_ j hj]; exact h,fun i hi=>by rw [← at_ i (by omega)]; exact hno i hi⟩
 unfold RG
 rw [if_pos (List.any_eq_true.2 ⟨_,EP hj,h⟩),e]
theorem aV {p:V2→Bool} {s:List V2} (hno:∀ i,i<s.length→p (s.getD i v0)=false):RG p s = -1:=by
 unfold RG
 rw [if_neg]
 intro h
 obtain ⟨x,hx,hp⟩:=List.any_eq_true.1 h
 obtain ⟨i,hi,rfl⟩:=List.getElem_of_mem hx
 have:=hno i hi
 rw [List.getD_eq_getElem?_getD,List.getElem?_eq_getElem hi] at this
 simp only [Option.getD_some] at this
 rw [this] at hp; cases hp
theorem RH (p:V2→Bool) (s:List V2):decide (0≤RG p s)=s.any p:=by
 unfold RG
 cases h:s.any p
 ·simp
 ·rw [if_pos rfl]; exact decide_eq_true (by omega)
theorem Vu (s:List V2) (f:FuncId) (caps:List AV) (p:V2→Bool) (hl:s.length<1000000) (hc:∀ a∈caps,Settled a) (hp:∀ x∈s,Fn Tryz.prog f ([vA x] ++ caps) (.bool (p x))) :
  Fn Tryz.prog 205 [Xp s,.fn f caps] (I (RG p s)):=by
 refine Fn.intro (fn:=Tryz.f205) Tryz.call205 Tryz.func205 rfl mixed 6 [6,7,8] [] [] (by kernel_rfl) (Nat.le_of_ble_eq_true rfl) (by simpa [Xc] using Jq hc) (Xl ?_)
 simp only [AS.start,X4,↓X1,wF,seval]
 refine Xe (fun j:Nat=>⟨6,[6,7,8],[Xp s,.fn f caps,.any,.any,.any,.any],[(6,Xp s),(7,I s.length),(8,I j)],[]⟩) (fun j=>j≤s.length∧∀ i,i<j→p (s.getD i v0)=false) (fun j=>s.length - j) 0 ⟨by omega,by omega⟩
  (Xi rfl (by simp [Xf,X4,I]) (by simp [Xq,Xw,X4,I]) rfl) ?_
 rintro j ⟨hj,hno⟩ next
 have w1:=wj j (by omega)
 by_cases hj2:j<s.length
 ·have f1:((j:Int)<s.length)=True:=eq_true (by omega)
  have f2:(j<s.length)=True:=eq_true hj2
  have f3:(j*8+8≤s.length*8)=True:=eq_true (by omega)
  have v1:=vF s j
  refine Xl ?_
  simp only [X4,w1,f1,f2,f3,v1,Int.toNat_natCast,↓X1,wF,seval]
  refine XW (hp _ (EP hj2)) (XZ _) ?_
  simp only [w1,↓X1,wF,seval]
  refine QU (fun ht=>Xt (v:=I j) rfl rfl (X9 _) ?_) (fun hf=>next (j+1) _ ⟨by omega,KJ.2 ⟨hno,hf⟩⟩ (by omega) (Xi rfl (by simp [Xf,X4,I]) (by simp [Xq,Xw,X4,I]) rfl))
  rw [iC hj2 ht hno]
 ·have f1:((j:Int)<s.length)=False:=eq_false (by omega)
  refine Xl ?_
  simp only [X4,w1,f1,↓X1,wF,seval]
  refine Xt (v:=I (-1)) rfl rfl (X9 _) ?_
  rw [aV fun i hi=>hno i (by omega)]
theorem MW (s:List V2) (f:FuncId) (caps:List AV) (p:V2→Bool) (hl:s.length<1000000) (hc:∀ a∈caps,Settled a) (hp:∀ x∈s,Fn Tryz.prog f ([vA x] ++ caps) (.bool (p x))) :
  Fn Tryz.prog 141 [Xp s,.fn f caps] (.bool (s.any p)):=by
 have hi:=RH p s
 refine Fn.intro (fn:=Tryz.f141) Tryz.call141 Tryz.func141 rfl mixed 5 [] [] [] (by kernel_rfl) (Nat.le_of_ble_eq_true rfl) (by simpa [Xc] using Jq hc) (Xl ?_)
 simp only [AS.start,↓X1,wF,seval]
 refine X0 (Vu s f caps p hl hc hp) rfl ?_
 simp only [↓X1,wF,seval]
 exact Xt (v:=.bool (decide (0≤RG p s))) rfl rfl (X2 _) (by rw [RH])
def pZ (f:FV):AV:=.ptr 29 (Xn (XJ f)) 0
theorem Ch (f:FV):Settled (pZ f):=J0 fun j _=>Xb (XN f) j
theorem am (t:V2) (f:FV) (ht:vb t≤vm) (hf:vb f.turn≤vm):Fn Tryz.prog 142 ([vA t] ++ [pZ f]) (.bool (decide (t=f.turn))):=by
 have c1:=AW t f.turn ht hf
 refine Fq Tryz.call142 Tryz.func142 4 [] [] [] (by simp [Xk,Ch]) (Xl ?_)
 simp only [AS.start,pZ,XJ,List.cons_append,List.nil_append,↓X1,wF,seval]
 refine X0 c1 rfl ?_
 simp only [↓X1,wF,seval]
 exact Xt rfl rfl (X2 _) rfl
noncomputable def GZ (a b:PV) (f:FV) (k:Nat):V2×Bool:=Q9 a.rim b.rim (xK a.rim.length f k) (yK b.rim.length f k)
noncomputable def Qt (a b:PV) (f:FV):Nat→List V2
 | 0=>[]
 | k+1=>if (GZ a b f k).2=true then Qt a b f k ++ [(GZ a b f k).1] else Qt a b f k
theorem DD (a b:PV) (f:FV):∀ k,(Qt a b f k).length≤k
 | 0=>Nat.le_refl _
 | k+1=>by
  have ih:=DD a b f k
  simp only [Qt]
  split
  ·rw [List.length_append]; simp only [List.length_singleton]; omega
  ·omega
theorem Fd (a b:PV) (f:FV) (ha:QW a.rim) (hb:QW b.rim):∀ k,∀ t∈Qt a b f k,vb t≤26
 | 0=>fun t h=>by simp [Qt] at h
 | k+1=>by
  have ih:=Fd a b f ha hb k
  intro t h
  simp only [Qt] at h
  split at h
  ·rcases List.mem_append.1 h with h | h
   ·exact ih t h
   ·simp only [List.mem_cons,List.not_mem_nil,or_false] at h
    subst h; exact CP ha hb _ _
  ·exact ih t h
def Ow (a b:PV) (f:FV):Prop:=∃ k,k<f.M.toNat∧(GZ a b f k).2=true∧(GZ a b f k).1=f.turn
theorem IY (a b:PV) (f:FV) (t:V2):∀ n,(Qt a b f n).any (fun x=>decide (x=t))=true↔∃ k,k<n∧(GZ a b f k).2=true∧(GZ a b f k).1=t
 | 0=>by simp [Qt]
 | n+1=>by
  have ih:=IY a b f t n
  by_cases h:(GZ a b f n).2=true
  ·have e:Qt a b f (n+1)=Qt a b f n ++ [(GZ a b f n).1]:=if_pos h
   rw [e,List.any_append,Bool.or_eq_true,ih]
   simp only [List.any_cons,List.any_nil,Bool.or_false,decide_eq_true_eq]
   constructor
   ·rintro (⟨k,h1,h2⟩ | h1)
    ·exact ⟨k,by omega,h2⟩
    ·exact ⟨n,by omega,h,h1⟩
   ·rintro ⟨k,h1,h2,h3⟩
    by_cases hk:k=n
    ·subst hk; exact .inr h3
    ·exact .inl ⟨k,by omega,h2,h3⟩
  ·have e:Qt a b f (n+1)=Qt a b f n:=if_neg h
   rw [e,ih]
   constructor
   ·rintro ⟨k,h1,h2⟩; exact ⟨k,by omega,h2⟩
   ·rintro ⟨k,h1,h2,h3⟩
    by_cases hk:k=n
    ·subst hk; exact absurd h2 h
    ·exact ⟨k,by omega,h2,h3⟩
theorem Ua (a b:PV) (f:FV) (hf:Zd a.rim.length b.rim.length f) (ha:a.even) (hb:b.even):Fn Tryz.prog 133 [QP a,QP b,Jz f] (Xp (Qt a b f f.M.toNat)):=by
 have ce:=G2 a b f hf ha.rim hb.rim
 obtain ⟨⟨s1,s2⟩,⟨s3,s4⟩,s5,s6,s7⟩:=hf
 obtain ⟨N,hN⟩:∃ N:Nat,f.M=N:=⟨f.M.toNat,by omega⟩
 have la:=ha.rim; have lb:=hb.rim
 have hNt:f.M.toNat=N:=by rw [hN]; rfl
 rw [hNt]
 obtain ⟨L,hL⟩:∃ L,L=DK a.rim.length b.rim.length f:=⟨_,rfl⟩
 have hlen:L.length=N:=by rw [hL,BE,hN]; rfl
 have hat:∀ k,k<N→L.getD k (0,0)=((xK a.rim.length f k:Int),(yK b.rim.length f k:Int)):=fun k hk=>by rw [hL]; exact EL _ _ _ _ (by omega)
 rw [← hL] at ce
 clear hL
 have ba:XI 4 (.row 0 25 (Xn (XG a)))=True:=eq_true (XD (Xy a))
 have bb:XI 4 (.row 0 25 (Xn (XG b)))=True:=eq_true (XD (Xy b))
 have bf:XI 4 (.row 0 29 (Xn (XJ f)))=True:=eq_true (XD (XN f))
 have bL:JO 4 (Dz L)=True:=eq_true (X5 (Jd _))
 have hvc:∀ a:V2,∀ x∈vC a,Settled x:=fun a=>by simp [vC,X6,X2]
 have br:∀ i l n,XI 4 (.row i n (Xs vC 8 v0 l))=True:=fun i l n=>eq_true fun j _=>X5 (Xb (hvc _) _)
 refine Fv Tryz.call133 Tryz.func133 12 [15,16,17] [] [] ?_
 simp only [AS.start,QP,XG,Jz,XJ,↓X1,wF,seval]
 refine X0 ce rfl ?_
 simp only [Xd,hlen,↓X1,wF,seval]
 refine Xe (fun k:Nat=>⟨12,[15,16,17],[.any,.any,.any,.ref 0 0 0,.ref 1 0 0,.ref 2 0 0,.any,.osl 3 (Qt a b f k).length 8 0 (Qt a b f k).length,.any,.any,.any,.any],[(15,Dz L),(16,I N),(17,I k)],[.row 0 25 (Xn (XG a)),.row 0 25 (Xn (XG b)),.row 0 29 (Xn (XJ f)),.row (Qt a b f k).length ((Qt a b f k).length*8) (Xs vC 8 v0 (Qt a b f k))]⟩) (fun k=>k≤N) (fun k=>N - k) 0 (by omega)
  (Sub.trans (Q5 7 8 (Xs vC 8 v0 []) rfl) (Xi rfl (by simp [AS.put,Qt,Xf,I]) (by simp [AS.put,Xq,Xw,Xd,hlen,I]) (by simp [AS.put,Qt,XG,XJ,Xd,Xm,X3,I]))) ?_
 intro k hk next
 have w1:=wj k (by omega)
 have hln:=DD a b f k
 by_cases hk2:k<N
 rotate_left
 ·obtain rfl:k=N:=by omega
  refine Xl ?_
  simp only [XG,XJ,Int.lt_irrefl,Nat.lt_irrefl,↓X1,wF,seval]
  exact Mq _ rfl rfl rfl
 have nx:=next (k+1)
 have f1:((k:Int)<N)=True:=eq_true (by omega)
 have f2:(k<N)=True:=eq_true hk2
 have f3:(k*2+2≤N*2)=True:=eq_true (by omega)
 have v1:=oz L k
 rw [hat k hk2] at v1
 have n2:((2:Nat):Int)=2:=rfl
 have t1:(1:Int).toNat=1:=rfl
 have ca:=D4 a b (xK a.rim.length f k) (yK b.rim.length f k) la lb ha.near hb.near
 rw [show Q9 a.rim b.rim (xK a.rim.length f k) (yK b.rim.length f k)=GZ a b f k from rfl] at ca
 have hs:Qt a b f (k+1)=if (GZ a b f k).2=true then Qt a b f k ++ [(GZ a b f k).1] else Qt a b f k:=rfl
 generalize GZ a b f k=X at *
 obtain ⟨t,ok⟩:=X
 refine Xl ?_
 simp only [XG,XJ,Xd,Xm,X3,hlen,w1,f1,f2,f3,v1,n2,t1,Int.toNat_zero,Int.reduceLT,Int.reduceLE,Int.toNat_natCast,↓X1,wF,seval]
 refine X0 ca rfl ?_
 cases ok with
 | false =>
  rw [if_neg (show ¬ ((t,false).2=true) from Bool.false_ne_true)] at hs
  simp only [hs] at nx
  simp only [w1,↓X1,wF,seval]
  exact nx _ (by omega) (by omega) (XE (m:=4) (Nat.zero_le _) rfl (by simp [Xf,I]) (by simp [Xq,Xw,Xd,hlen,I]) (by simp [XG,XJ,Xd,Xm,X3,I]) (by simp [XA]) (by simp [XA,bL]) (by simp [ba,bb,bf,br]))
 | true =>
  rw [if_pos rfl] at hs
  have hlen2:(Qt a b f (k+1)).length=(Qt a b f k).length+1:=by rw [hs]; simp
  have hap:=XR vC 8 v0 (Qt a b f k) t (by omega)
  rw [← hs] at hap
  simp only [hlen2] at nx
  simp only [w1,↓X1,wF,seval]
  exact ⟨⟨Zg t,by omega,by omega⟩,nx _ (by omega) (by omega) (XE (m:=4) (Nat.zero_le _) rfl (by simp [Xf,I]) (by simp [Xq,Xw,Xd,hlen,I]) (by rw [← hap]; simp [XG,XJ,Xd,Xm,X3,I,vC]) (by simp [XA]) (by simp [XA,bL]) (by simp [ba,bb,bf,br]))⟩
noncomputable def Sb (x y:Rat):Rat:=if x<y then y else x
noncomputable def S8 (x y:Rat):Rat:=if y<x then y else x
theorem sK (x y:Rat) (k:Nat) (hx:qb x≤k) (hy:qb y≤k):qb (Sb x y)≤k:=by unfold Sb; split <;> assumption
theorem sJ (x y:Rat) (k:Nat) (hx:qb x≤k) (hy:qb y≤k):qb (S8 x y)≤k:=by unfold S8; split <;> assumption
theorem N7 (x y:Rat) (hx:qb x≤rm) (hy:qb y≤rm):Fn Tryz.prog 125 [qA x,qA y] (qA (Sb x y)):=by
 have c1:=KA x y hx hy
 obtain ⟨R,hR⟩:∃ R,R=qA (Sb x y):=⟨_,rfl⟩
 have sR:Settled R:=hR▸Xa _
 rw [← hR]
 refine Fr Tryz.call125 Tryz.func125 5 [] [] [] ?_; simp (maxSteps:=999999) only [AS.start,↓X1,wF,seval]
 refine X0 c1 rfl ?_
 by_cases h:x<y
 ·have f1:(Qj x y<0)=True:=eq_true ((K7 x y).2 h)
  simp only [f1,↓X1,wF,seval]
  have e:Sb x y=y:=if_pos h
  rw [e] at hR
  exact JH rfl Qa rfl rfl rfl sR (hR.trans rfl)
 ·have f1:(Qj x y<0)=False:=eq_false fun hh=>h ((K7 x y).1 hh)
  simp only [f1,↓X1,wF,seval]
  have e:Sb x y=x:=if_neg h
  rw [e] at hR
  exact JH rfl Qa rfl rfl rfl sR (hR.trans rfl)
theorem Mc (x y:Rat) (hx:qb x≤rm) (hy:qb y≤rm):Fn Tryz.prog 126 [qA x,qA y] (qA (S8 x y)):=by
 have c1:=KA x y hx hy
 obtain ⟨R,hR⟩:∃ R,R=qA (S8 x y):=⟨_,rfl⟩
 have sR:Settled R:=hR▸Xa _
 rw [← hR]
 refine Fr Tryz.call126 Tryz.func126 5 [] [] [] ?_; simp (maxSteps:=999999) only [AS.start,↓X1,wF,seval]
 refine X0 c1 rfl ?_
 by_cases h:y<x
 ·have f1:(0<Qj x y)=True:=eq_true ((JN x y).2 h)
  simp only [f1,↓X1,wF,seval]
  have e:S8 x y=y:=if_pos h
  rw [e] at hR
  exact JH rfl Qa rfl rfl rfl sR (hR.trans rfl)
 ·have f1:(0<Qj x y)=False:=eq_false fun hh=>h ((JN x y).1 hh)
  simp only [f1,↓X1,wF,seval]
  have e:S8 x y=x:=if_neg h
  rw [e] at hR
  exact JH rfl Qa rfl rfl rfl sR (hR.trans rfl)
noncomputable def Ic (g:Nat→Rat):Nat→Rat
 | 0=>g 0
 | k+1=>Sb (Ic g k) (g (k+1))
noncomputable def Ib (g:Nat→Rat):Nat→Rat
 | 0=>g 0
 | k+1=>S8 (Ib g k) (g (k+1))
theorem LS (g:Nat→Rat) (c:Nat) (h:∀ k,qb (g k)≤c):∀ n,qb (Ic g n)≤c
 | 0=>h 0
 | n+1=>sK _ _ _ (LS g c h n) (h _)
theorem LR (g:Nat→Rat) (c:Nat) (h:∀ k,qb (g k)≤c):∀ n,qb (Ib g n)≤c
 | 0=>h 0
 | n+1=>sJ _ _ _ (LR g c h n) (h _)
def K5 (a b:List (Int×Int)) (f:FV) (k:Nat):V2 :=
 (Jv (a.getD (xK a.length f k) (0,0))).sub (Co f.turn (Jv (b.getD ((f.EB+1 - k) % b.length).toNat (0,0))))
noncomputable def At (a b:List (Int×Int)) (f:FV) (k:Nat):V2:=⟨Ic (fun j=>(K5 a b f j).x) k,Ic (fun j=>(K5 a b f j).y) k⟩
noncomputable def As (a b:List (Int×Int)) (f:FV) (k:Nat):V2:=⟨Ib (fun j=>(K5 a b f j).x) k,Ib (fun j=>(K5 a b f j).y) k⟩
noncomputable def Xv (a b:List (Int×Int)) (f:FV) (e:Rat):V2×V2×Bool :=
 if Zd a.length b.length f∧Jy f.turn then
  let lo:=(At a b f f.M.toNat).sub ⟨e,e⟩
  let hi:=(As a b f f.M.toNat).add ⟨e,e⟩
  if hi.x<lo.x∨hi.y<lo.y then (v0,v0,false) else (lo,hi,true)
 else (v0,v0,false)
theorem KQ {R:List (Int×Int)} (h:QW R) (i:Nat):vb (Jv (R.getD i (0,0)))≤3:=by
 have:=DV h i
 have q1:=Z7 (R.getD i (0,0)).1 3 (by omega) (Qy ⟨by omega,by omega⟩)
 have q2:=Z7 (R.getD i (0,0)).2 3 (by omega) (Qy ⟨by omega,by omega⟩)
 unfold vb Jv
 simp only
 omega
theorem Bq {a b:List (Int×Int)} (ha:QW a) (hb:QW b) (f:FV) (ht:vb f.turn≤1000) (k:Nat):vb (K5 a b f k)≤3000:=by
 have h1:=KQ ha (xK a.length f k)
 have h2:=KQ hb ((f.EB+1 - k) % b.length).toNat
 unfold K5
 have h3:=Dk f.turn (Jv (b.getD ((f.EB+1 - k) % b.length).toNat (0,0)))
 have h4:=Km (Jv (a.getD (xK a.length f k) (0,0))) (Co f.turn (Jv (b.getD ((f.EB+1 - k) % b.length).toNat (0,0))))
 omega
theorem CB {a b:List (Int×Int)} (ha:QW a) (hb:QW b) (f:FV) (ht:vb f.turn≤1000) (k:Nat):vb (At a b f k)≤3000:=by
 have h1:=LS (fun j=>(K5 a b f j).x) 3000 (fun j=>Nat.le_trans (Qv _) (Bq ha hb f ht j)) k
 have h2:=LS (fun j=>(K5 a b f j).y) 3000 (fun j=>Nat.le_trans (Qm _) (Bq ha hb f ht j)) k
 exact Nat.max_le.2 ⟨h1,h2⟩
theorem Cz {a b:List (Int×Int)} (ha:QW a) (hb:QW b) (f:FV) (ht:vb f.turn≤1000) (k:Nat):vb (As a b f k)≤3000:=by
 have h1:=LR (fun j=>(K5 a b f j).x) 3000 (fun j=>Nat.le_trans (Qv _) (Bq ha hb f ht j)) k
 have h2:=LR (fun j=>(K5 a b f j).y) 3000 (fun j=>Nat.le_trans (Qm _) (Bq ha hb f ht j)) k
 exact Nat.max_le.2 ⟨h1,h2⟩
theorem IG {P:Program} {fn:Func} {str hcs:List Nat} {a b c x y z:AV} {s:AS} {r1 r2 r3:ResultVar} (hr:fn.results=#[r1,r2,r3]) (h1:QH P s r1=some x) (h2:QH P s r2=some y) (h3:QH P s r3=some z) (g1:JR s.h x a) (g2:JR s.h y b) (g3:JR s.h z c) :
  RetOk (QJ P fn str hcs (.tup [a,b,c])) s :=
 ⟨.tup [x,y,z],by simp [Z9,Ln,CX,hr,J7,Ag,h1,h2,h3],ZL ⟨g1,g2,g3,trivial⟩⟩
def XP:List AV:=[.bool false,.sl 0 0 (fun _=>.any) true,.bool false,.sl 0 0 (fun _=>.any) true,.bool false,.sl 0 0 (fun _=>.any) true,.bool false,.sl 0 0 (fun _=>.any) true]
noncomputable def bc (a b:List (Int×Int)) (f:FV):Nat→List AV
 | 0=>XP
 | k+1=>vC (At a b f k)
noncomputable def aS (a b:List (Int×Int)) (f:FV):Nat→List AV
 | 0=>XP
 | k+1=>vC (As a b f k)
theorem Zb (a b:List (Int×Int)) (f:FV):∀ k,∀ x∈bc a b f k,Settled x
 | 0=>fun x h=>by
  simp only [bc,XP,List.mem_cons,List.not_mem_nil,or_false] at h
  rcases h with rfl | rfl | rfl | rfl | rfl | rfl | rfl | rfl <;> first | exact X2 _ | exact J8 (fun j hj=>absurd hj (Nat.not_lt_zero j))
 | k+1=>by simp [bc,vC,X6,X2]
theorem SY (a b:List (Int×Int)) (f:FV):∀ k,∀ x∈aS a b f k,Settled x
 | 0=>fun x h=>by
  simp only [aS,XP,List.mem_cons,List.not_mem_nil,or_false] at h
  rcases h with rfl | rfl | rfl | rfl | rfl | rfl | rfl | rfl <;> first | exact X2 _ | exact J8 (fun j hj=>absurd hj (Nat.not_lt_zero j))
 | k+1=>by simp [aS,vC,X6,X2]
def yL (m:Nat) (f:FV) (k:Nat):Nat:=((f.EB+1 - k) % m).toNat
theorem kJ (m:Nat) (f:FV) (k:Nat) (h:0<m):(f.EB+1 - k) % (m:Int)=(yL m f k:Int):=by
 have:=Int.emod_nonneg (f.EB+1 - k) (show (m:Int)≠0 by omega)
 unfold yL; omega
theorem qx (m:Nat) (f:FV) (k:Nat) (h:0<m):yL m f k<m:=by
 have:=kJ m f k h
 have:=Int.emod_lt_of_pos (f.EB+1 - k) (show (0:Int)<m by omega)
 omega
theorem FN (a b:PV) (f:FV) (ha:a.even) (hb:b.even) (ht:vb f.turn≤1000) {ta tb:Rat} (ea:a.tol=RQ.of ta) (eb:b.tol=RQ.of tb) (qa:qb ta≤1000) (q2:qb tb≤1000) :
  Fn Tryz.prog 46 [QP a,QP b,Jz f] (.tup [vA (Xv a.rim b.rim f (ta+tb)).1,vA (Xv a.rim b.rim f (ta+tb)).2.1,.bool (Xv a.rim b.rim f (ta+tb)).2.2]):=by
 have la:=ha.rim; have lb:=hb.rim
 obtain ⟨R,hR⟩:∃ R,R=Xv a.rim b.rim f (ta+tb):=⟨_,rfl⟩
 rw [← hR]
 have zret:∀ {s:AS} {i j v w:Nat},s.get 6=.ref i v 0→s.h[i]?=some (.row v 8 (Xn Zt))→s.get 7=.ref j w 0→s.h[j]?=some (.row w 8 (Xn Zt))→s.get 8=.bool false→R=(v0,v0,false)→RetOk (QJ Tryz.prog Tryz.f46 [9,100000005,11,120000015,18,190000012,190000013] [] (.tup [vA R.1,vA R.2.1,.bool R.2.2])) s:=fun h1 h2 h3 h4 h5 h6=>by
  subst h6
  exact IG rfl (Xo Ju h1 h2 rfl) (Xo Ju h3 h4 rfl) (by unfold QH; rfl) (Xr (Xk _) (XO Zp)) (Xr (Xk _) (XO Zp)) (by rw [h5]; exact (X2 _).sees _)
 have cs:=C7 a b f la lb
 have ct:=jv f.turn (by unfold vm; omega)
 refine Fv Tryz.call46 Tryz.func46 16 [40,41] [9,100000005,11,120000015,18,190000012,190000013] [] ?_
 simp only [AS.start,QP,XG,Jz,XJ,↓X1,wA,↓reduceIte,reduceIte,reduceCtorEq,Y1,Y2,Y3,Y4,Y5,Y6,Y7,Y8,Y9,YA,wE]
 refine X0 cs rfl ?_
 by_cases hf:Zd a.rim.length b.rim.length f
 rotate_left
 ·rw [decide_eq_false hf]
  simp only [↓X1,wA,↓reduceIte,reduceIte,reduceCtorEq,Y1,Y2,Y3,Y4,Y5,Y6,Y7,Y8,Y9,YA,wE]
  exact zret rfl rfl rfl rfl rfl (by rw [hR]; unfold Xv; rw [if_neg fun h=>hf h.1])
 rw [decide_eq_true hf]
 simp only [↓X1,wA,↓reduceIte,reduceIte,reduceCtorEq,Y1,Y2,Y3,Y4,Y5,Y6,Y7,Y8,Y9,YA,wE]
 refine X0 ct rfl ?_
 by_cases hto:Jy f.turn
 rotate_left
 ·rw [decide_eq_false hto]
  simp only [↓X1,wA,↓reduceIte,reduceIte,reduceCtorEq,Y1,Y2,Y3,Y4,Y5,Y6,Y7,Y8,Y9,YA,wE]
  exact zret rfl rfl rfl rfl rfl (by rw [hR]; unfold Xv; rw [if_neg fun h=>hto h.2])
 rw [decide_eq_true hto]
 have hRe:R=if ((As a.rim b.rim f f.M.toNat).add ⟨ta+tb,ta+tb⟩).x<((At a.rim b.rim f f.M.toNat).sub ⟨ta+tb,ta+tb⟩).x∨((As a.rim b.rim f f.M.toNat).add ⟨ta+tb,ta+tb⟩).y<((At a.rim b.rim f f.M.toNat).sub ⟨ta+tb,ta+tb⟩).y then (v0,v0,false) else ((At a.rim b.rim f f.M.toNat).sub ⟨ta+tb,ta+tb⟩,(As a.rim b.rim f f.M.toNat).add ⟨ta+tb,ta+tb⟩,true):=by
  rw [hR]; unfold Xv; rw [if_pos ⟨hf,hto⟩]
 clear hR
 obtain ⟨⟨s1,s2⟩,⟨s3,s4⟩,s5,s6,s7⟩:=hf
 obtain ⟨N,hN⟩:∃ N:Nat,f.M=N:=⟨f.M.toNat,by omega⟩
 have hNt:f.M.toNat=N:=by rw [hN]; rfl
 rw [hNt] at hRe
 have r1:=Vi a la (AU ha.near)
 have r2:=Vi b lb (AU hb.near)
 have hla:(Xz a.rim).length=a.rim.length:=by simp [Xz]
 have hlb:(Xz b.rim).length=b.rim.length:=by simp [Xz]
 have c3:Fn Tryz.prog 70 [a.tol.A,b.tol.A] (qA (ta+tb)):=by rw [ea,eb]; exact Bl ta tb (by unfold rm; omega) (by unfold rm; omega)
 have qe:=K2 ta tb
 simp only [↓X1,wA,↓reduceIte,reduceIte,reduceCtorEq,Y1,Y2,Y3,Y4,Y5,Y6,Y7,Y8,Y9,YA,wE]
 refine X0 r1 rfl ?_
 simp only [↓X1,wA,↓reduceIte,reduceIte,reduceCtorEq,Y1,Y2,Y3,Y4,Y5,Y6,Y7,Y8,Y9,YA,wE]
 refine X0 r2 rfl ?_
 simp only [↓X1,wA,↓reduceIte,reduceIte,reduceCtorEq,Y1,Y2,Y3,Y4,Y5,Y6,Y7,Y8,Y9,YA,wE]
 refine X0 c3 rfl ?_
 have wM:IntKind.i64.wrap (f.M+1)=((N+1:Nat):Int):=by rw [IntKind.wrap_i64]; omega
 simp only [wM,↓X1,wA,↓reduceIte,reduceIte,reduceCtorEq,Y1,Y2,Y3,Y4,Y5,Y6,Y7,Y8,Y9,YA,wE]
 have ba:XI 8 (.row 0 25 (Xn (XG a)))=True:=eq_true (XD (Xy a))
 have bb:XI 8 (.row 0 25 (Xn (XG b)))=True:=eq_true (XD (Xy b))
 have bf:XI 8 (.con 0 29 (Xn (XJ f)))=True:=eq_true (fun j _=>X5 (Xb (XN f) j))
 have bz:XI 8 (.row 0 8 (Xn XP))=True:=eq_true (XD (Zb a.rim b.rim f 0))
 have be:XI 8 (.row 0 4 (Xn [.bool (decide ((ta+tb).num<0)),X7 (X8 (ta+tb).num.natAbs),.bool false,X7 (X8 (qd (ta+tb)))]))=True:=eq_true (XD (by simp [X6,X2]))
 have bl:∀ k,XI 8 (.row 0 8 (Xn (bc a.rim b.rim f k)))=True:=fun k=>eq_true (XD (Zb a.rim b.rim f k))
 have bh:∀ k,XI 8 (.row 0 8 (Xn (aS a.rim b.rim f k)))=True:=fun k=>eq_true (XD (SY a.rim b.rim f k))
 have bx:JO 8 (Xp (Xz a.rim))=True:=eq_true (X5 (Xc _))
 have by':JO 8 (Xp (Xz b.rim))=True:=eq_true (X5 (Xc _))
 refine Xe (fun k:Nat=>⟨16,[40,41],[.any,.any,.any,.ref 0 0 0,.ref 1 0 0,.ref 2 0 0,.ref 3 0 0,.ref 4 0 0,.bool false,Xp (Xz a.rim),Xp (Xz b.rim),.ref 5 0 0,.ref 6 0 0,.ref 7 0 0,.any,.any],[(40,I ((N+1:Nat):Int)),(41,I k)],[.row 0 25 (Xn (XG a)),.row 0 25 (Xn (XG b)),.con 0 29 (Xn (XJ f)),.row 0 8 (Xn XP),.row 0 8 (Xn XP),.row 0 4 (Xn [.bool (decide ((ta+tb).num<0)),X7 (X8 (ta+tb).num.natAbs),.bool false,X7 (X8 (qd (ta+tb)))]),.row 0 8 (Xn (bc a.rim b.rim f k)),.row 0 8 (Xn (aS a.rim b.rim f k))]⟩) (fun k=>k≤N+1) (fun k=>N+1 - k) 0 (by omega)
  (Sub.trans (XX 2 rfl) (Xi rfl (by simp [Xf,X4,I]) (by simp [Xq,Xw,I]) (by simp [XG,XJ,XP,bc,aS,Xd,Xm,X3,I]))) ?_
 intro k hk next
 have w1:=wj k (by omega)
 by_cases hk2:k<N+1
 ·have nx:=next (k+1)
  have fk:((k:Int)<((N+1:Nat):Int))=True:=eq_true (by omega)
  have wx:IntKind.i64.wrap (f.EA+(k:Int))=f.EA+(k:Int):=by rw [IntKind.wrap_i64]; omega
  have wy1:IntKind.i64.wrap (f.EB+1)=f.EB+1:=by rw [IntKind.wrap_i64]; omega
  have wy:IntKind.i64.wrap (f.EB+1 - (k:Int))=f.EB+1 - (k:Int):=by rw [IntKind.wrap_i64]; omega
  have c1:=Z4 (f.EA+(k:Int)) a.rim.length (by omega) (by omega) (by omega)
  have c2:=Z4 (f.EB+1 - (k:Int)) b.rim.length (by omega) (by omega) (by omega)
  rw [Mu _ _ _ (by omega)] at c1
  rw [kJ _ _ _ (by omega)] at c2
  have hX:=Tx a.rim.length f k (by omega)
  have hY:=qx b.rim.length f k (by omega)
  have vx:=KQ ha.near (xK a.rim.length f k)
  have vy:=KQ hb.near (yL b.rim.length f k)
  have vr:=Dk f.turn (Jv (b.rim.getD (yL b.rim.length f k) (0,0)))
  have c3:=LN f.turn (Jv (b.rim.getD (yL b.rim.length f k) (0,0))) (by unfold vm; omega) (by unfold vm; omega)
  have c4:=D7 (Jv (a.rim.getD (xK a.rim.length f k) (0,0))) (Co f.turn (Jv (b.rim.getD (yL b.rim.length f k) (0,0)))) (by unfold rm; omega) (by unfold rm; omega)
  rw [show (Jv (a.rim.getD (xK a.rim.length f k) (0,0))).sub (Co f.turn (Jv (b.rim.getD (yL b.rim.length f k) (0,0))))=K5 a.rim b.rim f k from rfl] at c4
  have hD:=Bq ha.near hb.near f ht
  have hL:=CB ha.near hb.near f ht
  have hH:=Cz ha.near hb.near f ht
  have v1:=vF (Xz a.rim) (xK a.rim.length f k)
  have v2:=vF (Xz b.rim) (yL b.rim.length f k)
  rw [GC] at v1 v2
  generalize xK a.rim.length f k=X at *
  generalize yL b.rim.length f k=Y at *
  generalize Jv (a.rim.getD X (0,0))=PX at *
  generalize Jv (b.rim.getD Y (0,0))=PY at *
  generalize Co f.turn PY=RY at *
  have fX:((X:Int)<a.rim.length)=True:=eq_true (by omega)
  have fX':(X<a.rim.length)=True:=eq_true hX
  have fX8:(X*8+8≤a.rim.length*8)=True:=eq_true (by omega)
  have fY:((Y:Int)<b.rim.length)=True:=eq_true (by omega)
  have fY':(Y<b.rim.length)=True:=eq_true hY
  have fY8:(Y*8+8≤b.rim.length*8)=True:=eq_true (by omega)
  refine Xl ?_
  simp only [XJ,X4,w1,wx,wy1,wy,fk,fX,fX',fX8,fY,fY',fY8,hla,hlb,v1,v2,Int.toNat_natCast,↓X1,wA,↓reduceIte,reduceIte,reduceCtorEq,Y1,Y2,Y3,Y4,Y5,Y6,Y7,Y8,Y9,YA,wE]
  refine X0 c1 rfl ?_
  simp only [XJ,X4,w1,wx,wy1,wy,fk,fX,fX',fX8,fY,fY',fY8,hla,hlb,v1,v2,Int.toNat_natCast,↓X1,wA,↓reduceIte,reduceIte,reduceCtorEq,Y1,Y2,Y3,Y4,Y5,Y6,Y7,Y8,Y9,YA,wE]
  refine X0 c2 rfl ?_
  simp only [XJ,X4,w1,wx,wy1,wy,fk,fX,fX',fX8,fY,fY',fY8,hla,hlb,v1,v2,Int.toNat_natCast,↓X1,wA,↓reduceIte,reduceIte,reduceCtorEq,Y1,Y2,Y3,Y4,Y5,Y6,Y7,Y8,Y9,YA,wE]
  refine X0 c3 rfl ?_
  simp only [XJ,X4,w1,wx,wy1,wy,fk,fX,fX',fX8,fY,fY',fY8,hla,hlb,v1,v2,Int.toNat_natCast,↓X1,wA,↓reduceIte,reduceIte,reduceCtorEq,Y1,Y2,Y3,Y4,Y5,Y6,Y7,Y8,Y9,YA,wE]
  refine X0 c4 rfl ?_
  match k,w1,fk,hk2,nx with
  | 0,w1,fk,hk2,nx =>
   have e0:((0:Nat):Int)=0:=rfl
   have hL0:bc a.rim b.rim f 1=vC (K5 a.rim b.rim f 0):=rfl
   have hH0:aS a.rim b.rim f 1=vC (K5 a.rim b.rim f 0):=rfl
   simp only [Nat.zero_add,hL0,hH0] at nx
   generalize K5 a.rim b.rim f 0=D at *
   have w0:IntKind.i64.wrap (0+1)=1:=by decide
   have bD:XI 8 (.row 0 8 (Xn (vC D)))=True:=eq_true (XD (by simp [vC,X6,X2]))
   simp only [bc,aS,XP,e0,w0,↓X1,wA,↓reduceIte,reduceIte,reduceCtorEq,Y1,Y2,Y3,Y4,Y5,Y6,Y7,Y8,Y9,YA,wE]
   exact nx _ (by omega) (by omega) (XE (m:=8) (Nat.zero_le _) rfl (by simp [Xf,X4,hla,hlb,I]) (by simp [Xq,Xw,I]) (by simp [XG,XJ,XP,bc,aS,vC,Xd,Xm,X3,I]) (by simp [XA,bx,by']) (by simp [XA]) (by simp [ba,bb,bf,bz,be,bD,bl,bh]))
  | j+1,w1,fk,hk2,nx =>
   have g0:(((j+1:Nat):Int)=0)=False:=eq_false (by omega)
   have g0':((j:Int)+1=0)=False:=eq_false (by omega)
   have g0'':(j+1=0)=False:=eq_false (by omega)
   have bD:=bl 0
   have hl1:bc a.rim b.rim f (j+1)=vC (At a.rim b.rim f j):=rfl
   have hh1:aS a.rim b.rim f (j+1)=vC (As a.rim b.rim f j):=rfl
   have hl2:bc a.rim b.rim f (j+1+1)=vC (At a.rim b.rim f (j+1)):=rfl
   have hh2:aS a.rim b.rim f (j+1+1)=vC (As a.rim b.rim f (j+1)):=rfl
   have hDj:=hD (j+1); have hLj:=hL j; have hHj:=hH j
   have k1:=N7 (At a.rim b.rim f j).x (K5 a.rim b.rim f (j+1)).x (by have:=Qv (At a.rim b.rim f j); unfold rm; omega) (by have:=Qv (K5 a.rim b.rim f (j+1)); unfold rm; omega)
   have k2:=N7 (At a.rim b.rim f j).y (K5 a.rim b.rim f (j+1)).y (by have:=Qm (At a.rim b.rim f j); unfold rm; omega) (by have:=Qm (K5 a.rim b.rim f (j+1)); unfold rm; omega)
   have k3:=Mc (As a.rim b.rim f j).x (K5 a.rim b.rim f (j+1)).x (by have:=Qv (As a.rim b.rim f j); unfold rm; omega) (by have:=Qv (K5 a.rim b.rim f (j+1)); unfold rm; omega)
   have k4:=Mc (As a.rim b.rim f j).y (K5 a.rim b.rim f (j+1)).y (by have:=Qm (As a.rim b.rim f j); unfold rm; omega) (by have:=Qm (K5 a.rim b.rim f (j+1)); unfold rm; omega)
   rw [show Sb (At a.rim b.rim f j).x (K5 a.rim b.rim f (j+1)).x=(At a.rim b.rim f (j+1)).x from rfl] at k1
   rw [show Sb (At a.rim b.rim f j).y (K5 a.rim b.rim f (j+1)).y=(At a.rim b.rim f (j+1)).y from rfl] at k2
   rw [show S8 (As a.rim b.rim f j).x (K5 a.rim b.rim f (j+1)).x=(As a.rim b.rim f (j+1)).x from rfl] at k3
   rw [show S8 (As a.rim b.rim f j).y (K5 a.rim b.rim f (j+1)).y=(As a.rim b.rim f (j+1)).y from rfl] at k4
   have bl2:=bl (j+1+1); have bh2:=bh (j+1+1)
   simp only [hl2,hh2] at nx bl2 bh2
   rw [hl1,hh1]
   clear hD hL hH
   generalize K5 a.rim b.rim f (j+1)=D at *
   generalize At a.rim b.rim f (j+1)=L2 at *
   generalize As a.rim b.rim f (j+1)=H2 at *
   generalize At a.rim b.rim f j=L1 at *
   generalize As a.rim b.rim f j=H1 at *
   simp only [g0,g0',g0'',w1,↓X1,wA,↓reduceIte,reduceIte,reduceCtorEq,Y1,Y2,Y3,Y4,Y5,Y6,Y7,Y8,Y9,YA,wE]
   refine X0 k1 rfl ?_
   simp only [g0,g0',g0'',w1,↓X1,wA,↓reduceIte,reduceIte,reduceCtorEq,Y1,Y2,Y3,Y4,Y5,Y6,Y7,Y8,Y9,YA,wE]
   refine X0 k3 rfl ?_
   simp only [g0,g0',g0'',w1,↓X1,wA,↓reduceIte,reduceIte,reduceCtorEq,Y1,Y2,Y3,Y4,Y5,Y6,Y7,Y8,Y9,YA,wE]
   refine X0 k2 rfl ?_
   simp only [g0,g0',g0'',w1,↓X1,wA,↓reduceIte,reduceIte,reduceCtorEq,Y1,Y2,Y3,Y4,Y5,Y6,Y7,Y8,Y9,YA,wE]
   refine X0 k4 rfl ?_
   simp only [g0,g0',g0'',w1,↓X1,wA,↓reduceIte,reduceIte,reduceCtorEq,Y1,Y2,Y3,Y4,Y5,Y6,Y7,Y8,Y9,YA,wE]
   exact nx _ (by omega) (by omega) (XE (m:=8) (Nat.zero_le _) rfl (by simp [Xf,X4,hla,hlb,I]) (by simp [Xq,Xw,I]) (by simp [XG,XJ,XP,bc,aS,vC,Xd,Xm,X3,I]) (by simp [XA,bx,by']) (by simp [XA]) (by simp [ba,bb,bf,bz,be,bD,bl2,bh2]))
 obtain rfl:k=N+1:=by omega
 have hL:=CB ha.near hb.near f ht N
 have hH:=Cz ha.near hb.near f ht N
 have hl1:bc a.rim b.rim f (N+1)=vC (At a.rim b.rim f N):=rfl
 have hh1:aS a.rim b.rim f (N+1)=vC (As a.rim b.rim f N):=rfl
 rw [hl1,hh1]
 clear bl bh hl1 hh1
 generalize At a.rim b.rim f N=LO at *
 generalize As a.rim b.rim f N=HI at *
 have m0:vb ⟨ta+tb,ta+tb⟩≤2001:=by unfold vb; simp only; omega
 have m1:=Km LO ⟨ta+tb,ta+tb⟩
 have m2:=Be HI ⟨ta+tb,ta+tb⟩
 have c1:=D7 LO ⟨ta+tb,ta+tb⟩ (by unfold rm; omega) (by unfold rm; omega)
 have c2:=OX HI ⟨ta+tb,ta+tb⟩ (by unfold vm; omega) (by unfold vm; omega)
 generalize LO.sub ⟨ta+tb,ta+tb⟩=A at *
 generalize HI.add ⟨ta+tb,ta+tb⟩=B at *
 have:=Qv A; have:=Qm A; have:=Qv B; have:=Qm B
 have q1:=KA A.x B.x (by unfold rm; omega) (by unfold rm; omega)
 have q2:=KA A.y B.y (by unfold rm; omega) (by unfold rm; omega)
 refine Xl ?_
 simp only [XJ,Int.lt_irrefl,Nat.lt_irrefl,↓X1,wA,↓reduceIte,reduceIte,reduceCtorEq,Y1,Y2,Y3,Y4,Y5,Y6,Y7,Y8,Y9,YA,wE]
 refine X0 c1 rfl ?_
 simp only [↓X1,wA,↓reduceIte,reduceIte,reduceCtorEq,Y1,Y2,Y3,Y4,Y5,Y6,Y7,Y8,Y9,YA,wE]
 refine X0 c2 rfl ?_
 simp only [↓X1,wA,↓reduceIte,reduceIte,reduceCtorEq,Y1,Y2,Y3,Y4,Y5,Y6,Y7,Y8,Y9,YA,wE]
 refine X0 q1 rfl ?_
 by_cases h1:B.x<A.x
 ·have f1:(0<Qj A.x B.x)=True:=eq_true ((JN _ _).2 h1)
  simp only [f1,XP,↓X1,wA,↓reduceIte,reduceIte,reduceCtorEq,Y1,Y2,Y3,Y4,Y5,Y6,Y7,Y8,Y9,YA,wE]
  exact zret rfl rfl rfl rfl rfl (by rw [hRe,if_pos (.inl h1)])
 have f1:(0<Qj A.x B.x)=False:=eq_false fun h=>h1 ((JN _ _).1 h)
 simp only [f1,↓X1,wA,↓reduceIte,reduceIte,reduceCtorEq,Y1,Y2,Y3,Y4,Y5,Y6,Y7,Y8,Y9,YA,wE]
 refine X0 q2 rfl ?_
 by_cases h2:B.y<A.y
 ·have f2:(0<Qj A.y B.y)=True:=eq_true ((JN _ _).2 h2)
  simp only [f1,f2,XP,↓X1,wA,↓reduceIte,reduceIte,reduceCtorEq,Y1,Y2,Y3,Y4,Y5,Y6,Y7,Y8,Y9,YA,wE]
  exact zret rfl rfl rfl rfl rfl (by rw [hRe,if_pos (.inr h2)])
 have f2:(0<Qj A.y B.y)=False:=eq_false fun h=>h2 ((JN _ _).1 h)
 simp only [f1,f2,XP,↓X1,wA,↓reduceIte,reduceIte,reduceCtorEq,Y1,Y2,Y3,Y4,Y5,Y6,Y7,Y8,Y9,YA,wE]
 rw [if_neg fun h=>h.elim h1 h2] at hRe
 subst hRe
 exact IG rfl (Xo Ju rfl rfl rfl) (Xo Ju rfl rfl rfl) (by unfold QH; rfl) (Xr (Xk _) (XO (XZ (vC A)))) (Xr (Xk _) (XO (XZ (vC B)))) ((X2 _).sees _)
end
end Go.Ab.N
