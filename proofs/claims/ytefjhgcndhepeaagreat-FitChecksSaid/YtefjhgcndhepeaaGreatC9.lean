/- Contracts of functions, for arguments that fit. -/
import Derived.Test.YtefjhgcndhepeaaGreatC8
import Derived.Test.YtefjhgcndhepeaaGreatC7
set_option linter.unusedSimpArgs false
set_option linter.unusedVariables false
open Nat renaming reducePow → Y1, reduceLT → Y2, reduceLeDiff → Y3, reduceEqDiff → Y4, reduceAdd → Y5, reduceMul → Y6, reduceSub → Y7, reduceBEq → Y8, reduceDiv → Y9, reduceMod → YA
namespace Go.Ab.N
open Go Go.RowKit Go.Proofs
noncomputable section
set_option maxRecDepth 10000
set_option maxHeartbeats 4000000
open Classical
structure FV where
 A:Int
 B:Int
 EA:Int
 EB:Int
 M:Int
 turn:V2
 lo:V2
 hi:V2
def XJ (f:FV):List AV:=[I f.A,I f.B,I f.EA,I f.EB,I f.M,.bool (decide (f.turn.x.num<0)),X8 (Xb f.turn.x.num.natAbs),.bool false,X8 (Xb (qd f.turn.x)),.bool (decide (f.turn.y.num<0)),X8 (Xb f.turn.y.num.natAbs),.bool false,X8 (Xb (qd f.turn.y)),
 .bool (decide (f.lo.x.num<0)),X8 (Xb f.lo.x.num.natAbs),.bool false,X8 (Xb (qd f.lo.x)),.bool (decide (f.lo.y.num<0)),X8 (Xb f.lo.y.num.natAbs),.bool false,X8 (Xb (qd f.lo.y)),
 .bool (decide (f.hi.x.num<0)),X8 (Xb f.hi.x.num.natAbs),.bool false,X8 (Xb (qd f.hi.x)),.bool (decide (f.hi.y.num<0)),X8 (Xb f.hi.y.num.natAbs),.bool false,X8 (Xb (qd f.hi.y))]
def Jx (f:FV):AV:=.agg (XJ f)
theorem XM (f:FV):∀ x∈XJ f,Settled x:=by simp [XJ,X9,X7,X3]
theorem XP (f:FV):Settled (Jx f):=Qm (XM f)
theorem N1 (k:Int) (n:Nat) (h:0<n):(k.tmod n+n).tmod n=k % n:=by
 have h1:=Int.tmod_lt_of_pos k (show (0:Int)<n by omega)
 have h2:-(n:Int)<k.tmod n:=by
  have:=Int.lt_tmod_of_pos k (show (0:Int)<n by omega)
  omega
 rw [Int.tmod_eq_emod_of_nonneg (by omega),Int.add_emod_right]
 have h3:=Int.mul_tdiv_add_tmod k n
 have h4:k % n=(k.tmod n+n*k.tdiv n) % n:=by rw [Int.add_comm]; rw [h3]
 rw [h4,Int.add_mul_emod_self_left]
theorem Ar (k:Int) (n:Nat) (h:0<n) (hk:-1000000000≤k∧k≤1000000000) (hn:n≤1000000000):Fn Tryz.prog 124 [I k,I n] (I (k % n)):=by
 have h1:=Int.tmod_lt_of_pos k (show (0:Int)<n by omega)
 have h2:=Int.lt_tmod_of_pos k (show (0:Int)<n by omega)
 have w1:IntKind.i64.wrap (k.tmod n+n)=k.tmod n+n:=by rw [IntKind.wrap_i64]; omega
 have f1:((n:Int)=0)=False:=eq_false (by omega)
 have f1':(n=0)=False:=eq_false (by omega)
 obtain ⟨R,hR⟩:∃ R,R=k % (n:Int):=⟨_,rfl⟩
 have e:=N1 k n h
 rw [← hR] at e ⊢
 refine Fq Tryz.call124 Tryz.func124 5 [] [] [] (by simp [X9]) (X0 1000 ?_)
 simp only [AS.start,f1,f1',w1,e,↓X2,wF,seval]
 exact Xt rfl rfl (X9 _) rfl
theorem Q4 (k:Int) (n:Nat) (h:0<n) (hk:-1000000000≤k∧k≤1000000000) (hn:n≤1000000000):Fn Tryz.prog 129 [I k,I n] (I (k % n)):=by
 have h1:=Int.tmod_lt_of_pos k (show (0:Int)<n by omega)
 have h2:=Int.lt_tmod_of_pos k (show (0:Int)<n by omega)
 have w1:IntKind.i64.wrap (k.tmod n+n)=k.tmod n+n:=by rw [IntKind.wrap_i64]; omega
 have f1:((n:Int)=0)=False:=eq_false (by omega)
 have f1':(n=0)=False:=eq_false (by omega)
 obtain ⟨R,hR⟩:∃ R,R=k % (n:Int):=⟨_,rfl⟩
 have e:=N1 k n h
 rw [← hR] at e ⊢
 refine Fq Tryz.call129 Tryz.func129 5 [] [] [] (by simp [X9]) (X0 1000 ?_)
 simp only [AS.start,f1,f1',w1,e,↓X2,wF,seval]
 exact Xt rfl rfl (X9 _) rfl
def AB (n m:Nat) (f:FV):Prop:=(0≤f.EA∧f.EA<n)∧(0≤f.EB∧f.EB<m)∧1≤f.M∧f.M<n∧f.M<m
theorem DL (a b:PV) (f:FV) (ha:a.rim.length<1000000) (hb:b.rim.length<1000000):Fn Tryz.prog 122 [QH a,QH b,Jx f] (.bool (decide (AB a.rim.length b.rim.length f))):=by
 obtain ⟨V,hV⟩:∃ V,V=decide (AB a.rim.length b.rim.length f):=⟨_,rfl⟩
 have fin:∀ {s:AS} {v:Bool},s.get 6=.bool v→v=V→RetOk (QI Tryz.prog Tryz.f122 [] [] (.bool V)) s:=fun h e=>Xt rfl h (X3 _) (by rw [e])
 rw [← hV]
 refine Fq Tryz.call122 Tryz.func122 9 [] [] [] (by simp [Xx,XP]) (X0 1000 ?_)
 by_cases hmn:(b.rim.length:Int)<a.rim.length
 ·have fmn:((b.rim.length:Int)<a.rim.length)=True:=eq_true hmn
  by_cases g0:0≤f.EA
  rotate_left
  ·have f0:(0≤f.EA)=False:=eq_false g0
   simp only [AS.start,QH,XD,Jx,XJ,fmn,if_true,f0,↓X2,wF,seval]
   exact fin rfl (by rw [hV,decide_eq_false fun h=>g0 h.1.1])
  have f0:(0≤f.EA)=True:=eq_true g0
  by_cases g1:f.EA<(a.rim.length:Int)
  rotate_left
  ·have f1:(f.EA<(a.rim.length:Int))=False:=eq_false g1
   simp only [AS.start,QH,XD,Jx,XJ,fmn,if_true,f0,f1,↓X2,wF,seval]
   exact fin rfl (by rw [hV,decide_eq_false fun h=>g1 h.1.2])
  have f1:(f.EA<(a.rim.length:Int))=True:=eq_true g1
  by_cases g2:0≤f.EB
  rotate_left
  ·have f2:(0≤f.EB)=False:=eq_false g2
   simp only [AS.start,QH,XD,Jx,XJ,fmn,if_true,f0,f1,f2,↓X2,wF,seval]
   exact fin rfl (by rw [hV,decide_eq_false fun h=>g2 h.2.1.1])
  have f2:(0≤f.EB)=True:=eq_true g2
  by_cases g3:f.EB<(b.rim.length:Int)
  rotate_left
  ·have f3:(f.EB<(b.rim.length:Int))=False:=eq_false g3
   simp only [AS.start,QH,XD,Jx,XJ,fmn,if_true,f0,f1,f2,f3,↓X2,wF,seval]
   exact fin rfl (by rw [hV,decide_eq_false fun h=>g3 h.2.1.2])
  have f3:(f.EB<(b.rim.length:Int))=True:=eq_true g3
  by_cases g4:1≤f.M
  rotate_left
  ·have f4:(1≤f.M)=False:=eq_false g4
   simp only [AS.start,QH,XD,Jx,XJ,fmn,if_true,f0,f1,f2,f3,f4,↓X2,wF,seval]
   exact fin rfl (by rw [hV,decide_eq_false fun h=>g4 h.2.2.1])
  have f4:(1≤f.M)=True:=eq_true g4
  by_cases g5:f.M<(b.rim.length:Int)
  rotate_left
  ·have f5:(f.M<(b.rim.length:Int))=False:=eq_false g5
   simp only [AS.start,QH,XD,Jx,XJ,fmn,if_true,f0,f1,f2,f3,f4,f5,↓X2,wF,seval]
   exact fin rfl (by rw [hV,decide_eq_false fun h=>g5 h.2.2.2.2])
  have f5:(f.M<(b.rim.length:Int))=True:=eq_true g5
  simp only [AS.start,QH,XD,Jx,XJ,fmn,if_true,f0,f1,f2,f3,f4,f5,↓X2,wF,seval]
  exact fin rfl (by rw [hV,decide_eq_true]; exact ⟨⟨g0,g1⟩,⟨g2,g3⟩,g4,by omega,g5⟩)
 ·have fmn:((b.rim.length:Int)<a.rim.length)=False:=eq_false hmn
  by_cases g0:0≤f.EA
  rotate_left
  ·have f0:(0≤f.EA)=False:=eq_false g0
   simp only [AS.start,QH,XD,Jx,XJ,fmn,if_false,f0,↓X2,wF,seval]
   exact fin rfl (by rw [hV,decide_eq_false fun h=>g0 h.1.1])
  have f0:(0≤f.EA)=True:=eq_true g0
  by_cases g1:f.EA<(a.rim.length:Int)
  rotate_left
  ·have f1:(f.EA<(a.rim.length:Int))=False:=eq_false g1
   simp only [AS.start,QH,XD,Jx,XJ,fmn,if_false,f0,f1,↓X2,wF,seval]
   exact fin rfl (by rw [hV,decide_eq_false fun h=>g1 h.1.2])
  have f1:(f.EA<(a.rim.length:Int))=True:=eq_true g1
  by_cases g2:0≤f.EB
  rotate_left
  ·have f2:(0≤f.EB)=False:=eq_false g2
   simp only [AS.start,QH,XD,Jx,XJ,fmn,if_false,f0,f1,f2,↓X2,wF,seval]
   exact fin rfl (by rw [hV,decide_eq_false fun h=>g2 h.2.1.1])
  have f2:(0≤f.EB)=True:=eq_true g2
  by_cases g3:f.EB<(b.rim.length:Int)
  rotate_left
  ·have f3:(f.EB<(b.rim.length:Int))=False:=eq_false g3
   simp only [AS.start,QH,XD,Jx,XJ,fmn,if_false,f0,f1,f2,f3,↓X2,wF,seval]
   exact fin rfl (by rw [hV,decide_eq_false fun h=>g3 h.2.1.2])
  have f3:(f.EB<(b.rim.length:Int))=True:=eq_true g3
  by_cases g4:1≤f.M
  rotate_left
  ·have f4:(1≤f.M)=False:=eq_false g4
   simp only [AS.start,QH,XD,Jx,XJ,fmn,if_false,f0,f1,f2,f3,f4,↓X2,wF,seval]
   exact fin rfl (by rw [hV,decide_eq_false fun h=>g4 h.2.2.1])
  have f4:(1≤f.M)=True:=eq_true g4
  by_cases g5:f.M<(a.rim.length:Int)
  rotate_left
  ·have f5:(f.M<(a.rim.length:Int))=False:=eq_false g5
   simp only [AS.start,QH,XD,Jx,XJ,fmn,if_false,f0,f1,f2,f3,f4,f5,↓X2,wF,seval]
   exact fin rfl (by rw [hV,decide_eq_false fun h=>g5 h.2.2.2.1])
  have f5:(f.M<(a.rim.length:Int))=True:=eq_true g5
  simp only [AS.start,QH,XD,Jx,XJ,fmn,if_false,f0,f1,f2,f3,f4,f5,↓X2,wF,seval]
  exact fin rfl (by rw [hV,decide_eq_true]; exact ⟨⟨g0,g1⟩,⟨g2,g3⟩,g4,g5,by omega⟩)
theorem E5 (a b:PV) (f:FV) (ha:a.rim.length<1000000) (hb:b.rim.length<1000000):Fn Tryz.prog 127 [QH a,QH b,Jx f] (.bool (decide (AB a.rim.length b.rim.length f))):=by
 obtain ⟨V,hV⟩:∃ V,V=decide (AB a.rim.length b.rim.length f):=⟨_,rfl⟩
 have fin:∀ {s:AS} {v:Bool},s.get 6=.bool v→v=V→RetOk (QI Tryz.prog Tryz.f127 [] [] (.bool V)) s:=fun h e=>Xt rfl h (X3 _) (by rw [e])
 rw [← hV]
 refine Fq Tryz.call127 Tryz.func127 9 [] [] [] (by simp [Xx,XP]) (X0 1000 ?_)
 by_cases g0:0≤f.EA
 rotate_left
 ·have f0:(0≤f.EA)=False:=eq_false g0
  simp only [AS.start,QH,XD,Jx,XJ,f0,↓X2,wF,seval]
  exact fin rfl (by rw [hV,decide_eq_false fun h=>g0 h.1.1])
 have f0:(0≤f.EA)=True:=eq_true g0
 by_cases g1:f.EA<(a.rim.length:Int)
 rotate_left
 ·have f1:(f.EA<(a.rim.length:Int))=False:=eq_false g1
  simp only [AS.start,QH,XD,Jx,XJ,f0,f1,↓X2,wF,seval]
  exact fin rfl (by rw [hV,decide_eq_false fun h=>g1 h.1.2])
 have f1:(f.EA<(a.rim.length:Int))=True:=eq_true g1
 by_cases g2:0≤f.EB
 rotate_left
 ·have f2:(0≤f.EB)=False:=eq_false g2
  simp only [AS.start,QH,XD,Jx,XJ,f0,f1,f2,↓X2,wF,seval]
  exact fin rfl (by rw [hV,decide_eq_false fun h=>g2 h.2.1.1])
 have f2:(0≤f.EB)=True:=eq_true g2
 by_cases g3:f.EB<(b.rim.length:Int)
 rotate_left
 ·have f3:(f.EB<(b.rim.length:Int))=False:=eq_false g3
  simp only [AS.start,QH,XD,Jx,XJ,f0,f1,f2,f3,↓X2,wF,seval]
  exact fin rfl (by rw [hV,decide_eq_false fun h=>g3 h.2.1.2])
 have f3:(f.EB<(b.rim.length:Int))=True:=eq_true g3
 by_cases g4:1≤f.M
 rotate_left
 ·have f4:(1≤f.M)=False:=eq_false g4
  simp only [AS.start,QH,XD,Jx,XJ,f0,f1,f2,f3,f4,↓X2,wF,seval]
  exact fin rfl (by rw [hV,decide_eq_false fun h=>g4 h.2.2.1])
 have f4:(1≤f.M)=True:=eq_true g4
 by_cases g5:f.M<(a.rim.length:Int)
 rotate_left
 ·have f5:(f.M<(a.rim.length:Int))=False:=eq_false g5
  simp only [AS.start,QH,XD,Jx,XJ,f0,f1,f2,f3,f4,f5,↓X2,wF,seval]
  exact fin rfl (by rw [hV,decide_eq_false fun h=>g5 h.2.2.2.1])
 have f5:(f.M<(a.rim.length:Int))=True:=eq_true g5
 by_cases g6:f.M<(b.rim.length:Int)
 rotate_left
 ·have f6:(f.M<(b.rim.length:Int))=False:=eq_false g6
  simp only [AS.start,QH,XD,Jx,XJ,f0,f1,f2,f3,f4,f5,f6,↓X2,wF,seval]
  exact fin rfl (by rw [hV,decide_eq_false fun h=>g6 h.2.2.2.2])
 have f6:(f.M<(b.rim.length:Int))=True:=eq_true g6
 simp only [AS.start,QH,XD,Jx,XJ,f0,f1,f2,f3,f4,f5,f6,↓X2,wF,seval]
 exact fin rfl (by rw [hV,decide_eq_true]; exact ⟨⟨g0,g1⟩,⟨g2,g3⟩,g4,g5,g6⟩)
def DG (R:List (Int×Int)) (k:Nat):Int×Int:=((R.getD ((k+1) % R.length) (0,0)).1 - (R.getD k (0,0)).1,(R.getD ((k+1) % R.length) (0,0)).2 - (R.getD k (0,0)).2)
def B7 (R:List (Int×Int)) (k:Nat):V2:=(JD (R.getD ((k+1) % R.length) (0,0))).sub (JD (R.getD k (0,0)))
def To (R:List (Int×Int)) (k:Nat):Int:=(DG R k).1*(DG R k).1+(DG R k).2*(DG R k).2
theorem Uh (R:List (Int×Int)) (k:Nat):B7 R k=⟨((DG R k).1:Rat),((DG R k).2:Rat)⟩:=by
 unfold B7 DG V2.sub JD
 simp only [Rat.intCast_sub]
def QY (R:List (Int×Int)):Prop:=∀ c∈R,(-65536≤c.1∧c.1≤65536)∧(-65536≤c.2∧c.2≤65536)
theorem DT {R:List (Int×Int)} (h:QY R) (i:Nat):(-65536≤(R.getD i (0,0)).1∧(R.getD i (0,0)).1≤65536)∧(-65536≤(R.getD i (0,0)).2∧(R.getD i (0,0)).2≤65536):=by
 rw [List.getD_eq_getElem?_getD]
 cases hx:R[i]? with
 | none=>exact ⟨⟨by decide,by decide⟩,⟨by decide,by decide⟩⟩
 | some c=>exact h c (List.mem_of_getElem? hx)
theorem AN {R:List (Int×Int)} (h:QY R):∀ i,i<R.length→LG (R.getD i (0,0))=true:=fun i _=>by
 have:=DT h i
 unfold LG wb
 simp only [Bool.and_eq_true,decide_eq_true_eq]
 omega
theorem Cs {R:List (Int×Int)} (h:QY R) (k:Nat):(-131072≤(DG R k).1∧(DG R k).1≤131072)∧(-131072≤(DG R k).2∧(DG R k).2≤131072):=by
 have h1:=DT h k
 have h2:=DT h ((k+1) % R.length)
 unfold DG
 simp only
 omega
theorem Br {R:List (Int×Int)} (h:QY R) (k:Nat):vb (B7 R k)≤3:=by
 have:=Cs h k
 rw [Uh]
 have q1:=KW (DG R k).1 3 (by omega) (Qy ⟨by omega,by omega⟩)
 have q2:=KW (DG R k).2 3 (by omega) (Qy ⟨by omega,by omega⟩)
 unfold vb
 simp only
 omega
theorem Sk (p:PV) (k:Nat) (hk:k<p.rim.length) (hl:p.rim.length<1000000) (hn:QY p.rim):Fn Tryz.prog 121 [QH p,I k] (.tup [I (DG p.rim k).1,I (DG p.rim k).2]):=by
 obtain ⟨D,hD⟩:∃ D,D=DG p.rim k:=⟨_,rfl⟩
 have h0:=Cs hn k
 rw [← hD] at h0 ⊢
 have hD1:(p.rim.getD ((k+1) % p.rim.length) (0,0)).1 - (p.rim.getD k (0,0)).1=D.1:=by rw [hD]; rfl
 have hD2:(p.rim.getD ((k+1) % p.rim.length) (0,0)).2 - (p.rim.getD k (0,0)).2=D.2:=by rw [hD]; rfl
 have f0:((p.rim.length:Int)=0)=False:=eq_false (by omega)
 have f0':(p.rim.length=0)=False:=eq_false (by omega)
 have r1:(k:Int).tmod p.rim.length=(k:Int):=by rw [show (k:Int).tmod p.rim.length=((k % p.rim.length:Nat):Int) from rfl,Nat.mod_eq_of_lt hk]
 have w1:IntKind.i64.wrap ((k:Int)+p.rim.length)=((k+p.rim.length:Nat):Int):=by rw [IntKind.wrap_i64]; omega
 have r2:((k+p.rim.length:Nat):Int).tmod p.rim.length=(k:Int):=by rw [show ((k+p.rim.length:Nat):Int).tmod p.rim.length=(((k+p.rim.length) % p.rim.length:Nat):Int) from rfl,Nat.add_mod_right,Nat.mod_eq_of_lt hk]
 have w2:=wj k (by omega)
 have r3:((k+1:Nat):Int).tmod p.rim.length=(((k+1) % p.rim.length:Nat):Int):=rfl
 have hm:(k+1) % p.rim.length<p.rim.length:=Nat.mod_lt _ (by omega)
 obtain ⟨m,hme⟩:∃ m,m=(k+1) % p.rim.length:=⟨_,rfl⟩
 rw [← hme] at hD1 hD2 r3 hm
 have f1:((k:Int)<p.rim.length)=True:=eq_true (by omega)
 have f2:(k<p.rim.length)=True:=eq_true hk
 have f3:((m:Int)<p.rim.length)=True:=eq_true (by omega)
 have f4:(m<p.rim.length)=True:=eq_true hm
 have f5:(k*2+2≤p.rim.length*2)=True:=eq_true (by omega)
 have f6:(m*2+2≤p.rim.length*2)=True:=eq_true (by omega)
 have v1:=iN p.rim k
 have v2:=iN p.rim m
 have w3:IntKind.i64.wrap D.1=D.1:=by rw [IntKind.wrap_i64]; omega
 have w4:IntKind.i64.wrap D.2=D.2:=by rw [IntKind.wrap_i64]; omega
 refine Fq Tryz.call121 Tryz.func121 9 [] [3,40000002] [] (by simp [Xx,X9]) (X0 1000 ?_)
 simp only [AS.start,QH,XD,f0,f0',f1,f2,f3,f4,f5,f6,r1,r2,r3,w1,w2,w3,w4,v1,v2,hD1,hD2,Int.toNat_natCast,↓X2,wF,seval]
 exact SC rfl rfl rfl (X9 _) (X9 _) rfl rfl
theorem Si (p:PV) (k:Nat) (hk:k<p.rim.length) (hl:p.rim.length<1000000) (hn:QY p.rim):Fn Tryz.prog 45 [QH p,I k] (vA (B7 p.rim k)):=by
 have c1:=Sk p k hk hl hn
 have h0:=Cs hn k
 rw [Uh]
 generalize DG p.rim k=D at *
 have c2:=He D.1 D.2 ⟨by omega,by omega⟩ ⟨by omega,by omega⟩
 obtain ⟨R,hR⟩:∃ R,R=vA ⟨(D.1:Rat),(D.2:Rat)⟩:=⟨_,rfl⟩
 have sR:Settled R:=hR▸Xm _
 rw [← hR]
 refine Fq Tryz.call45 Tryz.func45 5 [] [] [] (by simp [Xx,X9]) (X0 1000 ?_)
 simp only [AS.start,QH,XD,↓X2,wF,seval]
 refine X1 c1 rfl ?_
 simp only [↓X2,wF,seval]
 refine X1 c2 rfl ?_
 simp only [↓X2,wF,seval]
 exact ZB rfl Jr rfl rfl rfl sR (hR.trans rfl)
theorem Fy (p:PV) (k:Nat) (hk:k<p.rim.length) (hl:p.rim.length<1000000) (hn:QY p.rim):Fn Tryz.prog 113 [QH p,I k] (I (To p.rim k)):=by
 have c1:=Sk p k hk hl hn
 have h0:=Cs hn k
 unfold To
 generalize DG p.rim k=D at *
 have b1:D.1*D.1≤131072*131072:=by
  rcases Int.le_total 0 D.1 with h | h
  ·exact Int.mul_le_mul h0.1.2 h0.1.2 h (by omega)
  ·have:=Int.mul_le_mul (show -D.1≤131072 by omega) (show -D.1≤131072 by omega) (by omega) (by omega)
   rwa [Int.neg_mul_neg] at this
 have b2:D.2*D.2≤131072*131072:=by
  rcases Int.le_total 0 D.2 with h | h
  ·exact Int.mul_le_mul h0.2.2 h0.2.2 h (by omega)
  ·have:=Int.mul_le_mul (show -D.2≤131072 by omega) (show -D.2≤131072 by omega) (by omega) (by omega)
   rwa [Int.neg_mul_neg] at this
 have b3:0≤D.1*D.1:=by
  rcases Int.le_total 0 D.1 with h | h
  ·exact Int.mul_nonneg h h
  ·exact Int.mul_nonneg_of_nonpos_of_nonpos h h
 have b4:0≤D.2*D.2:=by
  rcases Int.le_total 0 D.2 with h | h
  ·exact Int.mul_nonneg h h
  ·exact Int.mul_nonneg_of_nonpos_of_nonpos h h
 have w1:IntKind.i64.wrap (D.1*D.1)=D.1*D.1:=by rw [IntKind.wrap_i64]; omega
 have w2:IntKind.i64.wrap (D.2*D.2)=D.2*D.2:=by rw [IntKind.wrap_i64]; omega
 have w3:IntKind.i64.wrap (D.1*D.1+D.2*D.2)=D.1*D.1+D.2*D.2:=by rw [IntKind.wrap_i64]; omega
 refine Fq Tryz.call113 Tryz.func113 7 [] [] [] (by simp [Xx,X9]) (X0 1000 ?_)
 simp only [AS.start,QH,XD,↓X2,wF,seval]
 refine X1 c1 rfl ?_
 simp only [w1,w2,w3,↓X2,wF,seval]
 exact Xt rfl rfl (X9 _) rfl
theorem GA (R:List (Int×Int)) (i:Nat):(XC R).getD i v0=JD (R.getD i (0,0)):=by
 unfold XC
 rw [List.getD_eq_getElem?_getD,List.getD_eq_getElem?_getD,List.getElem?_map]
 cases R[i]? with
 | none=>show v0=JD (0,0); unfold v0 JD; simp
 | some c=>rfl
theorem Sv (p:PV) (k:Nat) (hk:k<p.rim.length) (hl:p.rim.length<1000000) (hn:QY p.rim):Fn Tryz.prog 115 [QH p,I k] (vA (B7 p.rim k)):=by
 have cr:=E8 p hl (AN hn)
 have hlen:(XC p.rim).length=p.rim.length:=by simp [XC]
 have hs:=HO (AN hn)
 have hm:(k+1) % p.rim.length<p.rim.length:=Nat.mod_lt _ (by omega)
 have cs:=JO ((XC p.rim).getD ((k+1) % p.rim.length) v0) ((XC p.rim).getD k v0) (by have:=hs ((k+1) % p.rim.length); unfold rm; omega) (by have:=hs k; unfold rm; omega)
 rw [show ((XC p.rim).getD ((k+1) % p.rim.length) v0).sub ((XC p.rim).getD k v0)=B7 p.rim k by rw [GA,GA]; rfl] at cs
 obtain ⟨R,hR⟩:∃ R,R=vA (B7 p.rim k):=⟨_,rfl⟩
 have sR:Settled R:=hR▸Xm _
 rw [← hR] at cs ⊢
 have w2:=wj k (by omega)
 have f0:((p.rim.length:Int)=0)=False:=eq_false (by omega)
 have f0':(p.rim.length=0)=False:=eq_false (by omega)
 have r3:((k+1:Nat):Int).tmod p.rim.length=(((k+1) % p.rim.length:Nat):Int):=rfl
 have v1:=vF (XC p.rim) k
 have v2:=vF (XC p.rim) ((k+1) % p.rim.length)
 generalize (k+1) % p.rim.length=m at *
 have f1:((k:Int)<p.rim.length)=True:=eq_true (by omega)
 have f2:(k<p.rim.length)=True:=eq_true hk
 have f3:((m:Int)<p.rim.length)=True:=eq_true (by omega)
 have f4:(m<p.rim.length)=True:=eq_true hm
 have f5:(k*8+8≤p.rim.length*8)=True:=eq_true (by omega)
 have f6:(m*8+8≤p.rim.length*8)=True:=eq_true (by omega)
 refine Fq Tryz.call115 Tryz.func115 6 [] [2] [] (by simp [Xx,X9]) (X0 1000 ?_)
 simp only [AS.start,QH,XD,↓X2,wF,seval]
 refine X1 cr rfl ?_
 simp only [X5,hlen,f0,f0',f1,f2,f3,f4,f5,f6,w2,r3,v1,v2,Int.toNat_natCast,↓X2,wF,seval]
 refine X1 cs rfl ?_
 simp only [hR,↓X2,wF,seval]
 exact ZB rfl Jr rfl rfl rfl sR (hR.trans rfl)
def KR (a:V2):V2:=⟨-a.x,-a.y⟩
theorem Vb (a:V2):vb (KR a)=vb a:=by
 unfold vb KR
 simp only [OW]
theorem bJ (a:V2):a.scale (-1)=KR a:=by
 unfold V2.scale KR
 rw [V2.ext']
 exact ⟨by simp only; grind,by simp only; grind⟩
theorem sb (a:V2):v0.sub a=KR a:=by
 unfold V2.sub KR v0
 rw [V2.ext']
 exact ⟨by simp only; grind,by simp only; grind⟩
theorem lX (a:V2):Q9 (KR a) (KR a)=Q9 a a:=by unfold Q9 KR; grind
theorem VH (R:List (Int×Int)) (k:Nat):Q9 (B7 R k) (B7 R k)=(To R k:Rat):=by
 rw [Uh]
 unfold Q9 To
 simp only [Rat.intCast_add,Rat.intCast_mul]
theorem Ek (t:Bool):WeakL [.bool false,.sl 0 0 (fun _=>.any) t,.bool false,.sl 0 0 (fun _=>.any) t,.bool false,.sl 0 0 (fun _=>.any) t,.bool false,.sl 0 0 (fun _=>.any) t] (vC v0) :=
 have h1:Xb (0:Rat).num.natAbs=[]:=by rw [Rat.zero_num]; simp [Q2]
 have h2:Xb (qd (0:Rat))=[]:=D3 rfl
 ⟨Weak.rfl' _,Qw h1,Weak.rfl' _,Qw h2,Weak.rfl' _,Qw h1,Weak.rfl' _,Qw h2,trivial⟩
def RE (n m:Nat) (i j:Int):Prop:=(0≤i∧i<n)∧0≤j∧j<m
noncomputable def Qc (a b:List (Int×Int)) (i j:Int):V2×Bool :=
 if RE a.length b.length i j then ((J6 (KR (B7 b j.toNat)) (B7 a i.toNat)).1,decide ((J6 (KR (B7 b j.toNat)) (B7 a i.toNat)).2=0)) else (v0,false)
theorem FO (a b:V2) (h:Q9 a a≠Q9 b b):(J6 a b).1=v0∧(J6 a b).2≠0:=by
 unfold J6
 by_cases h0:Q9 a a=0∨Q9 b b=0
 ·rw [if_pos h0]; exact ⟨rfl,by decide⟩
 ·rw [if_neg h0,if_neg h]; exact ⟨rfl,by decide⟩
theorem jz (a b:V2) (k:Nat) (ha:vb a≤k) (hb:vb b≤k):vb (J6 a b).1≤8*k+2:=by
 have q0:=Ad
 have z:vb v0≤8*k+2:=by unfold vb v0; simp only; omega
 have q1:=Ac a a; have q3:=Ac a b; have q4:=CC a b
 have d1:=iR (Q9 a b) (Q9 a a); have d2:=iR (Qq a b) (Q9 a a)
 unfold J6
 by_cases h0:Q9 a a=0∨Q9 b b=0
 ·rw [if_pos h0]; exact z
 ·rw [if_neg h0]
  by_cases h1:Q9 a a=Q9 b b
  ·rw [if_pos h1]
   show max (qb (Q9 a b / Q9 a a)) (qb (Qq a b / Q9 a a))≤_
   omega
  ·rw [if_neg h1]; exact z
theorem Bi {a b:List (Int×Int)} (ha:QY a) (hb:QY b) (i j:Int):vb (Qc a b i j).1≤26:=by
 unfold Qc
 by_cases h:RE a.length b.length i j
 ·rw [if_pos h]
  exact jz _ _ 3 (by rw [Vb]; exact Br hb _) (Br ha _)
 ·rw [if_neg h]
  have q0:=Ad
  unfold vb v0; simp only; omega
theorem CV (a b:PV) (i j:Int) (hla:a.rim.length<1000000) (hlb:b.rim.length<1000000) (na:QY a.rim) (nb:QY b.rim):Fn Tryz.prog 39 [QH a,QH b,I i,I j] (.tup [vA (Qc a.rim b.rim i j).1,.bool (Qc a.rim b.rim i j).2]):=by
 obtain ⟨R,hR⟩:∃ R,R=Qc a.rim b.rim i j:=⟨_,rfl⟩
 rw [← hR]
 have zret:∀ {s:AS} {ver id':Nat},s.get 8=.ref id' ver 0→s.h[id']?=some (.row ver 8 (Xo Zj))→s.get 9=.bool false→R=(v0,false)→RetOk (QI Tryz.prog Tryz.f39 [3,40000004,40000005] [] (.tup [vA R.1,.bool R.2])) s:=fun h1 h2 h3 h4=>by
  subst h4
  exact Jn rfl (Xq Dl h1 h2 rfl) (by unfold QU; rfl) (Xu (Xm _) (XW ZJ)) (by rw [h3]; exact (X3 _).sees _)
 refine Fq Tryz.call39 Tryz.func39 12 [] [3,40000004,40000005] [] (by simp [Xx,X9]) (X0 1000 ?_)
 by_cases g0:i<0
 ·have f0:(i<0)=True:=eq_true g0
  simp only [AS.start,QH,XD,f0,↓X2,wF,seval]
  exact zret rfl rfl rfl (by rw [hR]; unfold Qc; rw [if_neg (by unfold RE; omega)])
 have f0:(i<0)=False:=eq_false g0
 by_cases g1:(a.rim.length:Int)≤i
 ·have f1:((a.rim.length:Int)≤i)=True:=eq_true g1
  simp only [AS.start,QH,XD,f0,f1,↓X2,wF,seval]
  exact zret rfl rfl rfl (by rw [hR]; unfold Qc; rw [if_neg (by unfold RE; omega)])
 have f1:((a.rim.length:Int)≤i)=False:=eq_false g1
 by_cases g2:j<0
 ·have f2:(j<0)=True:=eq_true g2
  simp only [AS.start,QH,XD,f0,f1,f2,↓X2,wF,seval]
  exact zret rfl rfl rfl (by rw [hR]; unfold Qc; rw [if_neg (by unfold RE; omega)])
 have f2:(j<0)=False:=eq_false g2
 by_cases g3:(b.rim.length:Int)≤j
 ·have f3:((b.rim.length:Int)≤j)=True:=eq_true g3
  simp only [AS.start,QH,XD,f0,f1,f2,f3,↓X2,wF,seval]
  exact zret rfl rfl rfl (by rw [hR]; unfold Qc; rw [if_neg (by unfold RE; omega)])
 have f3:((b.rim.length:Int)≤j)=False:=eq_false g3
 obtain ⟨i,rfl⟩:∃ n:Nat,i=n:=⟨i.toNat,by omega⟩
 obtain ⟨j,rfl⟩:∃ n:Nat,j=n:=⟨j.toNat,by omega⟩
 have hin:RE a.rim.length b.rim.length i j:=by unfold RE; omega
 have hR1:R=((J6 (KR (B7 b.rim j)) (B7 a.rim i)).1,decide ((J6 (KR (B7 b.rim j)) (B7 a.rim i)).2=0)):=by rw [hR]; unfold Qc; rw [if_pos hin]; rfl
 have s1:=Fy a i (by omega) hla na
 have s2:=Fy b j (by omega) hlb nb
 simp only [AS.start,QH,XD,f0,f1,f2,f3,↓X2,wF,seval]
 refine X1 s1 rfl ?_
 simp only [f0,f1,f2,f3,↓X2,wF,seval]
 refine X1 s2 rfl ?_
 by_cases hs:To a.rim i=To b.rim j
 rotate_left
 ·have fs:(To a.rim i=To b.rim j)=False:=eq_false hs
  simp only [fs,↓X2,wF,seval]
  refine zret rfl rfl rfl ?_
  have hd:=FO (KR (B7 b.rim j)) (B7 a.rim i) (by rw [lX,VH,VH]; exact fun h=>hs (Rat.intCast_inj.1 h).symm)
  rw [hR1,hd.1,decide_eq_false hd.2]
 have fs:(To a.rim i=To b.rim j)=True:=eq_true hs
 have e1:=Si b j (by omega) hlb nb
 have e2:=Si a i (by omega) hla na
 have k1:=Br nb j; have k2:=Br na i
 have o1:=FC (-1) 1 ⟨by omega,by omega⟩ ⟨by omega,by omega⟩
 rw [show Rat.divInt (-1) 1 = -1 by decide +kernel] at o1
 have o2:=NQ (B7 b.rim j) (-1) (by unfold vm; omega) (by have:=BH (-1) 1 ⟨by omega,by omega⟩ ⟨by omega,by omega⟩; rw [show Rat.divInt (-1) 1 = -1 by decide +kernel] at this; unfold vm; omega)
 rw [bJ] at o2
 have o3:=aS (KR (B7 b.rim j)) (B7 a.rim i) (by rw [Vb]; omega) (by omega)
 generalize J6 (KR (B7 b.rim j)) (B7 a.rim i)=X at *
 simp only [fs,↓X2,wF,seval]
 refine X1 e1 rfl ?_
 simp only [↓X2,wF,seval]
 refine X1 o1 rfl ?_
 simp only [↓X2,wF,seval]
 refine X1 o2 rfl ?_
 simp only [↓X2,wF,seval]
 refine X1 e2 rfl ?_
 simp only [↓X2,wF,seval]
 refine X1 o3 rfl ?_
 simp only [↓X2,wF,seval]
 subst hR1
 exact Jn rfl (Xq Dl rfl rfl rfl) (by unfold QU; rfl) (Xu (Xm _) (XW (Q0 (vC X.1)))) ((X3 _).sees _)
theorem LK (a b:PV) (i j:Int) (hla:a.rim.length<1000000) (hlb:b.rim.length<1000000) (na:QY a.rim) (nb:QY b.rim):Fn Tryz.prog 40 [QH a,QH b,I i,I j] (.tup [vA (Qc a.rim b.rim i j).1,.bool (Qc a.rim b.rim i j).2]):=by
 obtain ⟨R,hR⟩:∃ R,R=Qc a.rim b.rim i j:=⟨_,rfl⟩
 rw [← hR]
 have zret:∀ {s:AS} {ver id':Nat},s.get 8=.ref id' ver 0→s.h[id']?=some (.row ver 8 (Xo Zj))→s.get 9=.bool false→R=(v0,false)→RetOk (QI Tryz.prog Tryz.f40 [] [] (.tup [vA R.1,.bool R.2])) s:=fun h1 h2 h3 h4=>by
  subst h4
  exact Jn rfl (Xq Dl h1 h2 rfl) (by unfold QU; rfl) (Xu (Xm _) (XW ZJ)) (by rw [h3]; exact (X3 _).sees _)
 refine Fq Tryz.call40 Tryz.func40 14 [] [] [] (by simp [Xx,X9]) (X0 1000 ?_)
 by_cases g0:i<0
 ·have f0:(i<0)=True:=eq_true g0
  simp only [AS.start,QH,XD,f0,↓X2,wF,seval]
  exact zret rfl rfl rfl (by rw [hR]; unfold Qc; rw [if_neg (by unfold RE; omega)])
 have f0:(i<0)=False:=eq_false g0
 by_cases g1:(a.rim.length:Int)≤i
 ·have f1:((a.rim.length:Int)≤i)=True:=eq_true g1
  simp only [AS.start,QH,XD,f0,f1,↓X2,wF,seval]
  exact zret rfl rfl rfl (by rw [hR]; unfold Qc; rw [if_neg (by unfold RE; omega)])
 have f1:((a.rim.length:Int)≤i)=False:=eq_false g1
 by_cases g2:j<0
 ·have f2:(j<0)=True:=eq_true g2
  simp only [AS.start,QH,XD,f0,f1,f2,↓X2,wF,seval]
  exact zret rfl rfl rfl (by rw [hR]; unfold Qc; rw [if_neg (by unfold RE; omega)])
 have f2:(j<0)=False:=eq_false g2
 by_cases g3:(b.rim.length:Int)≤j
 ·have f3:((b.rim.length:Int)≤j)=True:=eq_true g3
  simp only [AS.start,QH,XD,f0,f1,f2,f3,↓X2,wF,seval]
  exact zret rfl rfl rfl (by rw [hR]; unfold Qc; rw [if_neg (by unfold RE; omega)])
 have f3:((b.rim.length:Int)≤j)=False:=eq_false g3
 obtain ⟨i,rfl⟩:∃ n:Nat,i=n:=⟨i.toNat,by omega⟩
 obtain ⟨j,rfl⟩:∃ n:Nat,j=n:=⟨j.toNat,by omega⟩
 have hin:RE a.rim.length b.rim.length i j:=by unfold RE; omega
 have hR1:R=((J6 (KR (B7 b.rim j)) (B7 a.rim i)).1,decide ((J6 (KR (B7 b.rim j)) (B7 a.rim i)).2=0)):=by rw [hR]; unfold Qc; rw [if_pos hin]; rfl
 have e1:=Sv b j (by omega) hlb nb
 have e2:=Sv a i (by omega) hla na
 have k1:=Br nb j; have k2:=Br na i
 have o2:=JO v0 (B7 b.rim j) (by have:=Ad; unfold vb v0 rm; simp only; omega) (by unfold rm; omega)
 rw [sb] at o2
 have o3:=OZ (KR (B7 b.rim j)) (B7 a.rim i) (by rw [Vb]; omega) (by omega)
 generalize J6 (KR (B7 b.rim j)) (B7 a.rim i)=X at *
 simp only [AS.start,QH,XD,f0,f1,f2,f3,↓X2,wF,seval]
 refine X1 e2 rfl ?_
 simp only [↓X2,wF,seval]
 refine X1 e1 rfl ?_
 simp only [↓X2,wF,seval]
 refine XZ o2 ⟨XW (Ek _),Weak.rfl' _,trivial⟩ ?_
 simp only [↓X2,wF,seval]
 refine X1 o3 rfl ?_
 simp only [↓X2,wF,seval]
 subst hR1
 exact Jn rfl (Xq Dl rfl rfl rfl) (by unfold QU; rfl) (Xu (Xm _) (XW (Q0 (vC X.1)))) ((X3 _).sees _)
def xK (n:Nat) (f:FV) (k:Nat):Nat:=((f.EA+k) % n).toNat
def yK (m:Nat) (f:FV) (k:Nat):Nat:=((f.EB - k) % m).toNat
theorem GS (n:Nat) (f:FV) (k:Nat) (h:0<n):(f.EA+k) % (n:Int)=(xK n f k:Int):=by
 have:=Int.emod_nonneg (f.EA+k) (show (n:Int)≠0 by omega)
 unfold xK; omega
theorem Mn (m:Nat) (f:FV) (k:Nat) (h:0<m):(f.EB - k) % (m:Int)=(yK m f k:Int):=by
 have:=Int.emod_nonneg (f.EB - k) (show (m:Int)≠0 by omega)
 unfold yK; omega
theorem O7 (n:Nat) (f:FV) (k:Nat) (h:0<n):xK n f k<n:=by
 have:=GS n f k h
 have:=Int.emod_lt_of_pos (f.EA+k) (show (0:Int)<n by omega)
 omega
theorem WF (m:Nat) (f:FV) (k:Nat) (h:0<m):yK m f k<m:=by
 have:=Mn m f k h
 have:=Int.emod_lt_of_pos (f.EB - k) (show (0:Int)<m by omega)
 omega
def DH (n m:Nat) (f:FV):List (Int×Int):=(List.range f.M.toNat).map fun k=>((xK n f k:Int),(yK m f k:Int))
theorem EL {α:Type} (f:Nat→α) (d:α) (n j:Nat) (h:j<n):((List.range n).map f).getD j d=f j:=by
 rw [List.getD_eq_getElem?_getD,List.getElem?_map,List.getElem?_range h]; rfl
theorem BC (n m:Nat) (f:FV):(DH n m f).length=f.M.toNat:=by simp [DH]
theorem nw {P:Program} {fn:Func} {str hcs:List Nat} {s:AS} {t id ver:Nat} (L:List (Int×Int)) (hr:fn.results=#[.tmp t]) (hs:s.get t=.osl id ver 2 0 L.length) (ho:s.h[id]?=some (.row ver (L.length*2) (Xs Kk 2 (0,0) L))):RetOk (QI P fn str hcs (Dw L)) s:=by
 refine Bl hr ?_
 rw [hs,Xe]
 refine Qx (.inl ho) (by omega) (fun h=>by rw [h]) fun j hj=>?_
 rw [Nat.zero_add]
 exact (Xc (Kx _) _).sees _
theorem EG (c:Int×Int):∀ j,j<2→((Kk c).getD j .any).one=true:=fun j hj=>by
 match j,hj with
 | 0,_=>rfl
 | 1,_=>rfl
 | j+2,h=>omega
theorem G0 (a b:PV) (f:FV) (hf:AB a.rim.length b.rim.length f) (ha:a.rim.length<1000000) (hb:b.rim.length<1000000):Fn Tryz.prog 152 [QH a,QH b,Jx f] (Dw (DH a.rim.length b.rim.length f)):=by
 obtain ⟨⟨s1,s2⟩,⟨s3,s4⟩,s5,s6,s7⟩:=hf
 obtain ⟨N,hN⟩:∃ N:Nat,f.M=N:=⟨f.M.toNat,by omega⟩
 obtain ⟨L,hL⟩:∃ L,L=DH a.rim.length b.rim.length f:=⟨_,rfl⟩
 have hlen:L.length=N:=by rw [hL,BC,hN]; rfl
 have hat:∀ k,k<N→L.getD k (0,0)=((xK a.rim.length f k:Int),(yK b.rim.length f k:Int)):=fun k hk=>by rw [hL]; exact EL _ _ _ _ (by omega)
 rw [← hL]
 have ba:XK 4 (.con 0 25 (Xo (XD a)))=True:=eq_true (fun j _=>X6 (Xc (Xy a) j))
 have bb:XK 4 (.con 0 25 (Xo (XD b)))=True:=eq_true (fun j _=>X6 (Xc (Xy b) j))
 have bf:XK 4 (.con 0 29 (Xo (XJ f)))=True:=eq_true (fun j _=>X6 (Xc (XM f) j))
 have br:∀ i l n,XK 4 (.row i n (Xs Kk 2 (0,0) l))=True:=fun i l n=>eq_true fun j _=>X6 (Xc (Kx _) _)
 refine Fq Tryz.call152 Tryz.func152 9 [10,11] [5,60000003,60000004,60000005] [] (by simp [Xx,XP]) (X0 1000 ?_)
 simp only [AS.start,QH,XD,Jx,XJ,↓X2,wF,seval]
 refine Xg (fun k:Nat=>⟨9,[10,11],[.any,.any,.any,.ref 0 0 0,.ref 1 0 0,.ref 2 0 0,.any,.osl 3 k 2 0 k,.any],[(10,I f.M),(11,I k)],[.con 0 25 (Xo (XD a)),.con 0 25 (Xo (XD b)),.con 0 29 (Xo (XJ f)),.row k (k*2) (Xs Kk 2 (0,0) (L.take k))]⟩) (fun k=>k≤N) (fun k=>N - k) 0 (by omega)
  (Sub.trans (XR 0 rfl) (Sub.trans (XR 1 rfl) (Sub.trans (XR 2 rfl) (Sub.trans (Q7 7 2 (Xs Kk 2 (0,0) []) rfl) (Xa rfl (by simp [AS.put,Xh,I]) (by simp [AS.put,Xi,Xz,I]) (by simp [AS.put,XD,XJ,Xe,Xl,X4,I])))))) ?_
 intro k hk next
 have w1:=wj k (by omega)
 by_cases hk2:k<N
 ·have f1:((k:Int)<f.M)=True:=eq_true (by omega)
  have wx:IntKind.i64.wrap (f.EA+(k:Int))=f.EA+(k:Int):=by rw [IntKind.wrap_i64]; omega
  have wy:IntKind.i64.wrap (f.EB - (k:Int))=f.EB - (k:Int):=by rw [IntKind.wrap_i64]; omega
  have c1:=Ar (f.EA+(k:Int)) a.rim.length (by omega) (by omega) (by omega)
  have c2:=Ar (f.EB - (k:Int)) b.rim.length (by omega) (by omega) (by omega)
  rw [GS _ _ _ (by omega)] at c1
  rw [Mn _ _ _ (by omega)] at c2
  have hap:=XT Kk 2 (0,0) (L.take k) (L.getD k (0,0)) (by omega)
  rw [← BS _ _ (by omega),hat k hk2,show (L.take k).length=k by simp; omega] at hap
  refine X0 1000 ?_
  simp only [XD,XJ,Xe,w1,wx,wy,f1,Int.toNat_natCast,↓X2,wF,seval]
  refine X1 c1 rfl ?_
  simp only [XD,XJ,Xe,w1,wx,wy,f1,Int.toNat_natCast,↓X2,wF,seval]
  refine X1 c2 rfl ?_
  simp only [XD,XJ,Xe,w1,wx,wy,f1,Int.toNat_natCast,↓X2,wF,seval]
  exact ⟨⟨EG ((xK a.rim.length f k:Int),(yK b.rim.length f k:Int)),by omega,by omega⟩,next (k+1) _ (by omega) (by omega) (Xr (m:=4) (Nat.zero_le _) rfl (by simp [Xh,I]) (by simp [Xi,Xz,I]) (by rw [← hap]; simp [XD,XJ,Xe,Xl,X4,I,Kk]) (by simp [Xv]) (by simp [Xv]) (by simp [ba,bb,bf,br]))⟩
 obtain rfl:k=N:=by omega
 have f1:((k:Int)<f.M)=False:=eq_false (by omega)
 refine X0 1000 ?_
 simp only [XD,XJ,f1,↓X2,wF,seval]
 rw [List.take_of_length_le (by omega)]
 exact nw _ rfl (by rw [hlen]; rfl) (by rw [hlen]; rfl)
def MC (wa wb:Bool) (x y:Int):Bool:=wa || wb || (decide (x≠y) && decide (x≠0) && decide (y≠0))
def PO (a b:PV) (f:FV) (k:Nat):Bool:=MC (a.worn.getD (xK a.rim.length f k) false) (b.worn.getD (yK b.rim.length f k) false) (a.marks.getD (xK a.rim.length f k) 0) (b.marks.getD (yK b.rim.length f k) 0)
def DX (a b:PV) (f:FV):Prop:=∀ k,k<f.M.toNat→PO a b f k=false
theorem PP (wa wb:Bool) (x y:Int) :
  (MC wa wb x y=true∧wa=true∧True∧True∧True∧True)∨(MC wa wb x y=true∧wa=false∧wb=true∧True∧True∧True)∨(MC wa wb x y=false∧wa=false∧wb=false∧(x=y)=True∧True∧True) ∨
  (MC wa wb x y=false∧wa=false∧wb=false∧(x=y)=False∧(x=0)=True∧True)∨(MC wa wb x y=false∧wa=false∧wb=false∧(x=y)=False∧(x=0)=False∧(y=0)=True) ∨
  (MC wa wb x y=true∧wa=false∧wb=false∧(x=y)=False∧(x=0)=False∧(y=0)=False):=by
 unfold MC
 cases wa
 rotate_left
 ·exact .inl ⟨rfl,rfl,trivial,trivial,trivial,trivial⟩
 cases wb
 rotate_left
 ·exact .inr (.inl ⟨rfl,rfl,rfl,trivial,trivial,trivial⟩)
 by_cases h1:x=y
 ·exact .inr (.inr (.inl ⟨by simp [h1],rfl,rfl,eq_true h1,trivial,trivial⟩))
 by_cases h2:x=0
 ·exact .inr (.inr (.inr (.inl ⟨by simp [h2],rfl,rfl,eq_false h1,eq_true h2,trivial⟩)))
 by_cases h3:y=0
 ·exact .inr (.inr (.inr (.inr (.inl ⟨by simp [h3],rfl,rfl,eq_false h1,eq_false h2,eq_true h3⟩))))
 ·exact .inr (.inr (.inr (.inr (.inr ⟨by simp [h1,h2,h3],rfl,rfl,eq_false h1,eq_false h2,eq_false h3⟩))))
structure PV.even (p:PV):Prop where
 rim:p.rim.length<1000000
 worn:p.worn.length=p.rim.length
 marks:p.marks.length=p.rim.length
 near:QY p.rim
theorem HJ (a b:PV) (f:FV) (hf:AB a.rim.length b.rim.length f) (ha:a.even) (hb:b.even):Fn Tryz.prog 132 [QH a,QH b,Jx f] (.bool (decide (DX a b f))):=by
 have ce:=G0 a b f hf ha.rim hb.rim
 obtain ⟨⟨s1,s2⟩,⟨s3,s4⟩,s5,s6,s7⟩:=hf
 obtain ⟨N,hN⟩:∃ N:Nat,f.M=N:=⟨f.M.toNat,by omega⟩
 have la:=ha.rim; have lb:=hb.rim
 obtain ⟨V,hV⟩:∃ V,V=decide (DX a b f):=⟨_,rfl⟩
 rw [← hV]
 obtain ⟨L,hL⟩:∃ L,L=DH a.rim.length b.rim.length f:=⟨_,rfl⟩
 have hlen:L.length=N:=by rw [hL,BC,hN]; rfl
 have hat:∀ k,k<N→L.getD k (0,0)=((xK a.rim.length f k:Int),(yK b.rim.length f k:Int)):=fun k hk=>by rw [hL]; exact EL _ _ _ _ (by omega)
 rw [← hL] at ce
 clear hL
 have fin:∀ {s:AS} {v:Bool},s.get 6=.bool v→v=V→RetOk (QI Tryz.prog Tryz.f132 [] [] (.bool V)) s:=fun h e=>Xt rfl h (X3 _) (by rw [e])
 have ba:XK 3 (.row 0 25 (Xo (XD a)))=True:=eq_true (XH (Xy a))
 have bb:XK 3 (.row 0 25 (Xo (XD b)))=True:=eq_true (XH (Xy b))
 have bf:XK 3 (.row 0 29 (Xo (XJ f)))=True:=eq_true (XH (XM f))
 have bL:JJ 3 (Dw L)=True:=eq_true (X6 (QG _))
 refine Fq Tryz.call132 Tryz.func132 12 [15,16,17] [] [] (by simp [Xx,XP]) (X0 1000 ?_)
 simp only [AS.start,QH,XD,Jx,XJ,↓X2,wF,seval]
 refine X1 ce rfl ?_
 simp only [Xe,hlen,↓X2,wF,seval]
 refine Xg (fun k:Nat=>⟨12,[15,16,17],[.any,.any,.any,.ref 0 0 0,.ref 1 0 0,.ref 2 0 0,.any,.bool true,.any,.any,.any,.any],[(15,Dw L),(16,I N),(17,I k)],[.row 0 25 (Xo (XD a)),.row 0 25 (Xo (XD b)),.row 0 29 (Xo (XJ f))]⟩) (fun k=>k≤N∧∀ j,j<k→PO a b f j=false) (fun k=>N - k) 0 ⟨by omega,by omega⟩
  (Xa rfl (by simp [Xh,I]) (by simp [Xi,Xz,Xe,hlen,I]) (by simp [XD,XJ,Xe,Xl,X4,I])) ?_
 rintro k ⟨hk,hok⟩ next
 have w1:=wj k (by omega)
 by_cases hk2:k<N
 rotate_left
 ·obtain rfl:k=N:=by omega
  refine X0 1000 ?_
  simp only [XD,XJ,Int.lt_irrefl,Nat.lt_irrefl,↓X2,wF,seval]
  exact fin rfl (by rw [hV,decide_eq_true]; exact fun j hj=>hok j (by omega))
 have nx:=next (k+1)
 have f1:((k:Int)<N)=True:=eq_true (by omega)
 have f2:(k<N)=True:=eq_true hk2
 have f3:(k*2+2≤N*2)=True:=eq_true (by omega)
 have v1:=iN L k
 rw [hat k hk2] at v1
 have hx:=O7 a.rim.length f k (by omega)
 have hy:=WF b.rim.length f k (by omega)
 have ex:=GS a.rim.length f k (by omega)
 have ey:=Mn b.rim.length f k (by omega)
 have six:=PP (a.worn.getD (xK a.rim.length f k) false) (b.worn.getD (yK b.rim.length f k) false) (a.marks.getD (xK a.rim.length f k) 0) (b.marks.getD (yK b.rim.length f k) 0)
 have hbad:PO a b f k=MC (a.worn.getD (xK a.rim.length f k) false) (b.worn.getD (yK b.rim.length f k) false) (a.marks.getD (xK a.rim.length f k) 0) (b.marks.getD (yK b.rim.length f k) 0):=rfl
 rw [← hbad] at six
 clear hbad
 have no:PO a b f k=true→false=V:=fun h=>by rw [hV,decide_eq_false]; intro hp; rw [hp k (by omega)] at h; cases h
 generalize xK a.rim.length f k=X at *
 generalize yK b.rim.length f k=Y at *
 have g1:((X:Int)<a.worn.length)=True:=eq_true (by have:=ha.worn; omega)
 have g2:(X<a.worn.length)=True:=eq_true (by have:=ha.worn; omega)
 have g3:((Y:Int)<b.worn.length)=True:=eq_true (by have:=hb.worn; omega)
 have g4:(Y<b.worn.length)=True:=eq_true (by have:=hb.worn; omega)
 have g5:((X:Int)<a.marks.length)=True:=eq_true (by have:=ha.marks; omega)
 have g6:(X<a.marks.length)=True:=eq_true (by have:=ha.marks; omega)
 have g7:((Y:Int)<b.marks.length)=True:=eq_true (by have:=hb.marks; omega)
 have g8:(Y<b.marks.length)=True:=eq_true (by have:=hb.marks; omega)
 have n2:((2:Nat):Int)=2:=rfl
 have t1:(1:Int).toNat=1:=rfl
 rcases six with ⟨hB,q1,q2,q3,q4,q5⟩ | ⟨hB,q1,q2,q3,q4,q5⟩ | ⟨hB,q1,q2,q3,q4,q5⟩ | ⟨hB,q1,q2,q3,q4,q5⟩ | ⟨hB,q1,q2,q3,q4,q5⟩ | ⟨hB,q1,q2,q3,q4,q5⟩
 all_goals
  refine X0 1000 ?_
  simp only [XD,XJ,Xe,Xl,X4,hlen,w1,f1,f2,f3,v1,g1,g2,g3,g4,g5,g6,g7,g8,q1,q2,q3,q4,q5,n2,t1,Int.toNat_zero,Int.reduceLT,Int.reduceLE,Int.toNat_natCast,↓X2,wF,seval]
  first
   | exact fin rfl (no hB)
   | exact nx _ ⟨by omega,Kf.2 ⟨hok,hB⟩⟩ (by omega) (Xr (m:=3) (Nat.zero_le _) rfl (by simp [Xh,I]) (by simp [Xi,Xz,Xe,hlen,I]) (by simp [XD,XJ,Xe,Xl,X4,I]) (by simp [Xv]) (by simp [Xv,bL]) (by simp [ba,bb,bf]))
theorem GB (a b:PV) (f:FV) (hf:AB a.rim.length b.rim.length f) (ha:a.even) (hb:b.even):Fn Tryz.prog 149 [QH a,QH b,Jx f] (.bool (decide (DX a b f))):=by
 obtain ⟨⟨s1,s2⟩,⟨s3,s4⟩,s5,s6,s7⟩:=hf
 obtain ⟨N,hN⟩:∃ N:Nat,f.M=N:=⟨f.M.toNat,by omega⟩
 have la:=ha.rim; have lb:=hb.rim
 obtain ⟨V,hV⟩:∃ V,V=decide (DX a b f):=⟨_,rfl⟩
 rw [← hV]
 have fin:∀ {s:AS} {v:Bool},s.get 6=.bool v→v=V→RetOk (QI Tryz.prog Tryz.f149 [] [] (.bool V)) s:=fun h e=>Xt rfl h (X3 _) (by rw [e])
 refine Fq Tryz.call149 Tryz.func149 10 [] [] [] (by simp [Xx,XP]) (X0 1000 ?_)
 simp only [AS.start,QH,XD,Jx,XJ,↓X2,wF,seval]
 refine Xg (fun k:Nat=>⟨10,[],[.any,.any,.any,.ref 0 0 0,.ref 1 0 0,.ref 2 0 0,.bool false,I k,.any,.any],[],[.row 0 25 (Xo (XD a)),.row 0 25 (Xo (XD b)),.row 0 29 (Xo (XJ f))]⟩) (fun k=>k≤N∧∀ j,j<k→PO a b f j=false) (fun k=>N - k) 0 ⟨by omega,by omega⟩
  (Xa rfl (by simp [Xh,I]) (by simp [Xi]) (by simp [XD,XJ,Xe,Xl,X4,I])) ?_
 rintro k ⟨hk,hok⟩ next
 have w1:=wj k (by omega)
 by_cases hk2:k<N
 rotate_left
 ·have f1:((k:Int)<f.M)=False:=eq_false (by omega)
  refine X0 1000 ?_
  simp only [XD,XJ,f1,↓X2,wF,seval]
  exact fin rfl (by rw [hV,decide_eq_true]; exact fun j hj=>hok j (by omega))
 have nx:=next (k+1)
 have f1:((k:Int)<f.M)=True:=eq_true (by omega)
 have wx:IntKind.i64.wrap (f.EA+(k:Int))=f.EA+(k:Int):=by rw [IntKind.wrap_i64]; omega
 have wy:IntKind.i64.wrap (f.EB - (k:Int))=f.EB - (k:Int):=by rw [IntKind.wrap_i64]; omega
 have c1:=Q4 (f.EA+(k:Int)) a.rim.length (by omega) (by omega) (by omega)
 have c2:=Q4 (f.EB - (k:Int)) b.rim.length (by omega) (by omega) (by omega)
 have hx:=O7 a.rim.length f k (by omega)
 have hy:=WF b.rim.length f k (by omega)
 have ex:=GS a.rim.length f k (by omega)
 have ey:=Mn b.rim.length f k (by omega)
 have six:=PP (a.worn.getD (xK a.rim.length f k) false) (b.worn.getD (yK b.rim.length f k) false) (a.marks.getD (xK a.rim.length f k) 0) (b.marks.getD (yK b.rim.length f k) 0)
 have hbad:PO a b f k=MC (a.worn.getD (xK a.rim.length f k) false) (b.worn.getD (yK b.rim.length f k) false) (a.marks.getD (xK a.rim.length f k) 0) (b.marks.getD (yK b.rim.length f k) 0):=rfl
 rw [← hbad] at six
 clear hbad
 have no:PO a b f k=true→false=V:=fun h=>by rw [hV,decide_eq_false]; intro hp; rw [hp k (by omega)] at h; cases h
 rw [ex] at c1
 rw [ey] at c2
 generalize xK a.rim.length f k=X at *
 generalize yK b.rim.length f k=Y at *
 have g1:((X:Int)<a.worn.length)=True:=eq_true (by have:=ha.worn; omega)
 have g2:(X<a.worn.length)=True:=eq_true (by have:=ha.worn; omega)
 have g3:((Y:Int)<b.worn.length)=True:=eq_true (by have:=hb.worn; omega)
 have g4:(Y<b.worn.length)=True:=eq_true (by have:=hb.worn; omega)
 have g5:((X:Int)<a.marks.length)=True:=eq_true (by have:=ha.marks; omega)
 have g6:(X<a.marks.length)=True:=eq_true (by have:=ha.marks; omega)
 have g7:((Y:Int)<b.marks.length)=True:=eq_true (by have:=hb.marks; omega)
 have g8:(Y<b.marks.length)=True:=eq_true (by have:=hb.marks; omega)
 have n2:((2:Nat):Int)=2:=rfl
 have t1:(1:Int).toNat=1:=rfl
 rcases six with ⟨hB,q1,q2,q3,q4,q5⟩ | ⟨hB,q1,q2,q3,q4,q5⟩ | ⟨hB,q1,q2,q3,q4,q5⟩ | ⟨hB,q1,q2,q3,q4,q5⟩ | ⟨hB,q1,q2,q3,q4,q5⟩ | ⟨hB,q1,q2,q3,q4,q5⟩
 all_goals
  refine X0 1000 ?_
  simp only [XD,XJ,Xe,Xl,X4,w1,wx,wy,f1,Int.toNat_natCast,↓X2,wF,seval]
  refine X1 c1 rfl ?_
  simp only [XD,XJ,Xe,Xl,X4,w1,wx,wy,f1,Int.toNat_natCast,↓X2,wF,seval]
  refine X1 c2 rfl ?_
  simp only [XD,XJ,Xe,Xl,X4,w1,g1,g2,g3,g4,g5,g6,g7,g8,q1,q2,q3,q4,q5,n2,t1,Int.toNat_zero,Int.reduceLT,Int.reduceLE,Int.toNat_natCast,↓X2,wF,seval]
  first
   | exact fin rfl (no hB)
   | exact nx _ ⟨by omega,Kf.2 ⟨hok,hB⟩⟩ (by omega) (Xa rfl (by simp [Xh,I]) (by simp [Xi]) (by simp [XD,XJ,Xe,Xl,X4,I]))
def RC (p:V2→Bool) (s:List V2):Int:=if s.any p=true then (s.findIdx p:Nat) else -1
theorem EQ {s:List V2} {j:Nat} (h:j<s.length):s.getD j v0∈s:=by
 rw [List.getD_eq_getElem?_getD,List.getElem?_eq_getElem h]; exact List.getElem_mem h
theorem gO {p:V2→Bool} {s:List V2} {j:Nat} (hj:j<s.length) (h:p (s.getD j v0)=true) (hno:∀ i,i<j→p (s.getD i v0)=false):RC p s=j:=by
 have at_:∀ i (hi:i<s.length),s.getD i v0=s[i]:=fun i hi=>by rw [List.getD_eq_getElem?_getD,List.getElem?_eq_getElem hi]; rfl
 have e:s.findIdx p=j:=by
  rw [List.findIdx_eq hj]
  exact ⟨by rw [← at_ j hj]; exact h,fun i hi=>by rw [← at_ i (by omega)]; exact hno i hi⟩
 unfold RC
 rw [if_pos (List.any_eq_true.2 ⟨_,EQ hj,h⟩),e]
theorem aq {p:V2→Bool} {s:List V2} (hno:∀ i,i<s.length→p (s.getD i v0)=false):RC p s = -1:=by
 unfold RC
 rw [if_neg]
 intro h
 obtain ⟨x,hx,hp⟩:=List.any_eq_true.1 h
 obtain ⟨i,hi,rfl⟩:=List.getElem_of_mem hx
 have:=hno i hi
 rw [List.getD_eq_getElem?_getD,List.getElem?_eq_getElem hi] at this
 simp only [Option.getD_some] at this
 rw [this] at hp; cases hp
theorem RD (p:V2→Bool) (s:List V2):decide (0≤RC p s)=s.any p:=by
 unfold RC
 cases h:s.any p
 ·simp
 ·rw [if_pos rfl]; exact decide_eq_true (by omega)
theorem V7 (s:List V2) (f:FuncId) (caps:List AV) (p:V2→Bool) (hl:s.length<1000000) (hc:∀ a∈caps,Settled a) (hp:∀ x∈s,Fn Tryz.prog f ([vA x] ++ caps) (.bool (p x))) :
  Fn Tryz.prog 205 [Xp s,.fn f caps] (I (RC p s)):=by
 refine Fn.intro (fn:=Tryz.f205) Tryz.call205 Tryz.func205 rfl mixed 6 [6,7,8] [] [] (by kernel_rfl) (Nat.le_of_ble_eq_true rfl) (by simpa [Xf] using Jm hc) (X0 1000 ?_)
 simp only [AS.start,X5,↓X2,wF,seval]
 refine Xg (fun j:Nat=>⟨6,[6,7,8],[Xp s,.fn f caps,.any,.any,.any,.any],[(6,Xp s),(7,I s.length),(8,I j)],[]⟩) (fun j=>j≤s.length∧∀ i,i<j→p (s.getD i v0)=false) (fun j=>s.length - j) 0 ⟨by omega,by omega⟩
  (Xa rfl (by simp [Xh,X5,I]) (by simp [Xi,Xz,X5,I]) rfl) ?_
 rintro j ⟨hj,hno⟩ next
 have w1:=wj j (by omega)
 by_cases hj2:j<s.length
 ·have f1:((j:Int)<s.length)=True:=eq_true (by omega)
  have f2:(j<s.length)=True:=eq_true hj2
  have f3:(j*8+8≤s.length*8)=True:=eq_true (by omega)
  have v1:=vF s j
  refine X0 1000 ?_
  simp only [X5,w1,f1,f2,f3,v1,Int.toNat_natCast,↓X2,wF,seval]
  refine XZ (hp _ (EQ hj2)) (Q0 _) ?_
  simp only [w1,↓X2,wF,seval]
  refine QW (fun ht=>Xt (v:=I j) rfl rfl (X9 _) ?_) (fun hf=>next (j+1) _ ⟨by omega,Kf.2 ⟨hno,hf⟩⟩ (by omega) (Xa rfl (by simp [Xh,X5,I]) (by simp [Xi,Xz,X5,I]) rfl))
  rw [gO hj2 ht hno]
 ·have f1:((j:Int)<s.length)=False:=eq_false (by omega)
  refine X0 1000 ?_
  simp only [X5,w1,f1,↓X2,wF,seval]
  refine Xt (v:=I (-1)) rfl rfl (X9 _) ?_
  rw [aq fun i hi=>hno i (by omega)]
theorem MS (s:List V2) (f:FuncId) (caps:List AV) (p:V2→Bool) (hl:s.length<1000000) (hc:∀ a∈caps,Settled a) (hp:∀ x∈s,Fn Tryz.prog f ([vA x] ++ caps) (.bool (p x))) :
  Fn Tryz.prog 141 [Xp s,.fn f caps] (.bool (s.any p)):=by
 have hi:=RD p s
 refine Fn.intro (fn:=Tryz.f141) Tryz.call141 Tryz.func141 rfl mixed 5 [] [] [] (by kernel_rfl) (Nat.le_of_ble_eq_true rfl) (by simpa [Xf] using Jm hc) (X0 1000 ?_)
 simp only [AS.start,↓X2,wF,seval]
 refine X1 (V7 s f caps p hl hc hp) rfl ?_
 simp only [↓X2,wF,seval]
 exact Xt (v:=.bool (decide (0≤RC p s))) rfl rfl (X3 _) (by rw [RD])
def p5 (f:FV):AV:=.ptr 29 (Xo (XJ f)) 0
theorem Cb (f:FV):Settled (p5 f):=J2 fun j _=>Xc (XM f) j
theorem YK (t:V2) (f:FV) (ht:vb t≤vm) (hf:vb f.turn≤vm):Fn Tryz.prog 142 ([vA t] ++ [p5 f]) (.bool (decide (t=f.turn))):=by
 have c1:=AP t f.turn ht hf
 refine Fq Tryz.call142 Tryz.func142 4 [] [] [] (by simp [Xm,Cb]) (X0 1000 ?_)
 simp only [AS.start,p5,XJ,List.cons_append,List.nil_append,↓X2,wF,seval]
 refine X1 c1 rfl ?_
 simp only [↓X2,wF,seval]
 exact Xt rfl rfl (X3 _) rfl
noncomputable def Do (a b:PV) (f:FV) (k:Nat):V2×Bool:=Qc a.rim b.rim (xK a.rim.length f k) (yK b.rim.length f k)
noncomputable def Qt (a b:PV) (f:FV):Nat→List V2
 | 0=>[]
 | k+1=>if (Do a b f k).2=true then Qt a b f k ++ [(Do a b f k).1] else Qt a b f k
theorem DA (a b:PV) (f:FV):∀ k,(Qt a b f k).length≤k
 | 0=>Nat.le_refl _
 | k+1=>by
  have ih:=DA a b f k
  simp only [Qt]
  split
  ·rw [List.length_append]; simp only [List.length_singleton]; omega
  ·omega
theorem Ff (a b:PV) (f:FV) (ha:QY a.rim) (hb:QY b.rim):∀ k,∀ t∈Qt a b f k,vb t≤26
 | 0=>fun t h=>by simp [Qt] at h
 | k+1=>by
  have ih:=Ff a b f ha hb k
  intro t h
  simp only [Qt] at h
  split at h
  ·rcases List.mem_append.1 h with h | h
   ·exact ih t h
   ·simp only [List.mem_cons,List.not_mem_nil,or_false] at h
    subst h; exact Bi ha hb _ _
  ·exact ih t h
def MB (a b:PV) (f:FV):Prop:=∃ k,k<f.M.toNat∧(Do a b f k).2=true∧(Do a b f k).1=f.turn
theorem IM (a b:PV) (f:FV) (t:V2):∀ n,(Qt a b f n).any (fun x=>decide (x=t))=true↔∃ k,k<n∧(Do a b f k).2=true∧(Do a b f k).1=t
 | 0=>by simp [Qt]
 | n+1=>by
  have ih:=IM a b f t n
  by_cases h:(Do a b f n).2=true
  ·have e:Qt a b f (n+1)=Qt a b f n ++ [(Do a b f n).1]:=if_pos h
   rw [e,List.any_append,Bool.or_eq_true,ih]
   simp only [List.any_cons,List.any_nil,Bool.or_false,decide_eq_true_eq]
   constructor
   ·rintro (⟨k,h1,h2⟩ | h1)
    ·exact ⟨k,by omega,h2⟩
    ·exact ⟨n,by omega,h,h1⟩
   ·rintro ⟨k,h1,h2,h3⟩
    by_cases hk:k=n
    ·subst hk; exact .inr h3
    ·exact .inl ⟨k,by omega,h2,h3⟩
  ·have e:Qt a b f (n+1)=Qt a b f n:=if_neg h
   rw [e,ih]
   constructor
   ·rintro ⟨k,h1,h2⟩; exact ⟨k,by omega,h2⟩
   ·rintro ⟨k,h1,h2,h3⟩
    by_cases hk:k=n
    ·subst hk; exact absurd h2 h
    ·exact ⟨k,by omega,h2,h3⟩
theorem TV (a b:PV) (f:FV) (hf:AB a.rim.length b.rim.length f) (ha:a.even) (hb:b.even):Fn Tryz.prog 133 [QH a,QH b,Jx f] (Xp (Qt a b f f.M.toNat)):=by
 have ce:=G0 a b f hf ha.rim hb.rim
 obtain ⟨⟨s1,s2⟩,⟨s3,s4⟩,s5,s6,s7⟩:=hf
 obtain ⟨N,hN⟩:∃ N:Nat,f.M=N:=⟨f.M.toNat,by omega⟩
 have la:=ha.rim; have lb:=hb.rim
 have hNt:f.M.toNat=N:=by rw [hN]; rfl
 rw [hNt]
 obtain ⟨L,hL⟩:∃ L,L=DH a.rim.length b.rim.length f:=⟨_,rfl⟩
 have hlen:L.length=N:=by rw [hL,BC,hN]; rfl
 have hat:∀ k,k<N→L.getD k (0,0)=((xK a.rim.length f k:Int),(yK b.rim.length f k:Int)):=fun k hk=>by rw [hL]; exact EL _ _ _ _ (by omega)
 rw [← hL] at ce
 clear hL
 have ba:XK 4 (.row 0 25 (Xo (XD a)))=True:=eq_true (XH (Xy a))
 have bb:XK 4 (.row 0 25 (Xo (XD b)))=True:=eq_true (XH (Xy b))
 have bf:XK 4 (.row 0 29 (Xo (XJ f)))=True:=eq_true (XH (XM f))
 have bL:JJ 4 (Dw L)=True:=eq_true (X6 (QG _))
 have hvc:∀ a:V2,∀ x∈vC a,Settled x:=fun a=>by simp [vC,X7,X3]
 have br:∀ i l n,XK 4 (.row i n (Xs vC 8 v0 l))=True:=fun i l n=>eq_true fun j _=>X6 (Xc (hvc _) _)
 refine Fq Tryz.call133 Tryz.func133 12 [15,16,17] [] [] (by simp [Xx,XP]) (X0 1000 ?_)
 simp only [AS.start,QH,XD,Jx,XJ,↓X2,wF,seval]
 refine X1 ce rfl ?_
 simp only [Xe,hlen,↓X2,wF,seval]
 refine Xg (fun k:Nat=>⟨12,[15,16,17],[.any,.any,.any,.ref 0 0 0,.ref 1 0 0,.ref 2 0 0,.any,.osl 3 (Qt a b f k).length 8 0 (Qt a b f k).length,.any,.any,.any,.any],[(15,Dw L),(16,I N),(17,I k)],[.row 0 25 (Xo (XD a)),.row 0 25 (Xo (XD b)),.row 0 29 (Xo (XJ f)),.row (Qt a b f k).length ((Qt a b f k).length*8) (Xs vC 8 v0 (Qt a b f k))]⟩) (fun k=>k≤N) (fun k=>N - k) 0 (by omega)
  (Sub.trans (Q7 7 8 (Xs vC 8 v0 []) rfl) (Xa rfl (by simp [AS.put,Qt,Xh,I]) (by simp [AS.put,Xi,Xz,Xe,hlen,I]) (by simp [AS.put,Qt,XD,XJ,Xe,Xl,X4,I]))) ?_
 intro k hk next
 have w1:=wj k (by omega)
 have hln:=DA a b f k
 by_cases hk2:k<N
 rotate_left
 ·obtain rfl:k=N:=by omega
  refine X0 1000 ?_
  simp only [XD,XJ,Int.lt_irrefl,Nat.lt_irrefl,↓X2,wF,seval]
  exact Mj _ rfl rfl rfl
 have nx:=next (k+1)
 have f1:((k:Int)<N)=True:=eq_true (by omega)
 have f2:(k<N)=True:=eq_true hk2
 have f3:(k*2+2≤N*2)=True:=eq_true (by omega)
 have v1:=iN L k
 rw [hat k hk2] at v1
 have n2:((2:Nat):Int)=2:=rfl
 have t1:(1:Int).toNat=1:=rfl
 have ca:=CV a b (xK a.rim.length f k) (yK b.rim.length f k) la lb ha.near hb.near
 rw [show Qc a.rim b.rim (xK a.rim.length f k) (yK b.rim.length f k)=Do a b f k from rfl] at ca
 have hs:Qt a b f (k+1)=if (Do a b f k).2=true then Qt a b f k ++ [(Do a b f k).1] else Qt a b f k:=rfl
 generalize Do a b f k=X at *
 obtain ⟨t,ok⟩:=X
 refine X0 1000 ?_
 simp only [XD,XJ,Xe,Xl,X4,hlen,w1,f1,f2,f3,v1,n2,t1,Int.toNat_zero,Int.reduceLT,Int.reduceLE,Int.toNat_natCast,↓X2,wF,seval]
 refine X1 ca rfl ?_
 cases ok with
 | false =>
  rw [if_neg (show ¬ ((t,false).2=true) from Bool.false_ne_true)] at hs
  simp only [hs] at nx
  simp only [w1,↓X2,wF,seval]
  exact nx _ (by omega) (by omega) (Xr (m:=4) (Nat.zero_le _) rfl (by simp [Xh,I]) (by simp [Xi,Xz,Xe,hlen,I]) (by simp [XD,XJ,Xe,Xl,X4,I]) (by simp [Xv]) (by simp [Xv,bL]) (by simp [ba,bb,bf,br]))
 | true =>
  rw [if_pos rfl] at hs
  have hlen2:(Qt a b f (k+1)).length=(Qt a b f k).length+1:=by rw [hs]; simp
  have hap:=XT vC 8 v0 (Qt a b f k) t (by omega)
  rw [← hs] at hap
  simp only [hlen2] at nx
  simp only [w1,↓X2,wF,seval]
  exact ⟨⟨Z7 t,by omega,by omega⟩,nx _ (by omega) (by omega) (Xr (m:=4) (Nat.zero_le _) rfl (by simp [Xh,I]) (by simp [Xi,Xz,Xe,hlen,I]) (by rw [← hap]; simp [XD,XJ,Xe,Xl,X4,I,vC]) (by simp [Xv]) (by simp [Xv,bL]) (by simp [ba,bb,bf,br]))⟩
theorem PG (a b:PV) (f:FV) (hf:AB a.rim.length b.rim.length f) (ha:a.even) (hb:b.even) (ht:vb f.turn≤vm):Fn Tryz.prog 150 [QH a,QH b,Jx f] (.bool (decide (MB a b f))):=by
 obtain ⟨⟨s1,s2⟩,⟨s3,s4⟩,s5,s6,s7⟩:=hf
 obtain ⟨N,hN⟩:∃ N:Nat,f.M=N:=⟨f.M.toNat,by omega⟩
 have la:=ha.rim; have lb:=hb.rim
 obtain ⟨V,hV⟩:∃ V,V=decide (MB a b f):=⟨_,rfl⟩
 rw [← hV]
 have fin:∀ {s:AS} {v:Bool},s.get 6=.bool v→v=V→RetOk (QI Tryz.prog Tryz.f150 [4,50000003,50000004,50000005] [] (.bool V)) s:=fun h e=>Xt rfl h (X3 _) (by rw [e])
 have ba:XK 3 (.con 0 25 (Xo (XD a)))=True:=eq_true (fun j _=>X6 (Xc (Xy a) j))
 have bb:XK 3 (.con 0 25 (Xo (XD b)))=True:=eq_true (fun j _=>X6 (Xc (Xy b) j))
 have bf:XK 3 (.con 0 29 (Xo (XJ f)))=True:=eq_true (fun j _=>X6 (Xc (XM f) j))
 refine Fq Tryz.call150 Tryz.func150 10 [] [4,50000003,50000004,50000005] [] (by simp [Xx,XP]) (X0 1000 ?_)
 simp only [AS.start,QH,XD,Jx,XJ,↓X2,wF,seval]
 refine Xg (fun k:Nat=>⟨10,[],[.any,.any,.any,.ref 0 0 0,.ref 1 0 0,.ref 2 0 0,.bool false,I k,.any,.any],[],[.con 0 25 (Xo (XD a)),.con 0 25 (Xo (XD b)),.con 0 29 (Xo (XJ f))]⟩) (fun k=>k≤N∧∀ j,j<k→¬ ((Do a b f j).2=true∧(Do a b f j).1=f.turn)) (fun k=>N - k) 0 ⟨by omega,by omega⟩
  (Sub.trans (XR 0 rfl) (Sub.trans (XR 1 rfl) (Sub.trans (XR 2 rfl) (Xa rfl (by simp [Xh,I]) (by simp [Xi]) (by simp [XD,XJ,Xe,Xl,X4,I]))))) ?_
 rintro k ⟨hk,hok⟩ next
 have w1:=wj k (by omega)
 by_cases hk2:k<N
 rotate_left
 ·have f1:((k:Int)<f.M)=False:=eq_false (by omega)
  refine X0 1000 ?_
  simp only [XD,XJ,f1,↓X2,wF,seval]
  exact fin rfl (by rw [hV,decide_eq_false]; rintro ⟨j,hj,h1,h2⟩; exact hok j (by omega) ⟨h1,h2⟩)
 have f1:((k:Int)<f.M)=True:=eq_true (by omega)
 have wx:IntKind.i64.wrap (f.EA+(k:Int))=f.EA+(k:Int):=by rw [IntKind.wrap_i64]; omega
 have wy:IntKind.i64.wrap (f.EB - (k:Int))=f.EB - (k:Int):=by rw [IntKind.wrap_i64]; omega
 have c1:=Q4 (f.EA+(k:Int)) a.rim.length (by omega) (by omega) (by omega)
 have c2:=Q4 (f.EB - (k:Int)) b.rim.length (by omega) (by omega) (by omega)
 rw [GS _ _ _ (by omega)] at c1
 rw [Mn _ _ _ (by omega)] at c2
 have ca:=LK a b (xK a.rim.length f k) (yK b.rim.length f k) la lb ha.near hb.near
 have hsm:=Bi ha.near hb.near (xK a.rim.length f k) (yK b.rim.length f k)
 rw [show Qc a.rim b.rim (xK a.rim.length f k) (yK b.rim.length f k)=Do a b f k from rfl] at ca hsm
 have ct:=KY (Do a b f k).1 f.turn (by unfold vm; omega) ht
 have nx:=next (k+1)
 have hyes:(Do a b f k).2=true→(Do a b f k).1=f.turn→true=V:=fun h1 h2=>by rw [hV,decide_eq_true]; exact ⟨k,by omega,h1,h2⟩
 have hno:¬ ((Do a b f k).2=true∧(Do a b f k).1=f.turn)→∀ j,j<k+1→¬ ((Do a b f j).2=true∧(Do a b f j).1=f.turn):=fun h=>Kf.2 ⟨hok,h⟩
 generalize Do a b f k=X at *
 obtain ⟨t,ok⟩:=X
 refine X0 1000 ?_
 simp only [XD,XJ,Xe,w1,wx,wy,f1,Int.toNat_natCast,↓X2,wF,seval]
 refine X1 c1 rfl ?_
 simp only [XD,XJ,Xe,w1,wx,wy,f1,Int.toNat_natCast,↓X2,wF,seval]
 refine X1 c2 rfl ?_
 simp only [XD,XJ,Xe,Xl,X4,w1,wx,wy,f1,Int.toNat_natCast,↓X2,wF,seval]
 refine X1 ca rfl ?_
 cases ok with
 | false =>
  simp only [XD,XJ,Xe,Xl,X4,w1,↓X2,wF,seval]
  exact nx _ ⟨by omega,hno fun h=>Bool.false_ne_true h.1⟩ (by omega) (Xr (m:=3) (Nat.zero_le _) rfl (by simp [Xh,I]) (by simp [Xi]) (by simp [XD,XJ,Xe,Xl,X4,I]) (by simp [Xv]) (by simp [Xv]) (by simp [ba,bb,bf]))
 | true =>
  simp only [XD,XJ,Xe,Xl,X4,w1,↓X2,wF,seval]
  refine X1 ct rfl ?_
  by_cases he:t=f.turn
  ·rw [decide_eq_true (p:=(t,true).1=f.turn) he]
   simp only [↓X2,wF,seval]
   exact fin rfl (hyes rfl he)
  ·rw [decide_eq_false (p:=(t,true).1=f.turn) he]
   simp only [w1,↓X2,wF,seval]
   exact nx _ ⟨by omega,hno fun h=>he h.2⟩ (by omega) (Xr (m:=3) (Nat.zero_le _) rfl (by simp [Xh,I]) (by simp [Xi]) (by simp [XD,XJ,Xe,Xl,X4,I]) (by simp [Xv]) (by simp [Xv]) (by simp [ba,bb,bf]))
noncomputable def W1 (x y:Rat):Rat:=if x<y then y else x
noncomputable def VZ (x y:Rat):Rat:=if y<x then y else x
theorem rG (x y:Rat) (k:Nat) (hx:qb x≤k) (hy:qb y≤k):qb (W1 x y)≤k:=by unfold W1; split <;> assumption
theorem rF (x y:Rat) (k:Nat) (hx:qb x≤k) (hy:qb y≤k):qb (VZ x y)≤k:=by unfold VZ; split <;> assumption
theorem N3 (x y:Rat) (hx:qb x≤rm) (hy:qb y≤rm):Fn Tryz.prog 125 [qA x,qA y] (qA (W1 x y)):=by
 have c1:=Kw x y hx hy
 obtain ⟨R,hR⟩:∃ R,R=qA (W1 x y):=⟨_,rfl⟩
 have sR:Settled R:=hR▸Xd _
 rw [← hR]
 refine Fq Tryz.call125 Tryz.func125 5 [] [] [] (by simp [wS]) (X0 1000 ?_); simp (maxSteps:=999999) only [AS.start,↓X2,wF,seval]
 refine X1 c1 rfl ?_
 by_cases h:x<y
 ·have f1:(QC x y<0)=True:=eq_true ((Ke x y).2 h)
  simp only [f1,↓X2,wF,seval]
  have e:W1 x y=y:=if_pos h
  rw [e] at hR
  exact JB rfl Qd rfl rfl rfl sR (hR.trans rfl)
 ·have f1:(QC x y<0)=False:=eq_false fun hh=>h ((Ke x y).1 hh)
  simp only [f1,↓X2,wF,seval]
  have e:W1 x y=x:=if_neg h
  rw [e] at hR
  exact JB rfl Qd rfl rfl rfl sR (hR.trans rfl)
theorem M4 (x y:Rat) (hx:qb x≤rm) (hy:qb y≤rm):Fn Tryz.prog 126 [qA x,qA y] (qA (VZ x y)):=by
 have c1:=Kw x y hx hy
 obtain ⟨R,hR⟩:∃ R,R=qA (VZ x y):=⟨_,rfl⟩
 have sR:Settled R:=hR▸Xd _
 rw [← hR]
 refine Fq Tryz.call126 Tryz.func126 5 [] [] [] (by simp [wS]) (X0 1000 ?_); simp (maxSteps:=999999) only [AS.start,↓X2,wF,seval]
 refine X1 c1 rfl ?_
 by_cases h:y<x
 ·have f1:(0<QC x y)=True:=eq_true ((JQ x y).2 h)
  simp only [f1,↓X2,wF,seval]
  have e:VZ x y=y:=if_pos h
  rw [e] at hR
  exact JB rfl Qd rfl rfl rfl sR (hR.trans rfl)
 ·have f1:(0<QC x y)=False:=eq_false fun hh=>h ((JQ x y).1 hh)
  simp only [f1,↓X2,wF,seval]
  have e:VZ x y=x:=if_neg h
  rw [e] at hR
  exact JB rfl Qd rfl rfl rfl sR (hR.trans rfl)
noncomputable def mZ (g:Nat→Rat):Nat→Rat
 | 0=>g 0
 | k+1=>W1 (mZ g k) (g (k+1))
noncomputable def mV (g:Nat→Rat):Nat→Rat
 | 0=>g 0
 | k+1=>VZ (mV g k) (g (k+1))
theorem LJ (g:Nat→Rat) (c:Nat) (h:∀ k,qb (g k)≤c):∀ n,qb (mZ g n)≤c
 | 0=>h 0
 | n+1=>rG _ _ _ (LJ g c h n) (h _)
theorem LI (g:Nat→Rat) (c:Nat) (h:∀ k,qb (g k)≤c):∀ n,qb (mV g n)≤c
 | 0=>h 0
 | n+1=>rF _ _ _ (LI g c h n) (h _)
def Zr (a b:List (Int×Int)) (f:FV) (k:Nat):V2 :=
 (JD (a.getD (xK a.length f k) (0,0))).sub (LY f.turn (JD (b.getD ((f.EB+1 - k) % b.length).toNat (0,0))))
noncomputable def Av (a b:List (Int×Int)) (f:FV) (k:Nat):V2:=⟨mZ (fun j=>(Zr a b f j).x) k,mZ (fun j=>(Zr a b f j).y) k⟩
noncomputable def At (a b:List (Int×Int)) (f:FV) (k:Nat):V2:=⟨mV (fun j=>(Zr a b f j).x) k,mV (fun j=>(Zr a b f j).y) k⟩
noncomputable def XE (a b:List (Int×Int)) (f:FV) (e:Rat):V2×V2×Bool :=
 if AB a.length b.length f∧Df f.turn then
  let lo:=(Av a b f f.M.toNat).sub ⟨e,e⟩
  let hi:=(At a b f f.M.toNat).add ⟨e,e⟩
  if hi.x<lo.x∨hi.y<lo.y then (v0,v0,false) else (lo,hi,true)
 else (v0,v0,false)
theorem KH {R:List (Int×Int)} (h:QY R) (i:Nat):vb (JD (R.getD i (0,0)))≤3:=by
 have:=DT h i
 have q1:=KW (R.getD i (0,0)).1 3 (by omega) (Qy ⟨by omega,by omega⟩)
 have q2:=KW (R.getD i (0,0)).2 3 (by omega) (Qy ⟨by omega,by omega⟩)
 unfold vb JD
 simp only
 omega
theorem Bp {a b:List (Int×Int)} (ha:QY a) (hb:QY b) (f:FV) (ht:vb f.turn≤1000) (k:Nat):vb (Zr a b f k)≤3000:=by
 have h1:=KH ha (xK a.length f k)
 have h2:=KH hb ((f.EB+1 - k) % b.length).toNat
 unfold Zr
 have h3:=Dg f.turn (JD (b.getD ((f.EB+1 - k) % b.length).toNat (0,0)))
 have h4:=Kc (JD (a.getD (xK a.length f k) (0,0))) (LY f.turn (JD (b.getD ((f.EB+1 - k) % b.length).toNat (0,0))))
 omega
theorem Cx {a b:List (Int×Int)} (ha:QY a) (hb:QY b) (f:FV) (ht:vb f.turn≤1000) (k:Nat):vb (Av a b f k)≤3000:=by
 have h1:=LJ (fun j=>(Zr a b f j).x) 3000 (fun j=>Nat.le_trans (Qv _) (Bp ha hb f ht j)) k
 have h2:=LJ (fun j=>(Zr a b f j).y) 3000 (fun j=>Nat.le_trans (Qn _) (Bp ha hb f ht j)) k
 exact Nat.max_le.2 ⟨h1,h2⟩
theorem Cv {a b:List (Int×Int)} (ha:QY a) (hb:QY b) (f:FV) (ht:vb f.turn≤1000) (k:Nat):vb (At a b f k)≤3000:=by
 have h1:=LI (fun j=>(Zr a b f j).x) 3000 (fun j=>Nat.le_trans (Qv _) (Bp ha hb f ht j)) k
 have h2:=LI (fun j=>(Zr a b f j).y) 3000 (fun j=>Nat.le_trans (Qn _) (Bp ha hb f ht j)) k
 exact Nat.max_le.2 ⟨h1,h2⟩
theorem Iy {P:Program} {fn:Func} {str hcs:List Nat} {a b c x y z:AV} {s:AS} {r1 r2 r3:ResultVar} (hr:fn.results=#[r1,r2,r3]) (h1:QU P s r1=some x) (h2:QU P s r2=some y) (h3:QU P s r3=some z) (g1:JH s.h x a) (g2:JH s.h y b) (g3:JH s.h z c) :
  RetOk (QI P fn str hcs (.tup [a,b,c])) s :=
 ⟨.tup [x,y,z],by simp [Z0,Lf,CQ,hr,J8,A9,h1,h2,h3],ZE ⟨g1,g2,g3,trivial⟩⟩
def XQ:List AV:=[.bool false,.sl 0 0 (fun _=>.any) true,.bool false,.sl 0 0 (fun _=>.any) true,.bool false,.sl 0 0 (fun _=>.any) true,.bool false,.sl 0 0 (fun _=>.any) true]
noncomputable def az (a b:List (Int×Int)) (f:FV):Nat→List AV
 | 0=>XQ
 | k+1=>vC (Av a b f k)
noncomputable def am (a b:List (Int×Int)) (f:FV):Nat→List AV
 | 0=>XQ
 | k+1=>vC (At a b f k)
theorem Z3 (a b:List (Int×Int)) (f:FV):∀ k,∀ x∈az a b f k,Settled x
 | 0=>fun x h=>by
  simp only [az,XQ,List.mem_cons,List.not_mem_nil,or_false] at h
  rcases h with rfl | rfl | rfl | rfl | rfl | rfl | rfl | rfl <;> first | exact X3 _ | exact J9 (fun j hj=>absurd hj (Nat.not_lt_zero j))
 | k+1=>by simp [az,vC,X7,X3]
theorem SO (a b:List (Int×Int)) (f:FV):∀ k,∀ x∈am a b f k,Settled x
 | 0=>fun x h=>by
  simp only [am,XQ,List.mem_cons,List.not_mem_nil,or_false] at h
  rcases h with rfl | rfl | rfl | rfl | rfl | rfl | rfl | rfl <;> first | exact X3 _ | exact J9 (fun j hj=>absurd hj (Nat.not_lt_zero j))
 | k+1=>by simp [am,vC,X7,X3]
def yL (m:Nat) (f:FV) (k:Nat):Nat:=((f.EB+1 - k) % m).toNat
theorem jR (m:Nat) (f:FV) (k:Nat) (h:0<m):(f.EB+1 - k) % (m:Int)=(yL m f k:Int):=by
 have:=Int.emod_nonneg (f.EB+1 - k) (show (m:Int)≠0 by omega)
 unfold yL; omega
theorem pC (m:Nat) (f:FV) (k:Nat) (h:0<m):yL m f k<m:=by
 have:=jR m f k h
 have:=Int.emod_lt_of_pos (f.EB+1 - k) (show (0:Int)<m by omega)
 omega
theorem II (a b:PV) (f:FV) (ha:a.even) (hb:b.even) (ht:vb f.turn≤1000) {ta tb:Rat} (ea:a.tol=RQ.of ta) (eb:b.tol=RQ.of tb) (qa:qb ta≤1000) (q2:qb tb≤1000) :
  Fn Tryz.prog 46 [QH a,QH b,Jx f] (.tup [vA (XE a.rim b.rim f (ta+tb)).1,vA (XE a.rim b.rim f (ta+tb)).2.1,.bool (XE a.rim b.rim f (ta+tb)).2.2]):=by
 have la:=ha.rim; have lb:=hb.rim
 obtain ⟨R,hR⟩:∃ R,R=XE a.rim b.rim f (ta+tb):=⟨_,rfl⟩
 rw [← hR]
 have zret:∀ {s:AS} {i j v w:Nat},s.get 6=.ref i v 0→s.h[i]?=some (.row v 8 (Xo Zj))→s.get 7=.ref j w 0→s.h[j]?=some (.row w 8 (Xo Zj))→s.get 8=.bool false→R=(v0,v0,false)→RetOk (QI Tryz.prog Tryz.f46 [9,100000005,11,120000015,18,190000012,190000013] [] (.tup [vA R.1,vA R.2.1,.bool R.2.2])) s:=fun h1 h2 h3 h4 h5 h6=>by
  subst h6
  exact Iy rfl (Xq Jr h1 h2 rfl) (Xq Jr h3 h4 rfl) (by unfold QU; rfl) (Xu (Xm _) (XW ZJ)) (Xu (Xm _) (XW ZJ)) (by rw [h5]; exact (X3 _).sees _)
 have cs:=DL a b f la lb
 have ct:=iP f.turn (by unfold vm; omega)
 refine Fq Tryz.call46 Tryz.func46 16 [40,41] [9,100000005,11,120000015,18,190000012,190000013] [] (by simp [Xx,XP]) (X0 1000 ?_)
 simp only [AS.start,QH,XD,Jx,XJ,↓X2,wA,↓reduceIte,reduceIte,reduceCtorEq,Y1,Y2,Y3,Y4,Y5,Y6,Y7,Y8,Y9,YA,wE]
 refine X1 cs rfl ?_
 by_cases hf:AB a.rim.length b.rim.length f
 rotate_left
 ·rw [decide_eq_false hf]
  simp only [↓X2,wA,↓reduceIte,reduceIte,reduceCtorEq,Y1,Y2,Y3,Y4,Y5,Y6,Y7,Y8,Y9,YA,wE]
  exact zret rfl rfl rfl rfl rfl (by rw [hR]; unfold XE; rw [if_neg fun h=>hf h.1])
 rw [decide_eq_true hf]
 simp only [↓X2,wA,↓reduceIte,reduceIte,reduceCtorEq,Y1,Y2,Y3,Y4,Y5,Y6,Y7,Y8,Y9,YA,wE]
 refine X1 ct rfl ?_
 by_cases hto:Df f.turn
 rotate_left
 ·rw [decide_eq_false hto]
  simp only [↓X2,wA,↓reduceIte,reduceIte,reduceCtorEq,Y1,Y2,Y3,Y4,Y5,Y6,Y7,Y8,Y9,YA,wE]
  exact zret rfl rfl rfl rfl rfl (by rw [hR]; unfold XE; rw [if_neg fun h=>hto h.2])
 rw [decide_eq_true hto]
 have hRe:R=if ((At a.rim b.rim f f.M.toNat).add ⟨ta+tb,ta+tb⟩).x<((Av a.rim b.rim f f.M.toNat).sub ⟨ta+tb,ta+tb⟩).x∨((At a.rim b.rim f f.M.toNat).add ⟨ta+tb,ta+tb⟩).y<((Av a.rim b.rim f f.M.toNat).sub ⟨ta+tb,ta+tb⟩).y then (v0,v0,false) else ((Av a.rim b.rim f f.M.toNat).sub ⟨ta+tb,ta+tb⟩,(At a.rim b.rim f f.M.toNat).add ⟨ta+tb,ta+tb⟩,true):=by
  rw [hR]; unfold XE; rw [if_pos ⟨hf,hto⟩]
 clear hR
 obtain ⟨⟨s1,s2⟩,⟨s3,s4⟩,s5,s6,s7⟩:=hf
 obtain ⟨N,hN⟩:∃ N:Nat,f.M=N:=⟨f.M.toNat,by omega⟩
 have hNt:f.M.toNat=N:=by rw [hN]; rfl
 rw [hNt] at hRe
 have r1:=UV a la (AN ha.near)
 have r2:=UV b lb (AN hb.near)
 have hla:(XC a.rim).length=a.rim.length:=by simp [XC]
 have hlb:(XC b.rim).length=b.rim.length:=by simp [XC]
 have c3:Fn Tryz.prog 70 [a.tol.A,b.tol.A] (qA (ta+tb)):=by rw [ea,eb]; exact Bk ta tb (by unfold rm; omega) (by unfold rm; omega)
 have qe:=JL ta tb
 simp only [↓X2,wA,↓reduceIte,reduceIte,reduceCtorEq,Y1,Y2,Y3,Y4,Y5,Y6,Y7,Y8,Y9,YA,wE]
 refine X1 r1 rfl ?_
 simp only [↓X2,wA,↓reduceIte,reduceIte,reduceCtorEq,Y1,Y2,Y3,Y4,Y5,Y6,Y7,Y8,Y9,YA,wE]
 refine X1 r2 rfl ?_
 simp only [↓X2,wA,↓reduceIte,reduceIte,reduceCtorEq,Y1,Y2,Y3,Y4,Y5,Y6,Y7,Y8,Y9,YA,wE]
 refine X1 c3 rfl ?_
 have wM:IntKind.i64.wrap (f.M+1)=((N+1:Nat):Int):=by rw [IntKind.wrap_i64]; omega
 simp only [wM,↓X2,wA,↓reduceIte,reduceIte,reduceCtorEq,Y1,Y2,Y3,Y4,Y5,Y6,Y7,Y8,Y9,YA,wE]
 have ba:XK 8 (.row 0 25 (Xo (XD a)))=True:=eq_true (XH (Xy a))
 have bb:XK 8 (.row 0 25 (Xo (XD b)))=True:=eq_true (XH (Xy b))
 have bf:XK 8 (.con 0 29 (Xo (XJ f)))=True:=eq_true (fun j _=>X6 (Xc (XM f) j))
 have bz:XK 8 (.row 0 8 (Xo XQ))=True:=eq_true (XH (Z3 a.rim b.rim f 0))
 have be:XK 8 (.row 0 4 (Xo [.bool (decide ((ta+tb).num<0)),X8 (Xb (ta+tb).num.natAbs),.bool false,X8 (Xb (qd (ta+tb)))]))=True:=eq_true (XH (by simp [X7,X3]))
 have bl:∀ k,XK 8 (.row 0 8 (Xo (az a.rim b.rim f k)))=True:=fun k=>eq_true (XH (Z3 a.rim b.rim f k))
 have bh:∀ k,XK 8 (.row 0 8 (Xo (am a.rim b.rim f k)))=True:=fun k=>eq_true (XH (SO a.rim b.rim f k))
 have bx:JJ 8 (Xp (XC a.rim))=True:=eq_true (X6 (Xf _))
 have by':JJ 8 (Xp (XC b.rim))=True:=eq_true (X6 (Xf _))
 refine Xg (fun k:Nat=>⟨16,[40,41],[.any,.any,.any,.ref 0 0 0,.ref 1 0 0,.ref 2 0 0,.ref 3 0 0,.ref 4 0 0,.bool false,Xp (XC a.rim),Xp (XC b.rim),.ref 5 0 0,.ref 6 0 0,.ref 7 0 0,.any,.any],[(40,I ((N+1:Nat):Int)),(41,I k)],[.row 0 25 (Xo (XD a)),.row 0 25 (Xo (XD b)),.con 0 29 (Xo (XJ f)),.row 0 8 (Xo XQ),.row 0 8 (Xo XQ),.row 0 4 (Xo [.bool (decide ((ta+tb).num<0)),X8 (Xb (ta+tb).num.natAbs),.bool false,X8 (Xb (qd (ta+tb)))]),.row 0 8 (Xo (az a.rim b.rim f k)),.row 0 8 (Xo (am a.rim b.rim f k))]⟩) (fun k=>k≤N+1) (fun k=>N+1 - k) 0 (by omega)
  (Sub.trans (XR 2 rfl) (Xa rfl (by simp [Xh,X5,I]) (by simp [Xi,Xz,I]) (by simp [XD,XJ,XQ,az,am,Xe,Xl,X4,I]))) ?_
 intro k hk next
 have w1:=wj k (by omega)
 by_cases hk2:k<N+1
 ·have nx:=next (k+1)
  have fk:((k:Int)<((N+1:Nat):Int))=True:=eq_true (by omega)
  have wx:IntKind.i64.wrap (f.EA+(k:Int))=f.EA+(k:Int):=by rw [IntKind.wrap_i64]; omega
  have wy1:IntKind.i64.wrap (f.EB+1)=f.EB+1:=by rw [IntKind.wrap_i64]; omega
  have wy:IntKind.i64.wrap (f.EB+1 - (k:Int))=f.EB+1 - (k:Int):=by rw [IntKind.wrap_i64]; omega
  have c1:=Ar (f.EA+(k:Int)) a.rim.length (by omega) (by omega) (by omega)
  have c2:=Ar (f.EB+1 - (k:Int)) b.rim.length (by omega) (by omega) (by omega)
  rw [GS _ _ _ (by omega)] at c1
  rw [jR _ _ _ (by omega)] at c2
  have hX:=O7 a.rim.length f k (by omega)
  have hY:=pC b.rim.length f k (by omega)
  have vx:=KH ha.near (xK a.rim.length f k)
  have vy:=KH hb.near (yL b.rim.length f k)
  have vr:=Dg f.turn (JD (b.rim.getD (yL b.rim.length f k) (0,0)))
  have c3:=LF f.turn (JD (b.rim.getD (yL b.rim.length f k) (0,0))) (by unfold vm; omega) (by unfold vm; omega)
  have c4:=CY (JD (a.rim.getD (xK a.rim.length f k) (0,0))) (LY f.turn (JD (b.rim.getD (yL b.rim.length f k) (0,0)))) (by unfold rm; omega) (by unfold rm; omega)
  rw [show (JD (a.rim.getD (xK a.rim.length f k) (0,0))).sub (LY f.turn (JD (b.rim.getD (yL b.rim.length f k) (0,0))))=Zr a.rim b.rim f k from rfl] at c4
  have hD:=Bp ha.near hb.near f ht
  have hL:=Cx ha.near hb.near f ht
  have hH:=Cv ha.near hb.near f ht
  have v1:=vF (XC a.rim) (xK a.rim.length f k)
  have v2:=vF (XC b.rim) (yL b.rim.length f k)
  rw [GA] at v1 v2
  generalize xK a.rim.length f k=X at *
  generalize yL b.rim.length f k=Y at *
  generalize JD (a.rim.getD X (0,0))=PX at *
  generalize JD (b.rim.getD Y (0,0))=PY at *
  generalize LY f.turn PY=RY at *
  have fX:((X:Int)<a.rim.length)=True:=eq_true (by omega)
  have fX':(X<a.rim.length)=True:=eq_true hX
  have fX8:(X*8+8≤a.rim.length*8)=True:=eq_true (by omega)
  have fY:((Y:Int)<b.rim.length)=True:=eq_true (by omega)
  have fY':(Y<b.rim.length)=True:=eq_true hY
  have fY8:(Y*8+8≤b.rim.length*8)=True:=eq_true (by omega)
  refine X0 1000 ?_
  simp only [XJ,X5,w1,wx,wy1,wy,fk,fX,fX',fX8,fY,fY',fY8,hla,hlb,v1,v2,Int.toNat_natCast,↓X2,wA,↓reduceIte,reduceIte,reduceCtorEq,Y1,Y2,Y3,Y4,Y5,Y6,Y7,Y8,Y9,YA,wE]
  refine X1 c1 rfl ?_
  simp only [XJ,X5,w1,wx,wy1,wy,fk,fX,fX',fX8,fY,fY',fY8,hla,hlb,v1,v2,Int.toNat_natCast,↓X2,wA,↓reduceIte,reduceIte,reduceCtorEq,Y1,Y2,Y3,Y4,Y5,Y6,Y7,Y8,Y9,YA,wE]
  refine X1 c2 rfl ?_
  simp only [XJ,X5,w1,wx,wy1,wy,fk,fX,fX',fX8,fY,fY',fY8,hla,hlb,v1,v2,Int.toNat_natCast,↓X2,wA,↓reduceIte,reduceIte,reduceCtorEq,Y1,Y2,Y3,Y4,Y5,Y6,Y7,Y8,Y9,YA,wE]
  refine X1 c3 rfl ?_
  simp only [XJ,X5,w1,wx,wy1,wy,fk,fX,fX',fX8,fY,fY',fY8,hla,hlb,v1,v2,Int.toNat_natCast,↓X2,wA,↓reduceIte,reduceIte,reduceCtorEq,Y1,Y2,Y3,Y4,Y5,Y6,Y7,Y8,Y9,YA,wE]
  refine X1 c4 rfl ?_
  match k,w1,fk,hk2,nx with
  | 0,w1,fk,hk2,nx =>
   have e0:((0:Nat):Int)=0:=rfl
   have hL0:az a.rim b.rim f 1=vC (Zr a.rim b.rim f 0):=rfl
   have hH0:am a.rim b.rim f 1=vC (Zr a.rim b.rim f 0):=rfl
   simp only [Nat.zero_add,hL0,hH0] at nx
   generalize Zr a.rim b.rim f 0=D at *
   have w0:IntKind.i64.wrap (0+1)=1:=by decide
   have bD:XK 8 (.row 0 8 (Xo (vC D)))=True:=eq_true (XH (by simp [vC,X7,X3]))
   simp only [az,am,XQ,e0,w0,↓X2,wA,↓reduceIte,reduceIte,reduceCtorEq,Y1,Y2,Y3,Y4,Y5,Y6,Y7,Y8,Y9,YA,wE]
   exact nx _ (by omega) (by omega) (Xr (m:=8) (Nat.zero_le _) rfl (by simp [Xh,X5,hla,hlb,I]) (by simp [Xi,Xz,I]) (by simp [XD,XJ,XQ,az,am,vC,Xe,Xl,X4,I]) (by simp [Xv,bx,by']) (by simp [Xv]) (by simp [ba,bb,bf,bz,be,bD,bl,bh]))
  | j+1,w1,fk,hk2,nx =>
   have g0:(((j+1:Nat):Int)=0)=False:=eq_false (by omega)
   have g0':((j:Int)+1=0)=False:=eq_false (by omega)
   have g0'':(j+1=0)=False:=eq_false (by omega)
   have bD:=bl 0
   have hl1:az a.rim b.rim f (j+1)=vC (Av a.rim b.rim f j):=rfl
   have hh1:am a.rim b.rim f (j+1)=vC (At a.rim b.rim f j):=rfl
   have hl2:az a.rim b.rim f (j+1+1)=vC (Av a.rim b.rim f (j+1)):=rfl
   have hh2:am a.rim b.rim f (j+1+1)=vC (At a.rim b.rim f (j+1)):=rfl
   have hDj:=hD (j+1); have hLj:=hL j; have hHj:=hH j
   have k1:=N3 (Av a.rim b.rim f j).x (Zr a.rim b.rim f (j+1)).x (by have:=Qv (Av a.rim b.rim f j); unfold rm; omega) (by have:=Qv (Zr a.rim b.rim f (j+1)); unfold rm; omega)
   have k2:=N3 (Av a.rim b.rim f j).y (Zr a.rim b.rim f (j+1)).y (by have:=Qn (Av a.rim b.rim f j); unfold rm; omega) (by have:=Qn (Zr a.rim b.rim f (j+1)); unfold rm; omega)
   have k3:=M4 (At a.rim b.rim f j).x (Zr a.rim b.rim f (j+1)).x (by have:=Qv (At a.rim b.rim f j); unfold rm; omega) (by have:=Qv (Zr a.rim b.rim f (j+1)); unfold rm; omega)
   have k4:=M4 (At a.rim b.rim f j).y (Zr a.rim b.rim f (j+1)).y (by have:=Qn (At a.rim b.rim f j); unfold rm; omega) (by have:=Qn (Zr a.rim b.rim f (j+1)); unfold rm; omega)
   rw [show W1 (Av a.rim b.rim f j).x (Zr a.rim b.rim f (j+1)).x=(Av a.rim b.rim f (j+1)).x from rfl] at k1
   rw [show W1 (Av a.rim b.rim f j).y (Zr a.rim b.rim f (j+1)).y=(Av a.rim b.rim f (j+1)).y from rfl] at k2
   rw [show VZ (At a.rim b.rim f j).x (Zr a.rim b.rim f (j+1)).x=(At a.rim b.rim f (j+1)).x from rfl] at k3
   rw [show VZ (At a.rim b.rim f j).y (Zr a.rim b.rim f (j+1)).y=(At a.rim b.rim f (j+1)).y from rfl] at k4
   have bl2:=bl (j+1+1); have bh2:=bh (j+1+1)
   simp only [hl2,hh2] at nx bl2 bh2
   rw [hl1,hh1]
   clear hD hL hH
   generalize Zr a.rim b.rim f (j+1)=D at *
   generalize Av a.rim b.rim f (j+1)=L2 at *
   generalize At a.rim b.rim f (j+1)=H2 at *
   generalize Av a.rim b.rim f j=L1 at *
   generalize At a.rim b.rim f j=H1 at *
   simp only [g0,g0',g0'',w1,↓X2,wA,↓reduceIte,reduceIte,reduceCtorEq,Y1,Y2,Y3,Y4,Y5,Y6,Y7,Y8,Y9,YA,wE]
   refine X1 k1 rfl ?_
   simp only [g0,g0',g0'',w1,↓X2,wA,↓reduceIte,reduceIte,reduceCtorEq,Y1,Y2,Y3,Y4,Y5,Y6,Y7,Y8,Y9,YA,wE]
   refine X1 k3 rfl ?_
   simp only [g0,g0',g0'',w1,↓X2,wA,↓reduceIte,reduceIte,reduceCtorEq,Y1,Y2,Y3,Y4,Y5,Y6,Y7,Y8,Y9,YA,wE]
   refine X1 k2 rfl ?_
   simp only [g0,g0',g0'',w1,↓X2,wA,↓reduceIte,reduceIte,reduceCtorEq,Y1,Y2,Y3,Y4,Y5,Y6,Y7,Y8,Y9,YA,wE]
   refine X1 k4 rfl ?_
   simp only [g0,g0',g0'',w1,↓X2,wA,↓reduceIte,reduceIte,reduceCtorEq,Y1,Y2,Y3,Y4,Y5,Y6,Y7,Y8,Y9,YA,wE]
   exact nx _ (by omega) (by omega) (Xr (m:=8) (Nat.zero_le _) rfl (by simp [Xh,X5,hla,hlb,I]) (by simp [Xi,Xz,I]) (by simp [XD,XJ,XQ,az,am,vC,Xe,Xl,X4,I]) (by simp [Xv,bx,by']) (by simp [Xv]) (by simp [ba,bb,bf,bz,be,bD,bl2,bh2]))
 obtain rfl:k=N+1:=by omega
 have hL:=Cx ha.near hb.near f ht N
 have hH:=Cv ha.near hb.near f ht N
 have hl1:az a.rim b.rim f (N+1)=vC (Av a.rim b.rim f N):=rfl
 have hh1:am a.rim b.rim f (N+1)=vC (At a.rim b.rim f N):=rfl
 rw [hl1,hh1]
 clear bl bh hl1 hh1
 generalize Av a.rim b.rim f N=LO at *
 generalize At a.rim b.rim f N=HI at *
 have m0:vb ⟨ta+tb,ta+tb⟩≤2001:=by unfold vb; simp only; omega
 have m1:=Kc LO ⟨ta+tb,ta+tb⟩
 have m2:=Bb HI ⟨ta+tb,ta+tb⟩
 have c1:=CY LO ⟨ta+tb,ta+tb⟩ (by unfold rm; omega) (by unfold rm; omega)
 have c2:=OQ HI ⟨ta+tb,ta+tb⟩ (by unfold vm; omega) (by unfold vm; omega)
 generalize LO.sub ⟨ta+tb,ta+tb⟩=A at *
 generalize HI.add ⟨ta+tb,ta+tb⟩=B at *
 have:=Qv A; have:=Qn A; have:=Qv B; have:=Qn B
 have q1:=Kw A.x B.x (by unfold rm; omega) (by unfold rm; omega)
 have q2:=Kw A.y B.y (by unfold rm; omega) (by unfold rm; omega)
 refine X0 1000 ?_
 simp only [XJ,Int.lt_irrefl,Nat.lt_irrefl,↓X2,wA,↓reduceIte,reduceIte,reduceCtorEq,Y1,Y2,Y3,Y4,Y5,Y6,Y7,Y8,Y9,YA,wE]
 refine X1 c1 rfl ?_
 simp only [↓X2,wA,↓reduceIte,reduceIte,reduceCtorEq,Y1,Y2,Y3,Y4,Y5,Y6,Y7,Y8,Y9,YA,wE]
 refine X1 c2 rfl ?_
 simp only [↓X2,wA,↓reduceIte,reduceIte,reduceCtorEq,Y1,Y2,Y3,Y4,Y5,Y6,Y7,Y8,Y9,YA,wE]
 refine X1 q1 rfl ?_
 by_cases h1:B.x<A.x
 ·have f1:(0<QC A.x B.x)=True:=eq_true ((JQ _ _).2 h1)
  simp only [f1,XQ,↓X2,wA,↓reduceIte,reduceIte,reduceCtorEq,Y1,Y2,Y3,Y4,Y5,Y6,Y7,Y8,Y9,YA,wE]
  exact zret rfl rfl rfl rfl rfl (by rw [hRe,if_pos (.inl h1)])
 have f1:(0<QC A.x B.x)=False:=eq_false fun h=>h1 ((JQ _ _).1 h)
 simp only [f1,↓X2,wA,↓reduceIte,reduceIte,reduceCtorEq,Y1,Y2,Y3,Y4,Y5,Y6,Y7,Y8,Y9,YA,wE]
 refine X1 q2 rfl ?_
 by_cases h2:B.y<A.y
 ·have f2:(0<QC A.y B.y)=True:=eq_true ((JQ _ _).2 h2)
  simp only [f1,f2,XQ,↓X2,wA,↓reduceIte,reduceIte,reduceCtorEq,Y1,Y2,Y3,Y4,Y5,Y6,Y7,Y8,Y9,YA,wE]
  exact zret rfl rfl rfl rfl rfl (by rw [hRe,if_pos (.inr h2)])
 have f2:(0<QC A.y B.y)=False:=eq_false fun h=>h2 ((JQ _ _).1 h)
 simp only [f1,f2,XQ,↓X2,wA,↓reduceIte,reduceIte,reduceCtorEq,Y1,Y2,Y3,Y4,Y5,Y6,Y7,Y8,Y9,YA,wE]
 rw [if_neg fun h=>h.elim h1 h2] at hRe
 subst hRe
 exact Iy rfl (Xq Jr rfl rfl rfl) (Xq Jr rfl rfl rfl) (by unfold QU; rfl) (Xu (Xm _) (XW (Q0 (vC A)))) (Xu (Xm _) (XW (Q0 (vC B)))) ((X3 _).sees _)
end
end Go.Ab.N
