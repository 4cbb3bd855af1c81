/- Contracts of functions of these chapters, for every argument that fits, and what they need. -/
import Derived.Test.YtefjhgcndhepeaaGreatC8
import Derived.Test.YtefjhgcndhepeaaGreatC7
set_option linter.unusedSimpArgs false
set_option linter.unusedVariables false
open Nat renaming reducePow → Y1, reduceLT → Y2, reduceLeDiff → Y3, reduceEqDiff → Y4, reduceAdd → Y5, reduceMul → Y6, reduceSub → Y7, reduceBEq → Y8, reduceDiv → Y9, reduceMod → YA
namespace Go.Ab.N
open Go Go.RowKit Go.Proofs
noncomputable section
set_option maxRecDepth 10000
set_option maxHeartbeats 4000000
open Classical
structure FV where
 A:Int
 B:Int
 EA:Int
 EB:Int
 M:Int
 turn:V2
 lo:V2
 hi:V2
def XW (f:FV):List AV:=[I f.A,I f.B,I f.EA,I f.EB,I f.M,.bool (decide (f.turn.x.num<0)),X8 (Xb f.turn.x.num.natAbs),.bool false,X8 (Xb (qd f.turn.x)),.bool (decide (f.turn.y.num<0)),X8 (Xb f.turn.y.num.natAbs),.bool false,X8 (Xb (qd f.turn.y)),
 .bool (decide (f.lo.x.num<0)),X8 (Xb f.lo.x.num.natAbs),.bool false,X8 (Xb (qd f.lo.x)),.bool (decide (f.lo.y.num<0)),X8 (Xb f.lo.y.num.natAbs),.bool false,X8 (Xb (qd f.lo.y)),
 .bool (decide (f.hi.x.num<0)),X8 (Xb f.hi.x.num.natAbs),.bool false,X8 (Xb (qd f.hi.x)),.bool (decide (f.hi.y.num<0)),X8 (Xb f.hi.y.num.natAbs),.bool false,X8 (Xb (qd f.hi.y))]
def Zc (f:FV):AV:=.agg (XW f)
theorem XU (f:FV):∀ x∈XW f,Settled x:=by simp [XW,X9,X7,X3]
theorem Qg (f:FV):Settled (Zc f):=Ql (XU f)
theorem MF (k:Int) (n:Nat) (h:0<n):(k.tmod n+n).tmod n=k % n:=by
 have h1:=Int.tmod_lt_of_pos k (show (0:Int)<n by omega)
 have h2:-(n:Int)<k.tmod n:=by
  have:=Int.lt_tmod_of_pos k (show (0:Int)<n by omega)
  omega
 rw [Int.tmod_eq_emod_of_nonneg (by omega),Int.add_emod_right]
 have h3:=Int.mul_tdiv_add_tmod k n
 have h4:k % n=(k.tmod n+n*k.tdiv n) % n:=by rw [Int.add_comm]; rw [h3]
 rw [h4,Int.add_mul_emod_self_left]
theorem Ai (k:Int) (n:Nat) (h:0<n) (hk:-1000000000≤k∧k≤1000000000) (hn:n≤1000000000):Fn Tryz.prog 124 [I k,I n] (I (k % n)):=by
 have h1:=Int.tmod_lt_of_pos k (show (0:Int)<n by omega)
 have h2:=Int.lt_tmod_of_pos k (show (0:Int)<n by omega)
 have w1:IntKind.i64.wrap (k.tmod n+n)=k.tmod n+n:=by rw [IntKind.wrap_i64]; omega
 have f1:((n:Int)=0)=False:=eq_false (by omega)
 have f1':(n=0)=False:=eq_false (by omega)
 obtain ⟨R,hR⟩:∃ R,R=k % (n:Int):=⟨_,rfl⟩
 have e:=MF k n h
 rw [← hR] at e ⊢
 refine Fq Tryz.call124 Tryz.func124 5 [] [] [] (by simp [X9]) (X0 1000 ?_)
 simp only [AS.start,f1,f1',w1,e,↓X2,wA,seval,wE]
 exact Xu rfl rfl (X9 _) rfl
theorem QM (k:Int) (n:Nat) (h:0<n) (hk:-1000000000≤k∧k≤1000000000) (hn:n≤1000000000):Fn Tryz.prog 129 [I k,I n] (I (k % n)):=by
 have h1:=Int.tmod_lt_of_pos k (show (0:Int)<n by omega)
 have h2:=Int.lt_tmod_of_pos k (show (0:Int)<n by omega)
 have w1:IntKind.i64.wrap (k.tmod n+n)=k.tmod n+n:=by rw [IntKind.wrap_i64]; omega
 have f1:((n:Int)=0)=False:=eq_false (by omega)
 have f1':(n=0)=False:=eq_false (by omega)
 obtain ⟨R,hR⟩:∃ R,R=k % (n:Int):=⟨_,rfl⟩
 have e:=MF k n h
 rw [← hR] at e ⊢
 refine Fq Tryz.call129 Tryz.func129 5 [] [] [] (by simp [X9]) (X0 1000 ?_)
 simp only [AS.start,f1,f1',w1,e,↓X2,wA,seval,wE]
 exact Xu rfl rfl (X9 _) rfl
def Bc (n m:Nat) (f:FV):Prop:=(0≤f.EA∧f.EA<n)∧(0≤f.EB∧f.EB<m)∧1≤f.M∧f.M<n∧f.M<m
theorem Dy (a b:PV) (f:FV) (ha:a.rim.length<1000000) (hb:b.rim.length<1000000):Fn Tryz.prog 122 [QW a,QW b,Zc f] (.bool (decide (Bc a.rim.length b.rim.length f))):=by
 obtain ⟨V,hV⟩:∃ V,V=decide (Bc a.rim.length b.rim.length f):=⟨_,rfl⟩
 have fin:∀ {s:AS} {v:Bool},s.get 6=.bool v→v=V→RetOk (QR Tryz.prog Tryz.f122 [] [] (.bool V)) s:=fun h e=>Xu rfl h (X3 _) (by rw [e])
 rw [← hV]
 refine Fq Tryz.call122 Tryz.func122 9 [] [] [] (by simp [Xz,Qg]) (X0 1000 ?_)
 by_cases hmn:(b.rim.length:Int)<a.rim.length
 ·have fmn:((b.rim.length:Int)<a.rim.length)=True:=eq_true hmn
  by_cases g0:0≤f.EA
  rotate_left
  ·have f0:(0≤f.EA)=False:=eq_false g0
   simp only [AS.start,QW,XH,Zc,XW,fmn,if_true,f0,↓X2,wA,seval,wE]
   exact fin rfl (by rw [hV,decide_eq_false fun h=>g0 h.1.1])
  have f0:(0≤f.EA)=True:=eq_true g0
  by_cases g1:f.EA<(a.rim.length:Int)
  rotate_left
  ·have f1:(f.EA<(a.rim.length:Int))=False:=eq_false g1
   simp only [AS.start,QW,XH,Zc,XW,fmn,if_true,f0,f1,↓X2,wA,seval,wE]
   exact fin rfl (by rw [hV,decide_eq_false fun h=>g1 h.1.2])
  have f1:(f.EA<(a.rim.length:Int))=True:=eq_true g1
  by_cases g2:0≤f.EB
  rotate_left
  ·have f2:(0≤f.EB)=False:=eq_false g2
   simp only [AS.start,QW,XH,Zc,XW,fmn,if_true,f0,f1,f2,↓X2,wA,seval,wE]
   exact fin rfl (by rw [hV,decide_eq_false fun h=>g2 h.2.1.1])
  have f2:(0≤f.EB)=True:=eq_true g2
  by_cases g3:f.EB<(b.rim.length:Int)
  rotate_left
  ·have f3:(f.EB<(b.rim.length:Int))=False:=eq_false g3
   simp only [AS.start,QW,XH,Zc,XW,fmn,if_true,f0,f1,f2,f3,↓X2,wA,seval,wE]
   exact fin rfl (by rw [hV,decide_eq_false fun h=>g3 h.2.1.2])
  have f3:(f.EB<(b.rim.length:Int))=True:=eq_true g3
  by_cases g4:1≤f.M
  rotate_left
  ·have f4:(1≤f.M)=False:=eq_false g4
   simp only [AS.start,QW,XH,Zc,XW,fmn,if_true,f0,f1,f2,f3,f4,↓X2,wA,seval,wE]
   exact fin rfl (by rw [hV,decide_eq_false fun h=>g4 h.2.2.1])
  have f4:(1≤f.M)=True:=eq_true g4
  by_cases g5:f.M<(b.rim.length:Int)
  rotate_left
  ·have f5:(f.M<(b.rim.length:Int))=False:=eq_false g5
   simp only [AS.start,QW,XH,Zc,XW,fmn,if_true,f0,f1,f2,f3,f4,f5,↓X2,wA,seval,wE]
   exact fin rfl (by rw [hV,decide_eq_false fun h=>g5 h.2.2.2.2])
  have f5:(f.M<(b.rim.length:Int))=True:=eq_true g5
  simp only [AS.start,QW,XH,Zc,XW,fmn,if_true,f0,f1,f2,f3,f4,f5,↓X2,wA,seval,wE]
  exact fin rfl (by rw [hV,decide_eq_true]; exact ⟨⟨g0,g1⟩,⟨g2,g3⟩,g4,by omega,g5⟩)
 ·have fmn:((b.rim.length:Int)<a.rim.length)=False:=eq_false hmn
  by_cases g0:0≤f.EA
  rotate_left
  ·have f0:(0≤f.EA)=False:=eq_false g0
   simp only [AS.start,QW,XH,Zc,XW,fmn,if_false,f0,↓X2,wA,seval,wE]
   exact fin rfl (by rw [hV,decide_eq_false fun h=>g0 h.1.1])
  have f0:(0≤f.EA)=True:=eq_true g0
  by_cases g1:f.EA<(a.rim.length:Int)
  rotate_left
  ·have f1:(f.EA<(a.rim.length:Int))=False:=eq_false g1
   simp only [AS.start,QW,XH,Zc,XW,fmn,if_false,f0,f1,↓X2,wA,seval,wE]
   exact fin rfl (by rw [hV,decide_eq_false fun h=>g1 h.1.2])
  have f1:(f.EA<(a.rim.length:Int))=True:=eq_true g1
  by_cases g2:0≤f.EB
  rotate_left
  ·have f2:(0≤f.EB)=False:=eq_false g2
   simp only [AS.start,QW,XH,Zc,XW,fmn,if_false,f0,f1,f2,↓X2,wA,seval,wE]
   exact fin rfl (by rw [hV,decide_eq_false fun h=>g2 h.2.1.1])
  have f2:(0≤f.EB)=True:=eq_true g2
  by_cases g3:f.EB<(b.rim.length:Int)
  rotate_left
  ·have f3:(f.EB<(b.rim.length:Int))=False:=eq_false g3
   simp only [AS.start,QW,XH,Zc,XW,fmn,if_false,f0,f1,f2,f3,↓X2,wA,seval,wE]
   exact fin rfl (by rw [hV,decide_eq_false fun h=>g3 h.2.1.2])
  have f3:(f.EB<(b.rim.length:Int))=True:=eq_true g3
  by_cases g4:1≤f.M
  rotate_left
  ·have f4:(1≤f.M)=False:=eq_false g4
   simp only [AS.start,QW,XH,Zc,XW,fmn,if_false,f0,f1,f2,f3,f4,↓X2,wA,seval,wE]
   exact fin rfl (by rw [hV,decide_eq_false fun h=>g4 h.2.2.1])
  have f4:(1≤f.M)=True:=eq_true g4
  by_cases g5:f.M<(a.rim.length:Int)
  rotate_left
  ·have f5:(f.M<(a.rim.length:Int))=False:=eq_false g5
   simp only [AS.start,QW,XH,Zc,XW,fmn,if_false,f0,f1,f2,f3,f4,f5,↓X2,wA,seval,wE]
   exact fin rfl (by rw [hV,decide_eq_false fun h=>g5 h.2.2.2.1])
  have f5:(f.M<(a.rim.length:Int))=True:=eq_true g5
  simp only [AS.start,QW,XH,Zc,XW,fmn,if_false,f0,f1,f2,f3,f4,f5,↓X2,wA,seval,wE]
  exact fin rfl (by rw [hV,decide_eq_true]; exact ⟨⟨g0,g1⟩,⟨g2,g3⟩,g4,g5,by omega⟩)
theorem S0 (a b:PV) (f:FV) (ha:a.rim.length<1000000) (hb:b.rim.length<1000000):Fn Tryz.prog 127 [QW a,QW b,Zc f] (.bool (decide (Bc a.rim.length b.rim.length f))):=by
 obtain ⟨V,hV⟩:∃ V,V=decide (Bc a.rim.length b.rim.length f):=⟨_,rfl⟩
 have fin:∀ {s:AS} {v:Bool},s.get 6=.bool v→v=V→RetOk (QR Tryz.prog Tryz.f127 [] [] (.bool V)) s:=fun h e=>Xu rfl h (X3 _) (by rw [e])
 rw [← hV]
 refine Fq Tryz.call127 Tryz.func127 9 [] [] [] (by simp [Xz,Qg]) (X0 1000 ?_)
 by_cases g0:0≤f.EA
 rotate_left
 ·have f0:(0≤f.EA)=False:=eq_false g0
  simp only [AS.start,QW,XH,Zc,XW,f0,↓X2,wA,seval,wE]
  exact fin rfl (by rw [hV,decide_eq_false fun h=>g0 h.1.1])
 have f0:(0≤f.EA)=True:=eq_true g0
 by_cases g1:f.EA<(a.rim.length:Int)
 rotate_left
 ·have f1:(f.EA<(a.rim.length:Int))=False:=eq_false g1
  simp only [AS.start,QW,XH,Zc,XW,f0,f1,↓X2,wA,seval,wE]
  exact fin rfl (by rw [hV,decide_eq_false fun h=>g1 h.1.2])
 have f1:(f.EA<(a.rim.length:Int))=True:=eq_true g1
 by_cases g2:0≤f.EB
 rotate_left
 ·have f2:(0≤f.EB)=False:=eq_false g2
  simp only [AS.start,QW,XH,Zc,XW,f0,f1,f2,↓X2,wA,seval,wE]
  exact fin rfl (by rw [hV,decide_eq_false fun h=>g2 h.2.1.1])
 have f2:(0≤f.EB)=True:=eq_true g2
 by_cases g3:f.EB<(b.rim.length:Int)
 rotate_left
 ·have f3:(f.EB<(b.rim.length:Int))=False:=eq_false g3
  simp only [AS.start,QW,XH,Zc,XW,f0,f1,f2,f3,↓X2,wA,seval,wE]
  exact fin rfl (by rw [hV,decide_eq_false fun h=>g3 h.2.1.2])
 have f3:(f.EB<(b.rim.length:Int))=True:=eq_true g3
 by_cases g4:1≤f.M
 rotate_left
 ·have f4:(1≤f.M)=False:=eq_false g4
  simp only [AS.start,QW,XH,Zc,XW,f0,f1,f2,f3,f4,↓X2,wA,seval,wE]
  exact fin rfl (by rw [hV,decide_eq_false fun h=>g4 h.2.2.1])
 have f4:(1≤f.M)=True:=eq_true g4
 by_cases g5:f.M<(a.rim.length:Int)
 rotate_left
 ·have f5:(f.M<(a.rim.length:Int))=False:=eq_false g5
  simp only [AS.start,QW,XH,Zc,XW,f0,f1,f2,f3,f4,f5,↓X2,wA,seval,wE]
  exact fin rfl (by rw [hV,decide_eq_false fun h=>g5 h.2.2.2.1])
 have f5:(f.M<(a.rim.length:Int))=True:=eq_true g5
 by_cases g6:f.M<(b.rim.length:Int)
 rotate_left
 ·have f6:(f.M<(b.rim.length:Int))=False:=eq_false g6
  simp only [AS.start,QW,XH,Zc,XW,f0,f1,f2,f3,f4,f5,f6,↓X2,wA,seval,wE]
  exact fin rfl (by rw [hV,decide_eq_false fun h=>g6 h.2.2.2.2])
 have f6:(f.M<(b.rim.length:Int))=True:=eq_true g6
 simp only [AS.start,QW,XH,Zc,XW,f0,f1,f2,f3,f4,f5,f6,↓X2,wA,seval,wE]
 exact fin rfl (by rw [hV,decide_eq_true]; exact ⟨⟨g0,g1⟩,⟨g2,g3⟩,g4,g5,g6⟩)
def Gu (R:List (Int×Int)) (k:Nat):Int×Int:=((R.getD ((k+1) % R.length) (0,0)).1 - (R.getD k (0,0)).1,(R.getD ((k+1) % R.length) (0,0)).2 - (R.getD k (0,0)).2)
def AR (R:List (Int×Int)) (k:Nat):V2:=(Jz (R.getD ((k+1) % R.length) (0,0))).sub (Jz (R.getD k (0,0)))
def SX (R:List (Int×Int)) (k:Nat):Int:=(Gu R k).1*(Gu R k).1+(Gu R k).2*(Gu R k).2
theorem TR (R:List (Int×Int)) (k:Nat):AR R k=⟨((Gu R k).1:Rat),((Gu R k).2:Rat)⟩:=by
 unfold AR Gu V2.sub Jz
 simp only [Rat.intCast_sub]
def QV (R:List (Int×Int)):Prop:=∀ c∈R,(-65536≤c.1∧c.1≤65536)∧(-65536≤c.2∧c.2≤65536)
theorem DH {R:List (Int×Int)} (h:QV R) (i:Nat):(-65536≤(R.getD i (0,0)).1∧(R.getD i (0,0)).1≤65536)∧(-65536≤(R.getD i (0,0)).2∧(R.getD i (0,0)).2≤65536):=by
 rw [List.getD_eq_getElem?_getD]
 cases hx:R[i]? with
 | none=>exact ⟨⟨by decide,by decide⟩,⟨by decide,by decide⟩⟩
 | some c=>exact h c (List.mem_of_getElem? hx)
theorem AE {R:List (Int×Int)} (h:QV R):∀ i,i<R.length→Ll (R.getD i (0,0))=true:=fun i _=>by
 have:=DH h i
 unfold Ll wb
 simp only [Bool.and_eq_true,decide_eq_true_eq]
 omega
theorem Dt {R:List (Int×Int)} (h:QV R) (k:Nat):(-131072≤(Gu R k).1∧(Gu R k).1≤131072)∧(-131072≤(Gu R k).2∧(Gu R k).2≤131072):=by
 have h1:=DH h k
 have h2:=DH h ((k+1) % R.length)
 unfold Gu
 simp only
 omega
theorem Bh {R:List (Int×Int)} (h:QV R) (k:Nat):vb (AR R k)≤3:=by
 have:=Dt h k
 rw [TR]
 have q1:=Ap (Gu R k).1 3 (by omega) (QO ⟨by omega,by omega⟩)
 have q2:=Ap (Gu R k).2 3 (by omega) (QO ⟨by omega,by omega⟩)
 unfold vb
 simp only
 omega
theorem RM (p:PV) (k:Nat) (hk:k<p.rim.length) (hl:p.rim.length<1000000) (hn:QV p.rim):Fn Tryz.prog 121 [QW p,I k] (.tup [I (Gu p.rim k).1,I (Gu p.rim k).2]):=by
 obtain ⟨D,hD⟩:∃ D,D=Gu p.rim k:=⟨_,rfl⟩
 have h0:=Dt hn k
 rw [← hD] at h0 ⊢
 have hD1:(p.rim.getD ((k+1) % p.rim.length) (0,0)).1 - (p.rim.getD k (0,0)).1=D.1:=by rw [hD]; rfl
 have hD2:(p.rim.getD ((k+1) % p.rim.length) (0,0)).2 - (p.rim.getD k (0,0)).2=D.2:=by rw [hD]; rfl
 have f0:((p.rim.length:Int)=0)=False:=eq_false (by omega)
 have f0':(p.rim.length=0)=False:=eq_false (by omega)
 have r1:(k:Int).tmod p.rim.length=(k:Int):=by rw [show (k:Int).tmod p.rim.length=((k % p.rim.length:Nat):Int) from rfl,Nat.mod_eq_of_lt hk]
 have w1:IntKind.i64.wrap ((k:Int)+p.rim.length)=((k+p.rim.length:Nat):Int):=by rw [IntKind.wrap_i64]; omega
 have r2:((k+p.rim.length:Nat):Int).tmod p.rim.length=(k:Int):=by rw [show ((k+p.rim.length:Nat):Int).tmod p.rim.length=(((k+p.rim.length) % p.rim.length:Nat):Int) from rfl,Nat.add_mod_right,Nat.mod_eq_of_lt hk]
 have w2:=wj k (by omega)
 have r3:((k+1:Nat):Int).tmod p.rim.length=(((k+1) % p.rim.length:Nat):Int):=rfl
 have hm:(k+1) % p.rim.length<p.rim.length:=Nat.mod_lt _ (by omega)
 obtain ⟨m,hme⟩:∃ m,m=(k+1) % p.rim.length:=⟨_,rfl⟩
 rw [← hme] at hD1 hD2 r3 hm
 have f1:((k:Int)<p.rim.length)=True:=eq_true (by omega)
 have f2:(k<p.rim.length)=True:=eq_true hk
 have f3:((m:Int)<p.rim.length)=True:=eq_true (by omega)
 have f4:(m<p.rim.length)=True:=eq_true hm
 have f5:(k*2+2≤p.rim.length*2)=True:=eq_true (by omega)
 have f6:(m*2+2≤p.rim.length*2)=True:=eq_true (by omega)
 have v1:=mv p.rim k
 have v2:=mv p.rim m
 have w3:IntKind.i64.wrap D.1=D.1:=by rw [IntKind.wrap_i64]; omega
 have w4:IntKind.i64.wrap D.2=D.2:=by rw [IntKind.wrap_i64]; omega
 refine Fq Tryz.call121 Tryz.func121 9 [] [3,40000002] [] (by simp [Xz,X9]) (X0 1000 ?_)
 simp only [AS.start,QW,XH,f0,f0',f1,f2,f3,f4,f5,f6,r1,r2,r3,w1,w2,w3,w4,v1,v2,hD1,hD2,Int.toNat_natCast,↓X2,wA,seval,wE]
 exact S8 rfl rfl rfl (X9 _) (X9 _) rfl rfl
theorem RL (p:PV) (k:Nat) (hk:k<p.rim.length) (hl:p.rim.length<1000000) (hn:QV p.rim):Fn Tryz.prog 45 [QW p,I k] (vA (AR p.rim k)):=by
 have c1:=RM p k hk hl hn
 have h0:=Dt hn k
 rw [TR]
 generalize Gu p.rim k=D at *
 have c2:=GN D.1 D.2 ⟨by omega,by omega⟩ ⟨by omega,by omega⟩
 obtain ⟨R,hR⟩:∃ R,R=vA ⟨(D.1:Rat),(D.2:Rat)⟩:=⟨_,rfl⟩
 have sR:Settled R:=hR▸Xn _
 rw [← hR]
 refine Fq Tryz.call45 Tryz.func45 5 [] [] [] (by simp [Xz,X9]) (X0 1000 ?_)
 simp only [AS.start,QW,XH,↓X2,wA,seval,wE]
 refine X1 c1 rfl ?_
 simp only [↓X2,wA,seval,wE]
 refine X1 c2 rfl ?_
 simp only [↓X2,wA,seval,wE]
 exact ZQ rfl Jq rfl rfl rfl sR (hR.trans rfl)
theorem Fd (p:PV) (k:Nat) (hk:k<p.rim.length) (hl:p.rim.length<1000000) (hn:QV p.rim):Fn Tryz.prog 113 [QW p,I k] (I (SX p.rim k)):=by
 have c1:=RM p k hk hl hn
 have h0:=Dt hn k
 unfold SX
 generalize Gu p.rim k=D at *
 have b1:D.1*D.1≤131072*131072:=by
  rcases Int.le_total 0 D.1 with h | h
  ·exact Int.mul_le_mul h0.1.2 h0.1.2 h (by omega)
  ·have:=Int.mul_le_mul (show -D.1≤131072 by omega) (show -D.1≤131072 by omega) (by omega) (by omega)
   rwa [Int.neg_mul_neg] at this
 have b2:D.2*D.2≤131072*131072:=by
  rcases Int.le_total 0 D.2 with h | h
  ·exact Int.mul_le_mul h0.2.2 h0.2.2 h (by omega)
  ·have:=Int.mul_le_mul (show -D.2≤131072 by omega) (show -D.2≤131072 by omega) (by omega) (by omega)
   rwa [Int.neg_mul_neg] at this
 have b3:0≤D.1*D.1:=by
  rcases Int.le_total 0 D.1 with h | h
  ·exact Int.mul_nonneg h h
  ·exact Int.mul_nonneg_of_nonpos_of_nonpos h h
 have b4:0≤D.2*D.2:=by
  rcases Int.le_total 0 D.2 with h | h
  ·exact Int.mul_nonneg h h
  ·exact Int.mul_nonneg_of_nonpos_of_nonpos h h
 have w1:IntKind.i64.wrap (D.1*D.1)=D.1*D.1:=by rw [IntKind.wrap_i64]; omega
 have w2:IntKind.i64.wrap (D.2*D.2)=D.2*D.2:=by rw [IntKind.wrap_i64]; omega
 have w3:IntKind.i64.wrap (D.1*D.1+D.2*D.2)=D.1*D.1+D.2*D.2:=by rw [IntKind.wrap_i64]; omega
 refine Fq Tryz.call113 Tryz.func113 7 [] [] [] (by simp [Xz,X9]) (X0 1000 ?_)
 simp only [AS.start,QW,XH,↓X2,wA,seval,wE]
 refine X1 c1 rfl ?_
 simp only [w1,w2,w3,↓X2,wA,seval,wE]
 exact Xu rfl rfl (X9 _) rfl
theorem Gb (R:List (Int×Int)) (i:Nat):(XB R).getD i v0=Jz (R.getD i (0,0)):=by
 unfold XB
 rw [List.getD_eq_getElem?_getD,List.getD_eq_getElem?_getD,List.getElem?_map]
 cases R[i]? with
 | none=>show v0=Jz (0,0); unfold v0 Jz; simp
 | some c=>rfl
theorem RZ (p:PV) (k:Nat) (hk:k<p.rim.length) (hl:p.rim.length<1000000) (hn:QV p.rim):Fn Tryz.prog 115 [QW p,I k] (vA (AR p.rim k)):=by
 have cr:=DR p hl (AE hn)
 have hlen:(XB p.rim).length=p.rim.length:=by simp [XB]
 have hs:=Ho (AE hn)
 have hm:(k+1) % p.rim.length<p.rim.length:=Nat.mod_lt _ (by omega)
 have cs:=JJ ((XB p.rim).getD ((k+1) % p.rim.length) v0) ((XB p.rim).getD k v0) (by have:=hs ((k+1) % p.rim.length); unfold rm; omega) (by have:=hs k; unfold rm; omega)
 rw [show ((XB p.rim).getD ((k+1) % p.rim.length) v0).sub ((XB p.rim).getD k v0)=AR p.rim k by rw [Gb,Gb]; rfl] at cs
 obtain ⟨R,hR⟩:∃ R,R=vA (AR p.rim k):=⟨_,rfl⟩
 have sR:Settled R:=hR▸Xn _
 rw [← hR] at cs ⊢
 have w2:=wj k (by omega)
 have f0:((p.rim.length:Int)=0)=False:=eq_false (by omega)
 have f0':(p.rim.length=0)=False:=eq_false (by omega)
 have r3:((k+1:Nat):Int).tmod p.rim.length=(((k+1) % p.rim.length:Nat):Int):=rfl
 have v1:=vF (XB p.rim) k
 have v2:=vF (XB p.rim) ((k+1) % p.rim.length)
 generalize (k+1) % p.rim.length=m at *
 have f1:((k:Int)<p.rim.length)=True:=eq_true (by omega)
 have f2:(k<p.rim.length)=True:=eq_true hk
 have f3:((m:Int)<p.rim.length)=True:=eq_true (by omega)
 have f4:(m<p.rim.length)=True:=eq_true hm
 have f5:(k*8+8≤p.rim.length*8)=True:=eq_true (by omega)
 have f6:(m*8+8≤p.rim.length*8)=True:=eq_true (by omega)
 refine Fq Tryz.call115 Tryz.func115 6 [] [2] [] (by simp [Xz,X9]) (X0 1000 ?_)
 simp only [AS.start,QW,XH,↓X2,wA,seval,wE]
 refine X1 cr rfl ?_
 simp only [X5,hlen,f0,f0',f1,f2,f3,f4,f5,f6,w2,r3,v1,v2,Int.toNat_natCast,↓X2,wA,seval,wE]
 refine X1 cs rfl ?_
 simp only [hR,↓X2,wA,seval,wE]
 exact ZQ rfl Jq rfl rfl rfl sR (hR.trans rfl)
def KI (a:V2):V2:=⟨-a.x,-a.y⟩
theorem UM (a:V2):vb (KI a)=vb a:=by
 unfold vb KI
 simp only [Ou]
theorem aM (a:V2):a.scale (-1)=KI a:=by
 unfold V2.scale KI
 rw [V2.ext']
 exact ⟨by simp only; grind,by simp only; grind⟩
theorem rg (a:V2):v0.sub a=KI a:=by
 unfold V2.sub KI v0
 rw [V2.ext']
 exact ⟨by simp only; grind,by simp only; grind⟩
theorem kX (a:V2):Q7 (KI a) (KI a)=Q7 a a:=by unfold Q7 KI; grind
theorem Vj (R:List (Int×Int)) (k:Nat):Q7 (AR R k) (AR R k)=(SX R k:Rat):=by
 rw [TR]
 unfold Q7 SX
 simp only [Rat.intCast_add,Rat.intCast_mul]
theorem Gt (t:Bool):WeakL [.bool false,.sl 0 0 (fun _=>.any) t,.bool false,.sl 0 0 (fun _=>.any) t,.bool false,.sl 0 0 (fun _=>.any) t,.bool false,.sl 0 0 (fun _=>.any) t] (vC v0) :=
 have h1:Xb (0:Rat).num.natAbs=[]:=by rw [Rat.zero_num]; simp [XY]
 have h2:Xb (qd (0:Rat))=[]:=CR rfl
 ⟨Weak.rfl' _,Qv h1,Weak.rfl' _,Qv h2,Weak.rfl' _,Qv h1,Weak.rfl' _,Qv h2,trivial⟩
def Rb (n m:Nat) (i j:Int):Prop:=(0≤i∧i<n)∧0≤j∧j<m
noncomputable def Qb (a b:List (Int×Int)) (i j:Int):V2×Bool :=
 if Rb a.length b.length i j then ((J4 (KI (AR b j.toNat)) (AR a i.toNat)).1,decide ((J4 (KI (AR b j.toNat)) (AR a i.toNat)).2=0)) else (v0,false)
theorem Ft (a b:V2) (h:Q7 a a≠Q7 b b):(J4 a b).1=v0∧(J4 a b).2≠0:=by
 unfold J4
 by_cases h0:Q7 a a=0∨Q7 b b=0
 ·rw [if_pos h0]; exact ⟨rfl,by decide⟩
 ·rw [if_neg h0,if_neg h]; exact ⟨rfl,by decide⟩
theorem iO (a b:V2) (k:Nat) (ha:vb a≤k) (hb:vb b≤k):vb (J4 a b).1≤8*k+2:=by
 have q0:=A4
 have z:vb v0≤8*k+2:=by unfold vb v0; simp only; omega
 have q1:=A3 a a; have q3:=A3 a b; have q4:=Cs a b
 have d1:=gW (Q7 a b) (Q7 a a); have d2:=gW (Qo a b) (Q7 a a)
 unfold J4
 by_cases h0:Q7 a a=0∨Q7 b b=0
 ·rw [if_pos h0]; exact z
 ·rw [if_neg h0]
  by_cases h1:Q7 a a=Q7 b b
  ·rw [if_pos h1]
   show max (qb (Q7 a b / Q7 a a)) (qb (Qo a b / Q7 a a))≤_
   omega
  ·rw [if_neg h1]; exact z
theorem Cy {a b:List (Int×Int)} (ha:QV a) (hb:QV b) (i j:Int):vb (Qb a b i j).1≤26:=by
 unfold Qb
 by_cases h:Rb a.length b.length i j
 ·rw [if_pos h]
  exact iO _ _ 3 (by rw [UM]; exact Bh hb _) (Bh ha _)
 ·rw [if_neg h]
  have q0:=A4
  unfold vb v0; simp only; omega
theorem CL (a b:PV) (i j:Int) (hla:a.rim.length<1000000) (hlb:b.rim.length<1000000) (na:QV a.rim) (nb:QV b.rim):Fn Tryz.prog 39 [QW a,QW b,I i,I j] (.tup [vA (Qb a.rim b.rim i j).1,.bool (Qb a.rim b.rim i j).2]):=by
 obtain ⟨R,hR⟩:∃ R,R=Qb a.rim b.rim i j:=⟨_,rfl⟩
 rw [← hR]
 have zret:∀ {s:AS} {ver id':Nat},s.get 8=.ref id' ver 0→s.h[id']?=some (.row ver 8 (Xp Z8))→s.get 9=.bool false→R=(v0,false)→RetOk (QR Tryz.prog Tryz.f39 [3,40000004,40000005] [] (.tup [vA R.1,.bool R.2])) s:=fun h1 h2 h3 h4=>by
  subst h4
  exact Jm rfl (Xr DD h1 h2 rfl) (by unfold QT; rfl) (Xt (Xn _) (XV Zx)) (by rw [h3]; exact (X3 _).sees _)
 refine Fq Tryz.call39 Tryz.func39 12 [] [3,40000004,40000005] [] (by simp [Xz,X9]) (X0 1000 ?_)
 by_cases g0:i<0
 ·have f0:(i<0)=True:=eq_true g0
  simp only [AS.start,QW,XH,f0,↓X2,wA,seval,wE]
  exact zret rfl rfl rfl (by rw [hR]; unfold Qb; rw [if_neg (by unfold Rb; omega)])
 have f0:(i<0)=False:=eq_false g0
 by_cases g1:(a.rim.length:Int)≤i
 ·have f1:((a.rim.length:Int)≤i)=True:=eq_true g1
  simp only [AS.start,QW,XH,f0,f1,↓X2,wA,seval,wE]
  exact zret rfl rfl rfl (by rw [hR]; unfold Qb; rw [if_neg (by unfold Rb; omega)])
 have f1:((a.rim.length:Int)≤i)=False:=eq_false g1
 by_cases g2:j<0
 ·have f2:(j<0)=True:=eq_true g2
  simp only [AS.start,QW,XH,f0,f1,f2,↓X2,wA,seval,wE]
  exact zret rfl rfl rfl (by rw [hR]; unfold Qb; rw [if_neg (by unfold Rb; omega)])
 have f2:(j<0)=False:=eq_false g2
 by_cases g3:(b.rim.length:Int)≤j
 ·have f3:((b.rim.length:Int)≤j)=True:=eq_true g3
  simp only [AS.start,QW,XH,f0,f1,f2,f3,↓X2,wA,seval,wE]
  exact zret rfl rfl rfl (by rw [hR]; unfold Qb; rw [if_neg (by unfold Rb; omega)])
 have f3:((b.rim.length:Int)≤j)=False:=eq_false g3
 obtain ⟨i,rfl⟩:∃ n:Nat,i=n:=⟨i.toNat,by omega⟩
 obtain ⟨j,rfl⟩:∃ n:Nat,j=n:=⟨j.toNat,by omega⟩
 have hin:Rb a.rim.length b.rim.length i j:=by unfold Rb; omega
 have hR1:R=((J4 (KI (AR b.rim j)) (AR a.rim i)).1,decide ((J4 (KI (AR b.rim j)) (AR a.rim i)).2=0)):=by rw [hR]; unfold Qb; rw [if_pos hin]; rfl
 have s1:=Fd a i (by omega) hla na
 have s2:=Fd b j (by omega) hlb nb
 simp only [AS.start,QW,XH,f0,f1,f2,f3,↓X2,wA,seval,wE]
 refine X1 s1 rfl ?_
 simp only [f0,f1,f2,f3,↓X2,wA,seval,wE]
 refine X1 s2 rfl ?_
 by_cases hs:SX a.rim i=SX b.rim j
 rotate_left
 ·have fs:(SX a.rim i=SX b.rim j)=False:=eq_false hs
  simp only [fs,↓X2,wA,seval,wE]
  refine zret rfl rfl rfl ?_
  have hd:=Ft (KI (AR b.rim j)) (AR a.rim i) (by rw [kX,Vj,Vj]; exact fun h=>hs (Rat.intCast_inj.1 h).symm)
  rw [hR1,hd.1,decide_eq_false hd.2]
 have fs:(SX a.rim i=SX b.rim j)=True:=eq_true hs
 have e1:=RL b j (by omega) hlb nb
 have e2:=RL a i (by omega) hla na
 have k1:=Bh nb j; have k2:=Bh na i
 have o1:=Fi (-1) 1 ⟨by omega,by omega⟩ ⟨by omega,by omega⟩
 rw [show Rat.divInt (-1) 1 = -1 by decide +kernel] at o1
 have o2:=Nu (AR b.rim j) (-1) (by unfold vm; omega) (by have:=DL (-1) 1 ⟨by omega,by omega⟩ ⟨by omega,by omega⟩; rw [show Rat.divInt (-1) 1 = -1 by decide +kernel] at this; unfold vm; omega)
 rw [aM] at o2
 have o3:=ap (KI (AR b.rim j)) (AR a.rim i) (by rw [UM]; omega) (by omega)
 generalize J4 (KI (AR b.rim j)) (AR a.rim i)=X at *
 simp only [fs,↓X2,wA,seval,wE]
 refine X1 e1 rfl ?_
 simp only [↓X2,wA,seval,wE]
 refine X1 o1 rfl ?_
 simp only [↓X2,wA,seval,wE]
 refine X1 o2 rfl ?_
 simp only [↓X2,wA,seval,wE]
 refine X1 e2 rfl ?_
 simp only [↓X2,wA,seval,wE]
 refine X1 o3 rfl ?_
 simp only [↓X2,wA,seval,wE]
 subst hR1
 exact Jm rfl (Xr DD rfl rfl rfl) (by unfold QT; rfl) (Xt (Xn _) (XV (Q5 (vC X.1)))) ((X3 _).sees _)
theorem Ur (a b:PV) (i j:Int) (hla:a.rim.length<1000000) (hlb:b.rim.length<1000000) (na:QV a.rim) (nb:QV b.rim):Fn Tryz.prog 40 [QW a,QW b,I i,I j] (.tup [vA (Qb a.rim b.rim i j).1,.bool (Qb a.rim b.rim i j).2]):=by
 obtain ⟨R,hR⟩:∃ R,R=Qb a.rim b.rim i j:=⟨_,rfl⟩
 rw [← hR]
 have zret:∀ {s:AS} {ver id':Nat},s.get 8=.ref id' ver 0→s.h[id']?=some (.row ver 8 (Xp Z8))→s.get 9=.bool false→R=(v0,false)→RetOk (QR Tryz.prog Tryz.f40 [] [] (.tup [vA R.1,.bool R.2])) s:=fun h1 h2 h3 h4=>by
  subst h4
  exact Jm rfl (Xr DD h1 h2 rfl) (by unfold QT; rfl) (Xt (Xn _) (XV Zx)) (by rw [h3]; exact (X3 _).sees _)
 refine Fq Tryz.call40 Tryz.func40 14 [] [] [] (by simp [Xz,X9]) (X0 1000 ?_)
 by_cases g0:i<0
 ·have f0:(i<0)=True:=eq_true g0
  simp only [AS.start,QW,XH,f0,↓X2,wA,seval,wE]
  exact zret rfl rfl rfl (by rw [hR]; unfold Qb; rw [if_neg (by unfold Rb; omega)])
 have f0:(i<0)=False:=eq_false g0
 by_cases g1:(a.rim.length:Int)≤i
 ·have f1:((a.rim.length:Int)≤i)=True:=eq_true g1
  simp only [AS.start,QW,XH,f0,f1,↓X2,wA,seval,wE]
  exact zret rfl rfl rfl (by rw [hR]; unfold Qb; rw [if_neg (by unfold Rb; omega)])
 have f1:((a.rim.length:Int)≤i)=False:=eq_false g1
 by_cases g2:j<0
 ·have f2:(j<0)=True:=eq_true g2
  simp only [AS.start,QW,XH,f0,f1,f2,↓X2,wA,seval,wE]
  exact zret rfl rfl rfl (by rw [hR]; unfold Qb; rw [if_neg (by unfold Rb; omega)])
 have f2:(j<0)=False:=eq_false g2
 by_cases g3:(b.rim.length:Int)≤j
 ·have f3:((b.rim.length:Int)≤j)=True:=eq_true g3
  simp only [AS.start,QW,XH,f0,f1,f2,f3,↓X2,wA,seval,wE]
  exact zret rfl rfl rfl (by rw [hR]; unfold Qb; rw [if_neg (by unfold Rb; omega)])
 have f3:((b.rim.length:Int)≤j)=False:=eq_false g3
 obtain ⟨i,rfl⟩:∃ n:Nat,i=n:=⟨i.toNat,by omega⟩
 obtain ⟨j,rfl⟩:∃ n:Nat,j=n:=⟨j.toNat,by omega⟩
 have hin:Rb a.rim.length b.rim.length i j:=by unfold Rb; omega
 have hR1:R=((J4 (KI (AR b.rim j)) (AR a.rim i)).1,decide ((J4 (KI (AR b.rim j)) (AR a.rim i)).2=0)):=by rw [hR]; unfold Qb; rw [if_pos hin]; rfl
 have e1:=RZ b j (by omega) hlb nb
 have e2:=RZ a i (by omega) hla na
 have k1:=Bh nb j; have k2:=Bh na i
 have o2:=JJ v0 (AR b.rim j) (by have:=A4; unfold vb v0 rm; simp only; omega) (by unfold rm; omega)
 rw [rg] at o2
 have o3:=Ox (KI (AR b.rim j)) (AR a.rim i) (by rw [UM]; omega) (by omega)
 generalize J4 (KI (AR b.rim j)) (AR a.rim i)=X at *
 simp only [AS.start,QW,XH,f0,f1,f2,f3,↓X2,wA,seval,wE]
 refine X1 e2 rfl ?_
 simp only [↓X2,wA,seval,wE]
 refine X1 e1 rfl ?_
 simp only [↓X2,wA,seval,wE]
 refine Q3 o2 ⟨XV (Gt _),Weak.rfl' _,trivial⟩ ?_
 simp only [↓X2,wA,seval,wE]
 refine X1 o3 rfl ?_
 simp only [↓X2,wA,seval,wE]
 subst hR1
 exact Jm rfl (Xr DD rfl rfl rfl) (by unfold QT; rfl) (Xt (Xn _) (XV (Q5 (vC X.1)))) ((X3 _).sees _)
def xK (n:Nat) (f:FV) (k:Nat):Nat:=((f.EA+k) % n).toNat
def yK (m:Nat) (f:FV) (k:Nat):Nat:=((f.EB - k) % m).toNat
theorem M1 (n:Nat) (f:FV) (k:Nat) (h:0<n):(f.EA+k) % (n:Int)=(xK n f k:Int):=by
 have:=Int.emod_nonneg (f.EA+k) (show (n:Int)≠0 by omega)
 unfold xK; omega
theorem SV (m:Nat) (f:FV) (k:Nat) (h:0<m):(f.EB - k) % (m:Int)=(yK m f k:Int):=by
 have:=Int.emod_nonneg (f.EB - k) (show (m:Int)≠0 by omega)
 unfold yK; omega
theorem SU (n:Nat) (f:FV) (k:Nat) (h:0<n):xK n f k<n:=by
 have:=M1 n f k h
 have:=Int.emod_lt_of_pos (f.EA+k) (show (0:Int)<n by omega)
 omega
theorem je (m:Nat) (f:FV) (k:Nat) (h:0<m):yK m f k<m:=by
 have:=SV m f k h
 have:=Int.emod_lt_of_pos (f.EB - k) (show (0:Int)<m by omega)
 omega
def Du (n m:Nat) (f:FV):List (Int×Int):=(List.range f.M.toNat).map fun k=>((xK n f k:Int),(yK m f k:Int))
theorem Et {α:Type} (f:Nat→α) (d:α) (n j:Nat) (h:j<n):((List.range n).map f).getD j d=f j:=by
 rw [List.getD_eq_getElem?_getD,List.getElem?_map,List.getElem?_range h]; rfl
theorem Bs (n m:Nat) (f:FV):(Du n m f).length=f.M.toNat:=by simp [Du]
theorem mw {P:Program} {fn:Func} {str hcs:List Nat} {s:AS} {t id ver:Nat} (L:List (Int×Int)) (hr:fn.results=#[.tmp t]) (hs:s.get t=.osl id ver 2 0 L.length) (ho:s.h[id]?=some (.row ver (L.length*2) (Xs Kd 2 (0,0) L))):RetOk (QR P fn str hcs (Dj L)) s:=by
 refine Ba hr ?_
 rw [hs,Xf]
 refine Qw (.inl ho) (by omega) (fun h=>by rw [h]) fun j hj=>?_
 rw [Nat.zero_add]
 exact (Xe (Ko _) _).sees _
theorem En (c:Int×Int):∀ j,j<2→((Kd c).getD j .any).one=true:=fun j hj=>by
 match j,hj with
 | 0,_=>rfl
 | 1,_=>rfl
 | j+2,h=>omega
theorem FC (a b:PV) (f:FV) (hf:Bc a.rim.length b.rim.length f) (ha:a.rim.length<1000000) (hb:b.rim.length<1000000):Fn Tryz.prog 152 [QW a,QW b,Zc f] (Dj (Du a.rim.length b.rim.length f)):=by
 obtain ⟨⟨s1,s2⟩,⟨s3,s4⟩,s5,s6,s7⟩:=hf
 obtain ⟨N,hN⟩:∃ N:Nat,f.M=N:=⟨f.M.toNat,by omega⟩
 obtain ⟨L,hL⟩:∃ L,L=Du a.rim.length b.rim.length f:=⟨_,rfl⟩
 have hlen:L.length=N:=by rw [hL,Bs,hN]; rfl
 have hat:∀ k,k<N→L.getD k (0,0)=((xK a.rim.length f k:Int),(yK b.rim.length f k:Int)):=fun k hk=>by rw [hL]; exact Et _ _ _ _ (by omega)
 rw [← hL]
 have ba:XK 4 (.con 0 25 (Xp (XH a)))=True:=eq_true (fun j _=>X6 (Xe (XA a) j))
 have bb:XK 4 (.con 0 25 (Xp (XH b)))=True:=eq_true (fun j _=>X6 (Xe (XA b) j))
 have bf:XK 4 (.con 0 29 (Xp (XW f)))=True:=eq_true (fun j _=>X6 (Xe (XU f) j))
 have br:∀ i l n,XK 4 (.row i n (Xs Kd 2 (0,0) l))=True:=fun i l n=>eq_true fun j _=>X6 (Xe (Ko _) _)
 refine Fq Tryz.call152 Tryz.func152 9 [10,11] [5,60000003,60000004,60000005] [] (by simp [Xz,Qg]) (X0 1000 ?_)
 simp only [AS.start,QW,XH,Zc,XW,↓X2,wA,seval,wE]
 refine Xg (fun k:Nat=>⟨9,[10,11],[.any,.any,.any,.ref 0 0 0,.ref 1 0 0,.ref 2 0 0,.any,.osl 3 k 2 0 k,.any],[(10,I f.M),(11,I k)],[.con 0 25 (Xp (XH a)),.con 0 25 (Xp (XH b)),.con 0 29 (Xp (XW f)),.row k (k*2) (Xs Kd 2 (0,0) (L.take k))]⟩) (fun k=>k≤N) (fun k=>N - k) 0 (by omega)
  (Sub.trans (Q2 0 rfl) (Sub.trans (Q2 1 rfl) (Sub.trans (Q2 2 rfl) (Sub.trans (Q4 7 2 (Xs Kd 2 (0,0) []) rfl) (Xa rfl (by simp [AS.put,Xh,I]) (by simp [AS.put,Xi,Xw,I]) (by simp [AS.put,XH,XW,Xf,Xo,X4,I])))))) ?_
 intro k hk next
 have w1:=wj k (by omega)
 by_cases hk2:k<N
 ·have f1:((k:Int)<f.M)=True:=eq_true (by omega)
  have wx:IntKind.i64.wrap (f.EA+(k:Int))=f.EA+(k:Int):=by rw [IntKind.wrap_i64]; omega
  have wy:IntKind.i64.wrap (f.EB - (k:Int))=f.EB - (k:Int):=by rw [IntKind.wrap_i64]; omega
  have c1:=Ai (f.EA+(k:Int)) a.rim.length (by omega) (by omega) (by omega)
  have c2:=Ai (f.EB - (k:Int)) b.rim.length (by omega) (by omega) (by omega)
  rw [M1 _ _ _ (by omega)] at c1
  rw [SV _ _ _ (by omega)] at c2
  have hap:=XO Kd 2 (0,0) (L.take k) (L.getD k (0,0)) (by omega)
  rw [← BG _ _ (by omega),hat k hk2,show (L.take k).length=k by simp; omega] at hap
  refine X0 1000 ?_
  simp only [XH,XW,Xf,w1,wx,wy,f1,Int.toNat_natCast,↓X2,wA,seval,wE]
  refine X1 c1 rfl ?_
  simp only [XH,XW,Xf,w1,wx,wy,f1,Int.toNat_natCast,↓X2,wA,seval,wE]
  refine X1 c2 rfl ?_
  simp only [XH,XW,Xf,w1,wx,wy,f1,Int.toNat_natCast,↓X2,wA,seval,wE]
  exact ⟨⟨En ((xK a.rim.length f k:Int),(yK b.rim.length f k:Int)),by omega,by omega⟩,next (k+1) _ (by omega) (by omega) (Xv (m:=4) (Nat.zero_le _) rfl (by simp [Xh,I]) (by simp [Xi,Xw,I]) (by rw [← hap]; simp [XH,XW,Xf,Xo,X4,I,Kd]) (by simp [Xy]) (by simp [Xy]) (by simp [ba,bb,bf,br]))⟩
 obtain rfl:k=N:=by omega
 have f1:((k:Int)<f.M)=False:=eq_false (by omega)
 refine X0 1000 ?_
 simp only [XH,XW,f1,↓X2,wA,seval,wE]
 rw [List.take_of_length_le (by omega)]
 exact mw _ rfl (by rw [hlen]; rfl) (by rw [hlen]; rfl)
def Mh (wa wb:Bool) (x y:Int):Bool:=wa || wb || (decide (x≠y) && decide (x≠0) && decide (y≠0))
def Pm (a b:PV) (f:FV) (k:Nat):Bool:=Mh (a.worn.getD (xK a.rim.length f k) false) (b.worn.getD (yK b.rim.length f k) false) (a.marks.getD (xK a.rim.length f k) 0) (b.marks.getD (yK b.rim.length f k) 0)
def Ey (a b:PV) (f:FV):Prop:=∀ k,k<f.M.toNat→Pm a b f k=false
theorem Pn (wa wb:Bool) (x y:Int) :
  (Mh wa wb x y=true∧wa=true∧True∧True∧True∧True)∨(Mh wa wb x y=true∧wa=false∧wb=true∧True∧True∧True)∨(Mh wa wb x y=false∧wa=false∧wb=false∧(x=y)=True∧True∧True) ∨
  (Mh wa wb x y=false∧wa=false∧wb=false∧(x=y)=False∧(x=0)=True∧True)∨(Mh wa wb x y=false∧wa=false∧wb=false∧(x=y)=False∧(x=0)=False∧(y=0)=True) ∨
  (Mh wa wb x y=true∧wa=false∧wb=false∧(x=y)=False∧(x=0)=False∧(y=0)=False):=by
 unfold Mh
 cases wa
 rotate_left
 ·exact .inl ⟨rfl,rfl,trivial,trivial,trivial,trivial⟩
 cases wb
 rotate_left
 ·exact .inr (.inl ⟨rfl,rfl,rfl,trivial,trivial,trivial⟩)
 by_cases h1:x=y
 ·exact .inr (.inr (.inl ⟨by simp [h1],rfl,rfl,eq_true h1,trivial,trivial⟩))
 by_cases h2:x=0
 ·exact .inr (.inr (.inr (.inl ⟨by simp [h2],rfl,rfl,eq_false h1,eq_true h2,trivial⟩)))
 by_cases h3:y=0
 ·exact .inr (.inr (.inr (.inr (.inl ⟨by simp [h3],rfl,rfl,eq_false h1,eq_false h2,eq_true h3⟩))))
 ·exact .inr (.inr (.inr (.inr (.inr ⟨by simp [h1,h2,h3],rfl,rfl,eq_false h1,eq_false h2,eq_false h3⟩))))
structure PV.even (p:PV):Prop where
 rim:p.rim.length<1000000
 worn:p.worn.length=p.rim.length
 marks:p.marks.length=p.rim.length
 near:QV p.rim
theorem Hj (a b:PV) (f:FV) (hf:Bc a.rim.length b.rim.length f) (ha:a.even) (hb:b.even):Fn Tryz.prog 132 [QW a,QW b,Zc f] (.bool (decide (Ey a b f))):=by
 have ce:=FC a b f hf ha.rim hb.rim
 obtain ⟨⟨s1,s2⟩,⟨s3,s4⟩,s5,s6,s7⟩:=hf
 obtain ⟨N,hN⟩:∃ N:Nat,f.M=N:=⟨f.M.toNat,by omega⟩
 have la:=ha.rim; have lb:=hb.rim
 obtain ⟨V,hV⟩:∃ V,V=decide (Ey a b f):=⟨_,rfl⟩
 rw [← hV]
 obtain ⟨L,hL⟩:∃ L,L=Du a.rim.length b.rim.length f:=⟨_,rfl⟩
 have hlen:L.length=N:=by rw [hL,Bs,hN]; rfl
 have hat:∀ k,k<N→L.getD k (0,0)=((xK a.rim.length f k:Int),(yK b.rim.length f k:Int)):=fun k hk=>by rw [hL]; exact Et _ _ _ _ (by omega)
 rw [← hL] at ce
 clear hL
 have fin:∀ {s:AS} {v:Bool},s.get 6=.bool v→v=V→RetOk (QR Tryz.prog Tryz.f132 [] [] (.bool V)) s:=fun h e=>Xu rfl h (X3 _) (by rw [e])
 have ba:XK 3 (.row 0 25 (Xp (XH a)))=True:=eq_true (XE (XA a))
 have bb:XK 3 (.row 0 25 (Xp (XH b)))=True:=eq_true (XE (XA b))
 have bf:XK 3 (.row 0 29 (Xp (XW f)))=True:=eq_true (XE (XU f))
 have bL:JM 3 (Dj L)=True:=eq_true (X6 (QF _))
 refine Fq Tryz.call132 Tryz.func132 12 [15,16,17] [] [] (by simp [Xz,Qg]) (X0 1000 ?_)
 simp only [AS.start,QW,XH,Zc,XW,↓X2,wA,seval,wE]
 refine X1 ce rfl ?_
 simp only [Xf,hlen,↓X2,wA,seval,wE]
 refine Xg (fun k:Nat=>⟨12,[15,16,17],[.any,.any,.any,.ref 0 0 0,.ref 1 0 0,.ref 2 0 0,.any,.bool true,.any,.any,.any,.any],[(15,Dj L),(16,I N),(17,I k)],[.row 0 25 (Xp (XH a)),.row 0 25 (Xp (XH b)),.row 0 29 (Xp (XW f))]⟩) (fun k=>k≤N∧∀ j,j<k→Pm a b f j=false) (fun k=>N - k) 0 ⟨by omega,by omega⟩
  (Xa rfl (by simp [Xh,I]) (by simp [Xi,Xw,Xf,hlen,I]) (by simp [XH,XW,Xf,Xo,X4,I])) ?_
 rintro k ⟨hk,hok⟩ next
 have w1:=wj k (by omega)
 by_cases hk2:k<N
 rotate_left
 ·obtain rfl:k=N:=by omega
  refine X0 1000 ?_
  simp only [XH,XW,Int.lt_irrefl,Nat.lt_irrefl,↓X2,wA,seval,wE]
  exact fin rfl (by rw [hV,decide_eq_true]; exact fun j hj=>hok j (by omega))
 have nx:=next (k+1)
 have f1:((k:Int)<N)=True:=eq_true (by omega)
 have f2:(k<N)=True:=eq_true hk2
 have f3:(k*2+2≤N*2)=True:=eq_true (by omega)
 have v1:=mv L k
 rw [hat k hk2] at v1
 have hx:=SU a.rim.length f k (by omega)
 have hy:=je b.rim.length f k (by omega)
 have ex:=M1 a.rim.length f k (by omega)
 have ey:=SV b.rim.length f k (by omega)
 have six:=Pn (a.worn.getD (xK a.rim.length f k) false) (b.worn.getD (yK b.rim.length f k) false) (a.marks.getD (xK a.rim.length f k) 0) (b.marks.getD (yK b.rim.length f k) 0)
 have hbad:Pm a b f k=Mh (a.worn.getD (xK a.rim.length f k) false) (b.worn.getD (yK b.rim.length f k) false) (a.marks.getD (xK a.rim.length f k) 0) (b.marks.getD (yK b.rim.length f k) 0):=rfl
 rw [← hbad] at six
 clear hbad
 have no:Pm a b f k=true→false=V:=fun h=>by rw [hV,decide_eq_false]; intro hp; rw [hp k (by omega)] at h; cases h
 generalize xK a.rim.length f k=X at *
 generalize yK b.rim.length f k=Y at *
 have g1:((X:Int)<a.worn.length)=True:=eq_true (by have:=ha.worn; omega)
 have g2:(X<a.worn.length)=True:=eq_true (by have:=ha.worn; omega)
 have g3:((Y:Int)<b.worn.length)=True:=eq_true (by have:=hb.worn; omega)
 have g4:(Y<b.worn.length)=True:=eq_true (by have:=hb.worn; omega)
 have g5:((X:Int)<a.marks.length)=True:=eq_true (by have:=ha.marks; omega)
 have g6:(X<a.marks.length)=True:=eq_true (by have:=ha.marks; omega)
 have g7:((Y:Int)<b.marks.length)=True:=eq_true (by have:=hb.marks; omega)
 have g8:(Y<b.marks.length)=True:=eq_true (by have:=hb.marks; omega)
 have n2:((2:Nat):Int)=2:=rfl
 have t1:(1:Int).toNat=1:=rfl
 rcases six with ⟨hB,q1,q2,q3,q4,q5⟩ | ⟨hB,q1,q2,q3,q4,q5⟩ | ⟨hB,q1,q2,q3,q4,q5⟩ | ⟨hB,q1,q2,q3,q4,q5⟩ | ⟨hB,q1,q2,q3,q4,q5⟩ | ⟨hB,q1,q2,q3,q4,q5⟩
 all_goals
  refine X0 1000 ?_
  simp only [XH,XW,Xf,Xo,X4,hlen,w1,f1,f2,f3,v1,g1,g2,g3,g4,g5,g6,g7,g8,q1,q2,q3,q4,q5,n2,t1,Int.toNat_zero,Int.reduceLT,Int.reduceLE,Int.toNat_natCast,↓X2,wA,seval,wE]
  first
   | exact fin rfl (no hB)
   | exact nx _ ⟨by omega,Kw.2 ⟨hok,hB⟩⟩ (by omega) (Xv (m:=3) (Nat.zero_le _) rfl (by simp [Xh,I]) (by simp [Xi,Xw,Xf,hlen,I]) (by simp [XH,XW,Xf,Xo,X4,I]) (by simp [Xy]) (by simp [Xy,bL]) (by simp [ba,bb,bf]))
theorem OE (a b:PV) (f:FV) (hf:Bc a.rim.length b.rim.length f) (ha:a.even) (hb:b.even):Fn Tryz.prog 149 [QW a,QW b,Zc f] (.bool (decide (Ey a b f))):=by
 obtain ⟨⟨s1,s2⟩,⟨s3,s4⟩,s5,s6,s7⟩:=hf
 obtain ⟨N,hN⟩:∃ N:Nat,f.M=N:=⟨f.M.toNat,by omega⟩
 have la:=ha.rim; have lb:=hb.rim
 obtain ⟨V,hV⟩:∃ V,V=decide (Ey a b f):=⟨_,rfl⟩
 rw [← hV]
 have fin:∀ {s:AS} {v:Bool},s.get 6=.bool v→v=V→RetOk (QR Tryz.prog Tryz.f149 [] [] (.bool V)) s:=fun h e=>Xu rfl h (X3 _) (by rw [e])
 refine Fq Tryz.call149 Tryz.func149 10 [] [] [] (by simp [Xz,Qg]) (X0 1000 ?_)
 simp only [AS.start,QW,XH,Zc,XW,↓X2,wA,seval,wE]
 refine Xg (fun k:Nat=>⟨10,[],[.any,.any,.any,.ref 0 0 0,.ref 1 0 0,.ref 2 0 0,.bool false,I k,.any,.any],[],[.row 0 25 (Xp (XH a)),.row 0 25 (Xp (XH b)),.row 0 29 (Xp (XW f))]⟩) (fun k=>k≤N∧∀ j,j<k→Pm a b f j=false) (fun k=>N - k) 0 ⟨by omega,by omega⟩
  (Xa rfl (by simp [Xh,I]) (by simp [Xi]) (by simp [XH,XW,Xf,Xo,X4,I])) ?_
 rintro k ⟨hk,hok⟩ next
 have w1:=wj k (by omega)
 by_cases hk2:k<N
 rotate_left
 ·have f1:((k:Int)<f.M)=False:=eq_false (by omega)
  refine X0 1000 ?_
  simp only [XH,XW,f1,↓X2,wA,seval,wE]
  exact fin rfl (by rw [hV,decide_eq_true]; exact fun j hj=>hok j (by omega))
 have nx:=next (k+1)
 have f1:((k:Int)<f.M)=True:=eq_true (by omega)
 have wx:IntKind.i64.wrap (f.EA+(k:Int))=f.EA+(k:Int):=by rw [IntKind.wrap_i64]; omega
 have wy:IntKind.i64.wrap (f.EB - (k:Int))=f.EB - (k:Int):=by rw [IntKind.wrap_i64]; omega
 have c1:=QM (f.EA+(k:Int)) a.rim.length (by omega) (by omega) (by omega)
 have c2:=QM (f.EB - (k:Int)) b.rim.length (by omega) (by omega) (by omega)
 have hx:=SU a.rim.length f k (by omega)
 have hy:=je b.rim.length f k (by omega)
 have ex:=M1 a.rim.length f k (by omega)
 have ey:=SV b.rim.length f k (by omega)
 have six:=Pn (a.worn.getD (xK a.rim.length f k) false) (b.worn.getD (yK b.rim.length f k) false) (a.marks.getD (xK a.rim.length f k) 0) (b.marks.getD (yK b.rim.length f k) 0)
 have hbad:Pm a b f k=Mh (a.worn.getD (xK a.rim.length f k) false) (b.worn.getD (yK b.rim.length f k) false) (a.marks.getD (xK a.rim.length f k) 0) (b.marks.getD (yK b.rim.length f k) 0):=rfl
 rw [← hbad] at six
 clear hbad
 have no:Pm a b f k=true→false=V:=fun h=>by rw [hV,decide_eq_false]; intro hp; rw [hp k (by omega)] at h; cases h
 rw [ex] at c1
 rw [ey] at c2
 generalize xK a.rim.length f k=X at *
 generalize yK b.rim.length f k=Y at *
 have g1:((X:Int)<a.worn.length)=True:=eq_true (by have:=ha.worn; omega)
 have g2:(X<a.worn.length)=True:=eq_true (by have:=ha.worn; omega)
 have g3:((Y:Int)<b.worn.length)=True:=eq_true (by have:=hb.worn; omega)
 have g4:(Y<b.worn.length)=True:=eq_true (by have:=hb.worn; omega)
 have g5:((X:Int)<a.marks.length)=True:=eq_true (by have:=ha.marks; omega)
 have g6:(X<a.marks.length)=True:=eq_true (by have:=ha.marks; omega)
 have g7:((Y:Int)<b.marks.length)=True:=eq_true (by have:=hb.marks; omega)
 have g8:(Y<b.marks.length)=True:=eq_true (by have:=hb.marks; omega)
 have n2:((2:Nat):Int)=2:=rfl
 have t1:(1:Int).toNat=1:=rfl
 rcases six with ⟨hB,q1,q2,q3,q4,q5⟩ | ⟨hB,q1,q2,q3,q4,q5⟩ | ⟨hB,q1,q2,q3,q4,q5⟩ | ⟨hB,q1,q2,q3,q4,q5⟩ | ⟨hB,q1,q2,q3,q4,q5⟩ | ⟨hB,q1,q2,q3,q4,q5⟩
 all_goals
  refine X0 1000 ?_
  simp only [XH,XW,Xf,Xo,X4,w1,wx,wy,f1,Int.toNat_natCast,↓X2,wA,seval,wE]
  refine X1 c1 rfl ?_
  simp only [XH,XW,Xf,Xo,X4,w1,wx,wy,f1,Int.toNat_natCast,↓X2,wA,seval,wE]
  refine X1 c2 rfl ?_
  simp only [XH,XW,Xf,Xo,X4,w1,g1,g2,g3,g4,g5,g6,g7,g8,q1,q2,q3,q4,q5,n2,t1,Int.toNat_zero,Int.reduceLT,Int.reduceLE,Int.toNat_natCast,↓X2,wA,seval,wE]
  first
   | exact fin rfl (no hB)
   | exact nx _ ⟨by omega,Kw.2 ⟨hok,hB⟩⟩ (by omega) (Xa rfl (by simp [Xh,I]) (by simp [Xi]) (by simp [XH,XW,Xf,Xo,X4,I]))
def R9 (p:V2→Bool) (s:List V2):Int:=if s.any p=true then (s.findIdx p:Nat) else -1
theorem Ex {s:List V2} {j:Nat} (h:j<s.length):s.getD j v0∈s:=by
 rw [List.getD_eq_getElem?_getD,List.getElem?_eq_getElem h]; exact List.getElem_mem h
theorem fR {p:V2→Bool} {s:List V2} {j:Nat} (hj:j<s.length) (h:p (s.getD j v0)=true) (hno:∀ i,i<j→p (s.getD i v0)=false):R9 p s=j:=by
 have at_:∀ i (hi:i<s.length),s.getD i v0=s[i]:=fun i hi=>by rw [List.getD_eq_getElem?_getD,List.getElem?_eq_getElem hi]; rfl
 have e:s.findIdx p=j:=by
  rw [List.findIdx_eq hj]
  exact ⟨by rw [← at_ j hj]; exact h,fun i hi=>by rw [← at_ i (by omega)]; exact hno i hi⟩
 unfold R9
 rw [if_pos (List.any_eq_true.2 ⟨_,Ex hj,h⟩),e]
theorem YO {p:V2→Bool} {s:List V2} (hno:∀ i,i<s.length→p (s.getD i v0)=false):R9 p s = -1:=by
 unfold R9
 rw [if_neg]
 intro h
 obtain ⟨x,hx,hp⟩:=List.any_eq_true.1 h
 obtain ⟨i,hi,rfl⟩:=List.getElem_of_mem hx
 have:=hno i hi
 rw [List.getD_eq_getElem?_getD,List.getElem?_eq_getElem hi] at this
 simp only [Option.getD_some] at this
 rw [this] at hp; cases hp
theorem Ra (p:V2→Bool) (s:List V2):decide (0≤R9 p s)=s.any p:=by
 unfold R9
 cases h:s.any p
 ·simp
 ·rw [if_pos rfl]; exact decide_eq_true (by omega)
theorem UI (s:List V2) (f:FuncId) (caps:List AV) (p:V2→Bool) (hl:s.length<1000000) (hc:∀ a∈caps,Settled a) (hp:∀ x∈s,Fn Tryz.prog f ([vA x] ++ caps) (.bool (p x))) :
  Fn Tryz.prog 205 [Xq s,.fn f caps] (I (R9 p s)):=by
 refine Fn.intro (fn:=Tryz.f205) Tryz.call205 Tryz.func205 rfl mixed 6 [6,7,8] [] [] (by kernel_rfl) (Nat.le_of_ble_eq_true rfl) (by simpa [Xd] using Jl hc) (X0 1000 ?_)
 simp only [AS.start,X5,↓X2,wA,seval,wE]
 refine Xg (fun j:Nat=>⟨6,[6,7,8],[Xq s,.fn f caps,.any,.any,.any,.any],[(6,Xq s),(7,I s.length),(8,I j)],[]⟩) (fun j=>j≤s.length∧∀ i,i<j→p (s.getD i v0)=false) (fun j=>s.length - j) 0 ⟨by omega,by omega⟩
  (Xa rfl (by simp [Xh,X5,I]) (by simp [Xi,Xw,X5,I]) rfl) ?_
 rintro j ⟨hj,hno⟩ next
 have w1:=wj j (by omega)
 by_cases hj2:j<s.length
 ·have f1:((j:Int)<s.length)=True:=eq_true (by omega)
  have f2:(j<s.length)=True:=eq_true hj2
  have f3:(j*8+8≤s.length*8)=True:=eq_true (by omega)
  have v1:=vF s j
  refine X0 1000 ?_
  simp only [X5,w1,f1,f2,f3,v1,Int.toNat_natCast,↓X2,wA,seval,wE]
  refine Q3 (hp _ (Ex hj2)) (Q5 _) ?_
  simp only [w1,↓X2,wA,seval,wE]
  refine QU (fun ht=>Xu (v:=I j) rfl rfl (X9 _) ?_) (fun hf=>next (j+1) _ ⟨by omega,Kw.2 ⟨hno,hf⟩⟩ (by omega) (Xa rfl (by simp [Xh,X5,I]) (by simp [Xi,Xw,X5,I]) rfl))
  rw [fR hj2 ht hno]
 ·have f1:((j:Int)<s.length)=False:=eq_false (by omega)
  refine X0 1000 ?_
  simp only [X5,w1,f1,↓X2,wA,seval,wE]
  refine Xu (v:=I (-1)) rfl rfl (X9 _) ?_
  rw [YO fun i hi=>hno i (by omega)]
theorem Mw (s:List V2) (f:FuncId) (caps:List AV) (p:V2→Bool) (hl:s.length<1000000) (hc:∀ a∈caps,Settled a) (hp:∀ x∈s,Fn Tryz.prog f ([vA x] ++ caps) (.bool (p x))) :
  Fn Tryz.prog 141 [Xq s,.fn f caps] (.bool (s.any p)):=by
 have hi:=Ra p s
 refine Fn.intro (fn:=Tryz.f141) Tryz.call141 Tryz.func141 rfl mixed 5 [] [] [] (by kernel_rfl) (Nat.le_of_ble_eq_true rfl) (by simpa [Xd] using Jl hc) (X0 1000 ?_)
 simp only [AS.start,↓X2,wA,seval,wE]
 refine X1 (UI s f caps p hl hc hp) rfl ?_
 simp only [↓X2,wA,seval,wE]
 exact Xu (v:=.bool (decide (0≤R9 p s))) rfl rfl (X3 _) (by rw [Ra])
def nY (f:FV):AV:=.ptr 29 (Xp (XW f)) 0
theorem C2 (f:FV):Settled (nY f):=J0 fun j _=>Xe (XU f) j
theorem Yk (t:V2) (f:FV) (ht:vb t≤vm) (hf:vb f.turn≤vm):Fn Tryz.prog 142 ([vA t] ++ [nY f]) (.bool (decide (t=f.turn))):=by
 have c1:=BW t f.turn ht hf
 refine Fq Tryz.call142 Tryz.func142 4 [] [] [] (by simp [Xn,C2]) (X0 1000 ?_)
 simp only [AS.start,nY,XW,List.cons_append,List.nil_append,↓X2,wA,seval,wE]
 refine X1 c1 rfl ?_
 simp only [↓X2,wA,seval,wE]
 exact Xu rfl rfl (X3 _) rfl
noncomputable def H3 (a b:PV) (f:FV) (k:Nat):V2×Bool:=Qb a.rim b.rim (xK a.rim.length f k) (yK b.rim.length f k)
noncomputable def Qs (a b:PV) (f:FV):Nat→List V2
 | 0=>[]
 | k+1=>if (H3 a b f k).2=true then Qs a b f k ++ [(H3 a b f k).1] else Qs a b f k
theorem Dn (a b:PV) (f:FV):∀ k,(Qs a b f k).length≤k
 | 0=>Nat.le_refl _
 | k+1=>by
  have ih:=Dn a b f k
  simp only [Qs]
  split
  ·rw [List.length_append]; simp only [List.length_singleton]; omega
  ·omega
theorem EW (a b:PV) (f:FV) (ha:QV a.rim) (hb:QV b.rim):∀ k,∀ t∈Qs a b f k,vb t≤26
 | 0=>fun t h=>by simp [Qs] at h
 | k+1=>by
  have ih:=EW a b f ha hb k
  intro t h
  simp only [Qs] at h
  split at h
  ·rcases List.mem_append.1 h with h | h
   ·exact ih t h
   ·simp only [List.mem_cons,List.not_mem_nil,or_false] at h
    subst h; exact Cy ha hb _ _
  ·exact ih t h
def Tt (a b:PV) (f:FV):Prop:=∃ k,k<f.M.toNat∧(H3 a b f k).2=true∧(H3 a b f k).1=f.turn
theorem Ir (a b:PV) (f:FV) (t:V2):∀ n,(Qs a b f n).any (fun x=>decide (x=t))=true↔∃ k,k<n∧(H3 a b f k).2=true∧(H3 a b f k).1=t
 | 0=>by simp [Qs]
 | n+1=>by
  have ih:=Ir a b f t n
  by_cases h:(H3 a b f n).2=true
  ·have e:Qs a b f (n+1)=Qs a b f n ++ [(H3 a b f n).1]:=if_pos h
   rw [e,List.any_append,Bool.or_eq_true,ih]
   simp only [List.any_cons,List.any_nil,Bool.or_false,decide_eq_true_eq]
   constructor
   ·rintro (⟨k,h1,h2⟩ | h1)
    ·exact ⟨k,by omega,h2⟩
    ·exact ⟨n,by omega,h,h1⟩
   ·rintro ⟨k,h1,h2,h3⟩
    by_cases hk:k=n
    ·subst hk; exact .inr h3
    ·exact .inl ⟨k,by omega,h2,h3⟩
  ·have e:Qs a b f (n+1)=Qs a b f n:=if_neg h
   rw [e,ih]
   constructor
   ·rintro ⟨k,h1,h2⟩; exact ⟨k,by omega,h2⟩
   ·rintro ⟨k,h1,h2,h3⟩
    by_cases hk:k=n
    ·subst hk; exact absurd h2 h
    ·exact ⟨k,by omega,h2,h3⟩
theorem Tu (a b:PV) (f:FV) (hf:Bc a.rim.length b.rim.length f) (ha:a.even) (hb:b.even):Fn Tryz.prog 133 [QW a,QW b,Zc f] (Xq (Qs a b f f.M.toNat)):=by
 have ce:=FC a b f hf ha.rim hb.rim
 obtain ⟨⟨s1,s2⟩,⟨s3,s4⟩,s5,s6,s7⟩:=hf
 obtain ⟨N,hN⟩:∃ N:Nat,f.M=N:=⟨f.M.toNat,by omega⟩
 have la:=ha.rim; have lb:=hb.rim
 have hNt:f.M.toNat=N:=by rw [hN]; rfl
 rw [hNt]
 obtain ⟨L,hL⟩:∃ L,L=Du a.rim.length b.rim.length f:=⟨_,rfl⟩
 have hlen:L.length=N:=by rw [hL,Bs,hN]; rfl
 have hat:∀ k,k<N→L.getD k (0,0)=((xK a.rim.length f k:Int),(yK b.rim.length f k:Int)):=fun k hk=>by rw [hL]; exact Et _ _ _ _ (by omega)
 rw [← hL] at ce
 clear hL
 have ba:XK 4 (.row 0 25 (Xp (XH a)))=True:=eq_true (XE (XA a))
 have bb:XK 4 (.row 0 25 (Xp (XH b)))=True:=eq_true (XE (XA b))
 have bf:XK 4 (.row 0 29 (Xp (XW f)))=True:=eq_true (XE (XU f))
 have bL:JM 4 (Dj L)=True:=eq_true (X6 (QF _))
 have hvc:∀ a:V2,∀ x∈vC a,Settled x:=fun a=>by simp [vC,X7,X3]
 have br:∀ i l n,XK 4 (.row i n (Xs vC 8 v0 l))=True:=fun i l n=>eq_true fun j _=>X6 (Xe (hvc _) _)
 refine Fq Tryz.call133 Tryz.func133 12 [15,16,17] [] [] (by simp [Xz,Qg]) (X0 1000 ?_)
 simp only [AS.start,QW,XH,Zc,XW,↓X2,wA,seval,wE]
 refine X1 ce rfl ?_
 simp only [Xf,hlen,↓X2,wA,seval,wE]
 refine Xg (fun k:Nat=>⟨12,[15,16,17],[.any,.any,.any,.ref 0 0 0,.ref 1 0 0,.ref 2 0 0,.any,.osl 3 (Qs a b f k).length 8 0 (Qs a b f k).length,.any,.any,.any,.any],[(15,Dj L),(16,I N),(17,I k)],[.row 0 25 (Xp (XH a)),.row 0 25 (Xp (XH b)),.row 0 29 (Xp (XW f)),.row (Qs a b f k).length ((Qs a b f k).length*8) (Xs vC 8 v0 (Qs a b f k))]⟩) (fun k=>k≤N) (fun k=>N - k) 0 (by omega)
  (Sub.trans (Q4 7 8 (Xs vC 8 v0 []) rfl) (Xa rfl (by simp [AS.put,Qs,Xh,I]) (by simp [AS.put,Xi,Xw,Xf,hlen,I]) (by simp [AS.put,Qs,XH,XW,Xf,Xo,X4,I]))) ?_
 intro k hk next
 have w1:=wj k (by omega)
 have hln:=Dn a b f k
 by_cases hk2:k<N
 rotate_left
 ·obtain rfl:k=N:=by omega
  refine X0 1000 ?_
  simp only [XH,XW,Int.lt_irrefl,Nat.lt_irrefl,↓X2,wA,seval,wE]
  exact LX _ rfl rfl rfl
 have nx:=next (k+1)
 have f1:((k:Int)<N)=True:=eq_true (by omega)
 have f2:(k<N)=True:=eq_true hk2
 have f3:(k*2+2≤N*2)=True:=eq_true (by omega)
 have v1:=mv L k
 rw [hat k hk2] at v1
 have n2:((2:Nat):Int)=2:=rfl
 have t1:(1:Int).toNat=1:=rfl
 have ca:=CL a b (xK a.rim.length f k) (yK b.rim.length f k) la lb ha.near hb.near
 rw [show Qb a.rim b.rim (xK a.rim.length f k) (yK b.rim.length f k)=H3 a b f k from rfl] at ca
 have hs:Qs a b f (k+1)=if (H3 a b f k).2=true then Qs a b f k ++ [(H3 a b f k).1] else Qs a b f k:=rfl
 generalize H3 a b f k=X at *
 obtain ⟨t,ok⟩:=X
 refine X0 1000 ?_
 simp only [XH,XW,Xf,Xo,X4,hlen,w1,f1,f2,f3,v1,n2,t1,Int.toNat_zero,Int.reduceLT,Int.reduceLE,Int.toNat_natCast,↓X2,wA,seval,wE]
 refine X1 ca rfl ?_
 cases ok with
 | false =>
  rw [if_neg (show ¬ ((t,false).2=true) from Bool.false_ne_true)] at hs
  simp only [hs] at nx
  simp only [w1,↓X2,wA,seval,wE]
  exact nx _ (by omega) (by omega) (Xv (m:=4) (Nat.zero_le _) rfl (by simp [Xh,I]) (by simp [Xi,Xw,Xf,hlen,I]) (by simp [XH,XW,Xf,Xo,X4,I]) (by simp [Xy]) (by simp [Xy,bL]) (by simp [ba,bb,bf,br]))
 | true =>
  rw [if_pos rfl] at hs
  have hlen2:(Qs a b f (k+1)).length=(Qs a b f k).length+1:=by rw [hs]; simp
  have hap:=XO vC 8 v0 (Qs a b f k) t (by omega)
  rw [← hs] at hap
  simp only [hlen2] at nx
  simp only [w1,↓X2,wA,seval,wE]
  exact ⟨⟨KX t,by omega,by omega⟩,nx _ (by omega) (by omega) (Xv (m:=4) (Nat.zero_le _) rfl (by simp [Xh,I]) (by simp [Xi,Xw,Xf,hlen,I]) (by rw [← hap]; simp [XH,XW,Xf,Xo,X4,I,vC]) (by simp [Xy]) (by simp [Xy,bL]) (by simp [ba,bb,bf,br]))⟩
noncomputable def VD (x y:Rat):Rat:=if x<y then y else x
noncomputable def VB (x y:Rat):Rat:=if y<x then y else x
theorem qK (x y:Rat) (k:Nat) (hx:qb x≤k) (hy:qb y≤k):qb (VD x y)≤k:=by unfold VD; split <;> assumption
theorem qJ (x y:Rat) (k:Nat) (hx:qb x≤k) (hy:qb y≤k):qb (VB x y)≤k:=by unfold VB; split <;> assumption
theorem MH (x y:Rat) (hx:qb x≤rm) (hy:qb y≤rm):Fn Tryz.prog 125 [qA x,qA y] (qA (VD x y)):=by
 have c1:=Kn x y hx hy
 obtain ⟨R,hR⟩:∃ R,R=qA (VD x y):=⟨_,rfl⟩
 have sR:Settled R:=hR▸Xc _
 rw [← hR]
 refine Fq Tryz.call125 Tryz.func125 5 [] [] [] (by simp [wS]) (X0 1000 ?_); simp (config:={ maxSteps:=2000000 }) only [AS.start,↓X2,wA,seval,wE]
 refine X1 c1 rfl ?_
 by_cases h:x<y
 ·have f1:(QA x y<0)=True:=eq_true ((K9 x y).2 h)
  simp only [f1,↓X2,wA,seval,wE]
  have e:VD x y=y:=if_pos h
  rw [e] at hR
  exact JC rfl Qd rfl rfl rfl sR (hR.trans rfl)
 ·have f1:(QA x y<0)=False:=eq_false fun hh=>h ((K9 x y).1 hh)
  simp only [f1,↓X2,wA,seval,wE]
  have e:VD x y=x:=if_neg h
  rw [e] at hR
  exact JC rfl Qd rfl rfl rfl sR (hR.trans rfl)
theorem LI (x y:Rat) (hx:qb x≤rm) (hy:qb y≤rm):Fn Tryz.prog 126 [qA x,qA y] (qA (VB x y)):=by
 have c1:=Kn x y hx hy
 obtain ⟨R,hR⟩:∃ R,R=qA (VB x y):=⟨_,rfl⟩
 have sR:Settled R:=hR▸Xc _
 rw [← hR]
 refine Fq Tryz.call126 Tryz.func126 5 [] [] [] (by simp [wS]) (X0 1000 ?_); simp (config:={ maxSteps:=2000000 }) only [AS.start,↓X2,wA,seval,wE]
 refine X1 c1 rfl ?_
 by_cases h:y<x
 ·have f1:(0<QA x y)=True:=eq_true ((JL x y).2 h)
  simp only [f1,↓X2,wA,seval,wE]
  have e:VB x y=y:=if_pos h
  rw [e] at hR
  exact JC rfl Qd rfl rfl rfl sR (hR.trans rfl)
 ·have f1:(0<QA x y)=False:=eq_false fun hh=>h ((JL x y).1 hh)
  simp only [f1,↓X2,wA,seval,wE]
  have e:VB x y=x:=if_neg h
  rw [e] at hR
  exact JC rfl Qd rfl rfl rfl sR (hR.trans rfl)
noncomputable def me (g:Nat→Rat):Nat→Rat
 | 0=>g 0
 | k+1=>VD (me g k) (g (k+1))
noncomputable def ma (g:Nat→Rat):Nat→Rat
 | 0=>g 0
 | k+1=>VB (ma g k) (g (k+1))
theorem Lo (g:Nat→Rat) (c:Nat) (h:∀ k,qb (g k)≤c):∀ n,qb (me g n)≤c
 | 0=>h 0
 | n+1=>qK _ _ _ (Lo g c h n) (h _)
theorem Ln (g:Nat→Rat) (c:Nat) (h:∀ k,qb (g k)≤c):∀ n,qb (ma g n)≤c
 | 0=>h 0
 | n+1=>qJ _ _ _ (Ln g c h n) (h _)
def Zh (a b:List (Int×Int)) (f:FV) (k:Nat):V2 :=
 (Jz (a.getD (xK a.length f k) (0,0))).sub (LB f.turn (Jz (b.getD ((f.EB+1 - k) % b.length).toNat (0,0))))
noncomputable def Am (a b:List (Int×Int)) (f:FV) (k:Nat):V2:=⟨me (fun j=>(Zh a b f j).x) k,me (fun j=>(Zh a b f j).y) k⟩
noncomputable def Ak (a b:List (Int×Int)) (f:FV) (k:Nat):V2:=⟨ma (fun j=>(Zh a b f j).x) k,ma (fun j=>(Zh a b f j).y) k⟩
noncomputable def XG (a b:List (Int×Int)) (f:FV) (e:Rat):V2×V2×Bool :=
 if Bc a.length b.length f∧D4 f.turn then
  let lo:=(Am a b f f.M.toNat).sub ⟨e,e⟩
  let hi:=(Ak a b f f.M.toNat).add ⟨e,e⟩
  if hi.x<lo.x∨hi.y<lo.y then (v0,v0,false) else (lo,hi,true)
 else (v0,v0,false)
theorem KA {R:List (Int×Int)} (h:QV R) (i:Nat):vb (Jz (R.getD i (0,0)))≤3:=by
 have:=DH h i
 have q1:=Ap (R.getD i (0,0)).1 3 (by omega) (QO ⟨by omega,by omega⟩)
 have q2:=Ap (R.getD i (0,0)).2 3 (by omega) (QO ⟨by omega,by omega⟩)
 unfold vb Jz
 simp only
 omega
theorem Bf {a b:List (Int×Int)} (ha:QV a) (hb:QV b) (f:FV) (ht:vb f.turn≤1000) (k:Nat):vb (Zh a b f k)≤3000:=by
 have h1:=KA ha (xK a.length f k)
 have h2:=KA hb ((f.EB+1 - k) % b.length).toNat
 unfold Zh
 have h3:=D5 f.turn (Jz (b.getD ((f.EB+1 - k) % b.length).toNat (0,0)))
 have h4:=K7 (Jz (a.getD (xK a.length f k) (0,0))) (LB f.turn (Jz (b.getD ((f.EB+1 - k) % b.length).toNat (0,0))))
 omega
theorem Cn {a b:List (Int×Int)} (ha:QV a) (hb:QV b) (f:FV) (ht:vb f.turn≤1000) (k:Nat):vb (Am a b f k)≤3000:=by
 have h1:=Lo (fun j=>(Zh a b f j).x) 3000 (fun j=>Nat.le_trans (Qu _) (Bf ha hb f ht j)) k
 have h2:=Lo (fun j=>(Zh a b f j).y) 3000 (fun j=>Nat.le_trans (Qp _) (Bf ha hb f ht j)) k
 exact Nat.max_le.2 ⟨h1,h2⟩
theorem Cl {a b:List (Int×Int)} (ha:QV a) (hb:QV b) (f:FV) (ht:vb f.turn≤1000) (k:Nat):vb (Ak a b f k)≤3000:=by
 have h1:=Ln (fun j=>(Zh a b f j).x) 3000 (fun j=>Nat.le_trans (Qu _) (Bf ha hb f ht j)) k
 have h2:=Ln (fun j=>(Zh a b f j).y) 3000 (fun j=>Nat.le_trans (Qp _) (Bf ha hb f ht j)) k
 exact Nat.max_le.2 ⟨h1,h2⟩
theorem Ia {P:Program} {fn:Func} {str hcs:List Nat} {a b c x y z:AV} {s:AS} {r1 r2 r3:ResultVar} (hr:fn.results=#[r1,r2,r3]) (h1:QT P s r1=some x) (h2:QT P s r2=some y) (h3:QT P s r3=some z) (g1:JE s.h x a) (g2:JE s.h y b) (g3:JE s.h z c) :
  RetOk (QR P fn str hcs (.tup [a,b,c])) s :=
 ⟨.tup [x,y,z],by simp [KP,IQ,CG,hr,J6,A0,h1,h2,h3],Zs ⟨g1,g2,g3,trivial⟩⟩
def XP:List AV:=[.bool false,.sl 0 0 (fun _=>.any) true,.bool false,.sl 0 0 (fun _=>.any) true,.bool false,.sl 0 0 (fun _=>.any) true,.bool false,.sl 0 0 (fun _=>.any) true]
noncomputable def YT (a b:List (Int×Int)) (f:FV):Nat→List AV
 | 0=>XP
 | k+1=>vC (Am a b f k)
noncomputable def YK (a b:List (Int×Int)) (f:FV):Nat→List AV
 | 0=>XP
 | k+1=>vC (Ak a b f k)
theorem KT (a b:List (Int×Int)) (f:FV):∀ k,∀ x∈YT a b f k,Settled x
 | 0=>fun x h=>by
  simp only [YT,XP,List.mem_cons,List.not_mem_nil,or_false] at h
  rcases h with rfl | rfl | rfl | rfl | rfl | rfl | rfl | rfl <;> first | exact X3 _ | exact J7 (fun j hj=>absurd hj (Nat.not_lt_zero j))
 | k+1=>by simp [YT,vC,X7,X3]
theorem Sm (a b:List (Int×Int)) (f:FV):∀ k,∀ x∈YK a b f k,Settled x
 | 0=>fun x h=>by
  simp only [YK,XP,List.mem_cons,List.not_mem_nil,or_false] at h
  rcases h with rfl | rfl | rfl | rfl | rfl | rfl | rfl | rfl <;> first | exact X3 _ | exact J7 (fun j hj=>absurd hj (Nat.not_lt_zero j))
 | k+1=>by simp [YK,vC,X7,X3]
def yL (m:Nat) (f:FV) (k:Nat):Nat:=((f.EB+1 - k) % m).toNat
theorem jf (m:Nat) (f:FV) (k:Nat) (h:0<m):(f.EB+1 - k) % (m:Int)=(yL m f k:Int):=by
 have:=Int.emod_nonneg (f.EB+1 - k) (show (m:Int)≠0 by omega)
 unfold yL; omega
theorem oB (m:Nat) (f:FV) (k:Nat) (h:0<m):yL m f k<m:=by
 have:=jf m f k h
 have:=Int.emod_lt_of_pos (f.EB+1 - k) (show (0:Int)<m by omega)
 omega
theorem Il (a b:PV) (f:FV) (ha:a.even) (hb:b.even) (ht:vb f.turn≤1000) {ta tb:Rat} (ea:a.tol=RQ.of ta) (eb:b.tol=RQ.of tb) (qa:qb ta≤1000) (q2:qb tb≤1000) :
  Fn Tryz.prog 46 [QW a,QW b,Zc f] (.tup [vA (XG a.rim b.rim f (ta+tb)).1,vA (XG a.rim b.rim f (ta+tb)).2.1,.bool (XG a.rim b.rim f (ta+tb)).2.2]):=by
 have la:=ha.rim; have lb:=hb.rim
 obtain ⟨R,hR⟩:∃ R,R=XG a.rim b.rim f (ta+tb):=⟨_,rfl⟩
 rw [← hR]
 have zret:∀ {s:AS} {i j v w:Nat},s.get 6=.ref i v 0→s.h[i]?=some (.row v 8 (Xp Z8))→s.get 7=.ref j w 0→s.h[j]?=some (.row w 8 (Xp Z8))→s.get 8=.bool false→R=(v0,v0,false)→RetOk (QR Tryz.prog Tryz.f46 [9,100000005,11,120000015,18,190000012,190000013] [] (.tup [vA R.1,vA R.2.1,.bool R.2.2])) s:=fun h1 h2 h3 h4 h5 h6=>by
  subst h6
  exact Ia rfl (Xr Jq h1 h2 rfl) (Xr Jq h3 h4 rfl) (by unfold QT; rfl) (Xt (Xn _) (XV Zx)) (Xt (Xn _) (XV Zx)) (by rw [h5]; exact (X3 _).sees _)
 have cs:=Dy a b f la lb
 have ct:=gU f.turn (by unfold vm; omega)
 refine Fq Tryz.call46 Tryz.func46 16 [40,41] [9,100000005,11,120000015,18,190000012,190000013] [] (by simp [Xz,Qg]) (X0 1000 ?_)
 simp only [AS.start,QW,XH,Zc,XW,↓X2,wA,↓reduceIte,reduceIte,reduceCtorEq,Y1,Y2,Y3,Y4,Y5,Y6,Y7,Y8,Y9,YA,wE]
 refine X1 cs rfl ?_
 by_cases hf:Bc a.rim.length b.rim.length f
 rotate_left
 ·rw [decide_eq_false hf]
  simp only [↓X2,wA,↓reduceIte,reduceIte,reduceCtorEq,Y1,Y2,Y3,Y4,Y5,Y6,Y7,Y8,Y9,YA,wE]
  exact zret rfl rfl rfl rfl rfl (by rw [hR]; unfold XG; rw [if_neg fun h=>hf h.1])
 rw [decide_eq_true hf]
 simp only [↓X2,wA,↓reduceIte,reduceIte,reduceCtorEq,Y1,Y2,Y3,Y4,Y5,Y6,Y7,Y8,Y9,YA,wE]
 refine X1 ct rfl ?_
 by_cases hto:D4 f.turn
 rotate_left
 ·rw [decide_eq_false hto]
  simp only [↓X2,wA,↓reduceIte,reduceIte,reduceCtorEq,Y1,Y2,Y3,Y4,Y5,Y6,Y7,Y8,Y9,YA,wE]
  exact zret rfl rfl rfl rfl rfl (by rw [hR]; unfold XG; rw [if_neg fun h=>hto h.2])
 rw [decide_eq_true hto]
 have hRe:R=if ((Ak a.rim b.rim f f.M.toNat).add ⟨ta+tb,ta+tb⟩).x<((Am a.rim b.rim f f.M.toNat).sub ⟨ta+tb,ta+tb⟩).x∨((Ak a.rim b.rim f f.M.toNat).add ⟨ta+tb,ta+tb⟩).y<((Am a.rim b.rim f f.M.toNat).sub ⟨ta+tb,ta+tb⟩).y then (v0,v0,false) else ((Am a.rim b.rim f f.M.toNat).sub ⟨ta+tb,ta+tb⟩,(Ak a.rim b.rim f f.M.toNat).add ⟨ta+tb,ta+tb⟩,true):=by
  rw [hR]; unfold XG; rw [if_pos ⟨hf,hto⟩]
 clear hR
 obtain ⟨⟨s1,s2⟩,⟨s3,s4⟩,s5,s6,s7⟩:=hf
 obtain ⟨N,hN⟩:∃ N:Nat,f.M=N:=⟨f.M.toNat,by omega⟩
 have hNt:f.M.toNat=N:=by rw [hN]; rfl
 rw [hNt] at hRe
 have r1:=Ux a la (AE ha.near)
 have r2:=Ux b lb (AE hb.near)
 have hla:(XB a.rim).length=a.rim.length:=by simp [XB]
 have hlb:(XB b.rim).length=b.rim.length:=by simp [XB]
 have c3:Fn Tryz.prog 70 [a.tol.A,b.tol.A] (qA (ta+tb)):=by rw [ea,eb]; exact B9 ta tb (by unfold rm; omega) (by unfold rm; omega)
 have qe:=K5 ta tb
 simp only [↓X2,wA,↓reduceIte,reduceIte,reduceCtorEq,Y1,Y2,Y3,Y4,Y5,Y6,Y7,Y8,Y9,YA,wE]
 refine X1 r1 rfl ?_
 simp only [↓X2,wA,↓reduceIte,reduceIte,reduceCtorEq,Y1,Y2,Y3,Y4,Y5,Y6,Y7,Y8,Y9,YA,wE]
 refine X1 r2 rfl ?_
 simp only [↓X2,wA,↓reduceIte,reduceIte,reduceCtorEq,Y1,Y2,Y3,Y4,Y5,Y6,Y7,Y8,Y9,YA,wE]
 refine X1 c3 rfl ?_
 have wM:IntKind.i64.wrap (f.M+1)=((N+1:Nat):Int):=by rw [IntKind.wrap_i64]; omega
 simp only [wM,↓X2,wA,↓reduceIte,reduceIte,reduceCtorEq,Y1,Y2,Y3,Y4,Y5,Y6,Y7,Y8,Y9,YA,wE]
 have ba:XK 8 (.row 0 25 (Xp (XH a)))=True:=eq_true (XE (XA a))
 have bb:XK 8 (.row 0 25 (Xp (XH b)))=True:=eq_true (XE (XA b))
 have bf:XK 8 (.con 0 29 (Xp (XW f)))=True:=eq_true (fun j _=>X6 (Xe (XU f) j))
 have bz:XK 8 (.row 0 8 (Xp XP))=True:=eq_true (XE (KT a.rim b.rim f 0))
 have be:XK 8 (.row 0 4 (Xp [.bool (decide ((ta+tb).num<0)),X8 (Xb (ta+tb).num.natAbs),.bool false,X8 (Xb (qd (ta+tb)))]))=True:=eq_true (XE (by simp [X7,X3]))
 have bl:∀ k,XK 8 (.row 0 8 (Xp (YT a.rim b.rim f k)))=True:=fun k=>eq_true (XE (KT a.rim b.rim f k))
 have bh:∀ k,XK 8 (.row 0 8 (Xp (YK a.rim b.rim f k)))=True:=fun k=>eq_true (XE (Sm a.rim b.rim f k))
 have bx:JM 8 (Xq (XB a.rim))=True:=eq_true (X6 (Xd _))
 have by':JM 8 (Xq (XB b.rim))=True:=eq_true (X6 (Xd _))
 refine Xg (fun k:Nat=>⟨16,[40,41],[.any,.any,.any,.ref 0 0 0,.ref 1 0 0,.ref 2 0 0,.ref 3 0 0,.ref 4 0 0,.bool false,Xq (XB a.rim),Xq (XB b.rim),.ref 5 0 0,.ref 6 0 0,.ref 7 0 0,.any,.any],[(40,I ((N+1:Nat):Int)),(41,I k)],[.row 0 25 (Xp (XH a)),.row 0 25 (Xp (XH b)),.con 0 29 (Xp (XW f)),.row 0 8 (Xp XP),.row 0 8 (Xp XP),.row 0 4 (Xp [.bool (decide ((ta+tb).num<0)),X8 (Xb (ta+tb).num.natAbs),.bool false,X8 (Xb (qd (ta+tb)))]),.row 0 8 (Xp (YT a.rim b.rim f k)),.row 0 8 (Xp (YK a.rim b.rim f k))]⟩) (fun k=>k≤N+1) (fun k=>N+1 - k) 0 (by omega)
  (Sub.trans (Q2 2 rfl) (Xa rfl (by simp [Xh,X5,I]) (by simp [Xi,Xw,I]) (by simp [XH,XW,XP,YT,YK,Xf,Xo,X4,I]))) ?_
 intro k hk next
 have w1:=wj k (by omega)
 by_cases hk2:k<N+1
 ·have nx:=next (k+1)
  have fk:((k:Int)<((N+1:Nat):Int))=True:=eq_true (by omega)
  have wx:IntKind.i64.wrap (f.EA+(k:Int))=f.EA+(k:Int):=by rw [IntKind.wrap_i64]; omega
  have wy1:IntKind.i64.wrap (f.EB+1)=f.EB+1:=by rw [IntKind.wrap_i64]; omega
  have wy:IntKind.i64.wrap (f.EB+1 - (k:Int))=f.EB+1 - (k:Int):=by rw [IntKind.wrap_i64]; omega
  have c1:=Ai (f.EA+(k:Int)) a.rim.length (by omega) (by omega) (by omega)
  have c2:=Ai (f.EB+1 - (k:Int)) b.rim.length (by omega) (by omega) (by omega)
  rw [M1 _ _ _ (by omega)] at c1
  rw [jf _ _ _ (by omega)] at c2
  have hX:=SU a.rim.length f k (by omega)
  have hY:=oB b.rim.length f k (by omega)
  have vx:=KA ha.near (xK a.rim.length f k)
  have vy:=KA hb.near (yL b.rim.length f k)
  have vr:=D5 f.turn (Jz (b.rim.getD (yL b.rim.length f k) (0,0)))
  have c3:=Lk f.turn (Jz (b.rim.getD (yL b.rim.length f k) (0,0))) (by unfold vm; omega) (by unfold vm; omega)
  have c4:=CO (Jz (a.rim.getD (xK a.rim.length f k) (0,0))) (LB f.turn (Jz (b.rim.getD (yL b.rim.length f k) (0,0)))) (by unfold rm; omega) (by unfold rm; omega)
  rw [show (Jz (a.rim.getD (xK a.rim.length f k) (0,0))).sub (LB f.turn (Jz (b.rim.getD (yL b.rim.length f k) (0,0))))=Zh a.rim b.rim f k from rfl] at c4
  have hD:=Bf ha.near hb.near f ht
  have hL:=Cn ha.near hb.near f ht
  have hH:=Cl ha.near hb.near f ht
  have v1:=vF (XB a.rim) (xK a.rim.length f k)
  have v2:=vF (XB b.rim) (yL b.rim.length f k)
  rw [Gb] at v1 v2
  generalize xK a.rim.length f k=X at *
  generalize yL b.rim.length f k=Y at *
  generalize Jz (a.rim.getD X (0,0))=PX at *
  generalize Jz (b.rim.getD Y (0,0))=PY at *
  generalize LB f.turn PY=RY at *
  have fX:((X:Int)<a.rim.length)=True:=eq_true (by omega)
  have fX':(X<a.rim.length)=True:=eq_true hX
  have fX8:(X*8+8≤a.rim.length*8)=True:=eq_true (by omega)
  have fY:((Y:Int)<b.rim.length)=True:=eq_true (by omega)
  have fY':(Y<b.rim.length)=True:=eq_true hY
  have fY8:(Y*8+8≤b.rim.length*8)=True:=eq_true (by omega)
  refine X0 1000 ?_
  simp only [XW,X5,w1,wx,wy1,wy,fk,fX,fX',fX8,fY,fY',fY8,hla,hlb,v1,v2,Int.toNat_natCast,↓X2,wA,↓reduceIte,reduceIte,reduceCtorEq,Y1,Y2,Y3,Y4,Y5,Y6,Y7,Y8,Y9,YA,wE]
  refine X1 c1 rfl ?_
  simp only [XW,X5,w1,wx,wy1,wy,fk,fX,fX',fX8,fY,fY',fY8,hla,hlb,v1,v2,Int.toNat_natCast,↓X2,wA,↓reduceIte,reduceIte,reduceCtorEq,Y1,Y2,Y3,Y4,Y5,Y6,Y7,Y8,Y9,YA,wE]
  refine X1 c2 rfl ?_
  simp only [XW,X5,w1,wx,wy1,wy,fk,fX,fX',fX8,fY,fY',fY8,hla,hlb,v1,v2,Int.toNat_natCast,↓X2,wA,↓reduceIte,reduceIte,reduceCtorEq,Y1,Y2,Y3,Y4,Y5,Y6,Y7,Y8,Y9,YA,wE]
  refine X1 c3 rfl ?_
  simp only [XW,X5,w1,wx,wy1,wy,fk,fX,fX',fX8,fY,fY',fY8,hla,hlb,v1,v2,Int.toNat_natCast,↓X2,wA,↓reduceIte,reduceIte,reduceCtorEq,Y1,Y2,Y3,Y4,Y5,Y6,Y7,Y8,Y9,YA,wE]
  refine X1 c4 rfl ?_
  match k,w1,fk,hk2,nx with
  | 0,w1,fk,hk2,nx =>
   have e0:((0:Nat):Int)=0:=rfl
   have hL0:YT a.rim b.rim f 1=vC (Zh a.rim b.rim f 0):=rfl
   have hH0:YK a.rim b.rim f 1=vC (Zh a.rim b.rim f 0):=rfl
   simp only [Nat.zero_add,hL0,hH0] at nx
   generalize Zh a.rim b.rim f 0=D at *
   have w0:IntKind.i64.wrap (0+1)=1:=by decide
   have bD:XK 8 (.row 0 8 (Xp (vC D)))=True:=eq_true (XE (by simp [vC,X7,X3]))
   simp only [YT,YK,XP,e0,w0,↓X2,wA,↓reduceIte,reduceIte,reduceCtorEq,Y1,Y2,Y3,Y4,Y5,Y6,Y7,Y8,Y9,YA,wE]
   exact nx _ (by omega) (by omega) (Xv (m:=8) (Nat.zero_le _) rfl (by simp [Xh,X5,hla,hlb,I]) (by simp [Xi,Xw,I]) (by simp [XH,XW,XP,YT,YK,vC,Xf,Xo,X4,I]) (by simp [Xy,bx,by']) (by simp [Xy]) (by simp [ba,bb,bf,bz,be,bD,bl,bh]))
  | j+1,w1,fk,hk2,nx =>
   have g0:(((j+1:Nat):Int)=0)=False:=eq_false (by omega)
   have g0':((j:Int)+1=0)=False:=eq_false (by omega)
   have g0'':(j+1=0)=False:=eq_false (by omega)
   have bD:=bl 0
   have hl1:YT a.rim b.rim f (j+1)=vC (Am a.rim b.rim f j):=rfl
   have hh1:YK a.rim b.rim f (j+1)=vC (Ak a.rim b.rim f j):=rfl
   have hl2:YT a.rim b.rim f (j+1+1)=vC (Am a.rim b.rim f (j+1)):=rfl
   have hh2:YK a.rim b.rim f (j+1+1)=vC (Ak a.rim b.rim f (j+1)):=rfl
   have hDj:=hD (j+1); have hLj:=hL j; have hHj:=hH j
   have k1:=MH (Am a.rim b.rim f j).x (Zh a.rim b.rim f (j+1)).x (by have:=Qu (Am a.rim b.rim f j); unfold rm; omega) (by have:=Qu (Zh a.rim b.rim f (j+1)); unfold rm; omega)
   have k2:=MH (Am a.rim b.rim f j).y (Zh a.rim b.rim f (j+1)).y (by have:=Qp (Am a.rim b.rim f j); unfold rm; omega) (by have:=Qp (Zh a.rim b.rim f (j+1)); unfold rm; omega)
   have k3:=LI (Ak a.rim b.rim f j).x (Zh a.rim b.rim f (j+1)).x (by have:=Qu (Ak a.rim b.rim f j); unfold rm; omega) (by have:=Qu (Zh a.rim b.rim f (j+1)); unfold rm; omega)
   have k4:=LI (Ak a.rim b.rim f j).y (Zh a.rim b.rim f (j+1)).y (by have:=Qp (Ak a.rim b.rim f j); unfold rm; omega) (by have:=Qp (Zh a.rim b.rim f (j+1)); unfold rm; omega)
   rw [show VD (Am a.rim b.rim f j).x (Zh a.rim b.rim f (j+1)).x=(Am a.rim b.rim f (j+1)).x from rfl] at k1
   rw [show VD (Am a.rim b.rim f j).y (Zh a.rim b.rim f (j+1)).y=(Am a.rim b.rim f (j+1)).y from rfl] at k2
   rw [show VB (Ak a.rim b.rim f j).x (Zh a.rim b.rim f (j+1)).x=(Ak a.rim b.rim f (j+1)).x from rfl] at k3
   rw [show VB (Ak a.rim b.rim f j).y (Zh a.rim b.rim f (j+1)).y=(Ak a.rim b.rim f (j+1)).y from rfl] at k4
   have bl2:=bl (j+1+1); have bh2:=bh (j+1+1)
   simp only [hl2,hh2] at nx bl2 bh2
   rw [hl1,hh1]
   clear hD hL hH
   generalize Zh a.rim b.rim f (j+1)=D at *
   generalize Am a.rim b.rim f (j+1)=L2 at *
   generalize Ak a.rim b.rim f (j+1)=H2 at *
   generalize Am a.rim b.rim f j=L1 at *
   generalize Ak a.rim b.rim f j=H1 at *
   simp only [g0,g0',g0'',w1,↓X2,wA,↓reduceIte,reduceIte,reduceCtorEq,Y1,Y2,Y3,Y4,Y5,Y6,Y7,Y8,Y9,YA,wE]
   refine X1 k1 rfl ?_
   simp only [g0,g0',g0'',w1,↓X2,wA,↓reduceIte,reduceIte,reduceCtorEq,Y1,Y2,Y3,Y4,Y5,Y6,Y7,Y8,Y9,YA,wE]
   refine X1 k3 rfl ?_
   simp only [g0,g0',g0'',w1,↓X2,wA,↓reduceIte,reduceIte,reduceCtorEq,Y1,Y2,Y3,Y4,Y5,Y6,Y7,Y8,Y9,YA,wE]
   refine X1 k2 rfl ?_
   simp only [g0,g0',g0'',w1,↓X2,wA,↓reduceIte,reduceIte,reduceCtorEq,Y1,Y2,Y3,Y4,Y5,Y6,Y7,Y8,Y9,YA,wE]
   refine X1 k4 rfl ?_
   simp only [g0,g0',g0'',w1,↓X2,wA,↓reduceIte,reduceIte,reduceCtorEq,Y1,Y2,Y3,Y4,Y5,Y6,Y7,Y8,Y9,YA,wE]
   exact nx _ (by omega) (by omega) (Xv (m:=8) (Nat.zero_le _) rfl (by simp [Xh,X5,hla,hlb,I]) (by simp [Xi,Xw,I]) (by simp [XH,XW,XP,YT,YK,vC,Xf,Xo,X4,I]) (by simp [Xy,bx,by']) (by simp [Xy]) (by simp [ba,bb,bf,bz,be,bD,bl2,bh2]))
 obtain rfl:k=N+1:=by omega
 have hL:=Cn ha.near hb.near f ht N
 have hH:=Cl ha.near hb.near f ht N
 have hl1:YT a.rim b.rim f (N+1)=vC (Am a.rim b.rim f N):=rfl
 have hh1:YK a.rim b.rim f (N+1)=vC (Ak a.rim b.rim f N):=rfl
 rw [hl1,hh1]
 clear bl bh hl1 hh1
 generalize Am a.rim b.rim f N=LO at *
 generalize Ak a.rim b.rim f N=HI at *
 have m0:vb ⟨ta+tb,ta+tb⟩≤2001:=by unfold vb; simp only; omega
 have m1:=K7 LO ⟨ta+tb,ta+tb⟩
 have m2:=Cb HI ⟨ta+tb,ta+tb⟩
 have c1:=CO LO ⟨ta+tb,ta+tb⟩ (by unfold rm; omega) (by unfold rm; omega)
 have c2:=Ol HI ⟨ta+tb,ta+tb⟩ (by unfold vm; omega) (by unfold vm; omega)
 generalize LO.sub ⟨ta+tb,ta+tb⟩=A at *
 generalize HI.add ⟨ta+tb,ta+tb⟩=B at *
 have:=Qu A; have:=Qp A; have:=Qu B; have:=Qp B
 have q1:=Kn A.x B.x (by unfold rm; omega) (by unfold rm; omega)
 have q2:=Kn A.y B.y (by unfold rm; omega) (by unfold rm; omega)
 refine X0 1000 ?_
 simp only [XW,Int.lt_irrefl,Nat.lt_irrefl,↓X2,wA,↓reduceIte,reduceIte,reduceCtorEq,Y1,Y2,Y3,Y4,Y5,Y6,Y7,Y8,Y9,YA,wE]
 refine X1 c1 rfl ?_
 simp only [↓X2,wA,↓reduceIte,reduceIte,reduceCtorEq,Y1,Y2,Y3,Y4,Y5,Y6,Y7,Y8,Y9,YA,wE]
 refine X1 c2 rfl ?_
 simp only [↓X2,wA,↓reduceIte,reduceIte,reduceCtorEq,Y1,Y2,Y3,Y4,Y5,Y6,Y7,Y8,Y9,YA,wE]
 refine X1 q1 rfl ?_
 by_cases h1:B.x<A.x
 ·have f1:(0<QA A.x B.x)=True:=eq_true ((JL _ _).2 h1)
  simp only [f1,XP,↓X2,wA,↓reduceIte,reduceIte,reduceCtorEq,Y1,Y2,Y3,Y4,Y5,Y6,Y7,Y8,Y9,YA,wE]
  exact zret rfl rfl rfl rfl rfl (by rw [hRe,if_pos (.inl h1)])
 have f1:(0<QA A.x B.x)=False:=eq_false fun h=>h1 ((JL _ _).1 h)
 simp only [f1,↓X2,wA,↓reduceIte,reduceIte,reduceCtorEq,Y1,Y2,Y3,Y4,Y5,Y6,Y7,Y8,Y9,YA,wE]
 refine X1 q2 rfl ?_
 by_cases h2:B.y<A.y
 ·have f2:(0<QA A.y B.y)=True:=eq_true ((JL _ _).2 h2)
  simp only [f1,f2,XP,↓X2,wA,↓reduceIte,reduceIte,reduceCtorEq,Y1,Y2,Y3,Y4,Y5,Y6,Y7,Y8,Y9,YA,wE]
  exact zret rfl rfl rfl rfl rfl (by rw [hRe,if_pos (.inr h2)])
 have f2:(0<QA A.y B.y)=False:=eq_false fun h=>h2 ((JL _ _).1 h)
 simp only [f1,f2,XP,↓X2,wA,↓reduceIte,reduceIte,reduceCtorEq,Y1,Y2,Y3,Y4,Y5,Y6,Y7,Y8,Y9,YA,wE]
 rw [if_neg fun h=>h.elim h1 h2] at hRe
 subst hRe
 exact Ia rfl (Xr Jq rfl rfl rfl) (Xr Jq rfl rfl rfl) (by unfold QT; rfl) (Xt (Xn _) (XV (Q5 (vC A)))) (Xt (Xn _) (XV (Q5 (vC B)))) ((X3 _).sees _)
end
end Go.Ab.N
