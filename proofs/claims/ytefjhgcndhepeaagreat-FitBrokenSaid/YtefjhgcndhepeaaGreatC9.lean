/- Contracts of functions of these chapters, for every argument that fits, and what they need. -/
import Derived.Test.YtefjhgcndhepeaaGreatC8
import Derived.Test.YtefjhgcndhepeaaGreatC7
set_option linter.unusedSimpArgs false
set_option linter.unusedVariables false
open Nat renaming reducePow → Y1, reduceLT → Y2, reduceLeDiff → Y3, reduceEqDiff → Y4, reduceAdd → Y5, reduceMul → Y6, reduceSub → Y7, reduceBEq → Y8, reduceDiv → Y9, reduceMod → YA
namespace Go.Ab.N
open Go Go.RowKit Go.Proofs
noncomputable section
set_option maxRecDepth 10000
set_option maxHeartbeats 4000000
open Classical
structure FV where
 A:Int
 B:Int
 EA:Int
 EB:Int
 M:Int
 turn:V2
 lo:V2
 hi:V2
def Jp (f:FV):List AV:=[I f.A,I f.B,I f.EA,I f.EB,I f.M,.bool (decide (f.turn.x.num<0)),X3 (X6 f.turn.x.num.natAbs),.bool false,X3 (X6 (qd f.turn.x)),.bool (decide (f.turn.y.num<0)),X3 (X6 f.turn.y.num.natAbs),.bool false,X3 (X6 (qd f.turn.y)),
 .bool (decide (f.lo.x.num<0)),X3 (X6 f.lo.x.num.natAbs),.bool false,X3 (X6 (qd f.lo.x)),.bool (decide (f.lo.y.num<0)),X3 (X6 f.lo.y.num.natAbs),.bool false,X3 (X6 (qd f.lo.y)),
 .bool (decide (f.hi.x.num<0)),X3 (X6 f.hi.x.num.natAbs),.bool false,X3 (X6 (qd f.hi.x)),.bool (decide (f.hi.y.num<0)),X3 (X6 f.hi.y.num.natAbs),.bool false,X3 (X6 (qd f.hi.y))]
def CS (f:FV):AV:=.agg (Jp f)
theorem Qq (f:FV):∀ x∈Jp f,Settled x:=by simp [Jp,X9,X8,X2]
theorem Be (f:FV):Settled (CS f):=Qh (Qq f)
theorem LU (k:Int) (n:Nat) (h:0<n):(k.tmod n+n).tmod n=k % n:=by
 have h1:=Int.tmod_lt_of_pos k (show (0:Int)<n by omega)
 have h2:-(n:Int)<k.tmod n:=by
  have:=Int.lt_tmod_of_pos k (show (0:Int)<n by omega)
  omega
 rw [Int.tmod_eq_emod_of_nonneg (by omega),Int.add_emod_right]
 have h3:=Int.mul_tdiv_add_tmod k n
 have h4:k % n=(k.tmod n+n*k.tdiv n) % n:=by rw [Int.add_comm]; rw [h3]
 rw [h4,Int.add_mul_emod_self_left]
theorem ZI (k:Int) (n:Nat) (h:0<n) (hk:-1000000000≤k∧k≤1000000000) (hn:n≤1000000000):Fn Tryz.prog 124 [I k,I n] (I (k % n)):=by
 have h1:=Int.tmod_lt_of_pos k (show (0:Int)<n by omega)
 have h2:=Int.lt_tmod_of_pos k (show (0:Int)<n by omega)
 have w1:IntKind.i64.wrap (k.tmod n+n)=k.tmod n+n:=by rw [IntKind.wrap_i64]; omega
 have f1:((n:Int)=0)=False:=eq_false (by omega)
 have f1':(n=0)=False:=eq_false (by omega)
 obtain ⟨R,hR⟩:∃ R,R=k % (n:Int):=⟨_,rfl⟩
 have e:=LU k n h
 rw [← hR] at e ⊢
 refine Fr Tryz.call124 Tryz.func124 5 [] [] [] ?_
 simp only [AS.start,f1,f1',w1,e,↓X1,wF,seval]
 exact Xx rfl rfl (X9 _) rfl
theorem Bh (k:Int) (n:Nat) (h:0<n) (hk:-1000000000≤k∧k≤1000000000) (hn:n≤1000000000):Fn Tryz.prog 129 [I k,I n] (I (k % n)):=by
 have h1:=Int.tmod_lt_of_pos k (show (0:Int)<n by omega)
 have h2:=Int.lt_tmod_of_pos k (show (0:Int)<n by omega)
 have w1:IntKind.i64.wrap (k.tmod n+n)=k.tmod n+n:=by rw [IntKind.wrap_i64]; omega
 have f1:((n:Int)=0)=False:=eq_false (by omega)
 have f1':(n=0)=False:=eq_false (by omega)
 obtain ⟨R,hR⟩:∃ R,R=k % (n:Int):=⟨_,rfl⟩
 have e:=LU k n h
 rw [← hR] at e ⊢
 refine Fr Tryz.call129 Tryz.func129 5 [] [] [] ?_
 simp only [AS.start,f1,f1',w1,e,↓X1,wF,seval]
 exact Xx rfl rfl (X9 _) rfl
def Ev (n m:Nat) (f:FV):Prop:=(0≤f.EA∧f.EA<n)∧(0≤f.EB∧f.EB<m)∧1≤f.M∧f.M<n∧f.M<m
theorem Pj (a b:PV) (f:FV) (ha:a.rim.length<1000000) (hb:b.rim.length<1000000):Fn Tryz.prog 122 [Zl a,Zl b,CS f] (.bool (decide (Ev a.rim.length b.rim.length f))):=by
 obtain ⟨V,hV⟩:∃ V,V=decide (Ev a.rim.length b.rim.length f):=⟨_,rfl⟩
 have fin:∀ {s:AS} {v:Bool},s.get 6=.bool v→v=V→RetOk (QV Tryz.prog Tryz.f122 [] [] (.bool V)) s:=fun h e=>Xx rfl h (X2 _) (by rw [e])
 rw [← hV]
 refine Fq Tryz.call122 Tryz.func122 9 [] [] [] (by simp [Bg,Be]) (Xi ?_)
 by_cases hmn:(b.rim.length:Int)<a.rim.length
 ·have fmn:((b.rim.length:Int)<a.rim.length)=True:=eq_true hmn
  by_cases g0:0≤f.EA
  rotate_left
  ·have f0:(0≤f.EA)=False:=eq_false g0
   simp only [AS.start,Zl,QC,CS,Jp,fmn,if_true,f0,↓X1,wF,seval]
   exact fin rfl (by rw [hV,decide_eq_false fun h=>g0 h.1.1])
  have f0:(0≤f.EA)=True:=eq_true g0
  by_cases g1:f.EA<(a.rim.length:Int)
  rotate_left
  ·have f1:(f.EA<(a.rim.length:Int))=False:=eq_false g1
   simp only [AS.start,Zl,QC,CS,Jp,fmn,if_true,f0,f1,↓X1,wF,seval]
   exact fin rfl (by rw [hV,decide_eq_false fun h=>g1 h.1.2])
  have f1:(f.EA<(a.rim.length:Int))=True:=eq_true g1
  by_cases g2:0≤f.EB
  rotate_left
  ·have f2:(0≤f.EB)=False:=eq_false g2
   simp only [AS.start,Zl,QC,CS,Jp,fmn,if_true,f0,f1,f2,↓X1,wF,seval]
   exact fin rfl (by rw [hV,decide_eq_false fun h=>g2 h.2.1.1])
  have f2:(0≤f.EB)=True:=eq_true g2
  by_cases g3:f.EB<(b.rim.length:Int)
  rotate_left
  ·have f3:(f.EB<(b.rim.length:Int))=False:=eq_false g3
   simp only [AS.start,Zl,QC,CS,Jp,fmn,if_true,f0,f1,f2,f3,↓X1,wF,seval]
   exact fin rfl (by rw [hV,decide_eq_false fun h=>g3 h.2.1.2])
  have f3:(f.EB<(b.rim.length:Int))=True:=eq_true g3
  by_cases g4:1≤f.M
  rotate_left
  ·have f4:(1≤f.M)=False:=eq_false g4
   simp only [AS.start,Zl,QC,CS,Jp,fmn,if_true,f0,f1,f2,f3,f4,↓X1,wF,seval]
   exact fin rfl (by rw [hV,decide_eq_false fun h=>g4 h.2.2.1])
  have f4:(1≤f.M)=True:=eq_true g4
  by_cases g5:f.M<(b.rim.length:Int)
  rotate_left
  ·have f5:(f.M<(b.rim.length:Int))=False:=eq_false g5
   simp only [AS.start,Zl,QC,CS,Jp,fmn,if_true,f0,f1,f2,f3,f4,f5,↓X1,wF,seval]
   exact fin rfl (by rw [hV,decide_eq_false fun h=>g5 h.2.2.2.2])
  have f5:(f.M<(b.rim.length:Int))=True:=eq_true g5
  simp only [AS.start,Zl,QC,CS,Jp,fmn,if_true,f0,f1,f2,f3,f4,f5,↓X1,wF,seval]
  exact fin rfl (by rw [hV,decide_eq_true]; exact ⟨⟨g0,g1⟩,⟨g2,g3⟩,g4,by omega,g5⟩)
 ·have fmn:((b.rim.length:Int)<a.rim.length)=False:=eq_false hmn
  by_cases g0:0≤f.EA
  rotate_left
  ·have f0:(0≤f.EA)=False:=eq_false g0
   simp only [AS.start,Zl,QC,CS,Jp,fmn,if_false,f0,↓X1,wF,seval]
   exact fin rfl (by rw [hV,decide_eq_false fun h=>g0 h.1.1])
  have f0:(0≤f.EA)=True:=eq_true g0
  by_cases g1:f.EA<(a.rim.length:Int)
  rotate_left
  ·have f1:(f.EA<(a.rim.length:Int))=False:=eq_false g1
   simp only [AS.start,Zl,QC,CS,Jp,fmn,if_false,f0,f1,↓X1,wF,seval]
   exact fin rfl (by rw [hV,decide_eq_false fun h=>g1 h.1.2])
  have f1:(f.EA<(a.rim.length:Int))=True:=eq_true g1
  by_cases g2:0≤f.EB
  rotate_left
  ·have f2:(0≤f.EB)=False:=eq_false g2
   simp only [AS.start,Zl,QC,CS,Jp,fmn,if_false,f0,f1,f2,↓X1,wF,seval]
   exact fin rfl (by rw [hV,decide_eq_false fun h=>g2 h.2.1.1])
  have f2:(0≤f.EB)=True:=eq_true g2
  by_cases g3:f.EB<(b.rim.length:Int)
  rotate_left
  ·have f3:(f.EB<(b.rim.length:Int))=False:=eq_false g3
   simp only [AS.start,Zl,QC,CS,Jp,fmn,if_false,f0,f1,f2,f3,↓X1,wF,seval]
   exact fin rfl (by rw [hV,decide_eq_false fun h=>g3 h.2.1.2])
  have f3:(f.EB<(b.rim.length:Int))=True:=eq_true g3
  by_cases g4:1≤f.M
  rotate_left
  ·have f4:(1≤f.M)=False:=eq_false g4
   simp only [AS.start,Zl,QC,CS,Jp,fmn,if_false,f0,f1,f2,f3,f4,↓X1,wF,seval]
   exact fin rfl (by rw [hV,decide_eq_false fun h=>g4 h.2.2.1])
  have f4:(1≤f.M)=True:=eq_true g4
  by_cases g5:f.M<(a.rim.length:Int)
  rotate_left
  ·have f5:(f.M<(a.rim.length:Int))=False:=eq_false g5
   simp only [AS.start,Zl,QC,CS,Jp,fmn,if_false,f0,f1,f2,f3,f4,f5,↓X1,wF,seval]
   exact fin rfl (by rw [hV,decide_eq_false fun h=>g5 h.2.2.2.1])
  have f5:(f.M<(a.rim.length:Int))=True:=eq_true g5
  simp only [AS.start,Zl,QC,CS,Jp,fmn,if_false,f0,f1,f2,f3,f4,f5,↓X1,wF,seval]
  exact fin rfl (by rw [hV,decide_eq_true]; exact ⟨⟨g0,g1⟩,⟨g2,g3⟩,g4,g5,by omega⟩)
def Mc (R:List (Int×Int)) (k:Nat):Int×Int:=((R.getD ((k+1) % R.length) (0,0)).1 - (R.getD k (0,0)).1,(R.getD ((k+1) % R.length) (0,0)).2 - (R.getD k (0,0)).2)
def GV (R:List (Int×Int)) (k:Nat):V2:=(Qc (R.getD ((k+1) % R.length) (0,0))).sub (Qc (R.getD k (0,0)))
def aT (R:List (Int×Int)) (k:Nat):Int:=(Mc R k).1*(Mc R k).1+(Mc R k).2*(Mc R k).2
theorem Tm (R:List (Int×Int)) (k:Nat):GV R k=⟨((Mc R k).1:Rat),((Mc R k).2:Rat)⟩:=by
 unfold GV Mc V2.sub Qc
 simp only [Rat.intCast_sub]
def Jc (R:List (Int×Int)):Prop:=∀ c∈R,(-65536≤c.1∧c.1≤65536)∧(-65536≤c.2∧c.2≤65536)
theorem D0 {R:List (Int×Int)} (h:Jc R) (i:Nat):(-65536≤(R.getD i (0,0)).1∧(R.getD i (0,0)).1≤65536)∧(-65536≤(R.getD i (0,0)).2∧(R.getD i (0,0)).2≤65536):=by
 rw [List.getD_eq_getElem?_getD]
 cases hx:R[i]? with
 | none=>exact ⟨⟨by decide,by decide⟩,⟨by decide,by decide⟩⟩
 | some c=>exact h c (List.mem_of_getElem? hx)
theorem Zr {R:List (Int×Int)} (h:Jc R):∀ i,i<R.length→TO (R.getD i (0,0))=true:=fun i _=>by
 have:=D0 h i
 unfold TO wb
 simp only [Bool.and_eq_true,decide_eq_true_eq]
 omega
theorem EV {R:List (Int×Int)} (h:Jc R) (k:Nat):(-131072≤(Mc R k).1∧(Mc R k).1≤131072)∧(-131072≤(Mc R k).2∧(Mc R k).2≤131072):=by
 have h1:=D0 h k
 have h2:=D0 h ((k+1) % R.length)
 unfold Mc
 simp only
 omega
theorem Dt {R:List (Int×Int)} (h:Jc R) (k:Nat):vb (GV R k)≤3:=by
 have:=EV h k
 rw [Tm]
 have q1:=Z8 (Mc R k).1 3 (by omega) (QJ ⟨by omega,by omega⟩)
 have q2:=Z8 (Mc R k).2 3 (by omega) (QJ ⟨by omega,by omega⟩)
 unfold vb
 simp only
 omega
theorem Rj (p:PV) (k:Nat) (hk:k<p.rim.length) (hl:p.rim.length<1000000) (hn:Jc p.rim):Fn Tryz.prog 121 [Zl p,I k] (.tup [I (Mc p.rim k).1,I (Mc p.rim k).2]):=by
 obtain ⟨D,hD⟩:∃ D,D=Mc p.rim k:=⟨_,rfl⟩
 have h0:=EV hn k
 rw [← hD] at h0 ⊢
 have hD1:(p.rim.getD ((k+1) % p.rim.length) (0,0)).1 - (p.rim.getD k (0,0)).1=D.1:=by rw [hD]; rfl
 have hD2:(p.rim.getD ((k+1) % p.rim.length) (0,0)).2 - (p.rim.getD k (0,0)).2=D.2:=by rw [hD]; rfl
 have f0:((p.rim.length:Int)=0)=False:=eq_false (by omega)
 have f0':(p.rim.length=0)=False:=eq_false (by omega)
 have r1:(k:Int).tmod p.rim.length=(k:Int):=by rw [show (k:Int).tmod p.rim.length=((k % p.rim.length:Nat):Int) from rfl,Nat.mod_eq_of_lt hk]
 have w1:IntKind.i64.wrap ((k:Int)+p.rim.length)=((k+p.rim.length:Nat):Int):=by rw [IntKind.wrap_i64]; omega
 have r2:((k+p.rim.length:Nat):Int).tmod p.rim.length=(k:Int):=by rw [show ((k+p.rim.length:Nat):Int).tmod p.rim.length=(((k+p.rim.length) % p.rim.length:Nat):Int) from rfl,Nat.add_mod_right,Nat.mod_eq_of_lt hk]
 have w2:=wj k (by omega)
 have r3:((k+1:Nat):Int).tmod p.rim.length=(((k+1) % p.rim.length:Nat):Int):=rfl
 have hm:(k+1) % p.rim.length<p.rim.length:=Nat.mod_lt _ (by omega)
 obtain ⟨m,hme⟩:∃ m,m=(k+1) % p.rim.length:=⟨_,rfl⟩
 rw [← hme] at hD1 hD2 r3 hm
 have f1:((k:Int)<p.rim.length)=True:=eq_true (by omega)
 have f2:(k<p.rim.length)=True:=eq_true hk
 have f3:((m:Int)<p.rim.length)=True:=eq_true (by omega)
 have f4:(m<p.rim.length)=True:=eq_true hm
 have f5:(k*2+2≤p.rim.length*2)=True:=eq_true (by omega)
 have f6:(m*2+2≤p.rim.length*2)=True:=eq_true (by omega)
 have v1:=u9 p.rim k
 have v2:=u9 p.rim m
 have w3:IntKind.i64.wrap D.1=D.1:=by rw [IntKind.wrap_i64]; omega
 have w4:IntKind.i64.wrap D.2=D.2:=by rw [IntKind.wrap_i64]; omega
 refine Fr Tryz.call121 Tryz.func121 9 [] [3,40000002] [] ?_
 simp only [AS.start,Zl,QC,f0,f0',f1,f2,f3,f4,f5,f6,r1,r2,r3,w1,w2,w3,w4,v1,v2,hD1,hD2,Int.toNat_natCast,↓X1,wF,seval]
 exact Rv rfl rfl rfl (X9 _) (X9 _) rfl rfl
theorem Rg (p:PV) (k:Nat) (hk:k<p.rim.length) (hl:p.rim.length<1000000) (hn:Jc p.rim):Fn Tryz.prog 45 [Zl p,I k] (vA (GV p.rim k)):=by
 have c1:=Rj p k hk hl hn
 have h0:=EV hn k
 rw [Tm]
 generalize Mc p.rim k=D at *
 have c2:=G3 D.1 D.2 ⟨by omega,by omega⟩ ⟨by omega,by omega⟩
 obtain ⟨R,hR⟩:∃ R,R=vA ⟨(D.1:Rat),(D.2:Rat)⟩:=⟨_,rfl⟩
 have sR:Settled R:=hR▸Xm _
 rw [← hR]
 refine Fr Tryz.call45 Tryz.func45 5 [] [] [] ?_
 simp only [AS.start,Zl,QC,↓X1,wF,seval]
 refine X0 c1 rfl ?_
 simp only [↓X1,wF,seval]
 refine X0 c2 rfl ?_
 simp only [↓X1,wF,seval]
 exact Ah rfl K8 rfl rfl rfl sR (hR.trans rfl)
theorem It (p:PV) (k:Nat) (hk:k<p.rim.length) (hl:p.rim.length<1000000) (hn:Jc p.rim):Fn Tryz.prog 113 [Zl p,I k] (I (aT p.rim k)):=by
 have c1:=Rj p k hk hl hn
 have h0:=EV hn k
 unfold aT
 generalize Mc p.rim k=D at *
 have b1:D.1*D.1≤131072*131072:=by
  rcases Int.le_total 0 D.1 with h | h
  ·exact Int.mul_le_mul h0.1.2 h0.1.2 h (by omega)
  ·have:=Int.mul_le_mul (show -D.1≤131072 by omega) (show -D.1≤131072 by omega) (by omega) (by omega)
   rwa [Int.neg_mul_neg] at this
 have b2:D.2*D.2≤131072*131072:=by
  rcases Int.le_total 0 D.2 with h | h
  ·exact Int.mul_le_mul h0.2.2 h0.2.2 h (by omega)
  ·have:=Int.mul_le_mul (show -D.2≤131072 by omega) (show -D.2≤131072 by omega) (by omega) (by omega)
   rwa [Int.neg_mul_neg] at this
 have b3:0≤D.1*D.1:=by
  rcases Int.le_total 0 D.1 with h | h
  ·exact Int.mul_nonneg h h
  ·exact Int.mul_nonneg_of_nonpos_of_nonpos h h
 have b4:0≤D.2*D.2:=by
  rcases Int.le_total 0 D.2 with h | h
  ·exact Int.mul_nonneg h h
  ·exact Int.mul_nonneg_of_nonpos_of_nonpos h h
 have w1:IntKind.i64.wrap (D.1*D.1)=D.1*D.1:=by rw [IntKind.wrap_i64]; omega
 have w2:IntKind.i64.wrap (D.2*D.2)=D.2*D.2:=by rw [IntKind.wrap_i64]; omega
 have w3:IntKind.i64.wrap (D.1*D.1+D.2*D.2)=D.1*D.1+D.2*D.2:=by rw [IntKind.wrap_i64]; omega
 refine Fr Tryz.call113 Tryz.func113 7 [] [] [] ?_
 simp only [AS.start,Zl,QC,↓X1,wF,seval]
 refine X0 c1 rfl ?_
 simp only [w1,w2,w3,↓X1,wF,seval]
 exact Xx rfl rfl (X9 _) rfl
theorem Z4 (R:List (Int×Int)) (i:Nat):(Xp R).getD i v0=Qc (R.getD i (0,0)):=by
 unfold Xp
 rw [List.getD_eq_getElem?_getD,List.getD_eq_getElem?_getD,List.getElem?_map]
 cases R[i]? with
 | none=>show v0=Qc (0,0); unfold v0 Qc; simp
 | some c=>rfl
theorem Fv {f:FuncId} {fn:Func} {body:Code} {args:List AV} {r:AV} (he:ZE Tryz.prog f) (hf:Tryz.prog.funcs[f]?=some fn) (n0:Nat) (hid str hcs:List Nat) (h:Qr (B5 (AS.start n0 hid args [])) fun s=>vc (QV Tryz.prog fn str hcs r) 1000 [.code body] s) (hs:∀ a∈args,Settled a:=by simp [wS,Bg,Be]) (hb:fn.body=some body:=by rfl) (hok:Qi fn.ntmps str hcs body=true:=by kernel_rfl) (hlen:args.length≤fn.ntmps:=by exact Nat.le_of_ble_eq_true rfl):Fn Tryz.prog f args r:=Fq he hf n0 hid str hcs hs (Xi h) hb hok hlen
def D3 (a:V2):V2:=⟨-a.x,-a.y⟩
theorem iJ (a:V2):vb (D3 a)=vb a:=by
 unfold vb D3
 simp only [NZ]
theorem ap (a:V2):a.scale (-1)=D3 a:=by
 unfold V2.scale D3
 rw [V2.ext']
 exact ⟨by simp only; grind,by simp only; grind⟩
theorem kO (a:V2):Q4 (D3 a) (D3 a)=Q4 a a:=by unfold Q4 D3; grind
theorem NH (R:List (Int×Int)) (k:Nat):Q4 (GV R k) (GV R k)=(aT R k:Rat):=by
 rw [Tm]
 unfold Q4 aT
 simp only [Rat.intCast_add,Rat.intCast_mul]
theorem Sf (t:Bool):WeakL [.bool false,.sl 0 0 (fun _=>.any) t,.bool false,.sl 0 0 (fun _=>.any) t,.bool false,.sl 0 0 (fun _=>.any) t,.bool false,.sl 0 0 (fun _=>.any) t] (vC v0) :=
 have h1:X6 (0:Rat).num.natAbs=[]:=by rw [Rat.zero_num]; simp [Q0]
 have h2:X6 (qd (0:Rat))=[]:=Eo rfl
 ⟨Weak.rfl' _,QI h1,Weak.rfl' _,QI h2,Weak.rfl' _,QI h1,Weak.rfl' _,QI h2,trivial⟩
def lQ (n m:Nat) (i j:Int):Prop:=(0≤i∧i<n)∧0≤j∧j<m
noncomputable def Kr (a b:List (Int×Int)) (i j:Int):V2×Bool :=
 if lQ a.length b.length i j then ((JX (D3 (GV b j.toNat)) (GV a i.toNat)).1,decide ((JX (D3 (GV b j.toNat)) (GV a i.toNat)).2=0)) else (v0,false)
theorem Nl (a b:V2) (h:Q4 a a≠Q4 b b):(JX a b).1=v0∧(JX a b).2≠0:=by
 unfold JX
 by_cases h0:Q4 a a=0∨Q4 b b=0
 ·rw [if_pos h0]; exact ⟨rfl,by decide⟩
 ·rw [if_neg h0,if_neg h]; exact ⟨rfl,by decide⟩
theorem iH (a b:V2) (k:Nat) (ha:vb a≤k) (hb:vb b≤k):vb (JX a b).1≤8*k+2:=by
 have q0:=Ap
 have z:vb v0≤8*k+2:=by unfold vb v0; simp only; omega
 have q1:=Bm a a; have q3:=Bm a b; have q4:=D5 a b
 have d1:=gQ (Q4 a b) (Q4 a a); have d2:=gQ (Q8 a b) (Q4 a a)
 unfold JX
 by_cases h0:Q4 a a=0∨Q4 b b=0
 ·rw [if_pos h0]; exact z
 ·rw [if_neg h0]
  by_cases h1:Q4 a a=Q4 b b
  ·rw [if_pos h1]
   show max (qb (Q4 a b / Q4 a a)) (qb (Q8 a b / Q4 a a))≤_
   omega
  ·rw [if_neg h1]; exact z
theorem EL {a b:List (Int×Int)} (ha:Jc a) (hb:Jc b) (i j:Int):vb (Kr a b i j).1≤26:=by
 unfold Kr
 by_cases h:lQ a.length b.length i j
 ·rw [if_pos h]
  exact iH _ _ 3 (by rw [iJ]; exact Dt hb _) (Dt ha _)
 ·rw [if_neg h]
  have q0:=Ap
  unfold vb v0; simp only; omega
theorem TL (a b:PV) (i j:Int) (hla:a.rim.length<1000000) (hlb:b.rim.length<1000000) (na:Jc a.rim) (nb:Jc b.rim):Fn Tryz.prog 39 [Zl a,Zl b,I i,I j] (.tup [vA (Kr a.rim b.rim i j).1,.bool (Kr a.rim b.rim i j).2]):=by
 obtain ⟨R,hR⟩:∃ R,R=Kr a.rim b.rim i j:=⟨_,rfl⟩
 rw [← hR]
 have zret:∀ {s:AS} {ver id':Nat},s.get 8=.ref id' ver 0→s.h[id']?=some (.row ver 8 (Xk ZD))→s.get 9=.bool false→R=(v0,false)→RetOk (QV Tryz.prog Tryz.f39 [3,40000004,40000005] [] (.tup [vA R.1,.bool R.2])) s:=fun h1 h2 h3 h4=>by
  subst h4
  exact Kd rfl (Xl Mt h1 h2 rfl) (by unfold Je; rfl) (XN (Xm _) (Ji Co)) (by rw [h3]; exact (X2 _).sees _)
 refine Fr Tryz.call39 Tryz.func39 12 [] [3,40000004,40000005] [] ?_
 by_cases g0:i<0
 ·have f0:(i<0)=True:=eq_true g0
  simp only [AS.start,Zl,QC,f0,↓X1,wF,seval]
  exact zret rfl rfl rfl (by rw [hR]; unfold Kr; rw [if_neg (by unfold lQ; omega)])
 have f0:(i<0)=False:=eq_false g0
 by_cases g1:(a.rim.length:Int)≤i
 ·have f1:((a.rim.length:Int)≤i)=True:=eq_true g1
  simp only [AS.start,Zl,QC,f0,f1,↓X1,wF,seval]
  exact zret rfl rfl rfl (by rw [hR]; unfold Kr; rw [if_neg (by unfold lQ; omega)])
 have f1:((a.rim.length:Int)≤i)=False:=eq_false g1
 by_cases g2:j<0
 ·have f2:(j<0)=True:=eq_true g2
  simp only [AS.start,Zl,QC,f0,f1,f2,↓X1,wF,seval]
  exact zret rfl rfl rfl (by rw [hR]; unfold Kr; rw [if_neg (by unfold lQ; omega)])
 have f2:(j<0)=False:=eq_false g2
 by_cases g3:(b.rim.length:Int)≤j
 ·have f3:((b.rim.length:Int)≤j)=True:=eq_true g3
  simp only [AS.start,Zl,QC,f0,f1,f2,f3,↓X1,wF,seval]
  exact zret rfl rfl rfl (by rw [hR]; unfold Kr; rw [if_neg (by unfold lQ; omega)])
 have f3:((b.rim.length:Int)≤j)=False:=eq_false g3
 obtain ⟨i,rfl⟩:∃ n:Nat,i=n:=⟨i.toNat,by omega⟩
 obtain ⟨j,rfl⟩:∃ n:Nat,j=n:=⟨j.toNat,by omega⟩
 have hin:lQ a.rim.length b.rim.length i j:=by unfold lQ; omega
 have hR1:R=((JX (D3 (GV b.rim j)) (GV a.rim i)).1,decide ((JX (D3 (GV b.rim j)) (GV a.rim i)).2=0)):=by rw [hR]; unfold Kr; rw [if_pos hin]; rfl
 have s1:=It a i (by omega) hla na
 have s2:=It b j (by omega) hlb nb
 simp only [AS.start,Zl,QC,f0,f1,f2,f3,↓X1,wF,seval]
 refine X0 s1 rfl ?_
 simp only [f0,f1,f2,f3,↓X1,wF,seval]
 refine X0 s2 rfl ?_
 by_cases hs:aT a.rim i=aT b.rim j
 rotate_left
 ·have fs:(aT a.rim i=aT b.rim j)=False:=eq_false hs
  simp only [fs,↓X1,wF,seval]
  refine zret rfl rfl rfl ?_
  have hd:=Nl (D3 (GV b.rim j)) (GV a.rim i) (by rw [kO,NH,NH]; exact fun h=>hs (Rat.intCast_inj.1 h).symm)
  rw [hR1,hd.1,decide_eq_false hd.2]
 have fs:(aT a.rim i=aT b.rim j)=True:=eq_true hs
 have e1:=Rg b j (by omega) hlb nb
 have e2:=Rg a i (by omega) hla na
 have k1:=Dt nb j; have k2:=Dt na i
 have o1:=Er (-1) 1 ⟨by omega,by omega⟩ ⟨by omega,by omega⟩
 rw [show Rat.divInt (-1) 1 = -1 by decide +kernel] at o1
 have o2:=MS (GV b.rim j) (-1) (by unfold vm; omega) (by have:=NX (-1) 1 ⟨by omega,by omega⟩ ⟨by omega,by omega⟩; rw [show Rat.divInt (-1) 1 = -1 by decide +kernel] at this; unfold vm; omega)
 rw [ap] at o2
 have o3:=YU (D3 (GV b.rim j)) (GV a.rim i) (by rw [iJ]; omega) (by omega)
 generalize JX (D3 (GV b.rim j)) (GV a.rim i)=X at *
 simp only [fs,↓X1,wF,seval]
 refine X0 e1 rfl ?_
 simp only [↓X1,wF,seval]
 refine X0 o1 rfl ?_
 simp only [↓X1,wF,seval]
 refine X0 o2 rfl ?_
 simp only [↓X1,wF,seval]
 refine X0 e2 rfl ?_
 simp only [↓X1,wF,seval]
 refine X0 o3 rfl ?_
 simp only [↓X1,wF,seval]
 subst hR1
 exact Kd rfl (Xl Mt rfl rfl rfl) (by unfold Je; rfl) (XN (Xm _) (Ji (Qn (vC X.1)))) ((X2 _).sees _)
def xK (n:Nat) (f:FV) (k:Nat):Nat:=((f.EA+k) % n).toNat
def yK (m:Nat) (f:FV) (k:Nat):Nat:=((f.EB - k) % m).toNat
theorem VT (n:Nat) (f:FV) (k:Nat) (h:0<n):(f.EA+k) % (n:Int)=(xK n f k:Int):=by
 have:=Int.emod_nonneg (f.EA+k) (show (n:Int)≠0 by omega)
 unfold xK; omega
theorem iZ (m:Nat) (f:FV) (k:Nat) (h:0<m):(f.EB - k) % (m:Int)=(yK m f k:Int):=by
 have:=Int.emod_nonneg (f.EB - k) (show (m:Int)≠0 by omega)
 unfold yK; omega
theorem oF (n:Nat) (f:FV) (k:Nat) (h:0<n):xK n f k<n:=by
 have:=VT n f k h
 have:=Int.emod_lt_of_pos (f.EA+k) (show (0:Int)<n by omega)
 omega
theorem ur (m:Nat) (f:FV) (k:Nat) (h:0<m):yK m f k<m:=by
 have:=iZ m f k h
 have:=Int.emod_lt_of_pos (f.EB - k) (show (0:Int)<m by omega)
 omega
def FS (n m:Nat) (f:FV):List (Int×Int):=(List.range f.M.toNat).map fun k=>((xK n f k:Int),(yK m f k:Int))
theorem Hy {α:Type} (f:Nat→α) (d:α) (n j:Nat) (h:j<n):((List.range n).map f).getD j d=f j:=by
 rw [List.getD_eq_getElem?_getD,List.getElem?_map,List.getElem?_range h]; rfl
theorem Ec (n m:Nat) (f:FV):(FS n m f).length=f.M.toNat:=by simp [FS]
theorem mr {P:Program} {fn:Func} {str hcs:List Nat} {s:AS} {t id ver:Nat} (L:List (Int×Int)) (hr:fn.results=#[.tmp t]) (hs:s.get t=.osl id ver 2 0 L.length) (ho:s.h[id]?=some (.row ver (L.length*2) (Xt Kv 2 (0,0) L))):RetOk (QV P fn str hcs (Ld L)) s:=by
 refine BI hr ?_
 rw [hs,Xu]
 refine Jv (.inl ho) (by omega) (fun h=>by rw [h]) fun j hj=>?_
 rw [Nat.zero_add]
 exact (Xe (KC _) _).sees _
theorem DC (c:Int×Int):∀ j,j<2→((Kv c).getD j .any).one=true:=fun j hj=>by
 match j,hj with
 | 0,_=>rfl
 | 1,_=>rfl
 | j+2,h=>omega
theorem P7 (a b:PV) (f:FV) (hf:Ev a.rim.length b.rim.length f) (ha:a.rim.length<1000000) (hb:b.rim.length<1000000):Fn Tryz.prog 152 [Zl a,Zl b,CS f] (Ld (FS a.rim.length b.rim.length f)):=by
 obtain ⟨⟨s1,s2⟩,⟨s3,s4⟩,s5,s6,s7⟩:=hf
 obtain ⟨N,hN⟩:∃ N:Nat,f.M=N:=⟨f.M.toNat,by omega⟩
 obtain ⟨L,hL⟩:∃ L,L=FS a.rim.length b.rim.length f:=⟨_,rfl⟩
 have hlen:L.length=N:=by rw [hL,Ec,hN]; rfl
 have hat:∀ k,k<N→L.getD k (0,0)=((xK a.rim.length f k:Int),(yK b.rim.length f k:Int)):=fun k hk=>by rw [hL]; exact Hy _ _ _ _ (by omega)
 rw [← hL]
 have ba:XW 4 (.con 0 25 (Xk (QC a)))=True:=eq_true (fun j _=>X7 (Xe (XP a) j))
 have bb:XW 4 (.con 0 25 (Xk (QC b)))=True:=eq_true (fun j _=>X7 (Xe (XP b) j))
 have bf:XW 4 (.con 0 29 (Xk (Jp f)))=True:=eq_true (fun j _=>X7 (Xe (Qq f) j))
 have br:∀ i l n,XW 4 (.row i n (Xt Kv 2 (0,0) l))=True:=fun i l n=>eq_true fun j _=>X7 (Xe (KC _) _)
 refine Fv Tryz.call152 Tryz.func152 9 [10,11] [5,60000003,60000004,60000005] [] ?_
 simp only [AS.start,Zl,QC,CS,Jp,↓X1,wF,seval]
 refine Xd (fun k:Nat=>⟨9,[10,11],[.any,.any,.any,.ref 0 0 0,.ref 1 0 0,.ref 2 0 0,.any,.osl 3 k 2 0 k,.any],[(10,I f.M),(11,I k)],[.con 0 25 (Xk (QC a)),.con 0 25 (Xk (QC b)),.con 0 29 (Xk (Jp f)),.row k (k*2) (Xt Kv 2 (0,0) (L.take k))]⟩) (fun k=>k≤N) (fun k=>N - k) 0 (by omega)
  (Sub.trans (Qy 0 rfl) (Sub.trans (Qy 1 rfl) (Sub.trans (Qy 2 rfl) (Sub.trans (Jk 7 2 (Xt Kv 2 (0,0) []) rfl) (Xf rfl (by simp [AS.put,Xg,I]) (by simp [AS.put,Xn,Xr,I]) (by simp [AS.put,QC,Jp,Xu,XR,X4,I])))))) ?_
 intro k hk next
 have w1:=wj k (by omega)
 by_cases hk2:k<N
 ·have f1:((k:Int)<f.M)=True:=eq_true (by omega)
  have wx:IntKind.i64.wrap (f.EA+(k:Int))=f.EA+(k:Int):=by rw [IntKind.wrap_i64]; omega
  have wy:IntKind.i64.wrap (f.EB - (k:Int))=f.EB - (k:Int):=by rw [IntKind.wrap_i64]; omega
  have c1:=ZI (f.EA+(k:Int)) a.rim.length (by omega) (by omega) (by omega)
  have c2:=ZI (f.EB - (k:Int)) b.rim.length (by omega) (by omega) (by omega)
  rw [VT _ _ _ (by omega)] at c1
  rw [iZ _ _ _ (by omega)] at c2
  have hap:=QR Kv 2 (0,0) (L.take k) (L.getD k (0,0)) (by omega)
  rw [← Cn _ _ (by omega),hat k hk2,show (L.take k).length=k by simp; omega] at hap
  refine Xi ?_
  simp only [QC,Jp,Xu,w1,wx,wy,f1,Int.toNat_natCast,↓X1,wF,seval]
  refine X0 c1 rfl ?_
  simp only [QC,Jp,Xu,w1,wx,wy,f1,Int.toNat_natCast,↓X1,wF,seval]
  refine X0 c2 rfl ?_
  simp only [QC,Jp,Xu,w1,wx,wy,f1,Int.toNat_natCast,↓X1,wF,seval]
  exact ⟨⟨DC ((xK a.rim.length f k:Int),(yK b.rim.length f k:Int)),by omega,by omega⟩,next (k+1) _ (by omega) (by omega) (XD (m:=4) (Nat.zero_le _) rfl (by simp [Xg,I]) (by simp [Xn,Xr,I]) (by rw [← hap]; simp [QC,Jp,Xu,XR,X4,I,Kv]) (by simp [XA]) (by simp [XA]) (by simp [ba,bb,bf,br]))⟩
 obtain rfl:k=N:=by omega
 have f1:((k:Int)<f.M)=False:=eq_false (by omega)
 refine Xi ?_
 simp only [QC,Jp,f1,↓X1,wF,seval]
 rw [List.take_of_length_le (by omega)]
 exact mr _ rfl (by rw [hlen]; rfl) (by rw [hlen]; rfl)
def Nv (wa wb:Bool) (x y:Int):Bool:=wa || wb || (decide (x≠y) && decide (x≠0) && decide (y≠0))
def OT (a b:PV) (f:FV) (k:Nat):Bool:=Nv (a.worn.getD (xK a.rim.length f k) false) (b.worn.getD (yK b.rim.length f k) false) (a.marks.getD (xK a.rim.length f k) 0) (b.marks.getD (yK b.rim.length f k) 0)
def LC (a b:PV) (f:FV):Prop:=∀ k,k<f.M.toNat→OT a b f k=false
theorem dn (wa wb:Bool) (x y:Int) :
  (Nv wa wb x y=true∧wa=true∧True∧True∧True∧True)∨(Nv wa wb x y=true∧wa=false∧wb=true∧True∧True∧True)∨(Nv wa wb x y=false∧wa=false∧wb=false∧(x=y)=True∧True∧True) ∨
  (Nv wa wb x y=false∧wa=false∧wb=false∧(x=y)=False∧(x=0)=True∧True)∨(Nv wa wb x y=false∧wa=false∧wb=false∧(x=y)=False∧(x=0)=False∧(y=0)=True) ∨
  (Nv wa wb x y=true∧wa=false∧wb=false∧(x=y)=False∧(x=0)=False∧(y=0)=False):=by
 unfold Nv
 cases wa
 rotate_left
 ·exact .inl ⟨rfl,rfl,trivial,trivial,trivial,trivial⟩
 cases wb
 rotate_left
 ·exact .inr (.inl ⟨rfl,rfl,rfl,trivial,trivial,trivial⟩)
 by_cases h1:x=y
 ·exact .inr (.inr (.inl ⟨by simp [h1],rfl,rfl,eq_true h1,trivial,trivial⟩))
 by_cases h2:x=0
 ·exact .inr (.inr (.inr (.inl ⟨by simp [h2],rfl,rfl,eq_false h1,eq_true h2,trivial⟩)))
 by_cases h3:y=0
 ·exact .inr (.inr (.inr (.inr (.inl ⟨by simp [h3],rfl,rfl,eq_false h1,eq_false h2,eq_true h3⟩))))
 ·exact .inr (.inr (.inr (.inr (.inr ⟨by simp [h1,h2,h3],rfl,rfl,eq_false h1,eq_false h2,eq_false h3⟩))))
structure PV.even (p:PV):Prop where
 rim:p.rim.length<1000000
 worn:p.worn.length=p.rim.length
 marks:p.marks.length=p.rim.length
 near:Jc p.rim
theorem Rl (a b:PV) (f:FV) (hf:Ev a.rim.length b.rim.length f) (ha:a.even) (hb:b.even):Fn Tryz.prog 132 [Zl a,Zl b,CS f] (.bool (decide (LC a b f))):=by
 have ce:=P7 a b f hf ha.rim hb.rim
 obtain ⟨⟨s1,s2⟩,⟨s3,s4⟩,s5,s6,s7⟩:=hf
 obtain ⟨N,hN⟩:∃ N:Nat,f.M=N:=⟨f.M.toNat,by omega⟩
 have la:=ha.rim; have lb:=hb.rim
 obtain ⟨V,hV⟩:∃ V,V=decide (LC a b f):=⟨_,rfl⟩
 rw [← hV]
 obtain ⟨L,hL⟩:∃ L,L=FS a.rim.length b.rim.length f:=⟨_,rfl⟩
 have hlen:L.length=N:=by rw [hL,Ec,hN]; rfl
 have hat:∀ k,k<N→L.getD k (0,0)=((xK a.rim.length f k:Int),(yK b.rim.length f k:Int)):=fun k hk=>by rw [hL]; exact Hy _ _ _ _ (by omega)
 rw [← hL] at ce
 clear hL
 have fin:∀ {s:AS} {v:Bool},s.get 6=.bool v→v=V→RetOk (QV Tryz.prog Tryz.f132 [] [] (.bool V)) s:=fun h e=>Xx rfl h (X2 _) (by rw [e])
 have ba:XW 3 (.row 0 25 (Xk (QC a)))=True:=eq_true (XX (XP a))
 have bb:XW 3 (.row 0 25 (Xk (QC b)))=True:=eq_true (XX (XP b))
 have bf:XW 3 (.row 0 29 (Xk (Jp f)))=True:=eq_true (XX (Qq f))
 have bL:Kn 3 (Ld L)=True:=eq_true (X7 (KD _))
 refine Fv Tryz.call132 Tryz.func132 12 [15,16,17] [] [] ?_
 simp only [AS.start,Zl,QC,CS,Jp,↓X1,wF,seval]
 refine X0 ce rfl ?_
 simp only [Xu,hlen,↓X1,wF,seval]
 refine Xd (fun k:Nat=>⟨12,[15,16,17],[.any,.any,.any,.ref 0 0 0,.ref 1 0 0,.ref 2 0 0,.any,.bool true,.any,.any,.any,.any],[(15,Ld L),(16,I N),(17,I k)],[.row 0 25 (Xk (QC a)),.row 0 25 (Xk (QC b)),.row 0 29 (Xk (Jp f))]⟩) (fun k=>k≤N∧∀ j,j<k→OT a b f j=false) (fun k=>N - k) 0 ⟨by omega,by omega⟩
  (Xf rfl (by simp [Xg,I]) (by simp [Xn,Xr,Xu,hlen,I]) (by simp [QC,Jp,Xu,XR,X4,I])) ?_
 rintro k ⟨hk,hok⟩ next
 have w1:=wj k (by omega)
 by_cases hk2:k<N
 rotate_left
 ·obtain rfl:k=N:=by omega
  refine Xi ?_
  simp only [QC,Jp,Int.lt_irrefl,Nat.lt_irrefl,↓X1,wF,seval]
  exact fin rfl (by rw [hV,decide_eq_true]; exact fun j hj=>hok j (by omega))
 have nx:=next (k+1)
 have f1:((k:Int)<N)=True:=eq_true (by omega)
 have f2:(k<N)=True:=eq_true hk2
 have f3:(k*2+2≤N*2)=True:=eq_true (by omega)
 have v1:=u9 L k
 rw [hat k hk2] at v1
 have hx:=oF a.rim.length f k (by omega)
 have hy:=ur b.rim.length f k (by omega)
 have ex:=VT a.rim.length f k (by omega)
 have ey:=iZ b.rim.length f k (by omega)
 have six:=dn (a.worn.getD (xK a.rim.length f k) false) (b.worn.getD (yK b.rim.length f k) false) (a.marks.getD (xK a.rim.length f k) 0) (b.marks.getD (yK b.rim.length f k) 0)
 have hbad:OT a b f k=Nv (a.worn.getD (xK a.rim.length f k) false) (b.worn.getD (yK b.rim.length f k) false) (a.marks.getD (xK a.rim.length f k) 0) (b.marks.getD (yK b.rim.length f k) 0):=rfl
 rw [← hbad] at six
 clear hbad
 have no:OT a b f k=true→false=V:=fun h=>by rw [hV,decide_eq_false]; intro hp; rw [hp k (by omega)] at h; cases h
 generalize xK a.rim.length f k=X at *
 generalize yK b.rim.length f k=Y at *
 have g1:((X:Int)<a.worn.length)=True:=eq_true (by have:=ha.worn; omega)
 have g2:(X<a.worn.length)=True:=eq_true (by have:=ha.worn; omega)
 have g3:((Y:Int)<b.worn.length)=True:=eq_true (by have:=hb.worn; omega)
 have g4:(Y<b.worn.length)=True:=eq_true (by have:=hb.worn; omega)
 have g5:((X:Int)<a.marks.length)=True:=eq_true (by have:=ha.marks; omega)
 have g6:(X<a.marks.length)=True:=eq_true (by have:=ha.marks; omega)
 have g7:((Y:Int)<b.marks.length)=True:=eq_true (by have:=hb.marks; omega)
 have g8:(Y<b.marks.length)=True:=eq_true (by have:=hb.marks; omega)
 have n2:((2:Nat):Int)=2:=rfl
 have t1:(1:Int).toNat=1:=rfl
 rcases six with ⟨hB,q1,q2,q3,q4,q5⟩ | ⟨hB,q1,q2,q3,q4,q5⟩ | ⟨hB,q1,q2,q3,q4,q5⟩ | ⟨hB,q1,q2,q3,q4,q5⟩ | ⟨hB,q1,q2,q3,q4,q5⟩ | ⟨hB,q1,q2,q3,q4,q5⟩
 all_goals
  refine Xi ?_
  simp only [QC,Jp,Xu,XR,X4,hlen,w1,f1,f2,f3,v1,g1,g2,g3,g4,g5,g6,g7,g8,q1,q2,q3,q4,q5,n2,t1,Int.toNat_zero,Int.reduceLT,Int.reduceLE,Int.toNat_natCast,↓X1,wF,seval]
  first
   | exact fin rfl (no hB)
   | exact nx _ ⟨by omega,CC.2 ⟨hok,hB⟩⟩ (by omega) (XD (m:=3) (Nat.zero_le _) rfl (by simp [Xg,I]) (by simp [Xn,Xr,Xu,hlen,I]) (by simp [QC,Jp,Xu,XR,X4,I]) (by simp [XA]) (by simp [XA,bL]) (by simp [ba,bb,bf]))
theorem aP {s:List V2} {j:Nat} (h:j<s.length):s.getD j v0∈s:=by
 rw [List.getD_eq_getElem?_getD,List.getElem?_eq_getElem h]; exact List.getElem_mem h
def uy (f:FV):AV:=.ptr 29 (Xk (Jp f)) 0
theorem GJ (f:FV):Settled (uy f):=QF fun j _=>Xe (Qq f) j
noncomputable def LR (a b:PV) (f:FV) (k:Nat):V2×Bool:=Kr a.rim b.rim (xK a.rim.length f k) (yK b.rim.length f k)
noncomputable def QT (a b:PV) (f:FV):Nat→List V2
 | 0=>[]
 | k+1=>if (LR a b f k).2=true then QT a b f k ++ [(LR a b f k).1] else QT a b f k
theorem HK (a b:PV) (f:FV):∀ k,(QT a b f k).length≤k
 | 0=>Nat.le_refl _
 | k+1=>by
  have ih:=HK a b f k
  simp only [QT]
  split
  ·rw [List.length_append]; simp only [List.length_singleton]; omega
  ·omega
theorem HL (a b:PV) (f:FV) (ha:Jc a.rim) (hb:Jc b.rim):∀ k,∀ t∈QT a b f k,vb t≤26
 | 0=>fun t h=>by simp [QT] at h
 | k+1=>by
  have ih:=HL a b f ha hb k
  intro t h
  simp only [QT] at h
  split at h
  ·rcases List.mem_append.1 h with h | h
   ·exact ih t h
   ·simp only [List.mem_cons,List.not_mem_nil,or_false] at h
    subst h; exact EL ha hb _ _
  ·exact ih t h
def pj (a b:PV) (f:FV):Prop:=∃ k,k<f.M.toNat∧(LR a b f k).2=true∧(LR a b f k).1=f.turn
theorem OI (a b:PV) (f:FV) (t:V2):∀ n,(QT a b f n).any (fun x=>decide (x=t))=true↔∃ k,k<n∧(LR a b f k).2=true∧(LR a b f k).1=t
 | 0=>by simp [QT]
 | n+1=>by
  have ih:=OI a b f t n
  by_cases h:(LR a b f n).2=true
  ·have e:QT a b f (n+1)=QT a b f n ++ [(LR a b f n).1]:=if_pos h
   rw [e,List.any_append,Bool.or_eq_true,ih]
   simp only [List.any_cons,List.any_nil,Bool.or_false,decide_eq_true_eq]
   constructor
   ·rintro (⟨k,h1,h2⟩ | h1)
    ·exact ⟨k,by omega,h2⟩
    ·exact ⟨n,by omega,h,h1⟩
   ·rintro ⟨k,h1,h2,h3⟩
    by_cases hk:k=n
    ·subst hk; exact .inr h3
    ·exact .inl ⟨k,by omega,h2,h3⟩
  ·have e:QT a b f (n+1)=QT a b f n:=if_neg h
   rw [e,ih]
   constructor
   ·rintro ⟨k,h1,h2⟩; exact ⟨k,by omega,h2⟩
   ·rintro ⟨k,h1,h2,h3⟩
    by_cases hk:k=n
    ·subst hk; exact absurd h2 h
    ·exact ⟨k,by omega,h2,h3⟩
noncomputable def MC (x y:Rat):Rat:=if x<y then y else x
noncomputable def Mz (x y:Rat):Rat:=if y<x then y else x
theorem gP (x y:Rat) (k:Nat) (hx:qb x≤k) (hy:qb y≤k):qb (MC x y)≤k:=by unfold MC; split <;> assumption
theorem gO (x y:Rat) (k:Nat) (hx:qb x≤k) (hy:qb y≤k):qb (Mz x y)≤k:=by unfold Mz; split <;> assumption
theorem LW (x y:Rat) (hx:qb x≤rm) (hy:qb y≤rm):Fn Tryz.prog 125 [qA x,qA y] (qA (MC x y)):=by
 have c1:=Qw x y hx hy
 obtain ⟨R,hR⟩:∃ R,R=qA (MC x y):=⟨_,rfl⟩
 have sR:Settled R:=hR▸Xa _
 rw [← hR]
 refine Fr Tryz.call125 Tryz.func125 5 [] [] [] ?_; simp (maxSteps:=999999) only [AS.start,↓X1,wF,seval]
 refine X0 c1 rfl ?_
 by_cases h:x<y
 ·have f1:(QZ x y<0)=True:=eq_true ((ZV x y).2 h)
  simp only [f1,↓X1,wF,seval]
  have e:MC x y=y:=if_pos h
  rw [e] at hR
  exact JL rfl Qe rfl rfl rfl sR (hR.trans rfl)
 ·have f1:(QZ x y<0)=False:=eq_false fun hh=>h ((ZV x y).1 hh)
  simp only [f1,↓X1,wF,seval]
  have e:MC x y=x:=if_neg h
  rw [e] at hR
  exact JL rfl Qe rfl rfl rfl sR (hR.trans rfl)
theorem IX (x y:Rat) (hx:qb x≤rm) (hy:qb y≤rm):Fn Tryz.prog 126 [qA x,qA y] (qA (Mz x y)):=by
 have c1:=Qw x y hx hy
 obtain ⟨R,hR⟩:∃ R,R=qA (Mz x y):=⟨_,rfl⟩
 have sR:Settled R:=hR▸Xa _
 rw [← hR]
 refine Fr Tryz.call126 Tryz.func126 5 [] [] [] ?_; simp (maxSteps:=999999) only [AS.start,↓X1,wF,seval]
 refine X0 c1 rfl ?_
 by_cases h:y<x
 ·have f1:(0<QZ x y)=True:=eq_true ((KN x y).2 h)
  simp only [f1,↓X1,wF,seval]
  have e:Mz x y=y:=if_pos h
  rw [e] at hR
  exact JL rfl Qe rfl rfl rfl sR (hR.trans rfl)
 ·have f1:(0<QZ x y)=False:=eq_false fun hh=>h ((KN x y).1 hh)
  simp only [f1,↓X1,wF,seval]
  have e:Mz x y=x:=if_neg h
  rw [e] at hR
  exact JL rfl Qe rfl rfl rfl sR (hR.trans rfl)
noncomputable def oh (g:Nat→Rat):Nat→Rat
 | 0=>g 0
 | k+1=>MC (oh g k) (g (k+1))
noncomputable def oe (g:Nat→Rat):Nat→Rat
 | 0=>g 0
 | k+1=>Mz (oe g k) (g (k+1))
theorem IC (g:Nat→Rat) (c:Nat) (h:∀ k,qb (g k)≤c):∀ n,qb (oh g n)≤c
 | 0=>h 0
 | n+1=>gP _ _ _ (IC g c h n) (h _)
theorem IB (g:Nat→Rat) (c:Nat) (h:∀ k,qb (g k)≤c):∀ n,qb (oe g n)≤c
 | 0=>h 0
 | n+1=>gO _ _ _ (IB g c h n) (h _)
def AX (a b:List (Int×Int)) (f:FV) (k:Nat):V2 :=
 (Qc (a.getD (xK a.length f k) (0,0))).sub (ZB f.turn (Qc (b.getD ((f.EB+1 - k) % b.length).toNat (0,0))))
noncomputable def EG (a b:List (Int×Int)) (f:FV) (k:Nat):V2:=⟨oh (fun j=>(AX a b f j).x) k,oh (fun j=>(AX a b f j).y) k⟩
noncomputable def EF (a b:List (Int×Int)) (f:FV) (k:Nat):V2:=⟨oe (fun j=>(AX a b f j).x) k,oe (fun j=>(AX a b f j).y) k⟩
noncomputable def XU (a b:List (Int×Int)) (f:FV) (e:Rat):V2×V2×Bool :=
 if Ev a.length b.length f∧Z9 f.turn then
  let lo:=(EG a b f f.M.toNat).sub ⟨e,e⟩
  let hi:=(EF a b f f.M.toNat).add ⟨e,e⟩
  if hi.x<lo.x∨hi.y<lo.y then (v0,v0,false) else (lo,hi,true)
 else (v0,v0,false)
theorem Zg {R:List (Int×Int)} (h:Jc R) (i:Nat):vb (Qc (R.getD i (0,0)))≤3:=by
 have:=D0 h i
 have q1:=Z8 (R.getD i (0,0)).1 3 (by omega) (QJ ⟨by omega,by omega⟩)
 have q2:=Z8 (R.getD i (0,0)).2 3 (by omega) (QJ ⟨by omega,by omega⟩)
 unfold vb Qc
 simp only
 omega
theorem Bx {a b:List (Int×Int)} (ha:Jc a) (hb:Jc b) (f:FV) (ht:vb f.turn≤1000) (k:Nat):vb (AX a b f k)≤3000:=by
 have h1:=Zg ha (xK a.length f k)
 have h2:=Zg hb ((f.EB+1 - k) % b.length).toNat
 unfold AX
 have h3:=Ez f.turn (Qc (b.getD ((f.EB+1 - k) % b.length).toNat (0,0)))
 have h4:=Za (Qc (a.getD (xK a.length f k) (0,0))) (ZB f.turn (Qc (b.getD ((f.EB+1 - k) % b.length).toNat (0,0))))
 omega
theorem Mx {a b:List (Int×Int)} (ha:Jc a) (hb:Jc b) (f:FV) (ht:vb f.turn≤1000) (k:Nat):vb (EG a b f k)≤3000:=by
 have h1:=IC (fun j=>(AX a b f j).x) 3000 (fun j=>Nat.le_trans (QL _) (Bx ha hb f ht j)) k
 have h2:=IC (fun j=>(AX a b f j).y) 3000 (fun j=>Nat.le_trans (QG _) (Bx ha hb f ht j)) k
 exact Nat.max_le.2 ⟨h1,h2⟩
theorem Mo {a b:List (Int×Int)} (ha:Jc a) (hb:Jc b) (f:FV) (ht:vb f.turn≤1000) (k:Nat):vb (EF a b f k)≤3000:=by
 have h1:=IB (fun j=>(AX a b f j).x) 3000 (fun j=>Nat.le_trans (QL _) (Bx ha hb f ht j)) k
 have h2:=IB (fun j=>(AX a b f j).y) 3000 (fun j=>Nat.le_trans (QG _) (Bx ha hb f ht j)) k
 exact Nat.max_le.2 ⟨h1,h2⟩
theorem Vy {P:Program} {fn:Func} {str hcs:List Nat} {a b c x y z:AV} {s:AS} {r1 r2 r3:ResultVar} (hr:fn.results=#[r1,r2,r3]) (h1:Je P s r1=some x) (h2:Je P s r2=some y) (h3:Je P s r3=some z) (g1:Kj s.h x a) (g2:Kj s.h y b) (g3:Kj s.h z c) :
  RetOk (QV P fn str hcs (.tup [a,b,c])) s :=
 ⟨.tup [x,y,z],by simp [KO,Ic,BX,hr,J2,ZA,h1,h2,h3],AM ⟨g1,g2,g3,trivial⟩⟩
def Q2:List AV:=[.bool false,.sl 0 0 (fun _=>.any) true,.bool false,.sl 0 0 (fun _=>.any) true,.bool false,.sl 0 0 (fun _=>.any) true,.bool false,.sl 0 0 (fun _=>.any) true]
noncomputable def YD (a b:List (Int×Int)) (f:FV):Nat→List AV
 | 0=>Q2
 | k+1=>vC (EG a b f k)
noncomputable def Yt (a b:List (Int×Int)) (f:FV):Nat→List AV
 | 0=>Q2
 | k+1=>vC (EF a b f k)
theorem Dd (a b:List (Int×Int)) (f:FV):∀ k,∀ x∈YD a b f k,Settled x
 | 0=>fun x h=>by
  simp only [YD,Q2,List.mem_cons,List.not_mem_nil,or_false] at h
  rcases h with rfl | rfl | rfl | rfl | rfl | rfl | rfl | rfl <;> first | exact X2 _ | exact QP (fun j hj=>absurd hj (Nat.not_lt_zero j))
 | k+1=>by simp [YD,vC,X8,X2]
theorem RI (a b:List (Int×Int)) (f:FV):∀ k,∀ x∈Yt a b f k,Settled x
 | 0=>fun x h=>by
  simp only [Yt,Q2,List.mem_cons,List.not_mem_nil,or_false] at h
  rcases h with rfl | rfl | rfl | rfl | rfl | rfl | rfl | rfl <;> first | exact X2 _ | exact QP (fun j hj=>absurd hj (Nat.not_lt_zero j))
 | k+1=>by simp [Yt,vC,X8,X2]
def yL (m:Nat) (f:FV) (k:Nat):Nat:=((f.EB+1 - k) % m).toNat
theorem oG (m:Nat) (f:FV) (k:Nat) (h:0<m):(f.EB+1 - k) % (m:Int)=(yL m f k:Int):=by
 have:=Int.emod_nonneg (f.EB+1 - k) (show (m:Int)≠0 by omega)
 unfold yL; omega
theorem ut (m:Nat) (f:FV) (k:Nat) (h:0<m):yL m f k<m:=by
 have:=oG m f k h
 have:=Int.emod_lt_of_pos (f.EB+1 - k) (show (0:Int)<m by omega)
 omega
theorem cO (a b:PV) (f:FV) (ha:a.even) (hb:b.even) (ht:vb f.turn≤1000) {ta tb:Rat} (ea:a.tol=RQ.of ta) (eb:b.tol=RQ.of tb) (qa:qb ta≤1000) (q2:qb tb≤1000) :
  Fn Tryz.prog 46 [Zl a,Zl b,CS f] (.tup [vA (XU a.rim b.rim f (ta+tb)).1,vA (XU a.rim b.rim f (ta+tb)).2.1,.bool (XU a.rim b.rim f (ta+tb)).2.2]):=by
 have la:=ha.rim; have lb:=hb.rim
 obtain ⟨R,hR⟩:∃ R,R=XU a.rim b.rim f (ta+tb):=⟨_,rfl⟩
 rw [← hR]
 have zret:∀ {s:AS} {i j v w:Nat},s.get 6=.ref i v 0→s.h[i]?=some (.row v 8 (Xk ZD))→s.get 7=.ref j w 0→s.h[j]?=some (.row w 8 (Xk ZD))→s.get 8=.bool false→R=(v0,v0,false)→RetOk (QV Tryz.prog Tryz.f46 [9,100000005,11,120000015,18,190000012,190000013] [] (.tup [vA R.1,vA R.2.1,.bool R.2.2])) s:=fun h1 h2 h3 h4 h5 h6=>by
  subst h6
  exact Vy rfl (Xl K8 h1 h2 rfl) (Xl K8 h3 h4 rfl) (by unfold Je; rfl) (XN (Xm _) (Ji Co)) (XN (Xm _) (Ji Co)) (by rw [h5]; exact (X2 _).sees _)
 have cs:=Pj a b f la lb
 have ct:=gM f.turn (by unfold vm; omega)
 refine Fv Tryz.call46 Tryz.func46 16 [40,41] [9,100000005,11,120000015,18,190000012,190000013] [] ?_
 simp only [AS.start,Zl,QC,CS,Jp,↓X1,wA,↓reduceIte,reduceIte,reduceCtorEq,Y1,Y2,Y3,Y4,Y5,Y6,Y7,Y8,Y9,YA,wE]
 refine X0 cs rfl ?_
 by_cases hf:Ev a.rim.length b.rim.length f
 rotate_left
 ·rw [decide_eq_false hf]
  simp only [↓X1,wA,↓reduceIte,reduceIte,reduceCtorEq,Y1,Y2,Y3,Y4,Y5,Y6,Y7,Y8,Y9,YA,wE]
  exact zret rfl rfl rfl rfl rfl (by rw [hR]; unfold XU; rw [if_neg fun h=>hf h.1])
 rw [decide_eq_true hf]
 simp only [↓X1,wA,↓reduceIte,reduceIte,reduceCtorEq,Y1,Y2,Y3,Y4,Y5,Y6,Y7,Y8,Y9,YA,wE]
 refine X0 ct rfl ?_
 by_cases hto:Z9 f.turn
 rotate_left
 ·rw [decide_eq_false hto]
  simp only [↓X1,wA,↓reduceIte,reduceIte,reduceCtorEq,Y1,Y2,Y3,Y4,Y5,Y6,Y7,Y8,Y9,YA,wE]
  exact zret rfl rfl rfl rfl rfl (by rw [hR]; unfold XU; rw [if_neg fun h=>hto h.2])
 rw [decide_eq_true hto]
 have hRe:R=if ((EF a.rim b.rim f f.M.toNat).add ⟨ta+tb,ta+tb⟩).x<((EG a.rim b.rim f f.M.toNat).sub ⟨ta+tb,ta+tb⟩).x∨((EF a.rim b.rim f f.M.toNat).add ⟨ta+tb,ta+tb⟩).y<((EG a.rim b.rim f f.M.toNat).sub ⟨ta+tb,ta+tb⟩).y then (v0,v0,false) else ((EG a.rim b.rim f f.M.toNat).sub ⟨ta+tb,ta+tb⟩,(EF a.rim b.rim f f.M.toNat).add ⟨ta+tb,ta+tb⟩,true):=by
  rw [hR]; unfold XU; rw [if_pos ⟨hf,hto⟩]
 clear hR
 obtain ⟨⟨s1,s2⟩,⟨s3,s4⟩,s5,s6,s7⟩:=hf
 obtain ⟨N,hN⟩:∃ N:Nat,f.M=N:=⟨f.M.toNat,by omega⟩
 have hNt:f.M.toNat=N:=by rw [hN]; rfl
 rw [hNt] at hRe
 have r1:=IK a la (Zr ha.near)
 have r2:=IK b lb (Zr hb.near)
 have hla:(Xp a.rim).length=a.rim.length:=by simp [Xp]
 have hlb:(Xp b.rim).length=b.rim.length:=by simp [Xp]
 have c3:Fn Tryz.prog 70 [a.tol.A,b.tol.A] (qA (ta+tb)):=by rw [ea,eb]; exact ZW ta tb (by unfold rm; omega) (by unfold rm; omega)
 have qe:=Z7 ta tb
 simp only [↓X1,wA,↓reduceIte,reduceIte,reduceCtorEq,Y1,Y2,Y3,Y4,Y5,Y6,Y7,Y8,Y9,YA,wE]
 refine X0 r1 rfl ?_
 simp only [↓X1,wA,↓reduceIte,reduceIte,reduceCtorEq,Y1,Y2,Y3,Y4,Y5,Y6,Y7,Y8,Y9,YA,wE]
 refine X0 r2 rfl ?_
 simp only [↓X1,wA,↓reduceIte,reduceIte,reduceCtorEq,Y1,Y2,Y3,Y4,Y5,Y6,Y7,Y8,Y9,YA,wE]
 refine X0 c3 rfl ?_
 have wM:IntKind.i64.wrap (f.M+1)=((N+1:Nat):Int):=by rw [IntKind.wrap_i64]; omega
 simp only [wM,↓X1,wA,↓reduceIte,reduceIte,reduceCtorEq,Y1,Y2,Y3,Y4,Y5,Y6,Y7,Y8,Y9,YA,wE]
 have ba:XW 8 (.row 0 25 (Xk (QC a)))=True:=eq_true (XX (XP a))
 have bb:XW 8 (.row 0 25 (Xk (QC b)))=True:=eq_true (XX (XP b))
 have bf:XW 8 (.con 0 29 (Xk (Jp f)))=True:=eq_true (fun j _=>X7 (Xe (Qq f) j))
 have bz:XW 8 (.row 0 8 (Xk Q2))=True:=eq_true (XX (Dd a.rim b.rim f 0))
 have be:XW 8 (.row 0 4 (Xk [.bool (decide ((ta+tb).num<0)),X3 (X6 (ta+tb).num.natAbs),.bool false,X3 (X6 (qd (ta+tb)))]))=True:=eq_true (XX (by simp [X8,X2]))
 have bl:∀ k,XW 8 (.row 0 8 (Xk (YD a.rim b.rim f k)))=True:=fun k=>eq_true (XX (Dd a.rim b.rim f k))
 have bh:∀ k,XW 8 (.row 0 8 (Xk (Yt a.rim b.rim f k)))=True:=fun k=>eq_true (XX (RI a.rim b.rim f k))
 have bx:Kn 8 (Xw (Xp a.rim))=True:=eq_true (X7 (Xh _))
 have by':Kn 8 (Xw (Xp b.rim))=True:=eq_true (X7 (Xh _))
 refine Xd (fun k:Nat=>⟨16,[40,41],[.any,.any,.any,.ref 0 0 0,.ref 1 0 0,.ref 2 0 0,.ref 3 0 0,.ref 4 0 0,.bool false,Xw (Xp a.rim),Xw (Xp b.rim),.ref 5 0 0,.ref 6 0 0,.ref 7 0 0,.any,.any],[(40,I ((N+1:Nat):Int)),(41,I k)],[.row 0 25 (Xk (QC a)),.row 0 25 (Xk (QC b)),.con 0 29 (Xk (Jp f)),.row 0 8 (Xk Q2),.row 0 8 (Xk Q2),.row 0 4 (Xk [.bool (decide ((ta+tb).num<0)),X3 (X6 (ta+tb).num.natAbs),.bool false,X3 (X6 (qd (ta+tb)))]),.row 0 8 (Xk (YD a.rim b.rim f k)),.row 0 8 (Xk (Yt a.rim b.rim f k))]⟩) (fun k=>k≤N+1) (fun k=>N+1 - k) 0 (by omega)
  (Sub.trans (Qy 2 rfl) (Xf rfl (by simp [Xg,X5,I]) (by simp [Xn,Xr,I]) (by simp [QC,Jp,Q2,YD,Yt,Xu,XR,X4,I]))) ?_
 intro k hk next
 have w1:=wj k (by omega)
 by_cases hk2:k<N+1
 ·have nx:=next (k+1)
  have fk:((k:Int)<((N+1:Nat):Int))=True:=eq_true (by omega)
  have wx:IntKind.i64.wrap (f.EA+(k:Int))=f.EA+(k:Int):=by rw [IntKind.wrap_i64]; omega
  have wy1:IntKind.i64.wrap (f.EB+1)=f.EB+1:=by rw [IntKind.wrap_i64]; omega
  have wy:IntKind.i64.wrap (f.EB+1 - (k:Int))=f.EB+1 - (k:Int):=by rw [IntKind.wrap_i64]; omega
  have c1:=ZI (f.EA+(k:Int)) a.rim.length (by omega) (by omega) (by omega)
  have c2:=ZI (f.EB+1 - (k:Int)) b.rim.length (by omega) (by omega) (by omega)
  rw [VT _ _ _ (by omega)] at c1
  rw [oG _ _ _ (by omega)] at c2
  have hX:=oF a.rim.length f k (by omega)
  have hY:=ut b.rim.length f k (by omega)
  have vx:=Zg ha.near (xK a.rim.length f k)
  have vy:=Zg hb.near (yL b.rim.length f k)
  have vr:=Ez f.turn (Qc (b.rim.getD (yL b.rim.length f k) (0,0)))
  have c3:=Ix f.turn (Qc (b.rim.getD (yL b.rim.length f k) (0,0))) (by unfold vm; omega) (by unfold vm; omega)
  have c4:=B8 (Qc (a.rim.getD (xK a.rim.length f k) (0,0))) (ZB f.turn (Qc (b.rim.getD (yL b.rim.length f k) (0,0)))) (by unfold rm; omega) (by unfold rm; omega)
  rw [show (Qc (a.rim.getD (xK a.rim.length f k) (0,0))).sub (ZB f.turn (Qc (b.rim.getD (yL b.rim.length f k) (0,0))))=AX a.rim b.rim f k from rfl] at c4
  have hD:=Bx ha.near hb.near f ht
  have hL:=Mx ha.near hb.near f ht
  have hH:=Mo ha.near hb.near f ht
  have v1:=vF (Xp a.rim) (xK a.rim.length f k)
  have v2:=vF (Xp b.rim) (yL b.rim.length f k)
  rw [Z4] at v1 v2
  generalize xK a.rim.length f k=X at *
  generalize yL b.rim.length f k=Y at *
  generalize Qc (a.rim.getD X (0,0))=PX at *
  generalize Qc (b.rim.getD Y (0,0))=PY at *
  generalize ZB f.turn PY=RY at *
  have fX:((X:Int)<a.rim.length)=True:=eq_true (by omega)
  have fX':(X<a.rim.length)=True:=eq_true hX
  have fX8:(X*8+8≤a.rim.length*8)=True:=eq_true (by omega)
  have fY:((Y:Int)<b.rim.length)=True:=eq_true (by omega)
  have fY':(Y<b.rim.length)=True:=eq_true hY
  have fY8:(Y*8+8≤b.rim.length*8)=True:=eq_true (by omega)
  refine Xi ?_
  simp only [Jp,X5,w1,wx,wy1,wy,fk,fX,fX',fX8,fY,fY',fY8,hla,hlb,v1,v2,Int.toNat_natCast,↓X1,wA,↓reduceIte,reduceIte,reduceCtorEq,Y1,Y2,Y3,Y4,Y5,Y6,Y7,Y8,Y9,YA,wE]
  refine X0 c1 rfl ?_
  simp only [Jp,X5,w1,wx,wy1,wy,fk,fX,fX',fX8,fY,fY',fY8,hla,hlb,v1,v2,Int.toNat_natCast,↓X1,wA,↓reduceIte,reduceIte,reduceCtorEq,Y1,Y2,Y3,Y4,Y5,Y6,Y7,Y8,Y9,YA,wE]
  refine X0 c2 rfl ?_
  simp only [Jp,X5,w1,wx,wy1,wy,fk,fX,fX',fX8,fY,fY',fY8,hla,hlb,v1,v2,Int.toNat_natCast,↓X1,wA,↓reduceIte,reduceIte,reduceCtorEq,Y1,Y2,Y3,Y4,Y5,Y6,Y7,Y8,Y9,YA,wE]
  refine X0 c3 rfl ?_
  simp only [Jp,X5,w1,wx,wy1,wy,fk,fX,fX',fX8,fY,fY',fY8,hla,hlb,v1,v2,Int.toNat_natCast,↓X1,wA,↓reduceIte,reduceIte,reduceCtorEq,Y1,Y2,Y3,Y4,Y5,Y6,Y7,Y8,Y9,YA,wE]
  refine X0 c4 rfl ?_
  match k,w1,fk,hk2,nx with
  | 0,w1,fk,hk2,nx =>
   have e0:((0:Nat):Int)=0:=rfl
   have hL0:YD a.rim b.rim f 1=vC (AX a.rim b.rim f 0):=rfl
   have hH0:Yt a.rim b.rim f 1=vC (AX a.rim b.rim f 0):=rfl
   simp only [Nat.zero_add,hL0,hH0] at nx
   generalize AX a.rim b.rim f 0=D at *
   have w0:IntKind.i64.wrap (0+1)=1:=by decide
   have bD:XW 8 (.row 0 8 (Xk (vC D)))=True:=eq_true (XX (by simp [vC,X8,X2]))
   simp only [YD,Yt,Q2,e0,w0,↓X1,wA,↓reduceIte,reduceIte,reduceCtorEq,Y1,Y2,Y3,Y4,Y5,Y6,Y7,Y8,Y9,YA,wE]
   exact nx _ (by omega) (by omega) (XD (m:=8) (Nat.zero_le _) rfl (by simp [Xg,X5,hla,hlb,I]) (by simp [Xn,Xr,I]) (by simp [QC,Jp,Q2,YD,Yt,vC,Xu,XR,X4,I]) (by simp [XA,bx,by']) (by simp [XA]) (by simp [ba,bb,bf,bz,be,bD,bl,bh]))
  | j+1,w1,fk,hk2,nx =>
   have g0:(((j+1:Nat):Int)=0)=False:=eq_false (by omega)
   have g0':((j:Int)+1=0)=False:=eq_false (by omega)
   have g0'':(j+1=0)=False:=eq_false (by omega)
   have bD:=bl 0
   have hl1:YD a.rim b.rim f (j+1)=vC (EG a.rim b.rim f j):=rfl
   have hh1:Yt a.rim b.rim f (j+1)=vC (EF a.rim b.rim f j):=rfl
   have hl2:YD a.rim b.rim f (j+1+1)=vC (EG a.rim b.rim f (j+1)):=rfl
   have hh2:Yt a.rim b.rim f (j+1+1)=vC (EF a.rim b.rim f (j+1)):=rfl
   have hDj:=hD (j+1); have hLj:=hL j; have hHj:=hH j
   have k1:=LW (EG a.rim b.rim f j).x (AX a.rim b.rim f (j+1)).x (by have:=QL (EG a.rim b.rim f j); unfold rm; omega) (by have:=QL (AX a.rim b.rim f (j+1)); unfold rm; omega)
   have k2:=LW (EG a.rim b.rim f j).y (AX a.rim b.rim f (j+1)).y (by have:=QG (EG a.rim b.rim f j); unfold rm; omega) (by have:=QG (AX a.rim b.rim f (j+1)); unfold rm; omega)
   have k3:=IX (EF a.rim b.rim f j).x (AX a.rim b.rim f (j+1)).x (by have:=QL (EF a.rim b.rim f j); unfold rm; omega) (by have:=QL (AX a.rim b.rim f (j+1)); unfold rm; omega)
   have k4:=IX (EF a.rim b.rim f j).y (AX a.rim b.rim f (j+1)).y (by have:=QG (EF a.rim b.rim f j); unfold rm; omega) (by have:=QG (AX a.rim b.rim f (j+1)); unfold rm; omega)
   rw [show MC (EG a.rim b.rim f j).x (AX a.rim b.rim f (j+1)).x=(EG a.rim b.rim f (j+1)).x from rfl] at k1
   rw [show MC (EG a.rim b.rim f j).y (AX a.rim b.rim f (j+1)).y=(EG a.rim b.rim f (j+1)).y from rfl] at k2
   rw [show Mz (EF a.rim b.rim f j).x (AX a.rim b.rim f (j+1)).x=(EF a.rim b.rim f (j+1)).x from rfl] at k3
   rw [show Mz (EF a.rim b.rim f j).y (AX a.rim b.rim f (j+1)).y=(EF a.rim b.rim f (j+1)).y from rfl] at k4
   have bl2:=bl (j+1+1); have bh2:=bh (j+1+1)
   simp only [hl2,hh2] at nx bl2 bh2
   rw [hl1,hh1]
   clear hD hL hH
   generalize AX a.rim b.rim f (j+1)=D at *
   generalize EG a.rim b.rim f (j+1)=L2 at *
   generalize EF a.rim b.rim f (j+1)=H2 at *
   generalize EG a.rim b.rim f j=L1 at *
   generalize EF a.rim b.rim f j=H1 at *
   simp only [g0,g0',g0'',w1,↓X1,wA,↓reduceIte,reduceIte,reduceCtorEq,Y1,Y2,Y3,Y4,Y5,Y6,Y7,Y8,Y9,YA,wE]
   refine X0 k1 rfl ?_
   simp only [g0,g0',g0'',w1,↓X1,wA,↓reduceIte,reduceIte,reduceCtorEq,Y1,Y2,Y3,Y4,Y5,Y6,Y7,Y8,Y9,YA,wE]
   refine X0 k3 rfl ?_
   simp only [g0,g0',g0'',w1,↓X1,wA,↓reduceIte,reduceIte,reduceCtorEq,Y1,Y2,Y3,Y4,Y5,Y6,Y7,Y8,Y9,YA,wE]
   refine X0 k2 rfl ?_
   simp only [g0,g0',g0'',w1,↓X1,wA,↓reduceIte,reduceIte,reduceCtorEq,Y1,Y2,Y3,Y4,Y5,Y6,Y7,Y8,Y9,YA,wE]
   refine X0 k4 rfl ?_
   simp only [g0,g0',g0'',w1,↓X1,wA,↓reduceIte,reduceIte,reduceCtorEq,Y1,Y2,Y3,Y4,Y5,Y6,Y7,Y8,Y9,YA,wE]
   exact nx _ (by omega) (by omega) (XD (m:=8) (Nat.zero_le _) rfl (by simp [Xg,X5,hla,hlb,I]) (by simp [Xn,Xr,I]) (by simp [QC,Jp,Q2,YD,Yt,vC,Xu,XR,X4,I]) (by simp [XA,bx,by']) (by simp [XA]) (by simp [ba,bb,bf,bz,be,bD,bl2,bh2]))
 obtain rfl:k=N+1:=by omega
 have hL:=Mx ha.near hb.near f ht N
 have hH:=Mo ha.near hb.near f ht N
 have hl1:YD a.rim b.rim f (N+1)=vC (EG a.rim b.rim f N):=rfl
 have hh1:Yt a.rim b.rim f (N+1)=vC (EF a.rim b.rim f N):=rfl
 rw [hl1,hh1]
 clear bl bh hl1 hh1
 generalize EG a.rim b.rim f N=LO at *
 generalize EF a.rim b.rim f N=HI at *
 have m0:vb ⟨ta+tb,ta+tb⟩≤2001:=by unfold vb; simp only; omega
 have m1:=Za LO ⟨ta+tb,ta+tb⟩
 have m2:=L8 HI ⟨ta+tb,ta+tb⟩
 have c1:=B8 LO ⟨ta+tb,ta+tb⟩ (by unfold rm; omega) (by unfold rm; omega)
 have c2:=NT HI ⟨ta+tb,ta+tb⟩ (by unfold vm; omega) (by unfold vm; omega)
 generalize LO.sub ⟨ta+tb,ta+tb⟩=A at *
 generalize HI.add ⟨ta+tb,ta+tb⟩=B at *
 have:=QL A; have:=QG A; have:=QL B; have:=QG B
 have q1:=Qw A.x B.x (by unfold rm; omega) (by unfold rm; omega)
 have q2:=Qw A.y B.y (by unfold rm; omega) (by unfold rm; omega)
 refine Xi ?_
 simp only [Jp,Int.lt_irrefl,Nat.lt_irrefl,↓X1,wA,↓reduceIte,reduceIte,reduceCtorEq,Y1,Y2,Y3,Y4,Y5,Y6,Y7,Y8,Y9,YA,wE]
 refine X0 c1 rfl ?_
 simp only [↓X1,wA,↓reduceIte,reduceIte,reduceCtorEq,Y1,Y2,Y3,Y4,Y5,Y6,Y7,Y8,Y9,YA,wE]
 refine X0 c2 rfl ?_
 simp only [↓X1,wA,↓reduceIte,reduceIte,reduceCtorEq,Y1,Y2,Y3,Y4,Y5,Y6,Y7,Y8,Y9,YA,wE]
 refine X0 q1 rfl ?_
 by_cases h1:B.x<A.x
 ·have f1:(0<QZ A.x B.x)=True:=eq_true ((KN _ _).2 h1)
  simp only [f1,Q2,↓X1,wA,↓reduceIte,reduceIte,reduceCtorEq,Y1,Y2,Y3,Y4,Y5,Y6,Y7,Y8,Y9,YA,wE]
  exact zret rfl rfl rfl rfl rfl (by rw [hRe,if_pos (.inl h1)])
 have f1:(0<QZ A.x B.x)=False:=eq_false fun h=>h1 ((KN _ _).1 h)
 simp only [f1,↓X1,wA,↓reduceIte,reduceIte,reduceCtorEq,Y1,Y2,Y3,Y4,Y5,Y6,Y7,Y8,Y9,YA,wE]
 refine X0 q2 rfl ?_
 by_cases h2:B.y<A.y
 ·have f2:(0<QZ A.y B.y)=True:=eq_true ((KN _ _).2 h2)
  simp only [f1,f2,Q2,↓X1,wA,↓reduceIte,reduceIte,reduceCtorEq,Y1,Y2,Y3,Y4,Y5,Y6,Y7,Y8,Y9,YA,wE]
  exact zret rfl rfl rfl rfl rfl (by rw [hRe,if_pos (.inr h2)])
 have f2:(0<QZ A.y B.y)=False:=eq_false fun h=>h2 ((KN _ _).1 h)
 simp only [f1,f2,Q2,↓X1,wA,↓reduceIte,reduceIte,reduceCtorEq,Y1,Y2,Y3,Y4,Y5,Y6,Y7,Y8,Y9,YA,wE]
 rw [if_neg fun h=>h.elim h1 h2] at hRe
 subst hRe
 exact Vy rfl (Xl K8 rfl rfl rfl) (Xl K8 rfl rfl rfl) (by unfold Je; rfl) (XN (Xm _) (Ji (Qn (vC A)))) (XN (Xm _) (Ji (Qn (vC B)))) ((X2 _).sees _)
end
end Go.Ab.N
