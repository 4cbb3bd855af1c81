/- Contracts of functions of these chapters, for every argument that fits, and what they need. -/
import Derived.Test.YtefjhgcndhepeaaGreatC8
import Derived.Test.YtefjhgcndhepeaaGreatC7
set_option linter.unusedSimpArgs false
set_option linter.unusedVariables false
open Nat renaming reducePow → Y1, reduceLT → Y2, reduceLeDiff → Y3, reduceEqDiff → Y4, reduceAdd → Y5, reduceMul → Y6, reduceSub → Y7, reduceBEq → Y8, reduceDiv → Y9, reduceMod → YA
namespace Go.Ab.N
open Go Go.RowKit Go.Proofs
noncomputable section
set_option maxRecDepth 10000
set_option maxHeartbeats 4000000
open Classical
structure FV where
 A:Int
 B:Int
 EA:Int
 EB:Int
 M:Int
 turn:V2
 lo:V2
 hi:V2
def Qr (f:FV):List AV:=[I f.A,I f.B,I f.EA,I f.EB,I f.M,.bool (decide (f.turn.x.num<0)),X4 (X8 f.turn.x.num.natAbs),.bool false,X4 (X8 (qd f.turn.x)),.bool (decide (f.turn.y.num<0)),X4 (X8 f.turn.y.num.natAbs),.bool false,X4 (X8 (qd f.turn.y)),
 .bool (decide (f.lo.x.num<0)),X4 (X8 f.lo.x.num.natAbs),.bool false,X4 (X8 (qd f.lo.x)),.bool (decide (f.lo.y.num<0)),X4 (X8 f.lo.y.num.natAbs),.bool false,X4 (X8 (qd f.lo.y)),
 .bool (decide (f.hi.x.num<0)),X4 (X8 f.hi.x.num.natAbs),.bool false,X4 (X8 (qd f.hi.x)),.bool (decide (f.hi.y.num<0)),X4 (X8 f.hi.y.num.natAbs),.bool false,X4 (X8 (qd f.hi.y))]
def Aw (f:FV):AV:=.agg (Qr f)
theorem Q8 (f:FV):∀ x∈Qr f,Settled x:=by simp [Qr,X9,X6,X2]
theorem Bo (f:FV):Settled (Aw f):=Qo (Q8 f)
theorem Mz (k:Int) (n:Nat) (h:0<n):(k.tmod n+n).tmod n=k % n:=by
 have h1:=Int.tmod_lt_of_pos k (show (0:Int)<n by omega)
 have h2:-(n:Int)<k.tmod n:=by
  have:=Int.lt_tmod_of_pos k (show (0:Int)<n by omega)
  omega
 rw [Int.tmod_eq_emod_of_nonneg (by omega),Int.add_emod_right]
 have h3:=Int.mul_tdiv_add_tmod k n
 have h4:k % n=(k.tmod n+n*k.tdiv n) % n:=by rw [Int.add_comm]; rw [h3]
 rw [h4,Int.add_mul_emod_self_left]
theorem ZM (k:Int) (n:Nat) (h:0<n) (hk:-1000000000≤k∧k≤1000000000) (hn:n≤1000000000):Fn Tryz.prog 124 [I k,I n] (I (k % n)):=by
 have h1:=Int.tmod_lt_of_pos k (show (0:Int)<n by omega)
 have h2:=Int.lt_tmod_of_pos k (show (0:Int)<n by omega)
 have w1:IntKind.i64.wrap (k.tmod n+n)=k.tmod n+n:=by rw [IntKind.wrap_i64]; omega
 have f1:((n:Int)=0)=False:=eq_false (by omega)
 have f1':(n=0)=False:=eq_false (by omega)
 obtain ⟨R,hR⟩:∃ R,R=k % (n:Int):=⟨_,rfl⟩
 have e:=Mz k n h
 rw [← hR] at e ⊢
 refine Fr Tryz.call124 Tryz.func124 5 [] [] [] ?_
 simp only [AS.start,f1,f1',w1,e,↓X1,wF,seval]
 exact Xv rfl rfl (X9 _) rfl
theorem Br (k:Int) (n:Nat) (h:0<n) (hk:-1000000000≤k∧k≤1000000000) (hn:n≤1000000000):Fn Tryz.prog 129 [I k,I n] (I (k % n)):=by
 have h1:=Int.tmod_lt_of_pos k (show (0:Int)<n by omega)
 have h2:=Int.lt_tmod_of_pos k (show (0:Int)<n by omega)
 have w1:IntKind.i64.wrap (k.tmod n+n)=k.tmod n+n:=by rw [IntKind.wrap_i64]; omega
 have f1:((n:Int)=0)=False:=eq_false (by omega)
 have f1':(n=0)=False:=eq_false (by omega)
 obtain ⟨R,hR⟩:∃ R,R=k % (n:Int):=⟨_,rfl⟩
 have e:=Mz k n h
 rw [← hR] at e ⊢
 refine Fr Tryz.call129 Tryz.func129 5 [] [] [] ?_
 simp only [AS.start,f1,f1',w1,e,↓X1,wF,seval]
 exact Xv rfl rfl (X9 _) rfl
def BZ (n m:Nat) (f:FV):Prop:=(0≤f.EA∧f.EA<n)∧(0≤f.EB∧f.EB<m)∧1≤f.M∧f.M<n∧f.M<m
theorem D9 (a b:PV) (f:FV) (ha:a.rim.length<1000000) (hb:b.rim.length<1000000):Fn Tryz.prog 122 [Kh a,Kh b,Aw f] (.bool (decide (BZ a.rim.length b.rim.length f))):=by
 obtain ⟨V,hV⟩:∃ V,V=decide (BZ a.rim.length b.rim.length f):=⟨_,rfl⟩
 have fin:∀ {s:AS} {v:Bool},s.get 6=.bool v→v=V→RetOk (QS Tryz.prog Tryz.f122 [] [] (.bool V)) s:=fun h e=>Xv rfl h (X2 _) (by rw [e])
 rw [← hV]
 refine Fq Tryz.call122 Tryz.func122 9 [] [] [] (by simp [Ah,Bo]) (Xj ?_)
 by_cases hmn:(b.rim.length:Int)<a.rim.length
 ·have fmn:((b.rim.length:Int)<a.rim.length)=True:=eq_true hmn
  by_cases g0:0≤f.EA
  rotate_left
  ·have f0:(0≤f.EA)=False:=eq_false g0
   simp only [AS.start,Kh,Q0,Aw,Qr,fmn,if_true,f0,↓X1,wF,seval]
   exact fin rfl (by rw [hV,decide_eq_false fun h=>g0 h.1.1])
  have f0:(0≤f.EA)=True:=eq_true g0
  by_cases g1:f.EA<(a.rim.length:Int)
  rotate_left
  ·have f1:(f.EA<(a.rim.length:Int))=False:=eq_false g1
   simp only [AS.start,Kh,Q0,Aw,Qr,fmn,if_true,f0,f1,↓X1,wF,seval]
   exact fin rfl (by rw [hV,decide_eq_false fun h=>g1 h.1.2])
  have f1:(f.EA<(a.rim.length:Int))=True:=eq_true g1
  by_cases g2:0≤f.EB
  rotate_left
  ·have f2:(0≤f.EB)=False:=eq_false g2
   simp only [AS.start,Kh,Q0,Aw,Qr,fmn,if_true,f0,f1,f2,↓X1,wF,seval]
   exact fin rfl (by rw [hV,decide_eq_false fun h=>g2 h.2.1.1])
  have f2:(0≤f.EB)=True:=eq_true g2
  by_cases g3:f.EB<(b.rim.length:Int)
  rotate_left
  ·have f3:(f.EB<(b.rim.length:Int))=False:=eq_false g3
   simp only [AS.start,Kh,Q0,Aw,Qr,fmn,if_true,f0,f1,f2,f3,↓X1,wF,seval]
   exact fin rfl (by rw [hV,decide_eq_false fun h=>g3 h.2.1.2])
  have f3:(f.EB<(b.rim.length:Int))=True:=eq_true g3
  by_cases g4:1≤f.M
  rotate_left
  ·have f4:(1≤f.M)=False:=eq_false g4
   simp only [AS.start,Kh,Q0,Aw,Qr,fmn,if_true,f0,f1,f2,f3,f4,↓X1,wF,seval]
   exact fin rfl (by rw [hV,decide_eq_false fun h=>g4 h.2.2.1])
  have f4:(1≤f.M)=True:=eq_true g4
  by_cases g5:f.M<(b.rim.length:Int)
  rotate_left
  ·have f5:(f.M<(b.rim.length:Int))=False:=eq_false g5
   simp only [AS.start,Kh,Q0,Aw,Qr,fmn,if_true,f0,f1,f2,f3,f4,f5,↓X1,wF,seval]
   exact fin rfl (by rw [hV,decide_eq_false fun h=>g5 h.2.2.2.2])
  have f5:(f.M<(b.rim.length:Int))=True:=eq_true g5
  simp only [AS.start,Kh,Q0,Aw,Qr,fmn,if_true,f0,f1,f2,f3,f4,f5,↓X1,wF,seval]
  exact fin rfl (by rw [hV,decide_eq_true]; exact ⟨⟨g0,g1⟩,⟨g2,g3⟩,g4,by omega,g5⟩)
 ·have fmn:((b.rim.length:Int)<a.rim.length)=False:=eq_false hmn
  by_cases g0:0≤f.EA
  rotate_left
  ·have f0:(0≤f.EA)=False:=eq_false g0
   simp only [AS.start,Kh,Q0,Aw,Qr,fmn,if_false,f0,↓X1,wF,seval]
   exact fin rfl (by rw [hV,decide_eq_false fun h=>g0 h.1.1])
  have f0:(0≤f.EA)=True:=eq_true g0
  by_cases g1:f.EA<(a.rim.length:Int)
  rotate_left
  ·have f1:(f.EA<(a.rim.length:Int))=False:=eq_false g1
   simp only [AS.start,Kh,Q0,Aw,Qr,fmn,if_false,f0,f1,↓X1,wF,seval]
   exact fin rfl (by rw [hV,decide_eq_false fun h=>g1 h.1.2])
  have f1:(f.EA<(a.rim.length:Int))=True:=eq_true g1
  by_cases g2:0≤f.EB
  rotate_left
  ·have f2:(0≤f.EB)=False:=eq_false g2
   simp only [AS.start,Kh,Q0,Aw,Qr,fmn,if_false,f0,f1,f2,↓X1,wF,seval]
   exact fin rfl (by rw [hV,decide_eq_false fun h=>g2 h.2.1.1])
  have f2:(0≤f.EB)=True:=eq_true g2
  by_cases g3:f.EB<(b.rim.length:Int)
  rotate_left
  ·have f3:(f.EB<(b.rim.length:Int))=False:=eq_false g3
   simp only [AS.start,Kh,Q0,Aw,Qr,fmn,if_false,f0,f1,f2,f3,↓X1,wF,seval]
   exact fin rfl (by rw [hV,decide_eq_false fun h=>g3 h.2.1.2])
  have f3:(f.EB<(b.rim.length:Int))=True:=eq_true g3
  by_cases g4:1≤f.M
  rotate_left
  ·have f4:(1≤f.M)=False:=eq_false g4
   simp only [AS.start,Kh,Q0,Aw,Qr,fmn,if_false,f0,f1,f2,f3,f4,↓X1,wF,seval]
   exact fin rfl (by rw [hV,decide_eq_false fun h=>g4 h.2.2.1])
  have f4:(1≤f.M)=True:=eq_true g4
  by_cases g5:f.M<(a.rim.length:Int)
  rotate_left
  ·have f5:(f.M<(a.rim.length:Int))=False:=eq_false g5
   simp only [AS.start,Kh,Q0,Aw,Qr,fmn,if_false,f0,f1,f2,f3,f4,f5,↓X1,wF,seval]
   exact fin rfl (by rw [hV,decide_eq_false fun h=>g5 h.2.2.2.1])
  have f5:(f.M<(a.rim.length:Int))=True:=eq_true g5
  simp only [AS.start,Kh,Q0,Aw,Qr,fmn,if_false,f0,f1,f2,f3,f4,f5,↓X1,wF,seval]
  exact fin rfl (by rw [hV,decide_eq_true]; exact ⟨⟨g0,g1⟩,⟨g2,g3⟩,g4,g5,by omega⟩)
def Fo (R:List (Int×Int)) (k:Nat):Int×Int:=((R.getD ((k+1) % R.length) (0,0)).1 - (R.getD k (0,0)).1,(R.getD ((k+1) % R.length) (0,0)).2 - (R.getD k (0,0)).2)
def Bu (R:List (Int×Int)) (k:Nat):V2:=(Qe (R.getD ((k+1) % R.length) (0,0))).sub (Qe (R.getD k (0,0)))
def P6 (R:List (Int×Int)) (k:Nat):Int:=(Fo R k).1*(Fo R k).1+(Fo R k).2*(Fo R k).2
theorem U4 (R:List (Int×Int)) (k:Nat):Bu R k=⟨((Fo R k).1:Rat),((Fo R k).2:Rat)⟩:=by
 unfold Bu Fo V2.sub Qe
 simp only [Rat.intCast_sub]
def QV (R:List (Int×Int)):Prop:=∀ c∈R,(-65536≤c.1∧c.1≤65536)∧(-65536≤c.2∧c.2≤65536)
theorem Dk {R:List (Int×Int)} (h:QV R) (i:Nat):(-65536≤(R.getD i (0,0)).1∧(R.getD i (0,0)).1≤65536)∧(-65536≤(R.getD i (0,0)).2∧(R.getD i (0,0)).2≤65536):=by
 rw [List.getD_eq_getElem?_getD]
 cases hx:R[i]? with
 | none=>exact ⟨⟨by decide,by decide⟩,⟨by decide,by decide⟩⟩
 | some c=>exact h c (List.mem_of_getElem? hx)
theorem Zt {R:List (Int×Int)} (h:QV R):∀ i,i<R.length→UA (R.getD i (0,0))=true:=fun i _=>by
 have:=Dk h i
 unfold UA wb
 simp only [Bool.and_eq_true,decide_eq_true_eq]
 omega
theorem D6 {R:List (Int×Int)} (h:QV R) (k:Nat):(-131072≤(Fo R k).1∧(Fo R k).1≤131072)∧(-131072≤(Fo R k).2∧(Fo R k).2≤131072):=by
 have h1:=Dk h k
 have h2:=Dk h ((k+1) % R.length)
 unfold Fo
 simp only
 omega
theorem DO {R:List (Int×Int)} (h:QV R) (k:Nat):vb (Bu R k)≤3:=by
 have:=D6 h k
 rw [U4]
 have q1:=Za (Fo R k).1 3 (by omega) (QR ⟨by omega,by omega⟩)
 have q2:=Za (Fo R k).2 3 (by omega) (QR ⟨by omega,by omega⟩)
 unfold vb
 simp only
 omega
theorem S9 (p:PV) (k:Nat) (hk:k<p.rim.length) (hl:p.rim.length<1000000) (hn:QV p.rim):Fn Tryz.prog 121 [Kh p,I k] (.tup [I (Fo p.rim k).1,I (Fo p.rim k).2]):=by
 obtain ⟨D,hD⟩:∃ D,D=Fo p.rim k:=⟨_,rfl⟩
 have h0:=D6 hn k
 rw [← hD] at h0 ⊢
 have hD1:(p.rim.getD ((k+1) % p.rim.length) (0,0)).1 - (p.rim.getD k (0,0)).1=D.1:=by rw [hD]; rfl
 have hD2:(p.rim.getD ((k+1) % p.rim.length) (0,0)).2 - (p.rim.getD k (0,0)).2=D.2:=by rw [hD]; rfl
 have f0:((p.rim.length:Int)=0)=False:=eq_false (by omega)
 have f0':(p.rim.length=0)=False:=eq_false (by omega)
 have r1:(k:Int).tmod p.rim.length=(k:Int):=by rw [show (k:Int).tmod p.rim.length=((k % p.rim.length:Nat):Int) from rfl,Nat.mod_eq_of_lt hk]
 have w1:IntKind.i64.wrap ((k:Int)+p.rim.length)=((k+p.rim.length:Nat):Int):=by rw [IntKind.wrap_i64]; omega
 have r2:((k+p.rim.length:Nat):Int).tmod p.rim.length=(k:Int):=by rw [show ((k+p.rim.length:Nat):Int).tmod p.rim.length=(((k+p.rim.length) % p.rim.length:Nat):Int) from rfl,Nat.add_mod_right,Nat.mod_eq_of_lt hk]
 have w2:=wj k (by omega)
 have r3:((k+1:Nat):Int).tmod p.rim.length=(((k+1) % p.rim.length:Nat):Int):=rfl
 have hm:(k+1) % p.rim.length<p.rim.length:=Nat.mod_lt _ (by omega)
 obtain ⟨m,hme⟩:∃ m,m=(k+1) % p.rim.length:=⟨_,rfl⟩
 rw [← hme] at hD1 hD2 r3 hm
 have f1:((k:Int)<p.rim.length)=True:=eq_true (by omega)
 have f2:(k<p.rim.length)=True:=eq_true hk
 have f3:((m:Int)<p.rim.length)=True:=eq_true (by omega)
 have f4:(m<p.rim.length)=True:=eq_true hm
 have f5:(k*2+2≤p.rim.length*2)=True:=eq_true (by omega)
 have f6:(m*2+2≤p.rim.length*2)=True:=eq_true (by omega)
 have v1:=tL p.rim k
 have v2:=tL p.rim m
 have w3:IntKind.i64.wrap D.1=D.1:=by rw [IntKind.wrap_i64]; omega
 have w4:IntKind.i64.wrap D.2=D.2:=by rw [IntKind.wrap_i64]; omega
 refine Fr Tryz.call121 Tryz.func121 9 [] [3,40000002] [] ?_
 simp only [AS.start,Kh,Q0,f0,f0',f1,f2,f3,f4,f5,f6,r1,r2,r3,w1,w2,w3,w4,v1,v2,hD1,hD2,Int.toNat_natCast,↓X1,wF,seval]
 exact Sk rfl rfl rfl (X9 _) (X9 _) rfl rfl
theorem S6 (p:PV) (k:Nat) (hk:k<p.rim.length) (hl:p.rim.length<1000000) (hn:QV p.rim):Fn Tryz.prog 45 [Kh p,I k] (vA (Bu p.rim k)):=by
 have c1:=S9 p k hk hl hn
 have h0:=D6 hn k
 rw [U4]
 generalize Fo p.rim k=D at *
 have c2:=GA D.1 D.2 ⟨by omega,by omega⟩ ⟨by omega,by omega⟩
 obtain ⟨R,hR⟩:∃ R,R=vA ⟨(D.1:Rat),(D.2:Rat)⟩:=⟨_,rfl⟩
 have sR:Settled R:=hR▸Xo _
 rw [← hR]
 refine Fr Tryz.call45 Tryz.func45 5 [] [] [] ?_
 simp only [AS.start,Kh,Q0,↓X1,wF,seval]
 refine X0 c1 rfl ?_
 simp only [↓X1,wF,seval]
 refine X0 c2 rfl ?_
 simp only [↓X1,wF,seval]
 exact Ar rfl Kc rfl rfl rfl sR (hR.trans rfl)
theorem ES (p:PV) (k:Nat) (hk:k<p.rim.length) (hl:p.rim.length<1000000) (hn:QV p.rim):Fn Tryz.prog 113 [Kh p,I k] (I (P6 p.rim k)):=by
 have c1:=S9 p k hk hl hn
 have h0:=D6 hn k
 unfold P6
 generalize Fo p.rim k=D at *
 have b1:D.1*D.1≤131072*131072:=by
  rcases Int.le_total 0 D.1 with h | h
  ·exact Int.mul_le_mul h0.1.2 h0.1.2 h (by omega)
  ·have:=Int.mul_le_mul (show -D.1≤131072 by omega) (show -D.1≤131072 by omega) (by omega) (by omega)
   rwa [Int.neg_mul_neg] at this
 have b2:D.2*D.2≤131072*131072:=by
  rcases Int.le_total 0 D.2 with h | h
  ·exact Int.mul_le_mul h0.2.2 h0.2.2 h (by omega)
  ·have:=Int.mul_le_mul (show -D.2≤131072 by omega) (show -D.2≤131072 by omega) (by omega) (by omega)
   rwa [Int.neg_mul_neg] at this
 have b3:0≤D.1*D.1:=by
  rcases Int.le_total 0 D.1 with h | h
  ·exact Int.mul_nonneg h h
  ·exact Int.mul_nonneg_of_nonpos_of_nonpos h h
 have b4:0≤D.2*D.2:=by
  rcases Int.le_total 0 D.2 with h | h
  ·exact Int.mul_nonneg h h
  ·exact Int.mul_nonneg_of_nonpos_of_nonpos h h
 have w1:IntKind.i64.wrap (D.1*D.1)=D.1*D.1:=by rw [IntKind.wrap_i64]; omega
 have w2:IntKind.i64.wrap (D.2*D.2)=D.2*D.2:=by rw [IntKind.wrap_i64]; omega
 have w3:IntKind.i64.wrap (D.1*D.1+D.2*D.2)=D.1*D.1+D.2*D.2:=by rw [IntKind.wrap_i64]; omega
 refine Fr Tryz.call113 Tryz.func113 7 [] [] [] ?_
 simp only [AS.start,Kh,Q0,↓X1,wF,seval]
 refine X0 c1 rfl ?_
 simp only [w1,w2,w3,↓X1,wF,seval]
 exact Xv rfl rfl (X9 _) rfl
theorem Z7 (R:List (Int×Int)) (i:Nat):(Xr R).getD i v0=Qe (R.getD i (0,0)):=by
 unfold Xr
 rw [List.getD_eq_getElem?_getD,List.getD_eq_getElem?_getD,List.getElem?_map]
 cases R[i]? with
 | none=>show v0=Qe (0,0); unfold v0 Qe; simp
 | some c=>rfl
theorem Fv {f:FuncId} {fn:Func} {body:Code} {args:List AV} {r:AV} (he:ZH Tryz.prog f) (hf:Tryz.prog.funcs[f]?=some fn) (n0:Nat) (hid str hcs:List Nat) (h:Qv (Bb (AS.start n0 hid args [])) fun s=>vc (QS Tryz.prog fn str hcs r) 1000 [.code body] s) (hs:∀ a∈args,Settled a:=by simp [wS,Ah,Bo]) (hb:fn.body=some body:=by rfl) (hok:Qp fn.ntmps str hcs body=true:=by kernel_rfl) (hlen:args.length≤fn.ntmps:=by exact Nat.le_of_ble_eq_true rfl):Fn Tryz.prog f args r:=Fq he hf n0 hid str hcs hs (Xj h) hb hok hlen
def Zu (a:V2):V2:=⟨-a.x,-a.y⟩
theorem jY (a:V2):vb (Zu a)=vb a:=by
 unfold vb Zu
 simp only [OG]
theorem cH (a:V2):a.scale (-1)=Zu a:=by
 unfold V2.scale Zu
 rw [V2.ext']
 exact ⟨by simp only; grind,by simp only; grind⟩
theorem mz (a:V2):Q1 (Zu a) (Zu a)=Q1 a a:=by unfold Q1 Zu; grind
theorem Ol (R:List (Int×Int)) (k:Nat):Q1 (Bu R k) (Bu R k)=(P6 R k:Rat):=by
 rw [U4]
 unfold Q1 P6
 simp only [Rat.intCast_add,Rat.intCast_mul]
theorem LI (t:Bool):WeakL [.bool false,.sl 0 0 (fun _=>.any) t,.bool false,.sl 0 0 (fun _=>.any) t,.bool false,.sl 0 0 (fun _=>.any) t,.bool false,.sl 0 0 (fun _=>.any) t] (vC v0) :=
 have h1:X8 (0:Rat).num.natAbs=[]:=by rw [Rat.zero_num]; simp [XV]
 have h2:X8 (qd (0:Rat))=[]:=Dn rfl
 ⟨Weak.rfl' _,QB h1,Weak.rfl' _,QB h2,Weak.rfl' _,QB h1,Weak.rfl' _,QB h2,trivial⟩
def dl (n m:Nat) (i j:Int):Prop:=(0≤i∧i<n)∧0≤j∧j<m
noncomputable def Qy (a b:List (Int×Int)) (i j:Int):V2×Bool :=
 if dl a.length b.length i j then ((K0 (Zu (Bu b j.toNat)) (Bu a i.toNat)).1,decide ((K0 (Zu (Bu b j.toNat)) (Bu a i.toNat)).2=0)) else (v0,false)
theorem Fb (a b:V2) (h:Q1 a a≠Q1 b b):(K0 a b).1=v0∧(K0 a b).2≠0:=by
 unfold K0
 by_cases h0:Q1 a a=0∨Q1 b b=0
 ·rw [if_pos h0]; exact ⟨rfl,by decide⟩
 ·rw [if_neg h0,if_neg h]; exact ⟨rfl,by decide⟩
theorem jW (a b:V2) (k:Nat) (ha:vb a≤k) (hb:vb b≤k):vb (K0 a b).1≤8*k+2:=by
 have q0:=Zx
 have z:vb v0≤8*k+2:=by unfold vb v0; simp only; omega
 have q1:=Bx a a; have q3:=Bx a b; have q4:=Dm a b
 have d1:=jl (Q1 a b) (Q1 a a); have d2:=jl (Q6 a b) (Q1 a a)
 unfold K0
 by_cases h0:Q1 a a=0∨Q1 b b=0
 ·rw [if_pos h0]; exact z
 ·rw [if_neg h0]
  by_cases h1:Q1 a a=Q1 b b
  ·rw [if_pos h1]
   show max (qb (Q1 a b / Q1 a a)) (qb (Q6 a b / Q1 a a))≤_
   omega
  ·rw [if_neg h1]; exact z
theorem Fd {a b:List (Int×Int)} (ha:QV a) (hb:QV b) (i j:Int):vb (Qy a b i j).1≤26:=by
 unfold Qy
 by_cases h:dl a.length b.length i j
 ·rw [if_pos h]
  exact jW _ _ 3 (by rw [jY]; exact DO hb _) (DO ha _)
 ·rw [if_neg h]
  have q0:=Zx
  unfold vb v0; simp only; omega
theorem Ck (a b:PV) (i j:Int) (hla:a.rim.length<1000000) (hlb:b.rim.length<1000000) (na:QV a.rim) (nb:QV b.rim):Fn Tryz.prog 39 [Kh a,Kh b,I i,I j] (.tup [vA (Qy a.rim b.rim i j).1,.bool (Qy a.rim b.rim i j).2]):=by
 obtain ⟨R,hR⟩:∃ R,R=Qy a.rim b.rim i j:=⟨_,rfl⟩
 rw [← hR]
 have zret:∀ {s:AS} {ver id':Nat},s.get 8=.ref id' ver 0→s.h[id']?=some (.row ver 8 (Xk ZG))→s.get 9=.bool false→R=(v0,false)→RetOk (QS Tryz.prog Tryz.f39 [3,40000004,40000005] [] (.tup [vA R.1,.bool R.2])) s:=fun h1 h2 h3 h4=>by
  subst h4
  exact Ki rfl (Xn N9 h1 h2 rfl) (by unfold Jj; rfl) (XK (Xo _) (QY CC)) (by rw [h3]; exact (X2 _).sees _)
 refine Fr Tryz.call39 Tryz.func39 12 [] [3,40000004,40000005] [] ?_
 by_cases g0:i<0
 ·have f0:(i<0)=True:=eq_true g0
  simp only [AS.start,Kh,Q0,f0,↓X1,wF,seval]
  exact zret rfl rfl rfl (by rw [hR]; unfold Qy; rw [if_neg (by unfold dl; omega)])
 have f0:(i<0)=False:=eq_false g0
 by_cases g1:(a.rim.length:Int)≤i
 ·have f1:((a.rim.length:Int)≤i)=True:=eq_true g1
  simp only [AS.start,Kh,Q0,f0,f1,↓X1,wF,seval]
  exact zret rfl rfl rfl (by rw [hR]; unfold Qy; rw [if_neg (by unfold dl; omega)])
 have f1:((a.rim.length:Int)≤i)=False:=eq_false g1
 by_cases g2:j<0
 ·have f2:(j<0)=True:=eq_true g2
  simp only [AS.start,Kh,Q0,f0,f1,f2,↓X1,wF,seval]
  exact zret rfl rfl rfl (by rw [hR]; unfold Qy; rw [if_neg (by unfold dl; omega)])
 have f2:(j<0)=False:=eq_false g2
 by_cases g3:(b.rim.length:Int)≤j
 ·have f3:((b.rim.length:Int)≤j)=True:=eq_true g3
  simp only [AS.start,Kh,Q0,f0,f1,f2,f3,↓X1,wF,seval]
  exact zret rfl rfl rfl (by rw [hR]; unfold Qy; rw [if_neg (by unfold dl; omega)])
 have f3:((b.rim.length:Int)≤j)=False:=eq_false g3
 obtain ⟨i,rfl⟩:∃ n:Nat,i=n:=⟨i.toNat,by omega⟩
 obtain ⟨j,rfl⟩:∃ n:Nat,j=n:=⟨j.toNat,by omega⟩
 have hin:dl a.rim.length b.rim.length i j:=by unfold dl; omega
 have hR1:R=((K0 (Zu (Bu b.rim j)) (Bu a.rim i)).1,decide ((K0 (Zu (Bu b.rim j)) (Bu a.rim i)).2=0)):=by rw [hR]; unfold Qy; rw [if_pos hin]; rfl
 have s1:=ES a i (by omega) hla na
 have s2:=ES b j (by omega) hlb nb
 simp only [AS.start,Kh,Q0,f0,f1,f2,f3,↓X1,wF,seval]
 refine X0 s1 rfl ?_
 simp only [f0,f1,f2,f3,↓X1,wF,seval]
 refine X0 s2 rfl ?_
 by_cases hs:P6 a.rim i=P6 b.rim j
 rotate_left
 ·have fs:(P6 a.rim i=P6 b.rim j)=False:=eq_false hs
  simp only [fs,↓X1,wF,seval]
  refine zret rfl rfl rfl ?_
  have hd:=Fb (Zu (Bu b.rim j)) (Bu a.rim i) (by rw [mz,Ol,Ol]; exact fun h=>hs (Rat.intCast_inj.1 h).symm)
  rw [hR1,hd.1,decide_eq_false hd.2]
 have fs:(P6 a.rim i=P6 b.rim j)=True:=eq_true hs
 have e1:=S6 b j (by omega) hlb nb
 have e2:=S6 a i (by omega) hla na
 have k1:=DO nb j; have k2:=DO na i
 have o1:=EX (-1) 1 ⟨by omega,by omega⟩ ⟨by omega,by omega⟩
 rw [show Rat.divInt (-1) 1 = -1 by decide +kernel] at o1
 have o2:=Nx (Bu b.rim j) (-1) (by unfold vm; omega) (by have:=OD (-1) 1 ⟨by omega,by omega⟩ ⟨by omega,by omega⟩; rw [show Rat.divInt (-1) 1 = -1 by decide +kernel] at this; unfold vm; omega)
 rw [cH] at o2
 have o3:=bK (Zu (Bu b.rim j)) (Bu a.rim i) (by rw [jY]; omega) (by omega)
 generalize K0 (Zu (Bu b.rim j)) (Bu a.rim i)=X at *
 simp only [fs,↓X1,wF,seval]
 refine X0 e1 rfl ?_
 simp only [↓X1,wF,seval]
 refine X0 o1 rfl ?_
 simp only [↓X1,wF,seval]
 refine X0 o2 rfl ?_
 simp only [↓X1,wF,seval]
 refine X0 e2 rfl ?_
 simp only [↓X1,wF,seval]
 refine X0 o3 rfl ?_
 simp only [↓X1,wF,seval]
 subst hR1
 exact Ki rfl (Xn N9 rfl rfl rfl) (by unfold Jj; rfl) (XK (Xo _) (QY (Qj (vC X.1)))) ((X2 _).sees _)
def xK (n:Nat) (f:FV) (k:Nat):Nat:=((f.EA+k) % n).toNat
def yK (m:Nat) (f:FV) (k:Nat):Nat:=((f.EB - k) % m).toNat
theorem WL (n:Nat) (f:FV) (k:Nat) (h:0<n):(f.EA+k) % (n:Int)=(xK n f k:Int):=by
 have:=Int.emod_nonneg (f.EA+k) (show (n:Int)≠0 by omega)
 unfold xK; omega
theorem ky (m:Nat) (f:FV) (k:Nat) (h:0<m):(f.EB - k) % (m:Int)=(yK m f k:Int):=by
 have:=Int.emod_nonneg (f.EB - k) (show (m:Int)≠0 by omega)
 unfold yK; omega
theorem kx (n:Nat) (f:FV) (k:Nat) (h:0<n):xK n f k<n:=by
 have:=WL n f k h
 have:=Int.emod_lt_of_pos (f.EA+k) (show (0:Int)<n by omega)
 omega
theorem qi (m:Nat) (f:FV) (k:Nat) (h:0<m):yK m f k<m:=by
 have:=ky m f k h
 have:=Int.emod_lt_of_pos (f.EB - k) (show (0:Int)<m by omega)
 omega
def D7 (n m:Nat) (f:FV):List (Int×Int):=(List.range f.M.toNat).map fun k=>((xK n f k:Int),(yK m f k:Int))
theorem E6 {α:Type} (f:Nat→α) (d:α) (n j:Nat) (h:j<n):((List.range n).map f).getD j d=f j:=by
 rw [List.getD_eq_getElem?_getD,List.getElem?_map,List.getElem?_range h]; rfl
theorem AM (n m:Nat) (f:FV):(D7 n m f).length=f.M.toNat:=by simp [D7]
theorem oh {P:Program} {fn:Func} {str hcs:List Nat} {s:AS} {t id ver:Nat} (L:List (Int×Int)) (hr:fn.results=#[.tmp t]) (hs:s.get t=.osl id ver 2 0 L.length) (ho:s.h[id]?=some (.row ver (L.length*2) (Xt Kx 2 (0,0) L))):RetOk (QS P fn str hcs (GB L)) s:=by
 refine BU hr ?_
 rw [hs,Xi]
 refine Jk (.inl ho) (by omega) (fun h=>by rw [h]) fun j hj=>?_
 rw [Nat.zero_add]
 exact (Xe (KF _) _).sees _
theorem DY (c:Int×Int):∀ j,j<2→((Kx c).getD j .any).one=true:=fun j hj=>by
 match j,hj with
 | 0,_=>rfl
 | 1,_=>rfl
 | j+2,h=>omega
theorem Fp (a b:PV) (f:FV) (hf:BZ a.rim.length b.rim.length f) (ha:a.rim.length<1000000) (hb:b.rim.length<1000000):Fn Tryz.prog 152 [Kh a,Kh b,Aw f] (GB (D7 a.rim.length b.rim.length f)):=by
 obtain ⟨⟨s1,s2⟩,⟨s3,s4⟩,s5,s6,s7⟩:=hf
 obtain ⟨N,hN⟩:∃ N:Nat,f.M=N:=⟨f.M.toNat,by omega⟩
 obtain ⟨L,hL⟩:∃ L,L=D7 a.rim.length b.rim.length f:=⟨_,rfl⟩
 have hlen:L.length=N:=by rw [hL,AM,hN]; rfl
 have hat:∀ k,k<N→L.getD k (0,0)=((xK a.rim.length f k:Int),(yK b.rim.length f k:Int)):=fun k hk=>by rw [hL]; exact E6 _ _ _ _ (by omega)
 rw [← hL]
 have ba:XT 4 (.con 0 25 (Xk (Q0 a)))=True:=eq_true (fun j _=>X7 (Xe (XI a) j))
 have bb:XT 4 (.con 0 25 (Xk (Q0 b)))=True:=eq_true (fun j _=>X7 (Xe (XI b) j))
 have bf:XT 4 (.con 0 29 (Xk (Qr f)))=True:=eq_true (fun j _=>X7 (Xe (Q8 f) j))
 have br:∀ i l n,XT 4 (.row i n (Xt Kx 2 (0,0) l))=True:=fun i l n=>eq_true fun j _=>X7 (Xe (KF _) _)
 refine Fv Tryz.call152 Tryz.func152 9 [10,11] [5,60000003,60000004,60000005] [] ?_
 simp only [AS.start,Kh,Q0,Aw,Qr,↓X1,wF,seval]
 refine Xd (fun k:Nat=>⟨9,[10,11],[.any,.any,.any,.ref 0 0 0,.ref 1 0 0,.ref 2 0 0,.any,.osl 3 k 2 0 k,.any],[(10,I f.M),(11,I k)],[.con 0 25 (Xk (Q0 a)),.con 0 25 (Xk (Q0 b)),.con 0 29 (Xk (Qr f)),.row k (k*2) (Xt Kx 2 (0,0) (L.take k))]⟩) (fun k=>k≤N) (fun k=>N - k) 0 (by omega)
  (Sub.trans (Qk 0 rfl) (Sub.trans (Qk 1 rfl) (Sub.trans (Qk 2 rfl) (Sub.trans (Jd 7 2 (Xt Kx 2 (0,0) []) rfl) (Xg rfl (by simp [AS.put,Xf,I]) (by simp [AS.put,Xm,Xq,I]) (by simp [AS.put,Q0,Qr,Xi,Xz,X3,I])))))) ?_
 intro k hk next
 have w1:=wj k (by omega)
 by_cases hk2:k<N
 ·have f1:((k:Int)<f.M)=True:=eq_true (by omega)
  have wx:IntKind.i64.wrap (f.EA+(k:Int))=f.EA+(k:Int):=by rw [IntKind.wrap_i64]; omega
  have wy:IntKind.i64.wrap (f.EB - (k:Int))=f.EB - (k:Int):=by rw [IntKind.wrap_i64]; omega
  have c1:=ZM (f.EA+(k:Int)) a.rim.length (by omega) (by omega) (by omega)
  have c2:=ZM (f.EB - (k:Int)) b.rim.length (by omega) (by omega) (by omega)
  rw [WL _ _ _ (by omega)] at c1
  rw [ky _ _ _ (by omega)] at c2
  have hap:=QN Kx 2 (0,0) (L.take k) (L.getD k (0,0)) (by omega)
  rw [← CB _ _ (by omega),hat k hk2,show (L.take k).length=k by simp; omega] at hap
  refine Xj ?_
  simp only [Q0,Qr,Xi,w1,wx,wy,f1,Int.toNat_natCast,↓X1,wF,seval]
  refine X0 c1 rfl ?_
  simp only [Q0,Qr,Xi,w1,wx,wy,f1,Int.toNat_natCast,↓X1,wF,seval]
  refine X0 c2 rfl ?_
  simp only [Q0,Qr,Xi,w1,wx,wy,f1,Int.toNat_natCast,↓X1,wF,seval]
  exact ⟨⟨DY ((xK a.rim.length f k:Int),(yK b.rim.length f k:Int)),by omega,by omega⟩,next (k+1) _ (by omega) (by omega) (XD (m:=4) (Nat.zero_le _) rfl (by simp [Xf,I]) (by simp [Xm,Xq,I]) (by rw [← hap]; simp [Q0,Qr,Xi,Xz,X3,I,Kx]) (by simp [XA]) (by simp [XA]) (by simp [ba,bb,bf,br]))⟩
 obtain rfl:k=N:=by omega
 have f1:((k:Int)<f.M)=False:=eq_false (by omega)
 refine Xj ?_
 simp only [Q0,Qr,f1,↓X1,wF,seval]
 rw [List.take_of_length_le (by omega)]
 exact oh _ rfl (by rw [hlen]; rfl) (by rw [hlen]; rfl)
def O7 (wa wb:Bool) (x y:Int):Bool:=wa || wb || (decide (x≠y) && decide (x≠0) && decide (y≠0))
def O6 (a b:PV) (f:FV) (k:Nat):Bool:=O7 (a.worn.getD (xK a.rim.length f k) false) (b.worn.getD (yK b.rim.length f k) false) (a.marks.getD (xK a.rim.length f k) 0) (b.marks.getD (yK b.rim.length f k) 0)
def HE (a b:PV) (f:FV):Prop:=∀ k,k<f.M.toNat→O6 a b f k=false
theorem fh (wa wb:Bool) (x y:Int) :
  (O7 wa wb x y=true∧wa=true∧True∧True∧True∧True)∨(O7 wa wb x y=true∧wa=false∧wb=true∧True∧True∧True)∨(O7 wa wb x y=false∧wa=false∧wb=false∧(x=y)=True∧True∧True) ∨
  (O7 wa wb x y=false∧wa=false∧wb=false∧(x=y)=False∧(x=0)=True∧True)∨(O7 wa wb x y=false∧wa=false∧wb=false∧(x=y)=False∧(x=0)=False∧(y=0)=True) ∨
  (O7 wa wb x y=true∧wa=false∧wb=false∧(x=y)=False∧(x=0)=False∧(y=0)=False):=by
 unfold O7
 cases wa
 rotate_left
 ·exact .inl ⟨rfl,rfl,trivial,trivial,trivial,trivial⟩
 cases wb
 rotate_left
 ·exact .inr (.inl ⟨rfl,rfl,rfl,trivial,trivial,trivial⟩)
 by_cases h1:x=y
 ·exact .inr (.inr (.inl ⟨by simp [h1],rfl,rfl,eq_true h1,trivial,trivial⟩))
 by_cases h2:x=0
 ·exact .inr (.inr (.inr (.inl ⟨by simp [h2],rfl,rfl,eq_false h1,eq_true h2,trivial⟩)))
 by_cases h3:y=0
 ·exact .inr (.inr (.inr (.inr (.inl ⟨by simp [h3],rfl,rfl,eq_false h1,eq_false h2,eq_true h3⟩))))
 ·exact .inr (.inr (.inr (.inr (.inr ⟨by simp [h1,h2,h3],rfl,rfl,eq_false h1,eq_false h2,eq_false h3⟩))))
structure PV.even (p:PV):Prop where
 rim:p.rim.length<1000000
 worn:p.worn.length=p.rim.length
 marks:p.marks.length=p.rim.length
 near:QV p.rim
theorem Hi (a b:PV) (f:FV) (hf:BZ a.rim.length b.rim.length f) (ha:a.even) (hb:b.even):Fn Tryz.prog 132 [Kh a,Kh b,Aw f] (.bool (decide (HE a b f))):=by
 have ce:=Fp a b f hf ha.rim hb.rim
 obtain ⟨⟨s1,s2⟩,⟨s3,s4⟩,s5,s6,s7⟩:=hf
 obtain ⟨N,hN⟩:∃ N:Nat,f.M=N:=⟨f.M.toNat,by omega⟩
 have la:=ha.rim; have lb:=hb.rim
 obtain ⟨V,hV⟩:∃ V,V=decide (HE a b f):=⟨_,rfl⟩
 rw [← hV]
 obtain ⟨L,hL⟩:∃ L,L=D7 a.rim.length b.rim.length f:=⟨_,rfl⟩
 have hlen:L.length=N:=by rw [hL,AM,hN]; rfl
 have hat:∀ k,k<N→L.getD k (0,0)=((xK a.rim.length f k:Int),(yK b.rim.length f k:Int)):=fun k hk=>by rw [hL]; exact E6 _ _ _ _ (by omega)
 rw [← hL] at ce
 clear hL
 have fin:∀ {s:AS} {v:Bool},s.get 6=.bool v→v=V→RetOk (QS Tryz.prog Tryz.f132 [] [] (.bool V)) s:=fun h e=>Xv rfl h (X2 _) (by rw [e])
 have ba:XT 3 (.row 0 25 (Xk (Q0 a)))=True:=eq_true (XL (XI a))
 have bb:XT 3 (.row 0 25 (Xk (Q0 b)))=True:=eq_true (XL (XI b))
 have bf:XT 3 (.row 0 29 (Xk (Qr f)))=True:=eq_true (XL (Q8 f))
 have bL:Ko 3 (GB L)=True:=eq_true (X7 (Jy _))
 refine Fv Tryz.call132 Tryz.func132 12 [15,16,17] [] [] ?_
 simp only [AS.start,Kh,Q0,Aw,Qr,↓X1,wF,seval]
 refine X0 ce rfl ?_
 simp only [Xi,hlen,↓X1,wF,seval]
 refine Xd (fun k:Nat=>⟨12,[15,16,17],[.any,.any,.any,.ref 0 0 0,.ref 1 0 0,.ref 2 0 0,.any,.bool true,.any,.any,.any,.any],[(15,GB L),(16,I N),(17,I k)],[.row 0 25 (Xk (Q0 a)),.row 0 25 (Xk (Q0 b)),.row 0 29 (Xk (Qr f))]⟩) (fun k=>k≤N∧∀ j,j<k→O6 a b f j=false) (fun k=>N - k) 0 ⟨by omega,by omega⟩
  (Xg rfl (by simp [Xf,I]) (by simp [Xm,Xq,Xi,hlen,I]) (by simp [Q0,Qr,Xi,Xz,X3,I])) ?_
 rintro k ⟨hk,hok⟩ next
 have w1:=wj k (by omega)
 by_cases hk2:k<N
 rotate_left
 ·obtain rfl:k=N:=by omega
  refine Xj ?_
  simp only [Q0,Qr,Int.lt_irrefl,Nat.lt_irrefl,↓X1,wF,seval]
  exact fin rfl (by rw [hV,decide_eq_true]; exact fun j hj=>hok j (by omega))
 have nx:=next (k+1)
 have f1:((k:Int)<N)=True:=eq_true (by omega)
 have f2:(k<N)=True:=eq_true hk2
 have f3:(k*2+2≤N*2)=True:=eq_true (by omega)
 have v1:=tL L k
 rw [hat k hk2] at v1
 have hx:=kx a.rim.length f k (by omega)
 have hy:=qi b.rim.length f k (by omega)
 have ex:=WL a.rim.length f k (by omega)
 have ey:=ky b.rim.length f k (by omega)
 have six:=fh (a.worn.getD (xK a.rim.length f k) false) (b.worn.getD (yK b.rim.length f k) false) (a.marks.getD (xK a.rim.length f k) 0) (b.marks.getD (yK b.rim.length f k) 0)
 have hbad:O6 a b f k=O7 (a.worn.getD (xK a.rim.length f k) false) (b.worn.getD (yK b.rim.length f k) false) (a.marks.getD (xK a.rim.length f k) 0) (b.marks.getD (yK b.rim.length f k) 0):=rfl
 rw [← hbad] at six
 clear hbad
 have no:O6 a b f k=true→false=V:=fun h=>by rw [hV,decide_eq_false]; intro hp; rw [hp k (by omega)] at h; cases h
 generalize xK a.rim.length f k=X at *
 generalize yK b.rim.length f k=Y at *
 have g1:((X:Int)<a.worn.length)=True:=eq_true (by have:=ha.worn; omega)
 have g2:(X<a.worn.length)=True:=eq_true (by have:=ha.worn; omega)
 have g3:((Y:Int)<b.worn.length)=True:=eq_true (by have:=hb.worn; omega)
 have g4:(Y<b.worn.length)=True:=eq_true (by have:=hb.worn; omega)
 have g5:((X:Int)<a.marks.length)=True:=eq_true (by have:=ha.marks; omega)
 have g6:(X<a.marks.length)=True:=eq_true (by have:=ha.marks; omega)
 have g7:((Y:Int)<b.marks.length)=True:=eq_true (by have:=hb.marks; omega)
 have g8:(Y<b.marks.length)=True:=eq_true (by have:=hb.marks; omega)
 have n2:((2:Nat):Int)=2:=rfl
 have t1:(1:Int).toNat=1:=rfl
 rcases six with ⟨hB,q1,q2,q3,q4,q5⟩ | ⟨hB,q1,q2,q3,q4,q5⟩ | ⟨hB,q1,q2,q3,q4,q5⟩ | ⟨hB,q1,q2,q3,q4,q5⟩ | ⟨hB,q1,q2,q3,q4,q5⟩ | ⟨hB,q1,q2,q3,q4,q5⟩
 all_goals
  refine Xj ?_
  simp only [Q0,Qr,Xi,Xz,X3,hlen,w1,f1,f2,f3,v1,g1,g2,g3,g4,g5,g6,g7,g8,q1,q2,q3,q4,q5,n2,t1,Int.toNat_zero,Int.reduceLT,Int.reduceLE,Int.toNat_natCast,↓X1,wF,seval]
  first
   | exact fin rfl (no hB)
   | exact nx _ ⟨by omega,BG.2 ⟨hok,hB⟩⟩ (by omega) (XD (m:=3) (Nat.zero_le _) rfl (by simp [Xf,I]) (by simp [Xm,Xq,Xi,hlen,I]) (by simp [Q0,Qr,Xi,Xz,X3,I]) (by simp [XA]) (by simp [XA,bL]) (by simp [ba,bb,bf]))
def Rn (p:V2→Bool) (s:List V2):Int:=if s.any p=true then (s.findIdx p:Nat) else -1
theorem GQ {s:List V2} {j:Nat} (h:j<s.length):s.getD j v0∈s:=by
 rw [List.getD_eq_getElem?_getD,List.getElem?_eq_getElem h]; exact List.getElem_mem h
theorem ii {p:V2→Bool} {s:List V2} {j:Nat} (hj:j<s.length) (h:p (s.getD j v0)=true) (hno:∀ i,i<j→p (s.getD i v0)=false):Rn p s=j:=by
 have at_:∀ i (hi:i<s.length),s.getD i v0=s[i]:=fun i hi=>by rw [List.getD_eq_getElem?_getD,List.getElem?_eq_getElem hi]; rfl
 have e:s.findIdx p=j:=by
  rw [List.findIdx_eq hj]
  exact ⟨by rw [← at_ j hj]; exact h,fun i hi=>by rw [← at_ i (by omega)]; exact hno i hi⟩
 unfold Rn
 rw [if_pos (List.any_eq_true.2 ⟨_,GQ hj,h⟩),e]
theorem aQ {p:V2→Bool} {s:List V2} (hno:∀ i,i<s.length→p (s.getD i v0)=false):Rn p s = -1:=by
 unfold Rn
 rw [if_neg]
 intro h
 obtain ⟨x,hx,hp⟩:=List.any_eq_true.1 h
 obtain ⟨i,hi,rfl⟩:=List.getElem_of_mem hx
 have:=hno i hi
 rw [List.getD_eq_getElem?_getD,List.getElem?_eq_getElem hi] at this
 simp only [Option.getD_some] at this
 rw [this] at hp; cases hp
theorem Ro (p:V2→Bool) (s:List V2):decide (0≤Rn p s)=s.any p:=by
 unfold Rn
 cases h:s.any p
 ·simp
 ·rw [if_pos rfl]; exact decide_eq_true (by omega)
theorem UY (s:List V2) (f:FuncId) (caps:List AV) (p:V2→Bool) (hl:s.length<1000000) (hc:∀ a∈caps,Settled a) (hp:∀ x∈s,Fn Tryz.prog f ([vA x] ++ caps) (.bool (p x))) :
  Fn Tryz.prog 205 [Xx s,.fn f caps] (I (Rn p s)):=by
 refine Fn.intro (fn:=Tryz.f205) Tryz.call205 Tryz.func205 rfl mixed 6 [6,7,8] [] [] (by kernel_rfl) (Nat.le_of_ble_eq_true rfl) (by simpa [Xh] using Jb hc) (Xj ?_)
 simp only [AS.start,X5,↓X1,wF,seval]
 refine Xd (fun j:Nat=>⟨6,[6,7,8],[Xx s,.fn f caps,.any,.any,.any,.any],[(6,Xx s),(7,I s.length),(8,I j)],[]⟩) (fun j=>j≤s.length∧∀ i,i<j→p (s.getD i v0)=false) (fun j=>s.length - j) 0 ⟨by omega,by omega⟩
  (Xg rfl (by simp [Xf,X5,I]) (by simp [Xm,Xq,X5,I]) rfl) ?_
 rintro j ⟨hj,hno⟩ next
 have w1:=wj j (by omega)
 by_cases hj2:j<s.length
 ·have f1:((j:Int)<s.length)=True:=eq_true (by omega)
  have f2:(j<s.length)=True:=eq_true hj2
  have f3:(j*8+8≤s.length*8)=True:=eq_true (by omega)
  have v1:=vF s j
  refine Xj ?_
  simp only [X5,w1,f1,f2,f3,v1,Int.toNat_natCast,↓X1,wF,seval]
  refine Qm (hp _ (GQ hj2)) (Qj _) ?_
  simp only [w1,↓X1,wF,seval]
  refine QL (fun ht=>Xv (v:=I j) rfl rfl (X9 _) ?_) (fun hf=>next (j+1) _ ⟨by omega,BG.2 ⟨hno,hf⟩⟩ (by omega) (Xg rfl (by simp [Xf,X5,I]) (by simp [Xm,Xq,X5,I]) rfl))
  rw [ii hj2 ht hno]
 ·have f1:((j:Int)<s.length)=False:=eq_false (by omega)
  refine Xj ?_
  simp only [X5,w1,f1,↓X1,wF,seval]
  refine Xv (v:=I (-1)) rfl rfl (X9 _) ?_
  rw [aQ fun i hi=>hno i (by omega)]
theorem Mp (s:List V2) (f:FuncId) (caps:List AV) (p:V2→Bool) (hl:s.length<1000000) (hc:∀ a∈caps,Settled a) (hp:∀ x∈s,Fn Tryz.prog f ([vA x] ++ caps) (.bool (p x))) :
  Fn Tryz.prog 141 [Xx s,.fn f caps] (.bool (s.any p)):=by
 have hi:=Ro p s
 refine Fn.intro (fn:=Tryz.f141) Tryz.call141 Tryz.func141 rfl mixed 5 [] [] [] (by kernel_rfl) (Nat.le_of_ble_eq_true rfl) (by simpa [Xh] using Jb hc) (Xj ?_)
 simp only [AS.start,↓X1,wF,seval]
 refine X0 (UY s f caps p hl hc hp) rfl ?_
 simp only [↓X1,wF,seval]
 exact Xv (v:=.bool (decide (0≤Rn p s))) rfl rfl (X2 _) (by rw [Ro])
def pN (f:FV):AV:=.ptr 29 (Xk (Qr f)) 0
theorem Bp (f:FV):Settled (pN f):=QO fun j _=>Xe (Q8 f) j
theorem YS (t:V2) (f:FV) (ht:vb t≤vm) (hf:vb f.turn≤vm):Fn Tryz.prog 142 ([vA t] ++ [pN f]) (.bool (decide (t=f.turn))):=by
 have c1:=A9 t f.turn ht hf
 refine Fq Tryz.call142 Tryz.func142 4 [] [] [] (by simp [Xo,Bp]) (Xj ?_)
 simp only [AS.start,pN,Qr,List.cons_append,List.nil_append,↓X1,wF,seval]
 refine X0 c1 rfl ?_
 simp only [↓X1,wF,seval]
 exact Xv rfl rfl (X2 _) rfl
noncomputable def HL (a b:PV) (f:FV) (k:Nat):V2×Bool:=Qy a.rim b.rim (xK a.rim.length f k) (yK b.rim.length f k)
noncomputable def Ql (a b:PV) (f:FV):Nat→List V2
 | 0=>[]
 | k+1=>if (HL a b f k).2=true then Ql a b f k ++ [(HL a b f k).1] else Ql a b f k
theorem CT (a b:PV) (f:FV):∀ k,(Ql a b f k).length≤k
 | 0=>Nat.le_refl _
 | k+1=>by
  have ih:=CT a b f k
  simp only [Ql]
  split
  ·rw [List.length_append]; simp only [List.length_singleton]; omega
  ·omega
theorem EC (a b:PV) (f:FV) (ha:QV a.rim) (hb:QV b.rim):∀ k,∀ t∈Ql a b f k,vb t≤26
 | 0=>fun t h=>by simp [Ql] at h
 | k+1=>by
  have ih:=EC a b f ha hb k
  intro t h
  simp only [Ql] at h
  split at h
  ·rcases List.mem_append.1 h with h | h
   ·exact ih t h
   ·simp only [List.mem_cons,List.not_mem_nil,or_false] at h
    subst h; exact Fd ha hb _ _
  ·exact ih t h
def Tz (a b:PV) (f:FV):Prop:=∃ k,k<f.M.toNat∧(HL a b f k).2=true∧(HL a b f k).1=f.turn
theorem Ij (a b:PV) (f:FV) (t:V2):∀ n,(Ql a b f n).any (fun x=>decide (x=t))=true↔∃ k,k<n∧(HL a b f k).2=true∧(HL a b f k).1=t
 | 0=>by simp [Ql]
 | n+1=>by
  have ih:=Ij a b f t n
  by_cases h:(HL a b f n).2=true
  ·have e:Ql a b f (n+1)=Ql a b f n ++ [(HL a b f n).1]:=if_pos h
   rw [e,List.any_append,Bool.or_eq_true,ih]
   simp only [List.any_cons,List.any_nil,Bool.or_false,decide_eq_true_eq]
   constructor
   ·rintro (⟨k,h1,h2⟩ | h1)
    ·exact ⟨k,by omega,h2⟩
    ·exact ⟨n,by omega,h,h1⟩
   ·rintro ⟨k,h1,h2,h3⟩
    by_cases hk:k=n
    ·subst hk; exact .inr h3
    ·exact .inl ⟨k,by omega,h2,h3⟩
  ·have e:Ql a b f (n+1)=Ql a b f n:=if_neg h
   rw [e,ih]
   constructor
   ·rintro ⟨k,h1,h2⟩; exact ⟨k,by omega,h2⟩
   ·rintro ⟨k,h1,h2,h3⟩
    by_cases hk:k=n
    ·subst hk; exact absurd h2 h
    ·exact ⟨k,by omega,h2,h3⟩
theorem TA (a b:PV) (f:FV) (hf:BZ a.rim.length b.rim.length f) (ha:a.even) (hb:b.even):Fn Tryz.prog 133 [Kh a,Kh b,Aw f] (Xx (Ql a b f f.M.toNat)):=by
 have ce:=Fp a b f hf ha.rim hb.rim
 obtain ⟨⟨s1,s2⟩,⟨s3,s4⟩,s5,s6,s7⟩:=hf
 obtain ⟨N,hN⟩:∃ N:Nat,f.M=N:=⟨f.M.toNat,by omega⟩
 have la:=ha.rim; have lb:=hb.rim
 have hNt:f.M.toNat=N:=by rw [hN]; rfl
 rw [hNt]
 obtain ⟨L,hL⟩:∃ L,L=D7 a.rim.length b.rim.length f:=⟨_,rfl⟩
 have hlen:L.length=N:=by rw [hL,AM,hN]; rfl
 have hat:∀ k,k<N→L.getD k (0,0)=((xK a.rim.length f k:Int),(yK b.rim.length f k:Int)):=fun k hk=>by rw [hL]; exact E6 _ _ _ _ (by omega)
 rw [← hL] at ce
 clear hL
 have ba:XT 4 (.row 0 25 (Xk (Q0 a)))=True:=eq_true (XL (XI a))
 have bb:XT 4 (.row 0 25 (Xk (Q0 b)))=True:=eq_true (XL (XI b))
 have bf:XT 4 (.row 0 29 (Xk (Qr f)))=True:=eq_true (XL (Q8 f))
 have bL:Ko 4 (GB L)=True:=eq_true (X7 (Jy _))
 have hvc:∀ a:V2,∀ x∈vC a,Settled x:=fun a=>by simp [vC,X6,X2]
 have br:∀ i l n,XT 4 (.row i n (Xt vC 8 v0 l))=True:=fun i l n=>eq_true fun j _=>X7 (Xe (hvc _) _)
 refine Fv Tryz.call133 Tryz.func133 12 [15,16,17] [] [] ?_
 simp only [AS.start,Kh,Q0,Aw,Qr,↓X1,wF,seval]
 refine X0 ce rfl ?_
 simp only [Xi,hlen,↓X1,wF,seval]
 refine Xd (fun k:Nat=>⟨12,[15,16,17],[.any,.any,.any,.ref 0 0 0,.ref 1 0 0,.ref 2 0 0,.any,.osl 3 (Ql a b f k).length 8 0 (Ql a b f k).length,.any,.any,.any,.any],[(15,GB L),(16,I N),(17,I k)],[.row 0 25 (Xk (Q0 a)),.row 0 25 (Xk (Q0 b)),.row 0 29 (Xk (Qr f)),.row (Ql a b f k).length ((Ql a b f k).length*8) (Xt vC 8 v0 (Ql a b f k))]⟩) (fun k=>k≤N) (fun k=>N - k) 0 (by omega)
  (Sub.trans (Jd 7 8 (Xt vC 8 v0 []) rfl) (Xg rfl (by simp [AS.put,Ql,Xf,I]) (by simp [AS.put,Xm,Xq,Xi,hlen,I]) (by simp [AS.put,Ql,Q0,Qr,Xi,Xz,X3,I]))) ?_
 intro k hk next
 have w1:=wj k (by omega)
 have hln:=CT a b f k
 by_cases hk2:k<N
 rotate_left
 ·obtain rfl:k=N:=by omega
  refine Xj ?_
  simp only [Q0,Qr,Int.lt_irrefl,Nat.lt_irrefl,↓X1,wF,seval]
  exact SU _ rfl rfl rfl
 have nx:=next (k+1)
 have f1:((k:Int)<N)=True:=eq_true (by omega)
 have f2:(k<N)=True:=eq_true hk2
 have f3:(k*2+2≤N*2)=True:=eq_true (by omega)
 have v1:=tL L k
 rw [hat k hk2] at v1
 have n2:((2:Nat):Int)=2:=rfl
 have t1:(1:Int).toNat=1:=rfl
 have ca:=Ck a b (xK a.rim.length f k) (yK b.rim.length f k) la lb ha.near hb.near
 rw [show Qy a.rim b.rim (xK a.rim.length f k) (yK b.rim.length f k)=HL a b f k from rfl] at ca
 have hs:Ql a b f (k+1)=if (HL a b f k).2=true then Ql a b f k ++ [(HL a b f k).1] else Ql a b f k:=rfl
 generalize HL a b f k=X at *
 obtain ⟨t,ok⟩:=X
 refine Xj ?_
 simp only [Q0,Qr,Xi,Xz,X3,hlen,w1,f1,f2,f3,v1,n2,t1,Int.toNat_zero,Int.reduceLT,Int.reduceLE,Int.toNat_natCast,↓X1,wF,seval]
 refine X0 ca rfl ?_
 cases ok with
 | false =>
  rw [if_neg (show ¬ ((t,false).2=true) from Bool.false_ne_true)] at hs
  simp only [hs] at nx
  simp only [w1,↓X1,wF,seval]
  exact nx _ (by omega) (by omega) (XD (m:=4) (Nat.zero_le _) rfl (by simp [Xf,I]) (by simp [Xm,Xq,Xi,hlen,I]) (by simp [Q0,Qr,Xi,Xz,X3,I]) (by simp [XA]) (by simp [XA,bL]) (by simp [ba,bb,bf,br]))
 | true =>
  rw [if_pos rfl] at hs
  have hlen2:(Ql a b f (k+1)).length=(Ql a b f k).length+1:=by rw [hs]; simp
  have hap:=QN vC 8 v0 (Ql a b f k) t (by omega)
  rw [← hs] at hap
  simp only [hlen2] at nx
  simp only [w1,↓X1,wF,seval]
  exact ⟨⟨F4 t,by omega,by omega⟩,nx _ (by omega) (by omega) (XD (m:=4) (Nat.zero_le _) rfl (by simp [Xf,I]) (by simp [Xm,Xq,Xi,hlen,I]) (by rw [← hap]; simp [Q0,Qr,Xi,Xz,X3,I,vC]) (by simp [XA]) (by simp [XA,bL]) (by simp [ba,bb,bf,br]))⟩
noncomputable def Mj (x y:Rat):Rat:=if x<y then y else x
noncomputable def Mi (x y:Rat):Rat:=if y<x then y else x
theorem jk (x y:Rat) (k:Nat) (hx:qb x≤k) (hy:qb y≤k):qb (Mj x y)≤k:=by unfold Mj; split <;> assumption
theorem jj (x y:Rat) (k:Nat) (hx:qb x≤k) (hy:qb y≤k):qb (Mi x y)≤k:=by unfold Mi; split <;> assumption
theorem MB (x y:Rat) (hx:qb x≤rm) (hy:qb y≤rm):Fn Tryz.prog 125 [qA x,qA y] (qA (Mj x y)):=by
 have c1:=QD x y hx hy
 obtain ⟨R,hR⟩:∃ R,R=qA (Mj x y):=⟨_,rfl⟩
 have sR:Settled R:=hR▸Xa _
 rw [← hR]
 refine Fr Tryz.call125 Tryz.func125 5 [] [] [] ?_; simp (maxSteps:=999999) only [AS.start,↓X1,wF,seval]
 refine X0 c1 rfl ?_
 by_cases h:x<y
 ·have f1:(J3 x y<0)=True:=eq_true ((A1 x y).2 h)
  simp only [f1,↓X1,wF,seval]
  have e:Mj x y=y:=if_pos h
  rw [e] at hR
  exact JO rfl Qh rfl rfl rfl sR (hR.trans rfl)
 ·have f1:(J3 x y<0)=False:=eq_false fun hh=>h ((A1 x y).1 hh)
  simp only [f1,↓X1,wF,seval]
  have e:Mj x y=x:=if_neg h
  rw [e] at hR
  exact JO rfl Qh rfl rfl rfl sR (hR.trans rfl)
theorem Lv (x y:Rat) (hx:qb x≤rm) (hy:qb y≤rm):Fn Tryz.prog 126 [qA x,qA y] (qA (Mi x y)):=by
 have c1:=QD x y hx hy
 obtain ⟨R,hR⟩:∃ R,R=qA (Mi x y):=⟨_,rfl⟩
 have sR:Settled R:=hR▸Xa _
 rw [← hR]
 refine Fr Tryz.call126 Tryz.func126 5 [] [] [] ?_; simp (maxSteps:=999999) only [AS.start,↓X1,wF,seval]
 refine X0 c1 rfl ?_
 by_cases h:y<x
 ·have f1:(0<J3 x y)=True:=eq_true ((KP x y).2 h)
  simp only [f1,↓X1,wF,seval]
  have e:Mi x y=y:=if_pos h
  rw [e] at hR
  exact JO rfl Qh rfl rfl rfl sR (hR.trans rfl)
 ·have f1:(0<J3 x y)=False:=eq_false fun hh=>h ((KP x y).1 hh)
  simp only [f1,↓X1,wF,seval]
  have e:Mi x y=x:=if_neg h
  rw [e] at hR
  exact JO rfl Qh rfl rfl rfl sR (hR.trans rfl)
noncomputable def iM (g:Nat→Rat):Nat→Rat
 | 0=>g 0
 | k+1=>Mj (iM g k) (g (k+1))
noncomputable def iF (g:Nat→Rat):Nat→Rat
 | 0=>g 0
 | k+1=>Mi (iF g k) (g (k+1))
theorem Le (g:Nat→Rat) (c:Nat) (h:∀ k,qb (g k)≤c):∀ n,qb (iM g n)≤c
 | 0=>h 0
 | n+1=>jk _ _ _ (Le g c h n) (h _)
theorem Ld (g:Nat→Rat) (c:Nat) (h:∀ k,qb (g k)≤c):∀ n,qb (iF g n)≤c
 | 0=>h 0
 | n+1=>jj _ _ _ (Ld g c h n) (h _)
def ZZ (a b:List (Int×Int)) (f:FV) (k:Nat):V2 :=
 (Qe (a.getD (xK a.length f k) (0,0))).sub (ZE f.turn (Qe (b.getD ((f.EB+1 - k) % b.length).toNat (0,0))))
noncomputable def DT (a b:List (Int×Int)) (f:FV) (k:Nat):V2:=⟨iM (fun j=>(ZZ a b f j).x) k,iM (fun j=>(ZZ a b f j).y) k⟩
noncomputable def DQ (a b:List (Int×Int)) (f:FV) (k:Nat):V2:=⟨iF (fun j=>(ZZ a b f j).x) k,iF (fun j=>(ZZ a b f j).y) k⟩
noncomputable def XH (a b:List (Int×Int)) (f:FV) (e:Rat):V2×V2×Bool :=
 if BZ a.length b.length f∧Zb f.turn then
  let lo:=(DT a b f f.M.toNat).sub ⟨e,e⟩
  let hi:=(DQ a b f f.M.toNat).add ⟨e,e⟩
  if hi.x<lo.x∨hi.y<lo.y then (v0,v0,false) else (lo,hi,true)
 else (v0,v0,false)
theorem Zh {R:List (Int×Int)} (h:QV R) (i:Nat):vb (Qe (R.getD i (0,0)))≤3:=by
 have:=Dk h i
 have q1:=Za (R.getD i (0,0)).1 3 (by omega) (QR ⟨by omega,by omega⟩)
 have q2:=Za (R.getD i (0,0)).2 3 (by omega) (QR ⟨by omega,by omega⟩)
 unfold vb Qe
 simp only
 omega
theorem BK {a b:List (Int×Int)} (ha:QV a) (hb:QV b) (f:FV) (ht:vb f.turn≤1000) (k:Nat):vb (ZZ a b f k)≤3000:=by
 have h1:=Zh ha (xK a.length f k)
 have h2:=Zh hb ((f.EB+1 - k) % b.length).toNat
 unfold ZZ
 have h3:=F5 f.turn (Qe (b.getD ((f.EB+1 - k) % b.length).toNat (0,0)))
 have h4:=KZ (Qe (a.getD (xK a.length f k) (0,0))) (ZE f.turn (Qe (b.getD ((f.EB+1 - k) % b.length).toNat (0,0))))
 omega
theorem Gv {a b:List (Int×Int)} (ha:QV a) (hb:QV b) (f:FV) (ht:vb f.turn≤1000) (k:Nat):vb (DT a b f k)≤3000:=by
 have h1:=Le (fun j=>(ZZ a b f j).x) 3000 (fun j=>Nat.le_trans (QM _) (BK ha hb f ht j)) k
 have h2:=Le (fun j=>(ZZ a b f j).y) 3000 (fun j=>Nat.le_trans (QG _) (BK ha hb f ht j)) k
 exact Nat.max_le.2 ⟨h1,h2⟩
theorem Gs {a b:List (Int×Int)} (ha:QV a) (hb:QV b) (f:FV) (ht:vb f.turn≤1000) (k:Nat):vb (DQ a b f k)≤3000:=by
 have h1:=Ld (fun j=>(ZZ a b f j).x) 3000 (fun j=>Nat.le_trans (QM _) (BK ha hb f ht j)) k
 have h2:=Ld (fun j=>(ZZ a b f j).y) 3000 (fun j=>Nat.le_trans (QG _) (BK ha hb f ht j)) k
 exact Nat.max_le.2 ⟨h1,h2⟩
theorem Wr {P:Program} {fn:Func} {str hcs:List Nat} {a b c x y z:AV} {s:AS} {r1 r2 r3:ResultVar} (hr:fn.results=#[r1,r2,r3]) (h1:Jj P s r1=some x) (h2:Jj P s r2=some y) (h3:Jj P s r3=some z) (g1:JH s.h x a) (g2:JH s.h y b) (g3:JH s.h z c) :
  RetOk (QS P fn str hcs (.tup [a,b,c])) s :=
 ⟨.tup [x,y,z],by simp [KQ,IJ,Cc,hr,J6,ZD,h1,h2,h3],B6 ⟨g1,g2,g3,trivial⟩⟩
def Q5:List AV:=[.bool false,.sl 0 0 (fun _=>.any) true,.bool false,.sl 0 0 (fun _=>.any) true,.bool false,.sl 0 0 (fun _=>.any) true,.bool false,.sl 0 0 (fun _=>.any) true]
noncomputable def aV (a b:List (Int×Int)) (f:FV):Nat→List AV
 | 0=>Q5
 | k+1=>vC (DT a b f k)
noncomputable def aM (a b:List (Int×Int)) (f:FV):Nat→List AV
 | 0=>Q5
 | k+1=>vC (DQ a b f k)
theorem Dy (a b:List (Int×Int)) (f:FV):∀ k,∀ x∈aV a b f k,Settled x
 | 0=>fun x h=>by
  simp only [aV,Q5,List.mem_cons,List.not_mem_nil,or_false] at h
  rcases h with rfl | rfl | rfl | rfl | rfl | rfl | rfl | rfl <;> first | exact X2 _ | exact QX (fun j hj=>absurd hj (Nat.not_lt_zero j))
 | k+1=>by simp [aV,vC,X6,X2]
theorem Sy (a b:List (Int×Int)) (f:FV):∀ k,∀ x∈aM a b f k,Settled x
 | 0=>fun x h=>by
  simp only [aM,Q5,List.mem_cons,List.not_mem_nil,or_false] at h
  rcases h with rfl | rfl | rfl | rfl | rfl | rfl | rfl | rfl <;> first | exact X2 _ | exact QX (fun j hj=>absurd hj (Nat.not_lt_zero j))
 | k+1=>by simp [aM,vC,X6,X2]
def yL (m:Nat) (f:FV) (k:Nat):Nat:=((f.EB+1 - k) % m).toNat
theorem qj (m:Nat) (f:FV) (k:Nat) (h:0<m):(f.EB+1 - k) % (m:Int)=(yL m f k:Int):=by
 have:=Int.emod_nonneg (f.EB+1 - k) (show (m:Int)≠0 by omega)
 unfold yL; omega
theorem wv (m:Nat) (f:FV) (k:Nat) (h:0<m):yL m f k<m:=by
 have:=qj m f k h
 have:=Int.emod_lt_of_pos (f.EB+1 - k) (show (0:Int)<m by omega)
 omega
theorem Ig (a b:PV) (f:FV) (ha:a.even) (hb:b.even) (ht:vb f.turn≤1000) {ta tb:Rat} (ea:a.tol=RQ.of ta) (eb:b.tol=RQ.of tb) (qa:qb ta≤1000) (q2:qb tb≤1000) :
  Fn Tryz.prog 46 [Kh a,Kh b,Aw f] (.tup [vA (XH a.rim b.rim f (ta+tb)).1,vA (XH a.rim b.rim f (ta+tb)).2.1,.bool (XH a.rim b.rim f (ta+tb)).2.2]):=by
 have la:=ha.rim; have lb:=hb.rim
 obtain ⟨R,hR⟩:∃ R,R=XH a.rim b.rim f (ta+tb):=⟨_,rfl⟩
 rw [← hR]
 have zret:∀ {s:AS} {i j v w:Nat},s.get 6=.ref i v 0→s.h[i]?=some (.row v 8 (Xk ZG))→s.get 7=.ref j w 0→s.h[j]?=some (.row w 8 (Xk ZG))→s.get 8=.bool false→R=(v0,v0,false)→RetOk (QS Tryz.prog Tryz.f46 [9,100000005,11,120000015,18,190000012,190000013] [] (.tup [vA R.1,vA R.2.1,.bool R.2.2])) s:=fun h1 h2 h3 h4 h5 h6=>by
  subst h6
  exact Wr rfl (Xn Kc h1 h2 rfl) (Xn Kc h3 h4 rfl) (by unfold Jj; rfl) (XK (Xo _) (QY CC)) (XK (Xo _) (QY CC)) (by rw [h5]; exact (X2 _).sees _)
 have cs:=D9 a b f la lb
 have ct:=jh f.turn (by unfold vm; omega)
 refine Fv Tryz.call46 Tryz.func46 16 [40,41] [9,100000005,11,120000015,18,190000012,190000013] [] ?_
 simp only [AS.start,Kh,Q0,Aw,Qr,↓X1,wA,↓reduceIte,reduceIte,reduceCtorEq,Y1,Y2,Y3,Y4,Y5,Y6,Y7,Y8,Y9,YA,wE]
 refine X0 cs rfl ?_
 by_cases hf:BZ a.rim.length b.rim.length f
 rotate_left
 ·rw [decide_eq_false hf]
  simp only [↓X1,wA,↓reduceIte,reduceIte,reduceCtorEq,Y1,Y2,Y3,Y4,Y5,Y6,Y7,Y8,Y9,YA,wE]
  exact zret rfl rfl rfl rfl rfl (by rw [hR]; unfold XH; rw [if_neg fun h=>hf h.1])
 rw [decide_eq_true hf]
 simp only [↓X1,wA,↓reduceIte,reduceIte,reduceCtorEq,Y1,Y2,Y3,Y4,Y5,Y6,Y7,Y8,Y9,YA,wE]
 refine X0 ct rfl ?_
 by_cases hto:Zb f.turn
 rotate_left
 ·rw [decide_eq_false hto]
  simp only [↓X1,wA,↓reduceIte,reduceIte,reduceCtorEq,Y1,Y2,Y3,Y4,Y5,Y6,Y7,Y8,Y9,YA,wE]
  exact zret rfl rfl rfl rfl rfl (by rw [hR]; unfold XH; rw [if_neg fun h=>hto h.2])
 rw [decide_eq_true hto]
 have hRe:R=if ((DQ a.rim b.rim f f.M.toNat).add ⟨ta+tb,ta+tb⟩).x<((DT a.rim b.rim f f.M.toNat).sub ⟨ta+tb,ta+tb⟩).x∨((DQ a.rim b.rim f f.M.toNat).add ⟨ta+tb,ta+tb⟩).y<((DT a.rim b.rim f f.M.toNat).sub ⟨ta+tb,ta+tb⟩).y then (v0,v0,false) else ((DT a.rim b.rim f f.M.toNat).sub ⟨ta+tb,ta+tb⟩,(DQ a.rim b.rim f f.M.toNat).add ⟨ta+tb,ta+tb⟩,true):=by
  rw [hR]; unfold XH; rw [if_pos ⟨hf,hto⟩]
 clear hR
 obtain ⟨⟨s1,s2⟩,⟨s3,s4⟩,s5,s6,s7⟩:=hf
 obtain ⟨N,hN⟩:∃ N:Nat,f.M=N:=⟨f.M.toNat,by omega⟩
 have hNt:f.M.toNat=N:=by rw [hN]; rfl
 rw [hNt] at hRe
 have r1:=Lm a la (Zt ha.near)
 have r2:=Lm b lb (Zt hb.near)
 have hla:(Xr a.rim).length=a.rim.length:=by simp [Xr]
 have hlb:(Xr b.rim).length=b.rim.length:=by simp [Xr]
 have c3:Fn Tryz.prog 70 [a.tol.A,b.tol.A] (qA (ta+tb)):=by rw [ea,eb]; exact A2 ta tb (by unfold rm; omega) (by unfold rm; omega)
 have qe:=KW ta tb
 simp only [↓X1,wA,↓reduceIte,reduceIte,reduceCtorEq,Y1,Y2,Y3,Y4,Y5,Y6,Y7,Y8,Y9,YA,wE]
 refine X0 r1 rfl ?_
 simp only [↓X1,wA,↓reduceIte,reduceIte,reduceCtorEq,Y1,Y2,Y3,Y4,Y5,Y6,Y7,Y8,Y9,YA,wE]
 refine X0 r2 rfl ?_
 simp only [↓X1,wA,↓reduceIte,reduceIte,reduceCtorEq,Y1,Y2,Y3,Y4,Y5,Y6,Y7,Y8,Y9,YA,wE]
 refine X0 c3 rfl ?_
 have wM:IntKind.i64.wrap (f.M+1)=((N+1:Nat):Int):=by rw [IntKind.wrap_i64]; omega
 simp only [wM,↓X1,wA,↓reduceIte,reduceIte,reduceCtorEq,Y1,Y2,Y3,Y4,Y5,Y6,Y7,Y8,Y9,YA,wE]
 have ba:XT 8 (.row 0 25 (Xk (Q0 a)))=True:=eq_true (XL (XI a))
 have bb:XT 8 (.row 0 25 (Xk (Q0 b)))=True:=eq_true (XL (XI b))
 have bf:XT 8 (.con 0 29 (Xk (Qr f)))=True:=eq_true (fun j _=>X7 (Xe (Q8 f) j))
 have bz:XT 8 (.row 0 8 (Xk Q5))=True:=eq_true (XL (Dy a.rim b.rim f 0))
 have be:XT 8 (.row 0 4 (Xk [.bool (decide ((ta+tb).num<0)),X4 (X8 (ta+tb).num.natAbs),.bool false,X4 (X8 (qd (ta+tb)))]))=True:=eq_true (XL (by simp [X6,X2]))
 have bl:∀ k,XT 8 (.row 0 8 (Xk (aV a.rim b.rim f k)))=True:=fun k=>eq_true (XL (Dy a.rim b.rim f k))
 have bh:∀ k,XT 8 (.row 0 8 (Xk (aM a.rim b.rim f k)))=True:=fun k=>eq_true (XL (Sy a.rim b.rim f k))
 have bx:Ko 8 (Xx (Xr a.rim))=True:=eq_true (X7 (Xh _))
 have by':Ko 8 (Xx (Xr b.rim))=True:=eq_true (X7 (Xh _))
 refine Xd (fun k:Nat=>⟨16,[40,41],[.any,.any,.any,.ref 0 0 0,.ref 1 0 0,.ref 2 0 0,.ref 3 0 0,.ref 4 0 0,.bool false,Xx (Xr a.rim),Xx (Xr b.rim),.ref 5 0 0,.ref 6 0 0,.ref 7 0 0,.any,.any],[(40,I ((N+1:Nat):Int)),(41,I k)],[.row 0 25 (Xk (Q0 a)),.row 0 25 (Xk (Q0 b)),.con 0 29 (Xk (Qr f)),.row 0 8 (Xk Q5),.row 0 8 (Xk Q5),.row 0 4 (Xk [.bool (decide ((ta+tb).num<0)),X4 (X8 (ta+tb).num.natAbs),.bool false,X4 (X8 (qd (ta+tb)))]),.row 0 8 (Xk (aV a.rim b.rim f k)),.row 0 8 (Xk (aM a.rim b.rim f k))]⟩) (fun k=>k≤N+1) (fun k=>N+1 - k) 0 (by omega)
  (Sub.trans (Qk 2 rfl) (Xg rfl (by simp [Xf,X5,I]) (by simp [Xm,Xq,I]) (by simp [Q0,Qr,Q5,aV,aM,Xi,Xz,X3,I]))) ?_
 intro k hk next
 have w1:=wj k (by omega)
 by_cases hk2:k<N+1
 ·have nx:=next (k+1)
  have fk:((k:Int)<((N+1:Nat):Int))=True:=eq_true (by omega)
  have wx:IntKind.i64.wrap (f.EA+(k:Int))=f.EA+(k:Int):=by rw [IntKind.wrap_i64]; omega
  have wy1:IntKind.i64.wrap (f.EB+1)=f.EB+1:=by rw [IntKind.wrap_i64]; omega
  have wy:IntKind.i64.wrap (f.EB+1 - (k:Int))=f.EB+1 - (k:Int):=by rw [IntKind.wrap_i64]; omega
  have c1:=ZM (f.EA+(k:Int)) a.rim.length (by omega) (by omega) (by omega)
  have c2:=ZM (f.EB+1 - (k:Int)) b.rim.length (by omega) (by omega) (by omega)
  rw [WL _ _ _ (by omega)] at c1
  rw [qj _ _ _ (by omega)] at c2
  have hX:=kx a.rim.length f k (by omega)
  have hY:=wv b.rim.length f k (by omega)
  have vx:=Zh ha.near (xK a.rim.length f k)
  have vy:=Zh hb.near (yL b.rim.length f k)
  have vr:=F5 f.turn (Qe (b.rim.getD (yL b.rim.length f k) (0,0)))
  have c3:=L9 f.turn (Qe (b.rim.getD (yL b.rim.length f k) (0,0))) (by unfold vm; omega) (by unfold vm; omega)
  have c4:=Bh (Qe (a.rim.getD (xK a.rim.length f k) (0,0))) (ZE f.turn (Qe (b.rim.getD (yL b.rim.length f k) (0,0)))) (by unfold rm; omega) (by unfold rm; omega)
  rw [show (Qe (a.rim.getD (xK a.rim.length f k) (0,0))).sub (ZE f.turn (Qe (b.rim.getD (yL b.rim.length f k) (0,0))))=ZZ a.rim b.rim f k from rfl] at c4
  have hD:=BK ha.near hb.near f ht
  have hL:=Gv ha.near hb.near f ht
  have hH:=Gs ha.near hb.near f ht
  have v1:=vF (Xr a.rim) (xK a.rim.length f k)
  have v2:=vF (Xr b.rim) (yL b.rim.length f k)
  rw [Z7] at v1 v2
  generalize xK a.rim.length f k=X at *
  generalize yL b.rim.length f k=Y at *
  generalize Qe (a.rim.getD X (0,0))=PX at *
  generalize Qe (b.rim.getD Y (0,0))=PY at *
  generalize ZE f.turn PY=RY at *
  have fX:((X:Int)<a.rim.length)=True:=eq_true (by omega)
  have fX':(X<a.rim.length)=True:=eq_true hX
  have fX8:(X*8+8≤a.rim.length*8)=True:=eq_true (by omega)
  have fY:((Y:Int)<b.rim.length)=True:=eq_true (by omega)
  have fY':(Y<b.rim.length)=True:=eq_true hY
  have fY8:(Y*8+8≤b.rim.length*8)=True:=eq_true (by omega)
  refine Xj ?_
  simp only [Qr,X5,w1,wx,wy1,wy,fk,fX,fX',fX8,fY,fY',fY8,hla,hlb,v1,v2,Int.toNat_natCast,↓X1,wA,↓reduceIte,reduceIte,reduceCtorEq,Y1,Y2,Y3,Y4,Y5,Y6,Y7,Y8,Y9,YA,wE]
  refine X0 c1 rfl ?_
  simp only [Qr,X5,w1,wx,wy1,wy,fk,fX,fX',fX8,fY,fY',fY8,hla,hlb,v1,v2,Int.toNat_natCast,↓X1,wA,↓reduceIte,reduceIte,reduceCtorEq,Y1,Y2,Y3,Y4,Y5,Y6,Y7,Y8,Y9,YA,wE]
  refine X0 c2 rfl ?_
  simp only [Qr,X5,w1,wx,wy1,wy,fk,fX,fX',fX8,fY,fY',fY8,hla,hlb,v1,v2,Int.toNat_natCast,↓X1,wA,↓reduceIte,reduceIte,reduceCtorEq,Y1,Y2,Y3,Y4,Y5,Y6,Y7,Y8,Y9,YA,wE]
  refine X0 c3 rfl ?_
  simp only [Qr,X5,w1,wx,wy1,wy,fk,fX,fX',fX8,fY,fY',fY8,hla,hlb,v1,v2,Int.toNat_natCast,↓X1,wA,↓reduceIte,reduceIte,reduceCtorEq,Y1,Y2,Y3,Y4,Y5,Y6,Y7,Y8,Y9,YA,wE]
  refine X0 c4 rfl ?_
  match k,w1,fk,hk2,nx with
  | 0,w1,fk,hk2,nx =>
   have e0:((0:Nat):Int)=0:=rfl
   have hL0:aV a.rim b.rim f 1=vC (ZZ a.rim b.rim f 0):=rfl
   have hH0:aM a.rim b.rim f 1=vC (ZZ a.rim b.rim f 0):=rfl
   simp only [Nat.zero_add,hL0,hH0] at nx
   generalize ZZ a.rim b.rim f 0=D at *
   have w0:IntKind.i64.wrap (0+1)=1:=by decide
   have bD:XT 8 (.row 0 8 (Xk (vC D)))=True:=eq_true (XL (by simp [vC,X6,X2]))
   simp only [aV,aM,Q5,e0,w0,↓X1,wA,↓reduceIte,reduceIte,reduceCtorEq,Y1,Y2,Y3,Y4,Y5,Y6,Y7,Y8,Y9,YA,wE]
   exact nx _ (by omega) (by omega) (XD (m:=8) (Nat.zero_le _) rfl (by simp [Xf,X5,hla,hlb,I]) (by simp [Xm,Xq,I]) (by simp [Q0,Qr,Q5,aV,aM,vC,Xi,Xz,X3,I]) (by simp [XA,bx,by']) (by simp [XA]) (by simp [ba,bb,bf,bz,be,bD,bl,bh]))
  | j+1,w1,fk,hk2,nx =>
   have g0:(((j+1:Nat):Int)=0)=False:=eq_false (by omega)
   have g0':((j:Int)+1=0)=False:=eq_false (by omega)
   have g0'':(j+1=0)=False:=eq_false (by omega)
   have bD:=bl 0
   have hl1:aV a.rim b.rim f (j+1)=vC (DT a.rim b.rim f j):=rfl
   have hh1:aM a.rim b.rim f (j+1)=vC (DQ a.rim b.rim f j):=rfl
   have hl2:aV a.rim b.rim f (j+1+1)=vC (DT a.rim b.rim f (j+1)):=rfl
   have hh2:aM a.rim b.rim f (j+1+1)=vC (DQ a.rim b.rim f (j+1)):=rfl
   have hDj:=hD (j+1); have hLj:=hL j; have hHj:=hH j
   have k1:=MB (DT a.rim b.rim f j).x (ZZ a.rim b.rim f (j+1)).x (by have:=QM (DT a.rim b.rim f j); unfold rm; omega) (by have:=QM (ZZ a.rim b.rim f (j+1)); unfold rm; omega)
   have k2:=MB (DT a.rim b.rim f j).y (ZZ a.rim b.rim f (j+1)).y (by have:=QG (DT a.rim b.rim f j); unfold rm; omega) (by have:=QG (ZZ a.rim b.rim f (j+1)); unfold rm; omega)
   have k3:=Lv (DQ a.rim b.rim f j).x (ZZ a.rim b.rim f (j+1)).x (by have:=QM (DQ a.rim b.rim f j); unfold rm; omega) (by have:=QM (ZZ a.rim b.rim f (j+1)); unfold rm; omega)
   have k4:=Lv (DQ a.rim b.rim f j).y (ZZ a.rim b.rim f (j+1)).y (by have:=QG (DQ a.rim b.rim f j); unfold rm; omega) (by have:=QG (ZZ a.rim b.rim f (j+1)); unfold rm; omega)
   rw [show Mj (DT a.rim b.rim f j).x (ZZ a.rim b.rim f (j+1)).x=(DT a.rim b.rim f (j+1)).x from rfl] at k1
   rw [show Mj (DT a.rim b.rim f j).y (ZZ a.rim b.rim f (j+1)).y=(DT a.rim b.rim f (j+1)).y from rfl] at k2
   rw [show Mi (DQ a.rim b.rim f j).x (ZZ a.rim b.rim f (j+1)).x=(DQ a.rim b.rim f (j+1)).x from rfl] at k3
   rw [show Mi (DQ a.rim b.rim f j).y (ZZ a.rim b.rim f (j+1)).y=(DQ a.rim b.rim f (j+1)).y from rfl] at k4
   have bl2:=bl (j+1+1); have bh2:=bh (j+1+1)
   simp only [hl2,hh2] at nx bl2 bh2
   rw [hl1,hh1]
   clear hD hL hH
   generalize ZZ a.rim b.rim f (j+1)=D at *
   generalize DT a.rim b.rim f (j+1)=L2 at *
   generalize DQ a.rim b.rim f (j+1)=H2 at *
   generalize DT a.rim b.rim f j=L1 at *
   generalize DQ a.rim b.rim f j=H1 at *
   simp only [g0,g0',g0'',w1,↓X1,wA,↓reduceIte,reduceIte,reduceCtorEq,Y1,Y2,Y3,Y4,Y5,Y6,Y7,Y8,Y9,YA,wE]
   refine X0 k1 rfl ?_
   simp only [g0,g0',g0'',w1,↓X1,wA,↓reduceIte,reduceIte,reduceCtorEq,Y1,Y2,Y3,Y4,Y5,Y6,Y7,Y8,Y9,YA,wE]
   refine X0 k3 rfl ?_
   simp only [g0,g0',g0'',w1,↓X1,wA,↓reduceIte,reduceIte,reduceCtorEq,Y1,Y2,Y3,Y4,Y5,Y6,Y7,Y8,Y9,YA,wE]
   refine X0 k2 rfl ?_
   simp only [g0,g0',g0'',w1,↓X1,wA,↓reduceIte,reduceIte,reduceCtorEq,Y1,Y2,Y3,Y4,Y5,Y6,Y7,Y8,Y9,YA,wE]
   refine X0 k4 rfl ?_
   simp only [g0,g0',g0'',w1,↓X1,wA,↓reduceIte,reduceIte,reduceCtorEq,Y1,Y2,Y3,Y4,Y5,Y6,Y7,Y8,Y9,YA,wE]
   exact nx _ (by omega) (by omega) (XD (m:=8) (Nat.zero_le _) rfl (by simp [Xf,X5,hla,hlb,I]) (by simp [Xm,Xq,I]) (by simp [Q0,Qr,Q5,aV,aM,vC,Xi,Xz,X3,I]) (by simp [XA,bx,by']) (by simp [XA]) (by simp [ba,bb,bf,bz,be,bD,bl2,bh2]))
 obtain rfl:k=N+1:=by omega
 have hL:=Gv ha.near hb.near f ht N
 have hH:=Gs ha.near hb.near f ht N
 have hl1:aV a.rim b.rim f (N+1)=vC (DT a.rim b.rim f N):=rfl
 have hh1:aM a.rim b.rim f (N+1)=vC (DQ a.rim b.rim f N):=rfl
 rw [hl1,hh1]
 clear bl bh hl1 hh1
 generalize DT a.rim b.rim f N=LO at *
 generalize DQ a.rim b.rim f N=HI at *
 have m0:vb ⟨ta+tb,ta+tb⟩≤2001:=by unfold vb; simp only; omega
 have m1:=KZ LO ⟨ta+tb,ta+tb⟩
 have m2:=GN HI ⟨ta+tb,ta+tb⟩
 have c1:=Bh LO ⟨ta+tb,ta+tb⟩ (by unfold rm; omega) (by unfold rm; omega)
 have c2:=Oz HI ⟨ta+tb,ta+tb⟩ (by unfold vm; omega) (by unfold vm; omega)
 generalize LO.sub ⟨ta+tb,ta+tb⟩=A at *
 generalize HI.add ⟨ta+tb,ta+tb⟩=B at *
 have:=QM A; have:=QG A; have:=QM B; have:=QG B
 have q1:=QD A.x B.x (by unfold rm; omega) (by unfold rm; omega)
 have q2:=QD A.y B.y (by unfold rm; omega) (by unfold rm; omega)
 refine Xj ?_
 simp only [Qr,Int.lt_irrefl,Nat.lt_irrefl,↓X1,wA,↓reduceIte,reduceIte,reduceCtorEq,Y1,Y2,Y3,Y4,Y5,Y6,Y7,Y8,Y9,YA,wE]
 refine X0 c1 rfl ?_
 simp only [↓X1,wA,↓reduceIte,reduceIte,reduceCtorEq,Y1,Y2,Y3,Y4,Y5,Y6,Y7,Y8,Y9,YA,wE]
 refine X0 c2 rfl ?_
 simp only [↓X1,wA,↓reduceIte,reduceIte,reduceCtorEq,Y1,Y2,Y3,Y4,Y5,Y6,Y7,Y8,Y9,YA,wE]
 refine X0 q1 rfl ?_
 by_cases h1:B.x<A.x
 ·have f1:(0<J3 A.x B.x)=True:=eq_true ((KP _ _).2 h1)
  simp only [f1,Q5,↓X1,wA,↓reduceIte,reduceIte,reduceCtorEq,Y1,Y2,Y3,Y4,Y5,Y6,Y7,Y8,Y9,YA,wE]
  exact zret rfl rfl rfl rfl rfl (by rw [hRe,if_pos (.inl h1)])
 have f1:(0<J3 A.x B.x)=False:=eq_false fun h=>h1 ((KP _ _).1 h)
 simp only [f1,↓X1,wA,↓reduceIte,reduceIte,reduceCtorEq,Y1,Y2,Y3,Y4,Y5,Y6,Y7,Y8,Y9,YA,wE]
 refine X0 q2 rfl ?_
 by_cases h2:B.y<A.y
 ·have f2:(0<J3 A.y B.y)=True:=eq_true ((KP _ _).2 h2)
  simp only [f1,f2,Q5,↓X1,wA,↓reduceIte,reduceIte,reduceCtorEq,Y1,Y2,Y3,Y4,Y5,Y6,Y7,Y8,Y9,YA,wE]
  exact zret rfl rfl rfl rfl rfl (by rw [hRe,if_pos (.inr h2)])
 have f2:(0<J3 A.y B.y)=False:=eq_false fun h=>h2 ((KP _ _).1 h)
 simp only [f1,f2,Q5,↓X1,wA,↓reduceIte,reduceIte,reduceCtorEq,Y1,Y2,Y3,Y4,Y5,Y6,Y7,Y8,Y9,YA,wE]
 rw [if_neg fun h=>h.elim h1 h2] at hRe
 subst hRe
 exact Wr rfl (Xn Kc rfl rfl rfl) (Xn Kc rfl rfl rfl) (by unfold Jj; rfl) (XK (Xo _) (QY (Qj (vC A)))) (XK (Xo _) (QY (Qj (vC B)))) ((X2 _).sees _)
end
end Go.Ab.N
