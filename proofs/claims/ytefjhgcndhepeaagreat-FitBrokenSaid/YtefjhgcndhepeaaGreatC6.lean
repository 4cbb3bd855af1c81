/- Contracts of functions of these chapters, for every argument that fits, and what they need. -/
import Derived.Test.YtefjhgcndhepeaaGreatC5
set_option linter.unusedSimpArgs false
set_option linter.unusedVariables false
open Nat renaming reducePow → Y1, reduceLT → Y2, reduceLeDiff → Y3, reduceEqDiff → Y4, reduceAdd → Y5, reduceMul → Y6, reduceSub → Y7, reduceBEq → Y8, reduceDiv → Y9, reduceMod → YA
namespace Go.Ab.N
open Go Go.RowKit Go.Proofs
noncomputable section
set_option maxRecDepth 10000
set_option maxHeartbeats 4000000
open Classical
structure PV.small (p:PV):Prop where
 rim:p.rim.length<1000000
 worn:p.worn.length<1000000
 marks:p.marks.length<1000000
 tol:p.tol.sz≤1000000
 light:p.light.sz≤1000000
 heavy:p.heavy.sz≤1000000
 strength:p.strength.sz≤1000000
 rough:p.rough.sz≤1000000
theorem Wx (q:Rat):q.num.sign<0↔q<0:=by rw [Int.sign_neg_iff,Rat.lt_iff]; simp
theorem OQ (q:Rat):0<q.num.sign↔0<q:=by rw [Int.sign_pos_iff,Rat.lt_iff]; simp
theorem FW (q:Rat):q.num.sign=0↔q=0:=by rw [Int.sign_eq_zero_iff_zero]; exact Rat.num_eq_zero
theorem UN (p:PV) (h:∀ i,i<p.rim.length→UA (p.rim.getD i (0,0))=true):Qs (Xr p.rim) 1000:=by
 intro i
 by_cases hi:i<p.rim.length
 ·have h1:(Xr p.rim).getD i v0=Qe (p.rim.getD i (0,0)):=by
   unfold Xr
   rw [List.getD_eq_getElem?_getD,List.getD_eq_getElem?_getD,List.getElem?_map,List.getElem?_eq_getElem hi]; rfl
  have hok:=h i hi
  unfold UA wb at hok
  simp only [Bool.and_eq_true,decide_eq_true_eq] at hok
  rw [h1]
  have q1:=Za (p.rim.getD i (0,0)).1 3 (by omega) (QR ⟨by omega,by omega⟩)
  have q2:=Za (p.rim.getD i (0,0)).2 3 (by omega) (QR ⟨by omega,by omega⟩)
  unfold vb Qe
  simp only
  omega
 ·have h1:(Xr p.rim).getD i v0=v0:=by
   rw [List.getD_eq_getElem?_getD,List.getElem?_eq_none (by simp [Xr]; omega)]; rfl
  rw [h1]
  have:=Zx
  unfold vb v0
  simp only
  omega
theorem PV.eq_iff (a b:PV):a=b↔(a.tol=b.tol∧a.light=b.light∧a.heavy=b.heavy∧a.strength=b.strength∧a.rough=b.rough)∧a.id=b.id∧a.home=b.home∧a.rim=b.rim∧a.worn=b.worn∧a.marks=b.marks:=by
 constructor
 ·rintro rfl; exact ⟨⟨rfl,rfl,rfl,rfl,rfl⟩,rfl,rfl,rfl,rfl,rfl⟩
 ·cases a; cases b
  rintro ⟨⟨h1,h2,h3,h4,h5⟩,h6,h7,h8,h9,h10⟩
  simp only at *
  subst h1; subst h2; subst h3; subst h4; subst h5; subst h6; subst h7; subst h8; subst h9; subst h10
  rfl
def LN:RQ:=⟨false,[],false,[]⟩
def QF:List AV:=[I 0,I 0,.sl 0 0 (fun _=>.any) false,.sl 0 0 (fun _=>.any) false,.sl 0 0 (fun _=>.any) false,.bool false,.sl 0 0 (fun _=>.any) false,.bool false,.sl 0 0 (fun _=>.any) false,.bool false,.sl 0 0 (fun _=>.any) false,.bool false,.sl 0 0 (fun _=>.any) false,
 .bool false,.sl 0 0 (fun _=>.any) false,.bool false,.sl 0 0 (fun _=>.any) false,.bool false,.sl 0 0 (fun _=>.any) false,.bool false,.sl 0 0 (fun _=>.any) false,.bool false,.sl 0 0 (fun _=>.any) false,.bool false,.sl 0 0 (fun _=>.any) false]
def v7 (p:PV) (id home:Int) (t:Rat):PV:=⟨id,home,p.rim,p.worn,p.marks,RQ.of t,p.light,p.heavy,p.strength,p.rough⟩
theorem LP:LN=RQ.of 0:=by
 unfold LN RQ.of Ab.N.qd
 simp [XV]
def qf:Rat:=Rat.divInt 1 2
def vZ:Rat:=Rat.divInt 1 1
def xn:Rat:=Rat.divInt 2 1
def xL:PV:=⟨0,0,[(0,0),(2,0),(0,2)],[false,false,false],[0,0,0],RQ.of qf,RQ.of vZ,RQ.of xn,RQ.of vZ,RQ.of 0⟩
theorem Lk {P:Program} {fn:Func} {str hcs:List Nat} {r:AV} {s:AS} {t u id ver n:Nat} {L:List AV} (hr:fn.results=#[.cell t u]) (hk:BD P u=some (some n)) (hs:s.get t=.ref id ver 0)
  (ho:s.h[id]?=some (.row ver n (Xk L))) (hn:L.length=n) (h:JH s.h (.agg L) r):RetOk (QS P fn str hcs r) s :=
 ⟨.agg L,by
  have:=Xn hk hs ho hn
  simp [KQ,IJ,Cc,hr,J6,ZD,this],h⟩
theorem OD (p q:Int) (hp:ZO p) (hq:ZO q):qb (Rat.divInt p q)≤3:=KO _ _ _ (by omega) (QR hp) (QR hq)
theorem u7 (p q:Int) (hp:ZO p) (hq:ZO q):(RQ.of (Rat.divInt p q)).sz≤3:=Nat.le_trans (RQ.of_sz _) (OD p q hp hq)
def dk:PV:=v7 xL 7 1 (qf+Rat.divInt 1 4)
end
end Go.Ab.N
namespace Go.Ab.N
open Go Go.RowKit Go.Proofs
noncomputable section
set_option maxRecDepth 10000
set_option maxHeartbeats 2000000
open Classical
theorem Nz (a b:Int) (la:bl a<4611686018427387904) (lb:bl b<4611686018427387904):Fn Tryz.prog 186 [zA a,zA b] (I (a - b).sign):=by
 unfold bl at la lb
 have c1:=A6 (X8 b.natAbs) (X8 a.natAbs) (XM _) (XM _) lb
 have c2:=A6 (X8 a.natAbs) (X8 b.natAbs) (XM _) (XM _) la
 rw [Xw,Xw] at c1 c2
 obtain ⟨V,hV⟩:∃ V,V=(a - b).sign:=⟨_,rfl⟩
 rw [← hV]
 have fin:∀ {s:AS} {v:Int},s.get 4=I v→v=V→RetOk (QS Tryz.prog Tryz.f186 [] [] (I V)) s:=fun h e=>Xv rfl h (X9 _) (by rw [e])
 refine Fr Tryz.call186 Tryz.func186 5 [] [] [] ?_
 by_cases ha:a<0
 ·have f1:(a<0)=True:=eq_true ha
  by_cases hb:b<0
  ·have f2:(b<0)=True:=eq_true hb
   simp only [AS.start,f1,f2,pX,↓X1,wF,seval]
   refine X0 c1 rfl ?_
   simp only [↓X1,wF,seval]
   refine fin rfl ?_
   rw [hV]; congr 1; omega
  ·have f2:(b<0)=False:=eq_false hb
   simp only [AS.start,f1,f2,pW,↓X1,wF,seval]
   refine fin rfl ?_
   rw [hV,Int.sign_eq_neg_one_of_neg (by omega)]
 ·have f1:(a<0)=False:=eq_false ha
  by_cases hb:b<0
  ·have f2:(b<0)=True:=eq_true hb
   simp only [AS.start,f1,f2,pV,↓X1,wF,seval]
   refine fin rfl ?_
   rw [hV,Int.sign_eq_one_of_pos (by omega)]
  ·have f2:(b<0)=False:=eq_false hb
   simp only [AS.start,f1,f2,pU,↓X1,wF,seval]
   refine X0 c2 rfl ?_
   simp only [↓X1,wF,seval]
   refine fin rfl ?_
   rw [hV]; congr 1; omega
theorem UL (a:Int) (la:bl a<4611686018427387904):Fn Tryz.prog 173 [zA a] (I a.sign):=by
 have c:=Nz a 0 la (by unfold bl; rw [Int.natAbs_zero,XV]; decide)
 rw [Int.sub_zero] at c
 refine Fr Tryz.call173 Tryz.func173 3 [] [] [] ?_; simp (maxSteps:=999999) only [AS.start,↓X1,wF,seval]
 refine Qm c ⟨Weak.rfl' _,?_,trivial⟩ ?_
 ·exact QY ⟨Weak.rfl' _,QB (by rw [Int.natAbs_zero,XV]),trivial⟩
 simp only [↓X1,wF,seval]
 exact Xv rfl rfl (X9 _) rfl
theorem AC (r:Rat):Fn Tryz.prog 162 [qA r] (zA r.den):=by
 obtain ⟨R,hR⟩:∃ R,R=zA r.den:=⟨_,rfl⟩
 have sR:Settled R:=hR▸XC _
 rw [← hR]
 rw [kz] at hR
 by_cases h:r.den=1
 ·have f1:((X8 (qd r)).length=0)=True:=eq_true ((Co r).2 h)
  have f2:(((X8 (qd r)).length:Int)=0)=True:=eq_true (by have:=(Co r).2 h; omega)
  refine Fr Tryz.call162 Tryz.func162 3 [] [] [] ?_; simp (maxSteps:=999999) only [AS.start,↓X1,wF,seval]
  simp only [f1,f2,↓X1,wF,seval]
  refine X0 (Cv 1 ⟨by omega,by omega⟩) rfl ?_
  simp only [↓X1,wF,seval]
  exact JO rfl XO rfl rfl rfl sR (by rw [hR,h]; rfl)
 ·have f1:((X8 (qd r)).length=0)=False:=eq_false fun e=>h ((Co r).1 e)
  have f2:(((X8 (qd r)).length:Int)=0)=False:=eq_false fun e=>h ((Co r).1 (by omega))
  refine Fr Tryz.call162 Tryz.func162 3 [] [] [] ?_; simp (maxSteps:=999999) only [AS.start,↓X1,wF,seval]
  simp only [f1,f2,↓X1,wF,seval]
  exact JO rfl XO rfl rfl rfl sR (by rw [hR,jn h]; rfl)
theorem Hk (r:Rat) (h:qb r≤rm):Fn Tryz.prog 84 [qA r] (I r.num.sign):=by
 have h1:=JW r
 have c:=UL r.num (by unfold rm at h; omega)
 refine Fr Tryz.call84 Tryz.func84 3 [] [] [] ?_; simp (maxSteps:=999999) only [AS.start,↓X1,wF,seval]
 refine X0 c rfl ?_
 simp only [↓X1,wF,seval]
 exact Xv rfl rfl (X9 _) rfl
theorem Cr (a b:Rat) (ha:qb a≤rm) (hb:qb b≤rm):Fn Tryz.prog 95 [qA a,qA b] (I (J3 a b)):=by
 unfold rm at ha hb
 have a1:=JW a; have a2:=K4 a; have b1:=JW b; have b2:=K4 b
 have m1:=Af a.num b.den (by unfold room; omega) (by unfold room; omega)
 have m2:=Af b.num a.den (by unfold room; omega) (by unfold room; omega)
 have n1:=Kf a.num b.den
 have n2:=Kf b.num a.den
 have c:=Nz (a.num*b.den) (b.num*a.den) (by omega) (by omega)
 have d1:=AC a
 have d2:=AC b
 obtain ⟨V,hV⟩:∃ V,V=J3 a b:=⟨_,rfl⟩
 rw [show (a.num*b.den - b.num*a.den).sign=V from hV.symm] at c
 rw [← hV]
 refine Fr Tryz.call95 Tryz.func95 5 [] [] [] ?_; simp (maxSteps:=999999) only [AS.start,↓X1,wF,seval]
 refine X0 d2 rfl ?_
 simp only [↓X1,wF,seval]
 refine X0 m1 rfl ?_
 simp only [↓X1,wF,seval]
 refine X0 d1 rfl ?_
 simp only [↓X1,wF,seval]
 refine X0 m2 rfl ?_
 simp only [↓X1,wF,seval]
 refine X0 c rfl ?_
 simp only [↓X1,wF,seval]
 exact Xv rfl rfl (X9 _) rfl
theorem AX (a b:Rat) (ha:qb a≤rm) (hb:qb b≤rm):Fn Tryz.prog 76 [qA a,qA b] (qA (a+b)):=by
 unfold rm at ha hb
 have a1:=JW a; have a2:=K4 a; have b1:=JW b; have b2:=K4 b
 have m1:=Af a.num b.den (by unfold room; omega) (by unfold room; omega)
 have m2:=Af b.num a.den (by unfold room; omega) (by unfold room; omega)
 have m3:=Af a.den b.den (by unfold room; omega) (by unfold room; omega)
 have n1:=Kf a.num b.den
 have n2:=Kf b.num a.den
 have n3:=Kf a.den b.den
 have n4:=TI (a.num*b.den) (b.num*a.den)
 have s1:=Se (a.num*b.den) (b.num*a.den) (by unfold room; omega) (by unfold room; omega)
 have k:=Gw (a.num*b.den+b.num*a.den) (a.den*b.den) (by omega) (by omega)
 have e0:a+b=Rat.divInt (a.num*b.den+b.num*a.den) (a.den*b.den):=by
  rw [Rat.add_def',KM]; push_cast; rfl
 rw [← e0] at k
 have d1:=AC a
 have d2:=AC b
 obtain ⟨R,hR⟩:∃ R,R=qA (a+b):=⟨_,rfl⟩
 have sR:Settled R:=hR▸Xa _
 rw [← hR] at k ⊢
 refine Fr Tryz.call76 Tryz.func76 7 [] [1,2,3,20000002,20000003,30000002,30000003,40000002,40000003,40000005,40000006] [] ?_; simp (maxSteps:=999999) only [AS.start,↓X1,wF,seval]
 refine X0 d2 rfl ?_
 simp only [↓X1,wF,seval]
 refine X0 m1 rfl ?_
 simp only [↓X1,wF,seval]
 refine X0 d1 rfl ?_
 simp only [↓X1,wF,seval]
 refine X0 m2 rfl ?_
 simp only [↓X1,wF,seval]
 refine X0 s1 rfl ?_
 simp only [↓X1,wF,seval]
 refine X0 d1 rfl ?_
 simp only [↓X1,wF,seval]
 refine X0 d2 rfl ?_
 simp only [↓X1,wF,seval]
 refine X0 m3 rfl ?_
 simp only [↓X1,wF,seval]
 refine X0 k rfl ?_
 simp only [hR,↓X1,wF,seval]
 exact JO rfl Qh rfl rfl rfl sR (hR.trans rfl)
theorem JX (a b:Rat) (ha:qb a≤rm) (hb:qb b≤rm):Fn Tryz.prog 189 [qA a,qA b] (qA (a*b)):=by
 unfold rm at ha hb
 have a1:=JW a; have a2:=K4 a; have b1:=JW b; have b2:=K4 b
 have m1:=Af a.num b.num (by unfold room; omega) (by unfold room; omega)
 have m3:=Af a.den b.den (by unfold room; omega) (by unfold room; omega)
 have n1:=Kf a.num b.num
 have n3:=Kf a.den b.den
 have k:=Gw (a.num*b.num) (a.den*b.den) (by omega) (by omega)
 have e0:a*b=Rat.divInt (a.num*b.num) (a.den*b.den):=by
  rw [Rat.mul_def',KM]; push_cast; rfl
 rw [← e0] at k
 have d1:=AC a
 have d2:=AC b
 obtain ⟨R,hR⟩:∃ R,R=qA (a*b):=⟨_,rfl⟩
 have sR:Settled R:=hR▸Xa _
 rw [← hR] at k ⊢
 refine Fr Tryz.call189 Tryz.func189 5 [] [] [] ?_; simp (maxSteps:=999999) only [AS.start,↓X1,wF,seval]
 refine X0 m1 rfl ?_
 simp only [↓X1,wF,seval]
 refine X0 d1 rfl ?_
 simp only [↓X1,wF,seval]
 refine X0 d2 rfl ?_
 simp only [↓X1,wF,seval]
 refine X0 m3 rfl ?_
 simp only [↓X1,wF,seval]
 refine X0 k rfl ?_
 simp only [hR,↓X1,wF,seval]
 exact JO rfl Qh rfl rfl rfl sR (hR.trans rfl)
theorem tO (r:Rat):qd (-r)=qd r:=by unfold qd; rw [Rat.neg_den]
theorem EW (r:Rat) (h:qb r≤rm):Fn Tryz.prog 103 [qA r] (qA (-r)):=by
 unfold rm at h
 have h1:=JW r
 have c:=Lo r.num (by unfold room; omega)
 have e:qA (-r)=.agg [.bool (decide (-r.num<0)),X4 (X8 (-r.num).natAbs),.bool false,X4 (X8 (qd r))]:=by
  unfold qA qC
  rw [tO,Rat.neg_num]
 obtain ⟨R,hR⟩:∃ R,R=qA (-r):=⟨_,rfl⟩
 have sR:Settled R:=hR▸Xa _
 rw [← hR]
 refine Fr Tryz.call103 Tryz.func103 3 [] [] [] ?_; simp (maxSteps:=999999) only [AS.start,↓X1,wF,seval]
 refine X0 c rfl ?_
 simp only [↓X1,wF,seval]
 exact JO rfl Qh rfl rfl rfl sR (hR.trans e)
theorem OG (r:Rat):qb (-r)=qb r:=by
 unfold qb bl
 rw [Rat.neg_den,Rat.neg_num,Int.natAbs_neg]
theorem AY (a b:Rat) (ha:qb a≤rm) (hb:qb b≤rm):Fn Tryz.prog 188 [qA a,qA b] (qA (a - b)):=by
 have c:=EW b hb
 have k:=AX a (-b) ha (by rw [OG]; exact hb)
 rw [← Rat.sub_eq_add_neg] at k
 obtain ⟨R,hR⟩:∃ R,R=qA (a - b):=⟨_,rfl⟩
 have sR:Settled R:=hR▸Xa _
 rw [← hR] at k ⊢
 refine Fr Tryz.call188 Tryz.func188 5 [] [] [] ?_; simp (maxSteps:=999999) only [AS.start,↓X1,wF,seval]
 refine X0 c rfl ?_
 simp only [↓X1,wF,seval]
 refine X0 k rfl ?_
 simp only [hR,↓X1,wF,seval]
 exact JO rfl Qh rfl rfl rfl sR (hR.trans rfl)
theorem FP (neg:Bool) (d:List Int) (hl:d.length<4611686018427387904):Fn Tryz.prog 172 [zR neg d] (.bool (K9 neg d)):=by
 obtain ⟨V,hV⟩:∃ V,V=K9 neg d:=⟨_,rfl⟩
 rw [← hV]
 unfold K9 at hV
 have fin:∀ {s:AS} {v:Bool},s.get 2=.bool v→v=V→RetOk (QS Tryz.prog Tryz.f172 [] [] (.bool V)) s:=fun h e=>Xv rfl h (X2 _) (by rw [e])
 refine Fr Tryz.call172 Tryz.func172 4 [] [] [] ?_
 simp only [AS.start,zR,↓X1,wF,seval]
 refine Xd (fun i:Nat=>⟨4,[],[.any,.ref 0 0 0,.bool false,I i],[],[.row 0 2 (Xk [.bool neg,X4 d])]⟩) (fun i=>i≤d.length∧∀ j,j<i→Ff (d.getD j 0)=false) (fun i=>d.length - i) 0 ⟨by omega,by omega⟩
  (Kq (by simp [Xf,I]) (by simp [X3])) ?_
 rintro i ⟨hi,hok⟩ next
 have w1:=wj i (by omega)
 by_cases hi2:i<d.length
 ·have f1:((i:Int)<d.length)=True:=eq_true (by omega)
  have f2:(i<d.length)=True:=eq_true hi2
  have bad:Ff (d.getD i 0)=true→false=V:=fun h=>by
   have:d.any Ff=true:=List.any_eq_true.2 ⟨d.getD i 0,Ju hi2,h⟩
   rw [hV,this]; rfl
  by_cases g1:d.getD i 0<0
  ·have k1:(d.getD i 0<0)=True:=eq_true g1
   refine Xj ?_
   simp only [X3,w1,f1,f2,k1,Int.toNat_natCast,↓X1,wF,seval]
   exact fin rfl (bad (by unfold Ff; rw [decide_eq_true g1]; rfl))
  have k1:(d.getD i 0<0)=False:=eq_false g1
  by_cases g2:1000000000≤d.getD i 0
  ·have k2:(1000000000≤d.getD i 0)=True:=eq_true g2
   refine Xj ?_
   simp only [X3,w1,f1,f2,k1,k2,Int.toNat_natCast,↓X1,wF,seval]
   exact fin rfl (bad (by unfold Ff; rw [decide_eq_true g2]; simp))
  have k2:(1000000000≤d.getD i 0)=False:=eq_false g2
  refine Xj ?_
  simp only [X3,w1,f1,f2,k1,k2,Int.toNat_natCast,↓X1,wF,seval]
  refine next (i+1) _ ⟨by omega,fun j hj=>?_⟩ (by omega) (Kq (by simp [Xf,I]) (by simp [X3]))
  by_cases e:j<i
  ·exact hok j e
  ·obtain rfl:j=i:=by omega
   unfold Ff; rw [decide_eq_false g1,decide_eq_false g2]; rfl
 obtain rfl:i=d.length:=by omega
 have hall:d.any Ff=false:=by
  rw [List.any_eq_false]
  intro x hx
  obtain ⟨k,hk,rfl⟩:=List.getElem_of_mem hx
  have:=hok k hk
  rw [List.getD_eq_getElem?_getD,List.getElem?_eq_getElem hk] at this
  simpa using this
 rw [hall] at hV
 by_cases h0:d.length=0
 ·have f1:(d.length=0)=True:=eq_true h0
  have f2:((d.length:Int)=0)=True:=eq_true (by omega)
  refine Xj ?_
  simp only [X3,f1,f2,Int.lt_irrefl,Nat.lt_irrefl,↓X1,wF,seval]
  exact fin rfl (by rw [hV,if_pos h0]; simp)
 ·have f1:(d.length=0)=False:=eq_false h0
  have f2:((d.length:Int)=0)=False:=eq_false (by omega)
  have f3:(0<d.length)=True:=eq_true (by omega)
  have f4:(0<(d.length:Int))=True:=eq_true (by omega)
  have w2:IntKind.i64.wrap ((d.length:Int) - 1)=((d.length - 1:Nat):Int):=by rw [IntKind.wrap_i64]; omega
  have f5:(d.length - 1<d.length)=True:=eq_true (by omega)
  refine Xj ?_
  simp only [X3,f1,f2,f3,f4,f5,w2,Int.toNat_natCast,Int.lt_irrefl,Nat.lt_irrefl,↓X1,wF,seval]
  exact fin rfl (by rw [hV,if_neg h0]; simp)
theorem OK (x:RQ) (hx:x.sz<1000000000):Fn Tryz.prog 83 [x.A] (.bool (decide x.ok)):=by
 unfold RQ.sz at hx
 obtain ⟨V,hV⟩:∃ V,V=decide x.ok:=⟨_,rfl⟩
 have c1:=FP x.pn x.pd (by omega)
 have c2:=FP x.qn x.qd (by omega)
 have c3:=RP x.qn x.qd
 have bad1:K9 x.pn x.pd=false→V=false:=fun h=>by
  rw [hV]
  refine decide_eq_false ?_
  rintro ⟨r,rfl⟩
  have:K9 (RQ.of r).pn (RQ.of r).pd=true:=(KJ _ _).2 ⟨r.num,rfl,rfl⟩
  rw [this] at h; cases h
 have bad2:K9 x.qn x.qd=false→V=false:=fun h=>by
  rw [hV]
  refine decide_eq_false ?_
  rintro ⟨r,rfl⟩
  have:K9 (RQ.of r).qn (RQ.of r).qd=true:=(KJ _ _).2 ⟨(Ab.N.qd r:Int),by unfold RQ.of; simp,by unfold RQ.of; simp⟩
  rw [this] at h; cases h
 have fin:∀ {s:AS} {v:Bool},s.get 2=.bool v→v=V→RetOk (QS Tryz.prog Tryz.f83 [] [] (.bool V)) s:=fun h e=>Xv rfl h (X2 _) (by rw [e])
 rw [← hV]
 refine Fq Tryz.call83 Tryz.func83 3 [] [] [] (by simp [Cy]) (Xj ?_)
 simp only [AS.start,RQ.A,RQ.L,↓X1,wF,seval]
 refine X0 c1 rfl ?_
 by_cases v1:K9 x.pn x.pd=true
 rotate_left
 ·rw [Bool.not_eq_true] at v1
  rw [v1]
  simp only [↓X1,wF,seval]
  exact fin rfl (bad1 v1).symm
 rw [v1]
 simp only [↓X1,wF,seval]
 refine X0 c2 rfl ?_
 by_cases v2:K9 x.qn x.qd=true
 rotate_left
 ·rw [Bool.not_eq_true] at v2
  rw [v2]
  simp only [↓X1,wF,seval]
  exact fin rfl (bad2 v2).symm
 rw [v2]
 obtain ⟨p,p1,p2⟩:=(KJ _ _).1 v1
 obtain ⟨q,q1,q2⟩:=(KJ _ _).1 v2
 have hok:=RQ.ok_iff x p q p1 p2 q1 q2
 have lp:bl p<1000000000:=by unfold bl; rw [← p2]; omega
 have lq:bl q<1000000000:=by unfold bl; rw [← q2]; omega
 rw [q1,q2,OX] at c3
 have cg:=Sl p q lp lq
 have cu:=Oy (Int.gcd p q)
 rw [p1,p2,q1,q2]
 have hl:((X8 q.natAbs).length=0)=(q=0):=propext (digs_len_zero.trans (by omega))
 have hlN:(X8 q.natAbs).length=0↔q=0:=digs_len_zero.trans (by omega)
 have hlI:(((X8 q.natAbs).length:Int)=0)=(q=0):=propext (by omega)
 by_cases h1:q<0
 ·have f1:(q<0)=True:=eq_true h1
  simp only [f1,↓X1,wF,seval]
  exact fin rfl (by rw [hV,decide_eq_false (by rw [hok]; exact fun h=>h.1 h1)])
 have f1:(q<0)=False:=eq_false h1
 simp only [f1,↓X1,wF,seval]
 have c3':=c3
 rw [decide_eq_false h1] at c3'
 refine X0 c3' rfl ?_
 by_cases h2:q=1
 ·have f2:(q=1)=True:=eq_true h2
  simp only [f1,f2,↓X1,wF,seval]
  exact fin rfl (by rw [hV,decide_eq_false (by rw [hok]; exact fun h=>h.2.1 h2)])
 have f2:(q=1)=False:=eq_false h2
 by_cases h0:q=0
 ·have f3:(q=0)=True:=eq_true h0
  simp only [f1,f2,f3,hl,hlI,↓X1,wF,seval]
  exact fin rfl (by rw [hV,decide_eq_true (hok.2 ⟨h1,h2,.inl h0⟩)])
 have f3:(q=0)=False:=eq_false h0
 simp only [f1,f2,f3,hl,hlI,↓X1,wF,seval]
 rw [WM h1] at cg
 refine X0 cg rfl ?_
 simp only [↓X1,wF,seval]
 refine X0 cu rfl ?_
 simp only [↓X1,wF,seval]
 refine fin rfl ?_
 rw [hV,decide_eq_decide,hok]
 constructor
 ·intro h; exact ⟨h1,h2,.inr (by omega)⟩
 ·rintro ⟨_,_,h | h⟩
  ·exact absurd h h0
  ·rw [h]; rfl
theorem GC (x y:Int) (hx:ZO x) (hy:ZO y):Fn Tryz.prog 106 [I x,I y] (vA ⟨x,y⟩):=by
 have e:∀ n:Int,Rat.divInt n 1=(n:Rat):=fun n=>by
  rw [show (1:Int)=((1:Nat):Int) from rfl,Rat.divInt_ofNat]
  have:=Rat.mkRat_self (n:Rat)
  rwa [Rat.num_intCast,Rat.den_intCast] at this
 obtain ⟨R,hR⟩:∃ R,R=vA ⟨x,y⟩:=⟨_,rfl⟩
 have sR:Settled R:=hR▸Xo _
 have c1:=Zv x 1 hx ⟨by omega,by omega⟩
 have c2:=Zv y 1 hy ⟨by omega,by omega⟩
 rw [e] at c1 c2
 rw [← hR]
 refine Fr Tryz.call106 Tryz.func106 5 [] [] [] ?_; simp (maxSteps:=999999) only [AS.start,↓X1,wF,seval]
 refine X0 c1 rfl ?_
 simp only [↓X1,wF,seval]
 refine X0 c2 rfl ?_
 simp only [↓X1,wF,seval]
 exact Ar rfl Kc rfl rfl rfl sR (hR.trans rfl)
theorem ZS (a b:V2) (ha:vb a≤rm) (hb:vb b≤rm):Fn Tryz.prog 104 [vA a,vA b] (vA (a.sub b)):=by
 obtain ⟨R,hR⟩:∃ R,R=vA (a.sub b):=⟨_,rfl⟩
 have sR:Settled R:=hR▸Xo _
 have:=QM a; have:=QM b; have:=QG a; have:=QG b
 have c1:=AY a.x b.x (by omega) (by omega)
 have c2:=AY a.y b.y (by omega) (by omega)
 rw [← hR]
 refine Fr Tryz.call104 Tryz.func104 5 [] [] [] ?_; simp (maxSteps:=999999) only [AS.start,↓X1,wF,seval]
 refine X0 c1 rfl ?_
 simp only [↓X1,wF,seval]
 refine X0 c2 rfl ?_
 simp only [↓X1,wF,seval]
 exact Ar rfl Kc rfl rfl rfl sR (hR.trans rfl)
theorem OI (a b:V2) (ha:vb a≤vm) (hb:vb b≤vm):Fn Tryz.prog 195 [vA a,vA b] (qA (Q6 a b)):=by
 unfold vm at ha hb
 obtain ⟨R,hR⟩:∃ R,R=qA (Q6 a b):=⟨_,rfl⟩
 have sR:Settled R:=hR▸Xa _
 have:=QM a; have:=QM b; have:=QG a; have:=QG b
 have m1:=QA a.x b.y; have m2:=QA a.y b.x
 have c1:=JX a.x b.y (by unfold rm; omega) (by unfold rm; omega)
 have c2:=JX a.y b.x (by unfold rm; omega) (by unfold rm; omega)
 have c4:=AY (a.x*b.y) (a.y*b.x) (by unfold rm; omega) (by unfold rm; omega)
 rw [show a.x*b.y - a.y*b.x=Q6 a b from rfl,← hR] at c4
 rw [← hR]
 refine Fr Tryz.call195 Tryz.func195 5 [] [] [] ?_; simp (maxSteps:=999999) only [AS.start,↓X1,wF,seval]
 refine X0 c1 rfl ?_
 simp only [↓X1,wF,seval]
 refine X0 c2 rfl ?_
 simp only [↓X1,wF,seval]
 refine X0 c4 rfl ?_
 simp only [hR,↓X1,wF,seval]
 exact Ar rfl Qh rfl rfl rfl sR (hR.trans rfl)
theorem Cq (a b:V2) (ha:vb a≤vm) (hb:vb b≤vm):Fn Tryz.prog 193 [vA a,vA b] (qA (Q1 a b)):=by
 unfold vm at ha hb
 obtain ⟨R,hR⟩:∃ R,R=qA (Q1 a b):=⟨_,rfl⟩
 have sR:Settled R:=hR▸Xa _
 have:=QM a; have:=QM b; have:=QG a; have:=QG b
 have m1:=QA a.x b.x; have m2:=QA a.y b.y
 have c1:=JX a.x b.x (by unfold rm; omega) (by unfold rm; omega)
 have c2:=JX a.y b.y (by unfold rm; omega) (by unfold rm; omega)
 have c4:=AX (a.x*b.x) (a.y*b.y) (by unfold rm; omega) (by unfold rm; omega)
 rw [show a.x*b.x+a.y*b.y=Q1 a b from rfl,← hR] at c4
 rw [← hR]
 refine Fr Tryz.call193 Tryz.func193 5 [] [] [] ?_; simp (maxSteps:=999999) only [AS.start,↓X1,wF,seval]
 refine X0 c1 rfl ?_
 simp only [↓X1,wF,seval]
 refine X0 c2 rfl ?_
 simp only [↓X1,wF,seval]
 refine X0 c4 rfl ?_
 simp only [hR,↓X1,wF,seval]
 exact Ar rfl Qh rfl rfl rfl sR (hR.trans rfl)
theorem Sh (a b c:V2) (ha:vb a≤vs) (hb:vb b≤vs) (hc:vb c≤vs):Fn Tryz.prog 182 [vA a,vA b,vA c] (I (Jm a b c)):=by
 unfold vs at ha hb hc
 have m1:=KZ b a; have m2:=KZ c a
 have c1:=ZS b a (by unfold rm; omega) (by unfold rm; omega)
 have c2:=ZS c a (by unfold rm; omega) (by unfold rm; omega)
 have c3:=OI (b.sub a) (c.sub a) (by unfold vm; omega) (by unfold vm; omega)
 have q:=Dm (b.sub a) (c.sub a)
 have c4:=Hk (Q6 (b.sub a) (c.sub a)) (by unfold rm; omega)
 refine Fr Tryz.call182 Tryz.func182 7 [] [] [] ?_; simp (maxSteps:=999999) only [AS.start,↓X1,wF,seval]
 refine X0 c1 rfl ?_
 simp only [↓X1,wF,seval]
 refine X0 c2 rfl ?_
 simp only [↓X1,wF,seval]
 refine X0 c3 rfl ?_
 simp only [↓X1,wF,seval]
 refine X0 c4 rfl ?_
 simp only [↓X1,wF,seval]
 exact Xv rfl rfl (X9 _) rfl
def V2.turned (a:V2):V2:=⟨-a.y,a.x⟩
theorem NK (a:V2):vb a.turned=vb a:=by
 unfold vb V2.turned
 simp only [OG]
 omega
theorem NJ (a:V2) (ha:vb a≤rm):Fn Tryz.prog 229 [vA a] (vA a.turned):=by
 have:=QG a
 have c:=EW a.y (by omega)
 obtain ⟨R,hR⟩:∃ R,R=vA a.turned:=⟨_,rfl⟩
 have sR:Settled R:=hR▸Xo _
 rw [← hR]
 refine Fr Tryz.call229 Tryz.func229 3 [] [] [] ?_; simp (maxSteps:=999999) only [AS.start,↓X1,wF,seval]
 refine X0 c rfl ?_
 simp only [↓X1,wF,seval]
 exact Ar rfl Kc rfl rfl rfl sR (hR.trans rfl)
theorem ai (L:List V2) (i:Nat) (hn:L.length<1000000) (h0:L.length≠0) (hi:i<1000000000):Fn Tryz.prog 183 [Xx L,I i] (vA (L.getD (i % L.length) v0)):=by
 obtain ⟨R,hR⟩:∃ R,R=vA (L.getD (i % L.length) v0):=⟨_,rfl⟩
 have sR:Settled R:=hR▸Xo _
 have hm:(i:Int).tmod L.length=((i % L.length:Nat):Int):=rfl
 have hml:i % L.length<L.length:=Nat.mod_lt _ (by omega)
 have f4:(i % L.length<L.length)=True:=eq_true hml
 have f5:(i % L.length*8+8≤L.length*8)=True:=eq_true (by omega)
 have f6:((L.length:Int)=0)=False:=eq_false (by omega)
 have f6':(L.length=0)=False:=eq_false h0
 have v1:=vF L (i % L.length)
 rw [← hR]
 refine Fq Tryz.call183 Tryz.func183 5 [] [] [] (by simp [Xh,X9]) (Xj ?_)
 simp only [AS.start,X5,f4,f5,f6,f6',hm,v1,Int.toNat_natCast,↓X1,wF,seval]
 exact Ar rfl Kc rfl rfl rfl sR (hR.trans rfl)
theorem nO (L:List V2) (i:Nat) (hn:L.length<1000000) (hi:i<L.length):Fn Tryz.prog 231 [Xx L,I i] (vA (L.getD ((i+1) % L.length) v0)):=by
 obtain ⟨R,hR⟩:∃ R,R=vA (L.getD ((i+1) % L.length) v0):=⟨_,rfl⟩
 have sR:Settled R:=hR▸Xo _
 have w1:=wj i (by omega)
 rw [← hR]
 refine Fq Tryz.call231 Tryz.func231 5 [] [] [] (by simp [Xh,X9]) (Xj ?_)
 by_cases h:i+1<L.length
 ·have e:(i+1) % L.length=i+1:=Nat.mod_eq_of_lt h
  have f1:(((i+1:Nat):Int)<L.length)=True:=eq_true (by omega)
  have f1':(i+1<L.length)=True:=eq_true h
  have f2:((i+1)*8+8≤L.length*8)=True:=eq_true (by omega)
  have v1:=vF L (i+1)
  rw [e] at hR
  simp only [AS.start,X5,w1,f1,f1',f2,v1,Int.toNat_natCast,↓X1,wF,seval]
  exact Ar rfl Kc rfl rfl rfl sR (hR.trans rfl)
 ·have hl:i+1=L.length:=by omega
  have e:(i+1) % L.length=0:=by rw [hl,Nat.mod_self]
  have f1:(((i+1:Nat):Int)<L.length)=False:=eq_false (by omega)
  have f1':(i+1<L.length)=False:=eq_false h
  have f2:(0<L.length)=True:=eq_true (by omega)
  have f2':((0:Int)<L.length)=True:=eq_true (by omega)
  have f3:(8≤L.length*8)=True:=eq_true (by omega)
  have v1:=vF L 0
  rw [Nat.zero_mul] at v1
  simp only [Nat.zero_add] at v1
  rw [e] at hR
  simp only [AS.start,X5,w1,f1,f1',f2,f2',f3,v1,Int.toNat_zero,↓X1,wF,seval]
  exact Ar rfl Kc rfl rfl rfl sR (hR.trans rfl)
def cV (a b:V2):Rat:=(a.x - b.x)*(a.y+b.y)
def ZF (L:List V2):Nat→Rat
 | 0=>0
 | i+1=>ZF L i+cV (L.getD i v0) (L.getD ((i+1) % L.length) v0)
def WE (L:List V2):Rat:=ZF L L.length*Rat.divInt 1 2
theorem oM (a b:V2):qb (cV a b)≤2*(vb a+vb b)+2:=by
 have:=QM a; have:=QM b; have:=QG a; have:=QG b
 have m1:=EU a.x b.x; have m2:=KW a.y b.y
 have m3:=QA (a.x - b.x) (a.y+b.y)
 unfold cV; omega
theorem SM (L:List V2) (k:Nat) (h:Qs L k):∀ i,qb (ZF L i)≤(4*k+4)*i+1
 | 0=>by have:=Zx; simp only [ZF]; omega
 | i+1=>by
  have ih:=SM L k h i
  have h1:=oM (L.getD i v0) (L.getD ((i+1) % L.length) v0)
  have h2:=h i
  have h3:=h ((i+1) % L.length)
  have h4:=KW (ZF L i) (cV (L.getD i v0) (L.getD ((i+1) % L.length) v0))
  have e:(4*k+4)*(i+1)=(4*k+4)*i+(4*k+4):=Nat.mul_succ _ _
  simp only [ZF]
  omega
theorem LD (L:List V2):∀ i,i<L.length→ZF L i=K1 L i+(L.getD 0 v0).x*(L.getD 0 v0).y - (L.getD i v0).x*(L.getD i v0).y
 | 0,_=>by simp only [ZF,K1]; grind
 | i+1,h=>by
  have ih:=LD L i (by omega)
  have e:(i+1) % L.length=i+1:=Nat.mod_eq_of_lt h
  simp only [ZF,K1,e,ih,cV,Q6]
  grind
theorem UZ (L:List V2):WE L=JF L:=by
 unfold WE JF
 congr 1
 cases hn:L.length with
 | zero=>rfl
 | succ n =>
  have ih:=LD L n (by omega)
  have e:(n+1) % L.length=0:=by rw [hn,Nat.mod_self]
  simp only [ZF,K1,e,ih,cV,Q6]
  grind
theorem UK (L:List V2) (k:Nat) (h:Qs L k) (hk:k≤1000) (hl:L.length≤1000):Fn Tryz.prog 185 [Xx L] (qA (JF L)):=by
 rw [← UZ]
 obtain ⟨R,hR⟩:∃ R,R=qA (WE L):=⟨_,rfl⟩
 have sR:Settled R:=hR▸Xa _
 have bv:Ko 2 (Xx L)=True:=eq_true (X7 (Xh L))
 have bT:∀ i,XT 2 (.row 0 4 (Xk (qC (ZF L i))))=True:=fun i=>eq_true (XL (by simp [qC,X6,X2]))
 rw [← hR]
 refine Fq Tryz.call185 Tryz.func185 6 [] [6,7000,70000005,7,80000003] [] (by simp [Xh]) (Xj ?_)
 simp only [AS.start,X5,↓X1,wF,seval]
 refine Xd (fun i:Nat=>⟨6,[],[Xx L,.any,.ref 0 0 0,.ref 1 0 0,I i,.any],[],[Kv,.row 0 4 (Xk (qC (ZF L i)))]⟩) (fun i=>i≤L.length) (fun i=>L.length - i) 0 (by omega)
  ?_ ?_
 ·refine Sub.trans (Z4 1 (Xk (qC 0)) rfl fun j hj=>?_) (Xg rfl (by simp [Xf,X5,I]) (by simp [Xm,Xq]) (by simp [Kv,ZF]))
  match j,hj with
  | 0,_=>exact Qc _ _
  | 1,_=>exact AD (QB (by rw [Rat.zero_num]; simp [XV]))
  | 2,_=>exact Qc _ _
  | 3,_=>exact AD (QB (Dn rfl))
  | j+4,h=>omega
 intro i hi next
 have w1:=wj i (by omega)
 have hq:=SM L k h i
 have hq2:(4*k+4)*i≤4004*1000:=Nat.mul_le_mul (by omega) (by omega)
 by_cases hi2:i<L.length
 rotate_left
 ·obtain rfl:i=L.length:=by omega
  have c1:=Zv 1 2 ⟨by omega,by omega⟩ ⟨by omega,by omega⟩
  have c2:=JX (ZF L L.length) (Rat.divInt 1 2) (by unfold rm; omega) (by have:=(KO 1 2 3 (by omega) (QR ⟨by omega,by omega⟩) (QR ⟨by omega,by omega⟩):qb (Rat.divInt 1 2)≤3); unfold rm; omega)
  rw [show ZF L L.length*Rat.divInt 1 2=WE L from rfl,← hR] at c2
  refine Xj ?_
  simp only [Kv,X5,Int.lt_irrefl,Nat.lt_irrefl,↓X1,wF,seval]
  refine X0 c1 rfl ?_
  simp only [↓X1,wF,seval]
  refine X0 c2 rfl ?_
  simp only [hR,↓X1,wF,seval]
  exact JO rfl Qh rfl rfl rfl sR (hR.trans rfl)
 have f1:((i:Int)<L.length)=True:=eq_true (by omega)
 have f2:(i<L.length)=True:=eq_true hi2
 have f3:(i*8+8≤L.length*8)=True:=eq_true (by omega)
 have f4:(i*8+4≤L.length*8)=True:=eq_true (by omega)
 have f5:(i*8+4+4≤L.length*8)=True:=eq_true (by omega)
 have v1:=vF L i
 have cn:=nO L i (by omega) hi2
 obtain ⟨b,hb⟩:∃ b,b=L.getD ((i+1) % L.length) v0:=⟨_,rfl⟩
 have h1:=h i; have h2:=h ((i+1) % L.length)
 rw [← hb] at cn h2
 have:=QM (L.getD i v0); have:=QG (L.getD i v0); have:=QM b; have:=QG b
 have m1:=EU (L.getD i v0).x b.x; have m2:=KW (L.getD i v0).y b.y
 have m3:=QA ((L.getD i v0).x - b.x) ((L.getD i v0).y+b.y)
 have c1:=AY (L.getD i v0).x b.x (by unfold rm; omega) (by unfold rm; omega)
 have c2:=AX (L.getD i v0).y b.y (by unfold rm; omega) (by unfold rm; omega)
 have c3:=JX ((L.getD i v0).x - b.x) ((L.getD i v0).y+b.y) (by unfold rm; omega) (by unfold rm; omega)
 have c4:=AX (ZF L i) (((L.getD i v0).x - b.x)*((L.getD i v0).y+b.y)) (by unfold rm; omega) (by unfold rm; omega)
 have e:ZF L i+((L.getD i v0).x - b.x)*((L.getD i v0).y+b.y)=ZF L (i+1):=by rw [hb]; rfl
 rw [e] at c4
 refine Xj ?_
 simp only [Kv,X5,w1,f1,f2,f3,f4,f5,v1,Int.toNat_natCast,↓X1,wF,seval]
 refine X0 cn rfl ?_
 simp only [Kv,X5,w1,f1,f2,f3,f4,f5,v1,Int.toNat_natCast,↓X1,wF,seval]
 refine X0 c1 rfl ?_
 simp only [Kv,X5,w1,f1,f2,f3,f4,f5,v1,Int.toNat_natCast,↓X1,wF,seval]
 refine X0 c2 rfl ?_
 simp only [Kv,X5,w1,f1,f2,f3,f4,f5,v1,Int.toNat_natCast,↓X1,wF,seval]
 refine X0 c3 rfl ?_
 simp only [Kv,X5,w1,f1,f2,f3,f4,f5,v1,Int.toNat_natCast,↓X1,wF,seval]
 refine X0 c4 rfl ?_
 simp only [Kv,X5,w1,f1,f2,f3,f4,f5,v1,Int.toNat_natCast,↓X1,wF,seval]
 refine next (i+1) _ (by omega) (by omega) (XD (m:=2) (Nat.zero_le _) rfl (by simp [X5,Xf,I]) (by simp [Xm]) (by simp [Kv,qC,X3]) (by simp [XA,bv]) (by simp) (by simp [Kv,XA,bT]))
end
end Go.Ab.N
