/- Contracts of functions of these chapters, for every argument that fits, and what they need. -/
import Derived.Test.YtefjhgcndhepeaaGreatC5
set_option linter.unusedSimpArgs false
set_option linter.unusedVariables false
open Nat renaming reducePow → Y1, reduceLT → Y2, reduceLeDiff → Y3, reduceEqDiff → Y4, reduceAdd → Y5, reduceMul → Y6, reduceSub → Y7, reduceBEq → Y8, reduceDiv → Y9, reduceMod → YA
namespace Go.Ab.N
open Go Go.RowKit Go.Proofs
noncomputable section
set_option maxRecDepth 10000
set_option maxHeartbeats 4000000
open Classical
theorem Cq (r:Rat):qb r≤(RQ.of r).sz+3:=by
 unfold qb RQ.sz RQ.of bl Ab.N.qd
 simp only
 by_cases h:r.den=1
 ·rw [if_pos h,h]
  have:(Xb ((1:Nat):Int).natAbs).length≤3:=QM ⟨by omega,by omega⟩
  omega
 ·rw [if_neg h]
  have:((r.den:Int)).natAbs=r.den:=rfl
  rw [this]
  omega
theorem GL {x:RQ} {q:Rat} (h:x=RQ.of q):Fn Tryz.prog 66 [x.A] (I q.num.sign):=by rw [h]; exact Kw q
theorem nU {x y:RQ} {a b:Rat} (hx:x=RQ.of a) (hy:y=RQ.of b) (sx:x.sz≤1000000) (sy:y.sz≤1000000):Fn Tryz.prog 68 [x.A,y.A] (I (Q6 a b)):=by
 rw [hx] at sx; rw [hy] at sy
 have h1:=Cq a; have h2:=Cq b
 rw [hx,hy]; exact Ki a b (by unfold rm; omega) (by unfold rm; omega)
theorem gF {x:RQ} {a:Rat} (hx:x=RQ.of a) (sx:x.sz≤1000000) (b:Rat) (hb:qb b≤rm):Fn Tryz.prog 68 [x.A,qA b] (I (Q6 a b)):=by
 rw [hx] at sx
 have h1:=Cq a
 rw [hx]; exact Ki a b (by unfold rm; omega) hb
structure PV.small (p:PV):Prop where
 rim:p.rim.length<1000000
 worn:p.worn.length<1000000
 marks:p.marks.length<1000000
 tol:p.tol.sz≤1000000
 light:p.light.sz≤1000000
 heavy:p.heavy.sz≤1000000
 strength:p.strength.sz≤1000000
 rough:p.rough.sz≤1000000
def fN (x:RQ):Prop:=∃ q:Rat,x=RQ.of q∧¬ q.num.sign<0
def UT (p:PV):Prop:=(p.rim.length≤12∧p.worn.length=p.rim.length∧p.marks.length=p.rim.length) ∧
 (∃ t l h s r:Rat,(p.tol=RQ.of t∧p.light=RQ.of l∧p.heavy=RQ.of h∧p.strength=RQ.of s∧p.rough=RQ.of r)∧(0≤t∧t≤4∧0≤r∧r≤4)∧(0<l∧l≤h∧h≤1000)∧0<s)∧Am (Xz p.rim)
def Kc (p:PV):Int:=if FT p then (if UT p then 0 else 1) else 5
theorem KY (q:Rat):q.num.sign<0↔q<0:=by rw [Int.sign_neg_iff,Rat.lt_iff]; simp
theorem Eg (q:Rat):0<q.num.sign↔0<q:=by rw [Int.sign_pos_iff,Rat.lt_iff]; simp
theorem AA (q:Rat):q.num.sign=0↔q=0:=by rw [Int.sign_eq_zero_iff_zero]; exact Rat.num_eq_zero
theorem Tn (n:Int):Rat.divInt n 1=(n:Rat):=by
 rw [show (1:Int)=((1:Nat):Int) from rfl,Rat.divInt_ofNat]
 have:=Rat.mkRat_self (n:Rat)
 rwa [Rat.num_intCast,Rat.den_intCast] at this
theorem Lr (p:PV) (h:∀ i,i<p.rim.length→Da (p.rim.getD i (0,0))=true):XV (Xz p.rim) 1000:=by
 intro i
 by_cases hi:i<p.rim.length
 ·have h1:(Xz p.rim).getD i v0=Js (p.rim.getD i (0,0)):=by
   unfold Xz
   rw [List.getD_eq_getElem?_getD,List.getD_eq_getElem?_getD,List.getElem?_map,List.getElem?_eq_getElem hi]; rfl
  have hok:=h i hi
  unfold Da wb at hok
  simp only [Bool.and_eq_true,decide_eq_true_eq] at hok
  rw [h1]
  have q1:=Zt (p.rim.getD i (0,0)).1 3 (by omega) (QM ⟨by omega,by omega⟩)
  have q2:=Zt (p.rim.getD i (0,0)).2 3 (by omega) (QM ⟨by omega,by omega⟩)
  unfold vb Js
  simp only
  omega
 ·have h1:(Xz p.rim).getD i v0=v0:=by
   rw [List.getD_eq_getElem?_getD,List.getElem?_eq_none (by simp [Xz]; omega)]; rfl
  rw [h1]
  have:=Bc
  unfold vb v0
  simp only
  omega
theorem Ld (p:PV) (hs:p.small):Fn Tryz.prog 22 [Q3 p] (I (Kc p)):=by
 obtain ⟨V,hV⟩:∃ V,V=Kc p:=⟨_,rfl⟩
 have fin:∀ {s:AS} {v:Int},s.get 2=I v→v=V→RetOk (Qn Tryz.prog Tryz.f22 [] [] (I V)) s:=fun h e=>Xs rfl h (X9 _) (by rw [e])
 have c0:=TA p hs.rim hs.marks
 rw [← hV]
 refine Fq Tryz.call22 Tryz.func22 9 [32,33] [] [] (by simp [Xu]) (X1 1000 ?_)
 simp only [AS.start,Q3,XC,↓X2,wA,↓reduceIte,reduceIte,reduceCtorEq,Y1,Y2,Y3,Y4,Y5,Y6,Y7,Y8,Y9,YA,wE]
 refine X0 c0 rfl ?_
 by_cases hro:FT p
 rotate_left
 ·rw [decide_eq_false hro]
  simp only [↓X2,wA,↓reduceIte,reduceIte,reduceCtorEq,Y1,Y2,Y3,Y4,Y5,Y6,Y7,Y8,Y9,YA,wE]
  exact fin rfl (by rw [hV]; unfold Kc; rw [if_neg hro])
 rw [decide_eq_true hro]
 have hV1:V=if UT p then 0 else 1:=by rw [hV]; unfold Kc; rw [if_pos hro]
 have bad:¬ UT p→(1:Int)=V:=fun h=>by rw [hV1,if_neg h]
 by_cases g1:(12:Int)<p.rim.length
 ·have f1:((12:Int)<p.rim.length)=True:=eq_true g1
  simp only [f1,↓X2,wA,↓reduceIte,reduceIte,reduceCtorEq,Y1,Y2,Y3,Y4,Y5,Y6,Y7,Y8,Y9,YA,wE]
  exact fin rfl (bad fun h=>by have:=h.1.1; omega)
 have f1:((12:Int)<p.rim.length)=False:=eq_false g1
 by_cases g2:p.worn.length=p.rim.length
 rotate_left
 ·have f2:(p.worn.length=p.rim.length)=False:=eq_false g2
  have f2':((p.worn.length:Int)=p.rim.length)=False:=eq_false (by omega)
  simp only [f1,f2,f2',↓X2,wA,↓reduceIte,reduceIte,reduceCtorEq,Y1,Y2,Y3,Y4,Y5,Y6,Y7,Y8,Y9,YA,wE]
  exact fin rfl (bad fun h=>g2 h.1.2.1)
 have f2:(p.worn.length=p.rim.length)=True:=eq_true g2
 have f2':((p.worn.length:Int)=p.rim.length)=True:=eq_true (by omega)
 by_cases g3:p.marks.length=p.rim.length
 rotate_left
 ·have f3:(p.marks.length=p.rim.length)=False:=eq_false g3
  have f3':((p.marks.length:Int)=p.rim.length)=False:=eq_false (by omega)
  simp only [f1,f2,f2',f3,f3',↓X2,wA,↓reduceIte,reduceIte,reduceCtorEq,Y1,Y2,Y3,Y4,Y5,Y6,Y7,Y8,Y9,YA,wE]
  exact fin rfl (bad fun h=>g3 h.1.2.2)
 have f3:(p.marks.length=p.rim.length)=True:=eq_true g3
 have f3':((p.marks.length:Int)=p.rim.length)=True:=eq_true (by omega)
 simp only [f1,f2,f2',f3,f3',↓X2,wA,↓reduceIte,reduceIte,reduceCtorEq,Y1,Y2,Y3,Y4,Y5,Y6,Y7,Y8,Y9,YA,wE]
 have cn:=F1 p
 refine X0 cn rfl ?_
 simp only [Bx,↓X2,wA,↓reduceIte,reduceIte,reduceCtorEq,Y1,Y2,Y3,Y4,Y5,Y6,Y7,Y8,Y9,YA,wE]
 refine Xe (fun i:Nat=>⟨9,[32,33],[.any,.ref 0 0 0,I 0,I p.rim.length,.any,.any,.any,.any,.any],[(32,.agg (Bx p)),(33,I i)],[.row 0 25 (Xq (XC p))]⟩) (fun i=>i≤5∧∀ j,j<i→fN (p.num j)) (fun i=>5 - i) 0 ⟨by omega,by omega⟩
  (Xa rfl (by simp [Xh,I]) (by simp [Xi,Xw,Bx,X4,I]) (by simp [XC,Xf,Xl,X4,I])) ?_
 rintro i ⟨hi,hok⟩ next
 have bn:Jj 1 (.agg (Bx p))=True:=eq_true (X6 (Qd (by simp [Bx,X7,X3])))
 have bo:XI 1 (.row 0 25 (Xq (XC p)))=True:=eq_true (XG (XF p))
 have badi:∀ j,j<5→¬ fN (p.num j)→(1:Int)=V:=fun j hj hn=>bad fun h=>by
  obtain ⟨t,l,hh,s,r,⟨e1,e2,e3,e4,e5⟩,⟨b1,b2,b3,b4⟩,⟨b5,b6,b7⟩,b8⟩:=h.2.1
  apply hn
  match j,hj with
  | 0,_=>exact ⟨t,e1,by rw [KY,Rat.not_lt]; exact b1⟩
  | 1,_=>exact ⟨l,e2,by rw [KY,Rat.not_lt]; exact Rat.le_of_lt b5⟩
  | 2,_=>exact ⟨hh,e3,by rw [KY,Rat.not_lt]; exact Rat.le_trans (Rat.le_of_lt b5) b6⟩
  | 3,_=>exact ⟨s,e4,by rw [KY,Rat.not_lt]; exact Rat.le_of_lt b8⟩
  | 4,_=>exact ⟨r,e5,by rw [KY,Rat.not_lt]; exact b3⟩
  | j+5,h=>omega
 have hsz:∀ j,(p.num j).sz<1000000000:=fun j=>by
  have:=hs.tol; have:=hs.light; have:=hs.heavy; have:=hs.strength; have:=hs.rough
  match j with
  | 0=>show p.tol.sz<_; omega
  | 1=>show p.light.sz<_; omega
  | 2=>show p.heavy.sz<_; omega
  | 3=>show p.strength.sz<_; omega
  | j+4=>show p.rough.sz<_; omega
 have e5:((5:Nat):Int)=5:=rfl
 by_cases hi5:i<5
 ·have c1:=Ed (p.num i) (hsz i)
  have w0:IntKind.i64.wrap (0+1)=1:=by decide
  have w1:IntKind.i64.wrap (1+1)=2:=by decide
  have w2:IntKind.i64.wrap (2+1)=3:=by decide
  have w3:IntKind.i64.wrap (3+1)=4:=by decide
  have w4:IntKind.i64.wrap (4+1)=5:=by decide
  have e0:((0:Nat):Int)=0:=rfl
  have e1:((1:Nat):Int)=1:=rfl
  have e2:((2:Nat):Int)=2:=rfl
  have e3:((3:Nat):Int)=3:=rfl
  have e4:((4:Nat):Int)=4:=rfl
  have t1:(1:Int).toNat=1:=rfl
  have t2:(2:Int).toNat=2:=rfl
  have t3:(3:Int).toNat=3:=rfl
  have t4:(4:Int).toNat=4:=rfl
  have hcase:i=0∨i=1∨i=2∨i=3∨i=4:=by omega
  by_cases hv:(p.num i).ok
  rotate_left
  ·rw [decide_eq_false hv] at c1
   have hb:=badi i hi5 fun ⟨q,hq,_⟩=>hv ⟨q,hq⟩
   rcases hcase with rfl | rfl | rfl | rfl | rfl
   all_goals
    refine X1 1000 ?_
    simp only [XC,Bx,e0,e1,e2,e3,e4,e5,t1,t2,t3,t4,w0,w1,w2,w3,w4,Int.reduceLT,Int.reduceLE,Int.toNat_zero,↓X2,wA,↓reduceIte,reduceIte,reduceCtorEq,Y1,Y2,Y3,Y4,Y5,Y6,Y7,Y8,Y9,YA,wE]
    refine X0 c1 rfl ?_
    simp only [↓X2,wA,↓reduceIte,reduceIte,reduceCtorEq,Y1,Y2,Y3,Y4,Y5,Y6,Y7,Y8,Y9,YA,wE]
    exact fin rfl hb
  obtain ⟨q,hq⟩:=hv
  rw [decide_eq_true ⟨q,hq⟩] at c1
  have c2:=GL hq
  by_cases hn:q.num.sign<0
  ·have g1:(q.num.sign<0)=True:=eq_true hn
   have hb:=badi i hi5 fun ⟨q',hq',h'⟩=>by
    have:=RQ.of_inj (hq'.symm.trans hq)
    rw [this] at h'; exact h' hn
   rcases hcase with rfl | rfl | rfl | rfl | rfl
   all_goals
    refine X1 1000 ?_
    simp only [XC,Bx,e0,e1,e2,e3,e4,e5,t1,t2,t3,t4,w0,w1,w2,w3,w4,Int.reduceLT,Int.reduceLE,Int.toNat_zero,↓X2,wA,↓reduceIte,reduceIte,reduceCtorEq,Y1,Y2,Y3,Y4,Y5,Y6,Y7,Y8,Y9,YA,wE]
    refine X0 c1 rfl ?_
    simp only [↓X2,wA,↓reduceIte,reduceIte,reduceCtorEq,Y1,Y2,Y3,Y4,Y5,Y6,Y7,Y8,Y9,YA,wE]
    refine X0 c2 rfl ?_
    simp only [g1,↓X2,wA,↓reduceIte,reduceIte,reduceCtorEq,Y1,Y2,Y3,Y4,Y5,Y6,Y7,Y8,Y9,YA,wE]
    exact fin rfl hb
  have g1:(q.num.sign<0)=False:=eq_false hn
  have nx:=next (i+1)
  rcases hcase with rfl | rfl | rfl | rfl | rfl
  all_goals
   refine X1 1000 ?_
   simp only [XC,Bx,e0,e1,e2,e3,e4,e5,t1,t2,t3,t4,w0,w1,w2,w3,w4,Int.reduceLT,Int.reduceLE,Int.toNat_zero,↓X2,wA,↓reduceIte,reduceIte,reduceCtorEq,Y1,Y2,Y3,Y4,Y5,Y6,Y7,Y8,Y9,YA,wE]
   refine X0 c1 rfl ?_
   simp only [w0,w1,w2,w3,w4,↓X2,wA,↓reduceIte,reduceIte,reduceCtorEq,Y1,Y2,Y3,Y4,Y5,Y6,Y7,Y8,Y9,YA,wE]
   refine X0 c2 rfl ?_
   simp only [g1,w0,w1,w2,w3,w4,↓X2,wA,↓reduceIte,reduceIte,reduceCtorEq,Y1,Y2,Y3,Y4,Y5,Y6,Y7,Y8,Y9,YA,wE]
   refine nx _ ⟨by omega,fun j hj=>?_⟩ (by omega) (Xy (m:=1) (Nat.zero_le _) rfl (by simp [Xh,I]) (by simp [Xi,Xw,Bx,X4,I]) (by simp [XC,Xf,Xl,X4,I]) (by simp [Xx]) (by simp [Xx,bn]) (by simp [bo]))
   rcases Nat.lt_succ_iff_lt_or_eq.1 hj with h | h
   ·exact hok j h
   ·rw [h]; exact ⟨q,hq,hn⟩
 obtain rfl:i=5:=by omega
 obtain ⟨t,et,nt⟩:=hok 0 (by omega)
 obtain ⟨l,el,nl⟩:=hok 1 (by omega)
 obtain ⟨h,eh,nh⟩:=hok 2 (by omega)
 obtain ⟨s,es,ns⟩:=hok 3 (by omega)
 obtain ⟨r,er,nr⟩:=hok 4 (by omega)
 refine X1 1000 ?_
 simp only [XC,e5,Int.lt_irrefl,↓X2,wA,↓reduceIte,reduceIte,reduceCtorEq,Y1,Y2,Y3,Y4,Y5,Y6,Y7,Y8,Y9,YA,wE]
 have c4:=CR 4 1 ⟨by omega,by omega⟩ ⟨by omega,by omega⟩
 have c1000:=CR 1000 1 ⟨by omega,by omega⟩ ⟨by omega,by omega⟩
 rw [Tn] at c4 c1000
 have q4:qb ((4:Int):Rat)≤rm:=by
  have:=Zt 4 3 (by omega) (QM ⟨by omega,by omega⟩)
  unfold rm; omega
 have q1000:qb ((1000:Int):Rat)≤rm:=by
  have:=Zt 1000 3 (by omega) (QM ⟨by omega,by omega⟩)
  unfold rm; omega
 have ct:=gF et hs.tol ((4:Int):Rat) q4
 have cr:=gF er hs.rough ((4:Int):Rat) q4
 have ch:=gF eh hs.heavy ((1000:Int):Rat) q1000
 have clh:=nU el eh hs.light hs.heavy
 have i4:((4:Int):Rat)=4:=rfl
 have i1000:((1000:Int):Rat)=1000:=rfl
 have who:UT p→(0≤t∧t≤4∧0≤r∧r≤4)∧(0<l∧l≤h∧h≤1000)∧0<s∧Am (Xz p.rim):=by
  rintro ⟨_,⟨t',l',h',s',r',⟨a1,a2,a3,a4,a5⟩,b1,b2,b3⟩,b4⟩
  have:=RQ.of_inj (a1.symm.trans et); subst this
  have:=RQ.of_inj (a2.symm.trans el); subst this
  have:=RQ.of_inj (a3.symm.trans eh); subst this
  have:=RQ.of_inj (a4.symm.trans es); subst this
  have:=RQ.of_inj (a5.symm.trans er); subst this
  exact ⟨b1,b2,b3,b4⟩
 refine X0 c4 rfl ?_
 simp only [↓X2,wA,↓reduceIte,reduceIte,reduceCtorEq,Y1,Y2,Y3,Y4,Y5,Y6,Y7,Y8,Y9,YA,wE]
 refine X0 ct rfl ?_
 by_cases ht4:Q6 t ((4:Int):Rat)≤0
 rotate_left
 ·have j1:(Q6 t ((4:Int):Rat)≤0)=False:=eq_false ht4
  have hb:=bad fun hf=>ht4 ((Bd _ _).2 (who hf).1.2.1)
  simp only [j1,↓X2,wA,↓reduceIte,reduceIte,reduceCtorEq,Y1,Y2,Y3,Y4,Y5,Y6,Y7,Y8,Y9,YA,wE]
  refine X0 (GL el) rfl ?_
  by_cases hl0:0<l.num.sign
  rotate_left
  ·have k1:(0<l.num.sign)=False:=eq_false hl0
   simp only [j1,k1,↓X2,wA,↓reduceIte,reduceIte,reduceCtorEq,Y1,Y2,Y3,Y4,Y5,Y6,Y7,Y8,Y9,YA,wE]
   exact fin rfl hb
  have k1:(0<l.num.sign)=True:=eq_true hl0
  simp only [j1,k1,↓X2,wA,↓reduceIte,reduceIte,reduceCtorEq,Y1,Y2,Y3,Y4,Y5,Y6,Y7,Y8,Y9,YA,wE]
  refine X0 clh rfl ?_
  by_cases hlh:Q6 l h≤0
  rotate_left
  ·have k2:(Q6 l h≤0)=False:=eq_false hlh
   simp only [j1,k1,k2,↓X2,wA,↓reduceIte,reduceIte,reduceCtorEq,Y1,Y2,Y3,Y4,Y5,Y6,Y7,Y8,Y9,YA,wE]
   exact fin rfl hb
  have k2:(Q6 l h≤0)=True:=eq_true hlh
  simp only [j1,k1,k2,↓X2,wA,↓reduceIte,reduceIte,reduceCtorEq,Y1,Y2,Y3,Y4,Y5,Y6,Y7,Y8,Y9,YA,wE]
  refine X0 c1000 rfl ?_
  simp only [j1,k1,k2,↓X2,wA,↓reduceIte,reduceIte,reduceCtorEq,Y1,Y2,Y3,Y4,Y5,Y6,Y7,Y8,Y9,YA,wE]
  refine X0 ch rfl ?_
  simp only [j1,k1,k2,↓X2,wA,↓reduceIte,reduceIte,reduceCtorEq,Y1,Y2,Y3,Y4,Y5,Y6,Y7,Y8,Y9,YA,wE]
  exact fin rfl hb
 have j1:(Q6 t ((4:Int):Rat)≤0)=True:=eq_true ht4
 simp only [j1,↓X2,wA,↓reduceIte,reduceIte,reduceCtorEq,Y1,Y2,Y3,Y4,Y5,Y6,Y7,Y8,Y9,YA,wE]
 refine X0 cr rfl ?_
 by_cases hr4:Q6 r ((4:Int):Rat)≤0
 rotate_left
 ·have j2:(Q6 r ((4:Int):Rat)≤0)=False:=eq_false hr4
  have hb:=bad fun hf=>hr4 ((Bd _ _).2 (who hf).1.2.2.2)
  simp only [j1,j2,↓X2,wA,↓reduceIte,reduceIte,reduceCtorEq,Y1,Y2,Y3,Y4,Y5,Y6,Y7,Y8,Y9,YA,wE]
  refine X0 (GL el) rfl ?_
  by_cases hl0:0<l.num.sign
  rotate_left
  ·have k1:(0<l.num.sign)=False:=eq_false hl0
   simp only [j1,j2,k1,↓X2,wA,↓reduceIte,reduceIte,reduceCtorEq,Y1,Y2,Y3,Y4,Y5,Y6,Y7,Y8,Y9,YA,wE]
   exact fin rfl hb
  have k1:(0<l.num.sign)=True:=eq_true hl0
  simp only [j1,j2,k1,↓X2,wA,↓reduceIte,reduceIte,reduceCtorEq,Y1,Y2,Y3,Y4,Y5,Y6,Y7,Y8,Y9,YA,wE]
  refine X0 clh rfl ?_
  by_cases hlh:Q6 l h≤0
  rotate_left
  ·have k2:(Q6 l h≤0)=False:=eq_false hlh
   simp only [j1,j2,k1,k2,↓X2,wA,↓reduceIte,reduceIte,reduceCtorEq,Y1,Y2,Y3,Y4,Y5,Y6,Y7,Y8,Y9,YA,wE]
   exact fin rfl hb
  have k2:(Q6 l h≤0)=True:=eq_true hlh
  simp only [j1,j2,k1,k2,↓X2,wA,↓reduceIte,reduceIte,reduceCtorEq,Y1,Y2,Y3,Y4,Y5,Y6,Y7,Y8,Y9,YA,wE]
  refine X0 c1000 rfl ?_
  simp only [j1,j2,k1,k2,↓X2,wA,↓reduceIte,reduceIte,reduceCtorEq,Y1,Y2,Y3,Y4,Y5,Y6,Y7,Y8,Y9,YA,wE]
  refine X0 ch rfl ?_
  simp only [j1,j2,k1,k2,↓X2,wA,↓reduceIte,reduceIte,reduceCtorEq,Y1,Y2,Y3,Y4,Y5,Y6,Y7,Y8,Y9,YA,wE]
  exact fin rfl hb
 have j2:(Q6 r ((4:Int):Rat)≤0)=True:=eq_true hr4
 simp only [j1,j2,↓X2,wA,↓reduceIte,reduceIte,reduceCtorEq,Y1,Y2,Y3,Y4,Y5,Y6,Y7,Y8,Y9,YA,wE]
 refine X0 (GL el) rfl ?_
 by_cases hl0:0<l.num.sign
 rotate_left
 ·have k1:(0<l.num.sign)=False:=eq_false hl0
  simp only [j1,j2,k1,↓X2,wA,↓reduceIte,reduceIte,reduceCtorEq,Y1,Y2,Y3,Y4,Y5,Y6,Y7,Y8,Y9,YA,wE]
  exact fin rfl (bad fun hf=>hl0 ((Eg _).2 (who hf).2.1.1))
 have k1:(0<l.num.sign)=True:=eq_true hl0
 simp only [j1,j2,k1,↓X2,wA,↓reduceIte,reduceIte,reduceCtorEq,Y1,Y2,Y3,Y4,Y5,Y6,Y7,Y8,Y9,YA,wE]
 refine X0 clh rfl ?_
 by_cases hlh:Q6 l h≤0
 rotate_left
 ·have k2:(Q6 l h≤0)=False:=eq_false hlh
  simp only [j1,j2,k1,k2,↓X2,wA,↓reduceIte,reduceIte,reduceCtorEq,Y1,Y2,Y3,Y4,Y5,Y6,Y7,Y8,Y9,YA,wE]
  exact fin rfl (bad fun hf=>hlh ((Bd _ _).2 (who hf).2.1.2.1))
 have k2:(Q6 l h≤0)=True:=eq_true hlh
 simp only [j1,j2,k1,k2,↓X2,wA,↓reduceIte,reduceIte,reduceCtorEq,Y1,Y2,Y3,Y4,Y5,Y6,Y7,Y8,Y9,YA,wE]
 refine X0 c1000 rfl ?_
 simp only [j1,j2,k1,k2,↓X2,wA,↓reduceIte,reduceIte,reduceCtorEq,Y1,Y2,Y3,Y4,Y5,Y6,Y7,Y8,Y9,YA,wE]
 refine X0 ch rfl ?_
 by_cases hh1:Q6 h ((1000:Int):Rat)≤0
 rotate_left
 ·have k3:(Q6 h ((1000:Int):Rat)≤0)=False:=eq_false hh1
  simp only [j1,j2,k1,k2,k3,↓X2,wA,↓reduceIte,reduceIte,reduceCtorEq,Y1,Y2,Y3,Y4,Y5,Y6,Y7,Y8,Y9,YA,wE]
  exact fin rfl (bad fun hf=>hh1 ((Bd _ _).2 (who hf).2.1.2.2))
 have k3:(Q6 h ((1000:Int):Rat)≤0)=True:=eq_true hh1
 simp only [j1,j2,k1,k2,k3,↓X2,wA,↓reduceIte,reduceIte,reduceCtorEq,Y1,Y2,Y3,Y4,Y5,Y6,Y7,Y8,Y9,YA,wE]
 refine X0 (GL es) rfl ?_
 by_cases hs0:s.num.sign=0
 ·have k4:(s.num.sign=0)=True:=eq_true hs0
  simp only [k4,↓X2,wA,↓reduceIte,reduceIte,reduceCtorEq,Y1,Y2,Y3,Y4,Y5,Y6,Y7,Y8,Y9,YA,wE]
  exact fin rfl (bad fun hf=>by
   have:=(who hf).2.2.1
   rw [(AA _).1 hs0] at this
   exact Rat.lt_irrefl this)
 have k4:(s.num.sign=0)=False:=eq_false hs0
 simp only [k4,↓X2,wA,↓reduceIte,reduceIte,reduceCtorEq,Y1,Y2,Y3,Y4,Y5,Y6,Y7,Y8,Y9,YA,wE]
 have cp:=Nd (Xz p.rim) (Lr p hro.1) (by simp [Xz]; exact hs.rim)
 refine X0 (Oj p hs.rim hro.1) rfl ?_
 simp only [↓X2,wA,↓reduceIte,reduceIte,reduceCtorEq,Y1,Y2,Y3,Y4,Y5,Y6,Y7,Y8,Y9,YA,wE]
 refine X0 cp rfl ?_
 by_cases hpo:Am (Xz p.rim)
 rotate_left
 ·rw [decide_eq_false hpo]
  simp only [↓X2,wA,↓reduceIte,reduceIte,reduceCtorEq,Y1,Y2,Y3,Y4,Y5,Y6,Y7,Y8,Y9,YA,wE]
  exact fin rfl (bad fun hf=>hpo (who hf).2.2.2)
 rw [decide_eq_true hpo]
 simp only [↓X2,wA,↓reduceIte,reduceIte,reduceCtorEq,Y1,Y2,Y3,Y4,Y5,Y6,Y7,Y8,Y9,YA,wE]
 refine fin rfl ?_
 rw [hV1,if_pos]
 refine ⟨⟨by omega,g2,g3⟩,⟨t,l,h,s,r,⟨et,el,eh,es,er⟩,⟨?_,(Bd _ _).1 ht4,?_,(Bd _ _).1 hr4⟩,⟨(Eg _).1 hl0,(Bd _ _).1 hlh,(Bd _ _).1 hh1⟩,?_⟩,hpo⟩
 ·rw [← Rat.not_lt,← KY]; exact nt
 ·rw [← Rat.not_lt,← KY]; exact nr
 ·rw [← Eg]
  omega
theorem PV.eq_iff (a b:PV):a=b↔(a.tol=b.tol∧a.light=b.light∧a.heavy=b.heavy∧a.strength=b.strength∧a.rough=b.rough)∧a.id=b.id∧a.home=b.home∧a.rim=b.rim∧a.worn=b.worn∧a.marks=b.marks:=by
 constructor
 ·rintro rfl; exact ⟨⟨rfl,rfl,rfl,rfl,rfl⟩,rfl,rfl,rfl,rfl,rfl⟩
 ·cases a; cases b
  rintro ⟨⟨h1,h2,h3,h4,h5⟩,h6,h7,h8,h9,h10⟩
  simp only at *
  subst h1; subst h2; subst h3; subst h4; subst h5; subst h6; subst h7; subst h8; subst h9; subst h10
  rfl
theorem gk (a b:PV) (ha:a.small) (hb:b.small):Fn Tryz.prog 87 [Q3 a,Q3 b] (.bool (decide (a=b))):=by
 obtain ⟨V,hV⟩:∃ V,V=decide (a=b):=⟨_,rfl⟩
 have fin:∀ {s:AS} {v:Bool},s.get 4=.bool v→v=V→RetOk (Qn Tryz.prog Tryz.f87 [1,20000002,20000003] [] (.bool V)) s:=fun h e=>Xs rfl h (X3 _) (by rw [e])
 have ca:=F1 a
 have cb:=F1 b
 rw [← hV]
 refine Fq Tryz.call87 Tryz.func87 8 [12] [1,20000002,20000003] [] (by simp [Xu]) (X1 1000 ?_)
 simp only [AS.start,Q3,XC,↓X2,wA,↓reduceIte,reduceIte,reduceCtorEq,Y1,Y2,Y3,Y4,Y5,Y6,Y7,Y8,Y9,YA,wE]
 refine X0 ca rfl ?_
 simp only [Bx,↓X2,wA,↓reduceIte,reduceIte,reduceCtorEq,Y1,Y2,Y3,Y4,Y5,Y6,Y7,Y8,Y9,YA,wE]
 refine X0 cb rfl ?_
 simp only [Bx,↓X2,wA,↓reduceIte,reduceIte,reduceCtorEq,Y1,Y2,Y3,Y4,Y5,Y6,Y7,Y8,Y9,YA,wE]
 refine Xe (fun i:Nat=>⟨8,[12],[.any,.any,.ref 0 0 0,.ref 1 0 0,.bool false,.ref 2 0 0,.ref 3 0 0,.any],[(12,I i)],[.con 0 25 (Xq (XC a)),.con 0 25 (Xq (XC b)),.row 0 20 (Xq (Bx a)),.row 0 20 (Xq (Bx b))]⟩) (fun i=>i≤5∧∀ j,j<i→a.num j=b.num j) (fun i=>5 - i) 0 ⟨by omega,by omega⟩
  (Xa rfl (by simp [Xh,I]) (by simp [Xi,Xw,I]) (by simp [XC,Bx,Xf,Xl,X4,I])) ?_
 rintro i ⟨hi,hok⟩ next
 have sz:∀ p:PV,p.small→∀ j,(p.num j).sz<4611686018427387904:=fun p hs j=>by
  have:=hs.tol; have:=hs.light; have:=hs.heavy; have:=hs.strength; have:=hs.rough
  match j with
  | 0=>show p.tol.sz<_; omega
  | 1=>show p.light.sz<_; omega
  | 2=>show p.heavy.sz<_; omega
  | 3=>show p.strength.sz<_; omega
  | j+4=>show p.rough.sz<_; omega
 have w0:IntKind.i64.wrap (0+1)=1:=by decide
 have w1:IntKind.i64.wrap (1+1)=2:=by decide
 have w2:IntKind.i64.wrap (2+1)=3:=by decide
 have w3:IntKind.i64.wrap (3+1)=4:=by decide
 have w4:IntKind.i64.wrap (4+1)=5:=by decide
 have e0:((0:Nat):Int)=0:=rfl
 have e1:((1:Nat):Int)=1:=rfl
 have e2:((2:Nat):Int)=2:=rfl
 have e3:((3:Nat):Int)=3:=rfl
 have e4:((4:Nat):Int)=4:=rfl
 have e5:((5:Nat):Int)=5:=rfl
 have t1:(1:Int).toNat=1:=rfl
 have t2:(2:Int).toNat=2:=rfl
 have t3:(3:Int).toNat=3:=rfl
 have t4:(4:Int).toNat=4:=rfl
 by_cases hi5:i<5
 ·have c1:=Lw (a.num i) (b.num i) (sz a ha i) (sz b hb i)
  have hcase:i=0∨i=1∨i=2∨i=3∨i=4:=by omega
  by_cases hv:a.num i=b.num i
  rotate_left
  ·rw [decide_eq_false hv] at c1
   have hb:false=V:=by
    rw [hV,decide_eq_false]
    intro e
    exact hv (by rw [e])
   rcases hcase with rfl | rfl | rfl | rfl | rfl
   all_goals
    refine X1 1000 ?_
    simp only [XC,Bx,e0,e1,e2,e3,e4,e5,t1,t2,t3,t4,w0,w1,w2,w3,w4,Int.reduceLT,Int.reduceLE,Int.toNat_zero,↓X2,wA,↓reduceIte,reduceIte,reduceCtorEq,Y1,Y2,Y3,Y4,Y5,Y6,Y7,Y8,Y9,YA,wE]
    refine X0 c1 rfl ?_
    simp only [↓X2,wA,↓reduceIte,reduceIte,reduceCtorEq,Y1,Y2,Y3,Y4,Y5,Y6,Y7,Y8,Y9,YA,wE]
    exact fin rfl hb
  rw [decide_eq_true hv] at c1
  have nx:=next (i+1)
  rcases hcase with rfl | rfl | rfl | rfl | rfl
  all_goals
   refine X1 1000 ?_
   simp only [XC,Bx,e0,e1,e2,e3,e4,e5,t1,t2,t3,t4,w0,w1,w2,w3,w4,Int.reduceLT,Int.reduceLE,Int.toNat_zero,↓X2,wA,↓reduceIte,reduceIte,reduceCtorEq,Y1,Y2,Y3,Y4,Y5,Y6,Y7,Y8,Y9,YA,wE]
   refine X0 c1 rfl ?_
   simp only [w0,w1,w2,w3,w4,↓X2,wA,↓reduceIte,reduceIte,reduceCtorEq,Y1,Y2,Y3,Y4,Y5,Y6,Y7,Y8,Y9,YA,wE]
   refine nx _ ⟨by omega,fun j hj=>?_⟩ (by omega) (Xa rfl (by simp [Xh,I]) (by simp [Xi,Xw,I]) (by simp [XC,Bx,Xf,Xl,X4,I]))
   rcases Nat.lt_succ_iff_lt_or_eq.1 hj with h | h
   ·exact hok j h
   ·rw [h]; exact hv
 obtain rfl:i=5:=by omega
 have hnum:a.tol=b.tol∧a.light=b.light∧a.heavy=b.heavy∧a.strength=b.strength∧a.rough=b.rough:=⟨hok 0 (by omega),hok 1 (by omega),hok 2 (by omega),hok 3 (by omega),hok 4 (by omega)⟩
 have hV':V=decide (a.id=b.id∧a.home=b.home∧a.rim=b.rim∧a.worn=b.worn∧a.marks=b.marks):=by
  rw [hV,decide_eq_decide,PV.eq_iff]
  exact ⟨fun h=>h.2,fun h=>⟨hnum,h⟩⟩
 have no:∀ {q:Prop},(a.id=b.id∧a.home=b.home∧a.rim=b.rim∧a.worn=b.worn∧a.marks=b.marks→q)→¬ q→false=V:=fun h hq=>by rw [hV',decide_eq_false fun hh=>hq (h hh)]
 refine X1 1000 ?_
 by_cases h1:a.id=b.id
 rotate_left
 ·have f1:(a.id=b.id)=False:=eq_false h1
  simp only [XC,Bx,e5,f1,Int.lt_irrefl,↓X2,wA,↓reduceIte,reduceIte,reduceCtorEq,Y1,Y2,Y3,Y4,Y5,Y6,Y7,Y8,Y9,YA,wE]
  exact fin rfl (no (fun h=>h.1) h1)
 have f1:(a.id=b.id)=True:=eq_true h1
 by_cases h2:a.home=b.home
 rotate_left
 ·have f2:(a.home=b.home)=False:=eq_false h2
  simp only [XC,Bx,e5,f1,f2,Int.lt_irrefl,↓X2,wA,↓reduceIte,reduceIte,reduceCtorEq,Y1,Y2,Y3,Y4,Y5,Y6,Y7,Y8,Y9,YA,wE]
  exact fin rfl (no (fun h=>h.2.1) h2)
 have f2:(a.home=b.home)=True:=eq_true h2
 simp only [XC,Bx,e5,f1,f2,Int.lt_irrefl,↓X2,wA,↓reduceIte,reduceIte,reduceCtorEq,Y1,Y2,Y3,Y4,Y5,Y6,Y7,Y8,Y9,YA,wE]
 have b1:=ha.rim; have b2:=hb.rim; have b3:=ha.worn; have b4:=hb.worn; have b5:=ha.marks; have b6:=hb.marks
 refine X0 (ec a.rim b.rim (by omega) (by omega)) rfl ?_
 by_cases h3:a.rim=b.rim
 rotate_left
 ·rw [decide_eq_false h3]
  simp only [↓X2,wA,↓reduceIte,reduceIte,reduceCtorEq,Y1,Y2,Y3,Y4,Y5,Y6,Y7,Y8,Y9,YA,wE]
  exact fin rfl (no (fun h=>h.2.2.1) h3)
 rw [decide_eq_true h3]
 simp only [↓X2,wA,↓reduceIte,reduceIte,reduceCtorEq,Y1,Y2,Y3,Y4,Y5,Y6,Y7,Y8,Y9,YA,wE]
 refine X0 (Tv a.worn b.worn (by omega) (by omega)) rfl ?_
 by_cases h4:a.worn=b.worn
 rotate_left
 ·rw [decide_eq_false h4]
  simp only [↓X2,wA,↓reduceIte,reduceIte,reduceCtorEq,Y1,Y2,Y3,Y4,Y5,Y6,Y7,Y8,Y9,YA,wE]
  exact fin rfl (no (fun h=>h.2.2.2.1) h4)
 rw [decide_eq_true h4]
 simp only [↓X2,wA,↓reduceIte,reduceIte,reduceCtorEq,Y1,Y2,Y3,Y4,Y5,Y6,Y7,Y8,Y9,YA,wE]
 refine X0 (MD a.marks b.marks (by omega) (by omega)) rfl ?_
 simp only [↓X2,wA,↓reduceIte,reduceIte,reduceCtorEq,Y1,Y2,Y3,Y4,Y5,Y6,Y7,Y8,Y9,YA,wE]
 refine fin rfl ?_
 rw [hV',decide_eq_decide]
 exact ⟨fun h=>⟨h1,h2,h3,h4,h⟩,fun h=>h.2.2.2.2⟩
def Zz (p c:PV):PV:=⟨p.id,p.home,c.rim,c.worn,c.marks,p.tol,c.light,c.heavy,c.strength,c.rough⟩
theorem H8 {p c:PV} (hp:p.small) (hc:c.small):(Zz p c).small:=⟨hc.rim,hc.worn,hc.marks,hp.tol,hc.light,hc.heavy,hc.strength,hc.rough⟩
theorem Fy (p c:PV) (hp:p.small) (hc:c.small) {a b:Rat} (ea:p.tol=RQ.of a) (eb:c.tol=RQ.of b):Fn Tryz.prog 21 [Q3 p,Q3 c] (.bool (decide (p=Zz p c∧a≤b))):=by
 have c1:=gk p (Zz p c) hp (H8 hp hc)
 have c2:=nU eb ea hc.tol hp.tol
 obtain ⟨V,hV⟩:∃ V,V=decide (p=Zz p c∧a≤b):=⟨_,rfl⟩
 have fin:∀ {s:AS} {v:Bool},s.get 4=.bool v→v=V→RetOk (Qn Tryz.prog Tryz.f21 [2,30000002] [] (.bool V)) s:=fun h e=>Xs rfl h (X3 _) (by rw [e])
 rw [← hV]
 refine Fq Tryz.call21 Tryz.func21 6 [] [2,30000002] [] (by simp [Xu]) (X1 1000 ?_)
 simp only [AS.start,Q3,XC,↓X2,wA,seval,wE]
 refine X0 c1 rfl ?_
 by_cases h:p=Zz p c
 rotate_left
 ·rw [decide_eq_false h]
  simp only [↓X2,wA,seval,wE]
  exact fin rfl (by rw [hV,decide_eq_false fun hh=>h hh.1])
 rw [decide_eq_true h]
 simp only [↓X2,wA,seval,wE]
 refine X0 c2 rfl ?_
 simp only [↓X2,wA,seval,wE]
 refine fin rfl ?_
 rw [hV,decide_eq_decide]
 exact ⟨fun hh=>⟨h,(FQ _ _).1 hh⟩,fun hh=>(FQ _ _).2 hh.2⟩
def D5:RQ:=⟨false,[],false,[]⟩
def HB:PV:=⟨0,0,[],[],[],D5,D5,D5,D5,D5⟩
theorem KZ {f g:Nat→AV} {t:Bool}:Weak (.sl 0 0 f t) (.sl 0 0 g false):=A7 rfl (Nat.le_refl _) fun j hj=>absurd hj (Nat.not_lt_zero j)
def Qo:List AV:=[I 0,I 0,.sl 0 0 (fun _=>.any) false,.sl 0 0 (fun _=>.any) false,.sl 0 0 (fun _=>.any) false,.bool false,.sl 0 0 (fun _=>.any) false,.bool false,.sl 0 0 (fun _=>.any) false,.bool false,.sl 0 0 (fun _=>.any) false,.bool false,.sl 0 0 (fun _=>.any) false,
 .bool false,.sl 0 0 (fun _=>.any) false,.bool false,.sl 0 0 (fun _=>.any) false,.bool false,.sl 0 0 (fun _=>.any) false,.bool false,.sl 0 0 (fun _=>.any) false,.bool false,.sl 0 0 (fun _=>.any) false,.bool false,.sl 0 0 (fun _=>.any) false]
theorem an:WeakL Qo (XC HB) :=
 ⟨Weak.rfl' _,Weak.rfl' _,KZ,KZ,KZ,Weak.rfl' _,KZ,Weak.rfl' _,KZ,Weak.rfl' _,KZ,Weak.rfl' _,KZ,Weak.rfl' _,KZ,Weak.rfl' _,KZ,Weak.rfl' _,KZ,Weak.rfl' _,KZ,Weak.rfl' _,KZ,Weak.rfl' _,KZ,trivial⟩
def ZP (p:PV) (id home:Int) (t:Rat):PV:=⟨id,home,p.rim,p.worn,p.marks,RQ.of t,p.light,p.heavy,p.strength,p.rough⟩
def castOf (p:PV) (id home:Int) (a:Rat) (x:RQ):PV×Int :=
 if h:∃ q:Rat,x=RQ.of q∧0≤q then
  let c:=ZP p id home (a+h.choose)
  if Kc c=0 then (c,0) else (HB,1)
 else (HB,1)
theorem Gt (p:PV) (hp:p.small) (id home:Int) (x:RQ) (hx:x.sz≤100000) {a:Rat} (ea:p.tol=RQ.of a) (ha:qb a≤100000) :
  Fn Tryz.prog 18 [Q3 p,I id,I home,x.A] (.tup [Q3 (castOf p id home a x).1,I (castOf p id home a x).2]):=by
 obtain ⟨R,hR⟩:∃ R,R=castOf p id home a x:=⟨_,rfl⟩
 rw [← hR]
 have hbad:(¬ ∃ q:Rat,x=RQ.of q∧0≤q)→R=(HB,1):=fun h=>by
  rw [hR]; unfold castOf; rw [dif_neg h]
 have zret:∀ {s:AS} {ver id':Nat},s.get 8=.ref id' ver 0→s.h[id']?=some (.row ver 25 (Xq Qo))→s.get 9=I 1→R=(HB,1)→RetOk (Qn Tryz.prog Tryz.f18 [5,60000004] [] (.tup [Q3 R.1,I R.2])) s:=fun h1 h2 h3 h4=>by
  subst h4
  exact QO rfl (Xo MP h1 h2 rfl) (by unfold QA; rfl) (Xr (Xu _) (XS an)) (by rw [h3]; exact (X9 _).sees _)
 have c1:=Ed x (by omega)
 refine Fq Tryz.call18 Tryz.func18 11 [] [5,60000004] [] (by simp [Xu,BH,X9]) (X1 1000 ?_)
 simp only [AS.start,Q3,XC,RQ.A,RQ.L,↓X2,wA,seval,wE]
 refine X0 c1 rfl ?_
 by_cases hv:x.ok
 rotate_left
 ·rw [decide_eq_false hv]
  simp only [↓X2,wA,seval,wE]
  exact zret rfl rfl rfl (hbad fun ⟨q,hq,_⟩=>hv ⟨q,hq⟩)
 obtain ⟨q,hq⟩:=hv
 rw [decide_eq_true ⟨q,hq⟩]
 have c2:=GL hq
 simp only [↓X2,wA,seval,wE]
 refine X0 c2 rfl ?_
 by_cases hn:q.num.sign<0
 ·have f1:(q.num.sign<0)=True:=eq_true hn
  simp only [f1,↓X2,wA,seval,wE]
  refine zret rfl rfl rfl (hbad fun ⟨q',hq',h'⟩=>?_)
  have:=RQ.of_inj (hq'.symm.trans hq); subst this
  exact Rat.not_lt.2 h' ((KY _).1 hn)
 have f1:(q.num.sign<0)=False:=eq_false hn
 simp only [f1,↓X2,wA,seval,wE]
 have hsq:qb q≤100003:=by
  have:=Cq q
  rw [← hq] at this; omega
 have c3:=Az a q (by unfold rm; omega) (by unfold rm; omega)
 have c3':Fn Tryz.prog 70 [p.tol.A,x.A] (qA (a+q)):=by rw [ea,hq]; exact c3
 refine X0 c3' rfl ?_
 simp only [↓X2,wA,seval,wE]
 have b1:=hp.rim; have b2:=hp.worn; have b3:=hp.marks
 refine X0 (WJ p.rim b1) rfl ?_
 simp only [↓X2,wA,seval,wE]
 refine X0 (WH p.worn b2) rfl ?_
 simp only [↓X2,wA,seval,wE]
 refine X0 (WI p.marks b3) rfl ?_
 simp only [↓X2,wA,seval,wE]
 have hRc:R=if Kc (ZP p id home (a+q))=0 then (ZP p id home (a+q),0) else (HB,1):=by
  rw [hR]
  have hex:∃ q:Rat,x=RQ.of q∧0≤q:=⟨q,hq,by rw [← Rat.not_lt,← KY]; exact hn⟩
  unfold castOf
  rw [dif_pos hex]
  have:hex.choose=q:=RQ.of_inj (hex.choose_spec.1.symm.trans hq)
  rw [this]
 have hsm:(ZP p id home (a+q)).small:=⟨b1,b2,b3,by
  have h1:=RQ.of_sz (a+q)
  have h2:=Jq a q
  show (RQ.of (a+q)).sz≤_
  omega,hp.light,hp.heavy,hp.strength,hp.rough⟩
 refine X0 (Ld (ZP p id home (a+q)) hsm) rfl ?_
 by_cases he:Kc (ZP p id home (a+q))=0
 rotate_left
 ·have f2:(Kc (ZP p id home (a+q))=0)=False:=eq_false he
  simp only [f2,↓X2,wA,seval,wE]
  exact zret rfl rfl rfl (by rw [hRc,if_neg he])
 have f2:(Kc (ZP p id home (a+q))=0)=True:=eq_true he
 simp only [f2,↓X2,wA,seval,wE]
 rw [if_pos he] at hRc
 subst hRc
 exact QO rfl (Xo MP rfl rfl rfl) (by unfold QA; rfl) (Xr (Xu _) (XS (Q9 (XC (ZP p id home (a+q)))))) ((X9 _).sees _)
def dC (d:Int×Int×Int):List AV:=[I d.1,I d.2.1,I d.2.2]
def BS (l:List (Int×Int×Int)):AV:=qz dC 3 (0,0,0) l
theorem BI (d:Int×Int×Int):∀ x∈dC d,Settled x:=by simp [dC,X9]
theorem C8 (l:List (Int×Int×Int)):Settled (BS l):=BZ BI
theorem J9 (l:List (Int×Int×Int)):BS l=.sl l.length (l.length*3) (XB dC 3 (0,0,0) l) false:=nrfl rfl
theorem dF (l:List (Int×Int×Int)) (i:Nat):XB dC 3 (0,0,0) l (i*3)=I (l.getD i (0,0,0)).1∧XB dC 3 (0,0,0) l (i*3+1)=I (l.getD i (0,0,0)).2.1∧XB dC 3 (0,0,0) l (i*3+2)=I (l.getD i (0,0,0)).2.2:=by
 refine ⟨?_,?_,?_⟩
 ·rw [A1 _ _ _ _ _ (by omega)]; rfl
 all_goals rw [A0 _ _ _ _ _ _ (by omega)]; rfl
def GO (ps:List Int) (n:Nat) (c:Int):Option Int:=if 0≤c∧c<n∧0≤ps.getD c.toNat 0 then some (ps.getD c.toNat 0) else none
def K4 (ps:List Int) (n:Nat) (c:Int):Option AV:=(GO ps n c).map I
def Dv (ps:List Int) (k c:Int):List (Int×Int×Int):=match GO ps ps.length c with
 | some p=>[(k,c,p)]
 | none=>[]
def Zy (G:Int→Option AV) (D:List (Int×Int×Int)):List AO:=[.map .i64 G,.row 0 1 (Xq [.mp 0]),.row 0 1 (Xq [.osl 3 D.length 3 0 D.length]),.row D.length (D.length*3) (XB dC 3 (0,0,0) D)]
theorem nV {P:Program} {fn:Func} {str hcs:List Nat} {m:Nat} {H:List AO} {s:AS} (hr:fn.results=#[]) (hH:s.h.take m=H):RetOk (HD P fn str hcs m (.tup []) H) s :=
 ⟨.tup [],by simp [RC,ZX,HD,hr,Jl,B5],rfl,hH⟩
theorem mc (ps:List Int) (D:List (Int×Int×Int)) (k c:Int) (hD:D.length<1000000) :
  HCall Tryz.prog 187 [I k,I c,.ref 1 0 0,.ref 2 0 0] (Zy (K4 ps ps.length) D) (.tup []) (Zy (K4 ps ps.length) (D ++ Dv ps k c)):=by
 have hG:XI 4 (.map .i64 (K4 ps ps.length))=True:=eq_true fun n a h=>by
  unfold K4 at h
  simp only [Option.map_eq_some_iff] at h
  obtain ⟨x,_,rfl⟩:=h
  exact X6 (X9 _)
 have hR:∀ v n l,XI 4 (.row v n (XB dC 3 (0,0,0) l))=True:=fun v n l=>eq_true fun j _=>X6 (Xg (BI _) _)
 obtain ⟨D',hD'⟩:∃ D',D'=D ++ Dv ps k c:=⟨_,rfl⟩
 rw [← hD']
 refine HCall.introC (fn:=Tryz.f187) Tryz.call187 Tryz.func187 rfl mixed 8 [] [] [] (by kernel_rfl) (Nat.le_of_ble_eq_true rfl) (by simp [Xx]) (by simp [Zy,Xx,hG,hR]) (X1 1000 ?_)
 cases hs:GO ps ps.length c with
 | none =>
  have f1:K4 ps ps.length c=none:=by unfold K4; rw [hs]; rfl
  have ho:Dv ps k c=[]:=by unfold Dv; rw [hs]
  simp only [AS.start,Zy,f1,↓X2,wA,seval,wE]
  exact nV rfl (by rw [hD',ho,List.append_nil]; rfl)
 | some p =>
  have f1:K4 ps ps.length c=some (I p):=by unfold K4; rw [hs]; rfl
  have ho:Dv ps k c=[(k,c,p)]:=by unfold Dv; rw [hs]
  have hl:(D ++ [(k,c,p)]).length=D.length+1:=by simp
  have hap:=XQ dC 3 (0,0,0) D (k,c,p) (by omega)
  simp only [AS.start,Zy,f1,↓X2,wA,seval,wE]
  refine ⟨⟨fun j hj=>?_,by omega,by omega⟩,nV rfl ?_⟩
  ·match j,hj with
   | 0,_=>rfl
   | 1,_=>rfl
   | 2,_=>rfl
   | j+3,h=>omega
  ·rw [hD',ho,hl,← hap]; rfl
def fW (ps:List Int) (k:Int) (j:Int×Int):List (Int×Int×Int):=Dv ps k j.1 ++ Dv ps k j.2
def KC (js:List (Int×Int)) (ps:List Int):Nat→List (Int×Int×Int)
 | 0=>[]
 | n+1=>KC js ps n ++ fW ps n (js.getD n (0,0))
theorem L9 (ps:List Int) (k c:Int):(Dv ps k c).length≤1:=by unfold Dv; split <;> simp
theorem IC (js:List (Int×Int)) (ps:List Int):∀ n,(KC js ps n).length≤2*n
 | 0=>by simp [KC]
 | n+1=>by
  have h1:=IC js ps n
  have h2:=L9 ps n (js.getD n (0,0)).1
  have h3:=L9 ps n (js.getD n (0,0)).2
  simp only [KC,fW,List.length_append]
  omega
theorem S3 (ps:List Int) (n:Nat) (hn:n<ps.length) (h:0≤ps.getD n 0):GQ (K4 ps n) n (I (ps.getD n 0))=K4 ps (n+1):=by
 funext c
 unfold GQ K4 GO
 by_cases hc:c=n
 ·rw [if_pos hc,if_pos (by rw [hc]; simp only [Int.toNat_natCast]; omega),hc]; rfl
 ·rw [if_neg hc]
  congr 1
  by_cases h1:0≤c∧c<n∧0≤ps.getD c.toNat 0
  ·rw [if_pos h1,if_pos (by omega)]
  ·rw [if_neg h1,if_neg (by omega)]
theorem S1 (ps:List Int) (n:Nat) (h:¬ 0≤ps.getD n 0):K4 ps n=K4 ps (n+1):=by
 funext c
 unfold K4 GO
 congr 1
 by_cases h1:0≤c∧c<n∧0≤ps.getD c.toNat 0
 ·rw [if_pos h1,if_pos (by omega)]
 ·rw [if_neg h1,if_neg]
  rintro ⟨h2,h3,h4⟩
  by_cases h5:c=n
  ·rw [h5,Int.toNat_natCast] at h4; exact h h4
  ·exact h1 ⟨h2,by omega,h4⟩
theorem dG (js:List (Int×Int)) (ps:List Int) (hj:js.length<100000) (hp:ps.length<9223372036854775808):Fn Tryz.prog 97 [C6 js,X8 ps] (BS (KC js ps js.length)):=by
 obtain ⟨R,hR⟩:∃ R,R=BS (KC js ps js.length):=⟨_,rfl⟩
 have sR:Settled R:=hR▸C8 _
 rw [← hR]
 refine Fq Tryz.call97 Tryz.func97 12 [13,14,15,27,28,29] [] [] (by simp [QG,X7]) (X1 1000 ?_)
 simp only [AS.start,↓X2,wA,seval,wE]
 refine Xe (fun i:Nat=>⟨12,[13,14,15,27,28,29],[C6 js,X8 ps,.any,.any,.any,.ref 1 0 0,.any,.any,.any,.any,.any,.any],[(13,X8 ps),(14,I ps.length),(15,I i)],[.map .i64 (K4 ps i),.row 0 1 (Xq [.mp 0])]⟩) (fun i=>i≤ps.length) (fun i=>ps.length - i) 0 (by omega)
  (Xa rfl (by simp [Xh,Xf,X4,I]) (by simp [Xi,Xw,X4,I]) ?_) ?_
 ·have:K4 ps 0=fun _=>none:=by
   funext c
   unfold K4 GO
   rw [if_neg (by omega)]; rfl
  rw [this]
 ·intro i hi next
  by_cases hi2:i<ps.length
  ·have w1:IntKind.i64.wrap ((i:Int)+1)=((i+1:Nat):Int):=by rw [IntKind.wrap_i64]; omega
   have f1:((i:Int)<ps.length)=True:=eq_true (by omega)
   have f2:(i<ps.length)=True:=eq_true hi2
   by_cases h0:0≤ps.getD i 0
   ·have f3:(0≤ps.getD i 0)=True:=eq_true h0
    have hup:=S3 ps i hi2 h0
    refine X1 1000 ?_
    simp only [X4,w1,f1,f2,f3,Int.toNat_natCast,↓X2,wA,seval,wE]
    exact next (i+1) _ (by omega) (by omega) (Xa rfl (by simp [Xh,X4,Xf]) (by simp [Xi,Xw,X4,I]) (by rw [← hup]; rfl))
   ·have f3:(0≤ps.getD i 0)=False:=eq_false h0
    have hup:=S1 ps i h0
    refine X1 1000 ?_
    simp only [X4,w1,f1,f2,f3,Int.toNat_natCast,↓X2,wA,seval,wE]
    exact next (i+1) _ (by omega) (by omega) (Xa rfl (by simp [Xh,X4,Xf]) (by simp [Xi,Xw,X4,I]) (by rw [← hup]))
  obtain rfl:i=ps.length:=by omega
  refine X1 1000 ?_
  simp only [X4,Int.lt_irrefl,Nat.lt_irrefl,↓X2,wA,seval,wE]
  have ad:∀ m,Sub m (⟨12,[13,14,15,27,28,29],[C6 js,X8 ps,.any,.any,.any,.ref 1 0 0,.any,.any,.ref 2 0 0,.fn 187 [.ref 1 0 0,.ref 2 0 0],.any,.any],[(29,I 0),(28,I js.length),(27,C6 js),(13,X8 ps),(14,I ps.length),(15,I ps.length)],[.map .i64 (K4 ps ps.length),.row 0 1 (Xq [.mp 0]),.row 0 1 (Xq [.sl 0 0 (fun _=>.any) true])]⟩:AS) ⟨12,[13,14,15,27,28,29],[C6 js,X8 ps,.any,.any,.any,.ref 1 0 0,.any,.any,.ref 2 0 0,.fn 187 [.ref 1 0 0,.ref 2 0 0],.any,.any],[(29,I 0),(28,I js.length),(27,C6 js),(13,X8 ps),(14,I ps.length),(15,I ps.length)],Zy (K4 ps ps.length) []⟩:=fun m=>by
   refine (QN 2 1 (fun _=>.sl 0 0 (fun _=>.any) true) rfl (Nat.le_refl _) (fun j hj=>by
     obtain rfl:j=0:=by omega
     rfl)).trans ?_
   refine (BJ 2 3 (XB dC 3 (0,0,0) []) rfl 1 (Nat.le_refl _)).trans ?_
   refine (QN 2 1 (Xq [.osl 3 0 3 0 0]) rfl (Nat.le_refl _) (fun j hj=>by
     obtain rfl:j=0:=by omega
     rfl)).trans (Xa rfl ?_ ?_ ?_)
   ·simp [Xh]
   ·simp [Xi,Xw]
   ·simp [Zy]
  refine Run.sub ?_ (ad _)
  obtain ⟨G,hGe⟩:∃ G,G=K4 ps ps.length:=⟨_,rfl⟩
  have own:=fun D k c h=>mc ps D k c h
  have hG:XI 4 (.map .i64 G)=True:=eq_true fun n a h=>by
   rw [hGe] at h
   unfold K4 at h
   simp only [Option.map_eq_some_iff] at h
   obtain ⟨x,_,rfl⟩:=h
   exact X6 (X9 _)
  have hRo:∀ v n l,XI 4 (.row v n (XB dC 3 (0,0,0) l))=True:=fun v n l=>eq_true fun j _=>X6 (Xg (BI _) _)
  have hJ:Jj 4 (C6 js)=True:=eq_true (X6 (QG _))
  rw [← hGe] at own ⊢
  refine Xe (fun i:Nat=>⟨12,[13,14,15,27,28,29],[.any,.any,.any,.any,.any,.any,.any,.any,.ref 2 0 0,.fn 187 [.ref 1 0 0,.ref 2 0 0],.any,.any],[(27,C6 js),(28,I js.length),(29,I i)],Zy G (KC js ps i)⟩) (fun i=>i≤js.length) (fun i=>js.length - i) 0 (by omega)
   (Xa rfl (by simp [Xh]) (by simp [Xi,Xw]) rfl) ?_
  intro i hi next
  have w1:=wj i (by omega)
  have hdl:=IC js ps i
  by_cases hi2:i<js.length
  ·have f1:((i:Int)<js.length)=True:=eq_true (by omega)
   have f2:(i<js.length)=True:=eq_true hi2
   have f3:(i*2+2≤js.length*2)=True:=eq_true (by omega)
   have v1:=aw js i
   have z0:((0:Int)<((2:Nat):Int))=True:=eq_true (by omega)
   have z1:((1:Int)<((2:Nat):Int))=True:=eq_true (by omega)
   refine X1 1000 ?_
   simp only [Zy,z0,z1,w1,f1,f2,f3,v1,Int.toNat_natCast,↓X2,wA,seval,wE]
   have hOO:∀ D,∀ o∈Zy G D,XI 4 o:=fun D o ho=>by
    simp only [Zy,List.mem_cons,List.not_mem_nil,or_false] at ho
    rcases ho with rfl | rfl | rfl | rfl
    ·exact hG▸trivial
    ·simp [Xx]
    ·simp [Xx]
    ·exact hRo _ _ _▸trivial
   have hUn:∀ D,∀ o∈Zy G D,o≠.unborn∧∀ v n f,o≠.con v n f:=fun D o ho=>by
    simp only [Zy,List.mem_cons,List.not_mem_nil,or_false] at ho
    rcases ho with rfl | rfl | rfl | rfl <;> exact ⟨by simp,by simp⟩
   have hArg:∀ a b:Int,∀ x∈[I a,I b,.ref 1 0 0,.ref 2 0 0],Jj 4 x:=fun a b x hx=>by
    simp only [List.mem_cons,List.not_mem_nil,or_false] at hx
    rcases hx with rfl | rfl | rfl | rfl
    ·exact X6 (X9 _)
    ·exact X6 (X9 _)
    ·have:Jj 4 (.ref 1 0 0)=True:=by simp [Xx]
     exact this▸trivial
    ·have:Jj 4 (.ref 2 0 0)=True:=by simp [Xx]
     exact this▸trivial
   have h2:=L9 ps i (js.getD i (0,0)).1
   have o1:=own (KC js ps i) i (js.getD i (0,0)).1 (by omega)
   have o2:=own (KC js ps i ++ Dv ps i (js.getD i (0,0)).1) i (js.getD i (0,0)).2 (by rw [List.length_append]; omega)
   refine Ah (H1:=Zy G (KC js ps i)) (H1':=Zy G (KC js ps i ++ Dv ps i (js.getD i (0,0)).1)) (rest:=[AO.row 0 2 (Xq [I (js.getD i (0,0)).1,I (js.getD i (0,0)).2])]) rfl o1 rfl rfl (hArg _ _) (hOO _) (fun o ho=>(hUn _ o ho).1) (fun o ho=>(hUn _ o ho).1) (Jo (fun o ho=>(hUn _ o ho).2) (fun o ho=>(hUn _ o ho).2)) (Q9 _) ?_
   simp only [Zy,z0,z1,w1,Int.reduceLE,↓X2,wA,seval,wE]
   refine Ah (H1:=Zy G (KC js ps i ++ Dv ps i (js.getD i (0,0)).1)) (H1':=Zy G (KC js ps i ++ Dv ps i (js.getD i (0,0)).1 ++ Dv ps i (js.getD i (0,0)).2)) (rest:=[AO.row 0 2 (Xq [I (js.getD i (0,0)).1,I (js.getD i (0,0)).2])]) rfl o2 rfl rfl (hArg _ _) (hOO _) (fun o ho=>(hUn _ o ho).1) (fun o ho=>(hUn _ o ho).1) (Jo (fun o ho=>(hUn _ o ho).2) (fun o ho=>(hUn _ o ho).2)) (Q9 _) ?_
   simp only [Zy,z0,z1,w1,↓X2,wA,seval,wE]
   have hd:KC js ps i ++ Dv ps i (js.getD i (0,0)).1 ++ Dv ps i (js.getD i (0,0)).2=KC js ps (i+1):=by simp only [KC,fW,List.append_assoc]
   refine next (i+1) _ (by omega) (by omega) (Xy (m:=4) (Nat.zero_le _) rfl (by simp [Xh]) (by simp [Xi,Xw,Xf,I]) (by rw [← hd]; rfl) ?_ (by simp [Xx,hJ]) (fun o ho=>hOO _ o ho))
   simp [Xx]
  obtain rfl:i=js.length:=by omega
  refine X1 1000 ?_
  simp only [Zy,Int.lt_irrefl,Nat.lt_irrefl,↓X2,wA,seval,wE]
  refine AR rfl ?_
  rw [hR,J9]
  refine Qv (n:=(KC js ps js.length).length) (.inl rfl) (by omega) (fun h=>by rw [h]) fun j hj=>?_
  rw [Nat.zero_add]
  exact (Xg (BI _) _).sees _
theorem pj (d:Int×Int×Int) (j:Nat) (hj:j<3):([AV.int .i64 d.1,.int .i64 d.2.1,.int .i64 d.2.2].getD j .any).one=true:=by
 match j,hj with
 | 0,_=>rfl
 | 1,_=>rfl
 | 2,_=>rfl
 | j+3,h=>omega
theorem ge (l:List (Int×Int×Int)) (hl:l.length<1000000):Fn Tryz.prog 99 [BS l] (BS l):=by
 obtain ⟨R,hR⟩:∃ R,R=BS l:=⟨_,rfl⟩
 refine Fq Tryz.call99 Tryz.func99 5 [] [] [] (by simp [C8]) (X1 1000 ?_)
 simp only [AS.start,J9,↓X2,wA,seval,wE]
 refine Xe (fun i:Nat=>⟨5,[],[BS l,.any,.any,.osl 0 i 3 0 i,I i],[],[.row i (i*3) (XB dC 3 (0,0,0) (l.take i))]⟩) (fun i=>i≤l.length) (fun i=>l.length - i) 0 (by omega)
  ((Q7 3 3 (XB dC 3 (0,0,0) []) rfl).trans (Xa rfl (by simp [AS.put,Xh,J9,I]) (by simp [AS.put,Xi]) (by simp [AS.put]))) ?_
 intro i hi next
 have w1:=wj i (by omega)
 by_cases hi2:i<l.length
 ·have f1:((i:Int)<l.length)=True:=eq_true (by omega)
  have f2:(i<l.length)=True:=eq_true hi2
  have f3:(i*3+3≤l.length*3)=True:=eq_true (by omega)
  have f4:(i*3<l.length*3)=True:=eq_true (by omega)
  have v1:=dF l i
  have hap:=XQ dC 3 (0,0,0) (l.take i) (l.getD i (0,0,0)) (by omega)
  have hlen:(l.take i).length=i:=by simp; omega
  rw [hlen,← As _ _ hi2] at hap
  refine X1 1000 ?_
  simp only [J9,w1,f1,f2,f3,f4,v1,Int.toNat_natCast,↓X2,wA,seval,wE]
  exact ⟨by omega,by omega,⟨fun j hj=>pj _ j hj,by omega,by omega⟩,next (i+1) _ (by omega) (by omega) (Xa rfl (by simp [Xh,J9,I]) (by simp [Xi]) (by rw [← hap]; rfl))⟩
 obtain rfl:i=l.length:=by omega
 refine X1 1000 ?_
 simp only [J9,Int.lt_irrefl,Nat.lt_irrefl,↓X2,wA,seval,wE]
 refine AR rfl ?_
 refine Qv (n:=l.length) (.inl rfl) (by omega) (fun h=>by rw [h]) fun j hj=>?_
 rw [Nat.zero_add,List.take_length]
 exact (Xg (BI _) _).sees _
theorem YQ (a b:List (Int×Int×Int)) (la:a.length<1000000) (lb:b.length<1000000):Fn Tryz.prog 98 [BS a,BS b] (.bool (decide (a=b))):=by
 obtain ⟨V,hV⟩:∃ V,V=decide (a=b):=⟨_,rfl⟩
 rw [← hV]
 refine Fq Tryz.call98 Tryz.func98 6 [] [] [] (by simp [C8]) (X1 1000 ?_)
 by_cases hl:a.length=b.length
 rotate_left
 ·have f1:((a.length:Int)=b.length)=False:=eq_false (by omega)
  have f1':(a.length=b.length)=False:=eq_false hl
  simp only [AS.start,J9,f1,f1',↓X2,wA,seval,wE]
  refine Xs (v:=.bool false) rfl rfl (X3 _) ?_
  rw [hV,decide_eq_false fun e=>hl (by rw [e])]
 have f1:((a.length:Int)=b.length)=True:=eq_true (by omega)
 have f1':(a.length=b.length)=True:=eq_true hl
 simp only [AS.start,J9,f1,f1',↓X2,wA,seval,wE]
 refine Xe (fun j:Nat=>⟨6,[],[BS a,BS b,.any,.any,.any,I j],[],[]⟩) (fun j=>j≤a.length∧∀ i,i<j→a.getD i (0,0,0)=b.getD i (0,0,0)) (fun j=>a.length - j) 0 ⟨by omega,by omega⟩
  (Xa rfl (by simp [Xh,J9,I,hl]) (by simp [Xi]) rfl) ?_
 rintro j ⟨hj,hno⟩ next
 have w1:=wj j (by omega)
 by_cases hj2:j<a.length
 rotate_left
 ·have f2:((j:Int)<a.length)=False:=eq_false (by omega)
  have f3:(j<a.length)=False:=eq_false hj2
  refine X1 1000 ?_
  simp only [J9,w1,f2,f3,↓X2,wA,seval,wE]
  refine Xs (v:=.bool true) rfl rfl (X3 _) ?_
  rw [hV,decide_eq_true]
  refine List.ext_getElem hl fun i h1 h2=>?_
  have:=hno i (by omega)
  rw [List.getD_eq_getElem?_getD,List.getElem?_eq_getElem h1,List.getD_eq_getElem?_getD,List.getElem?_eq_getElem h2] at this
  exact this
 have f2:((j:Int)<a.length)=True:=eq_true (by omega)
 have f3:(j<a.length)=True:=eq_true hj2
 have f4:(j<b.length)=True:=eq_true (by omega)
 have f5:(j*3+3≤a.length*3)=True:=eq_true (by omega)
 have f6:(j*3+3≤b.length*3)=True:=eq_true (by omega)
 have v1:=dF a j
 have v2:=dF b j
 by_cases he:a.getD j (0,0,0)=b.getD j (0,0,0)
 ·have g1:((a.getD j (0,0,0)).1=(b.getD j (0,0,0)).1)=True:=eq_true (by rw [he])
  have g2:((a.getD j (0,0,0)).2.1=(b.getD j (0,0,0)).2.1)=True:=eq_true (by rw [he])
  have g3:((a.getD j (0,0,0)).2.2=(b.getD j (0,0,0)).2.2)=True:=eq_true (by rw [he])
  refine X1 1000 ?_
  simp only [J9,w1,f2,f3,f4,f5,f6,v1,v2,g1,g2,g3,↓X2,wA,seval,wE]
  refine next (j+1) _ ⟨by omega,fun i hi=>?_⟩ (by omega) (Xa rfl (by simp [Xh,J9,I]) (by simp [Xi]) rfl)
  by_cases e:i=j
  ·rw [e]; exact he
  ·exact hno i (by omega)
 ·have bad:false=V:=by rw [hV,decide_eq_false fun e=>he (by rw [e])]
  refine X1 1000 ?_
  by_cases g1:(a.getD j (0,0,0)).1=(b.getD j (0,0,0)).1
  ·have k1:((a.getD j (0,0,0)).1=(b.getD j (0,0,0)).1)=True:=eq_true g1
   by_cases g2:(a.getD j (0,0,0)).2.1=(b.getD j (0,0,0)).2.1
   ·have k2:((a.getD j (0,0,0)).2.1=(b.getD j (0,0,0)).2.1)=True:=eq_true g2
    have k3:((a.getD j (0,0,0)).2.2=(b.getD j (0,0,0)).2.2)=False:=eq_false fun g3=>he (Prod.ext g1 (Prod.ext g2 g3))
    simp only [J9,w1,f2,f3,f4,f5,f6,v1,v2,k1,k2,k3,↓X2,wA,seval,wE]
    exact Xs (v:=.bool false) rfl rfl (X3 _) (by rw [bad])
   ·have k2:((a.getD j (0,0,0)).2.1=(b.getD j (0,0,0)).2.1)=False:=eq_false g2
    simp only [J9,w1,f2,f3,f4,f5,f6,v1,v2,k1,k2,↓X2,wA,seval,wE]
    exact Xs (v:=.bool false) rfl rfl (X3 _) (by rw [bad])
  ·have k1:((a.getD j (0,0,0)).1=(b.getD j (0,0,0)).1)=False:=eq_false g1
   simp only [J9,w1,f2,f3,f4,f5,f6,v1,v2,k1,↓X2,wA,seval,wE]
   exact Xs (v:=.bool false) rfl rfl (X3 _) (by rw [bad])
theorem Gk:D5=RQ.of 0:=by
 unfold D5 RQ.of Ab.N.qd
 simp [XZ]
def KO:Rat:=Rat.divInt 1 2
def se:Rat:=Rat.divInt 1 1
def tp:Rat:=Rat.divInt 2 1
def tri:PV:=⟨0,0,[(0,0),(2,0),(0,2)],[false,false,false],[0,0,0],RQ.of KO,RQ.of se,RQ.of tp,RQ.of se,RQ.of 0⟩
theorem G3 {P:Program} {fn:Func} {str hcs:List Nat} {r:AV} {s:AS} {t u id ver n:Nat} {L:List AV} (hr:fn.results=#[.cell t u]) (hk:BL P u=some (some n)) (hs:s.get t=.ref id ver 0)
  (ho:s.h[id]?=some (.row ver n (Xq L))) (hn:L.length=n) (h:JJ s.h (.agg L) r):RetOk (Qn P fn str hcs r) s :=
 ⟨.agg L,by
  have:=Xo hk hs ho hn
  simp [ZX,IJ,CB,hr,Jl,B5,this],h⟩
theorem Sd:Fn Tryz.prog 96 [] (Q3 tri):=by
 have c1:=Jk 1 1 ⟨by omega,by omega⟩ ⟨by omega,by omega⟩
 have c2:=Jk 1 2 ⟨by omega,by omega⟩ ⟨by omega,by omega⟩
 have c3:=Jk 2 1 ⟨by omega,by omega⟩ ⟨by omega,by omega⟩
 refine Fn.intro (fn:=Tryz.f96) Tryz.call96 Tryz.func96 rfl mixed 2 [] [2,30000001] [] (by kernel_rfl) (Nat.le_of_ble_eq_true rfl) (by simp) (X1 1000 ?_)
 simp only [AS.start,↓X2,wA,↓reduceIte,reduceIte,reduceCtorEq,Y1,Y2,Y3,Y4,Y5,Y6,Y7,Y8,Y9,YA,wE]
 refine X0 c1 rfl ?_
 simp only [↓X2,wA,↓reduceIte,reduceIte,reduceCtorEq,Y1,Y2,Y3,Y4,Y5,Y6,Y7,Y8,Y9,YA,wE]
 refine ⟨⟨by omega,by omega,by omega⟩,⟨by omega,by omega,by omega⟩,?_⟩
 refine X0 c2 rfl ?_
 simp only [↓X2,wA,↓reduceIte,reduceIte,reduceCtorEq,Y1,Y2,Y3,Y4,Y5,Y6,Y7,Y8,Y9,YA,wE]
 refine X0 c3 rfl ?_
 simp only [↓X2,wA,↓reduceIte,reduceIte,reduceCtorEq,Y1,Y2,Y3,Y4,Y5,Y6,Y7,Y8,Y9,YA,wE]
 have h1:∀ H,JJ H (.sl 3 6 (Xq [I 0,I 0,I 2,I 0,I 0,I 2]) false) (C6 tri.rim):=fun H=>Xr (QG _) (A7 rfl (Nat.le_refl _) fun j hj=>by
  match j,hj with
  | 0,_=>exact Weak.rfl' _
  | 1,_=>exact Weak.rfl' _
  | 2,_=>exact Weak.rfl' _
  | 3,_=>exact Weak.rfl' _
  | 4,_=>exact Weak.rfl' _
  | 5,_=>exact Weak.rfl' _
  | j+6,h=>exact absurd h (by show ¬ j+6<3*2; omega))
 have h2:∀ (H:List AO),H[2]?=some (.row 0 3 fun _=>.bool false)→JJ H (.osl 2 0 1 0 3) (Jw tri.worn):=fun H ho=>by
  refine Qv (M:=3) (.inl ho) (by omega) (by omega) fun j hj=>?_
  match j,hj with
  | 0,_=>exact (X3 _).sees _
  | 1,_=>exact (X3 _).sees _
  | 2,_=>exact (X3 _).sees _
  | j+3,h=>omega
 have h3:∀ (H:List AO),H[3]?=some (.row 0 3 fun _=>.int .i64 0)→JJ H (.osl 3 0 1 0 3) (X8 tri.marks):=fun H ho=>by
  refine Qv (M:=3) (.inl ho) (by omega) (by omega) fun j hj=>?_
  match j,hj with
  | 0,_=>exact (X9 _).sees _
  | 1,_=>exact (X9 _).sees _
  | 2,_=>exact (X9 _).sees _
  | j+3,h=>omega
 have h4:∀ (H:List AO) (f:Nat→AV) (t:Bool),JJ H (.sl 0 0 f t) (X8 (RQ.of 0).pd):=fun H f t=>by
  have e:(RQ.of 0).pd=[]:=by rw [← Gk]; rfl
  rw [e]; exact Xr (X7 _) (Ql _ _)
 have h5:∀ (H:List AO) (f:Nat→AV) (t:Bool),JJ H (.sl 0 0 f t) (X8 (RQ.of 0).qd):=fun H f t=>by
  have e:(RQ.of 0).qd=[]:=by rw [← Gk]; rfl
  rw [e]; exact Xr (X7 _) (Ql _ _)
 have h6:∀ (H:List AO),JJ H (.bool false) (.bool (RQ.of 0).pn):=fun H=>by
  have e:(RQ.of 0).pn=false:=by rw [← Gk]; rfl
  rw [e]; exact (X3 _).sees _
 refine G3 rfl MP rfl rfl rfl ?_
 exact ZZ ⟨(X9 _).sees _,(X9 _).sees _,h1 _,h2 _ rfl,h3 _ rfl,(X3 _).sees _,(X7 _).sees _,(X3 _).sees _,(X7 _).sees _,(X3 _).sees _,(X7 _).sees _,(X3 _).sees _,(X7 _).sees _,(X3 _).sees _,(X7 _).sees _,(X3 _).sees _,(X7 _).sees _,(X3 _).sees _,(X7 _).sees _,(X3 _).sees _,(X7 _).sees _,h6 _,h4 _ _ _,(X3 _).sees _,h5 _ _ _,trivial⟩
theorem CK (p q:Int) (hp:Z4 p) (hq:Z4 q):qb (Rat.divInt p q)≤3:=KA _ _ _ (by omega) (QM hp) (QM hq)
theorem DH (p q:Int) (hp:Z4 p) (hq:Z4 q):(RQ.of (Rat.divInt p q)).sz≤3:=Nat.le_trans (RQ.of_sz _) (CK p q hp hq)
theorem ZI:tri.small:=by
 have h1:=DH 1 2 ⟨by omega,by omega⟩ ⟨by omega,by omega⟩
 have h2:=DH 1 1 ⟨by omega,by omega⟩ ⟨by omega,by omega⟩
 have h3:=DH 2 1 ⟨by omega,by omega⟩ ⟨by omega,by omega⟩
 have h4:(RQ.of 0).sz≤0:=by rw [← Gk]; exact Nat.le_refl _
 exact ⟨by show 3<_; omega,by show 3<_; omega,by show 3<_; omega,by show (RQ.of (Rat.divInt 1 2)).sz≤_; omega,by show (RQ.of (Rat.divInt 1 1)).sz≤_; omega,by show (RQ.of (Rat.divInt 2 1)).sz≤_; omega,by show (RQ.of (Rat.divInt 1 1)).sz≤_; omega,by show (RQ.of 0).sz≤_; omega⟩
def cst:PV:=ZP tri 7 1 (KO+Rat.divInt 1 4)
theorem ie:Am (Xz tri.rim):=by
 refine ⟨⟨by decide,by decide⟩,fun i hi=>?_,by decide +kernel⟩
 have hi':i<3:=hi
 have h:∀ i,i<3→¬ Cw (Xz tri.rim) i:=by
  intro i hi
  match i,hi with
  | 0,_=>unfold Cw; decide +kernel
  | 1,_=>unfold Cw; decide +kernel
  | 2,_=>unfold Cw; decide +kernel
  | i+3,h=>omega
 refine ⟨h i hi',fun k h1 h2 hb=>?_⟩
 have h2':k<3:=h2
 obtain rfl:i=0:=by omega
 obtain rfl:k=2:=by omega
 exact hb.1 (by decide)
theorem Nn (id home:Int) (t:Rat) (h1:wb id 0 999=true) (h2:wb home 0 4=true):FT (ZP tri id home t):=by
 refine ⟨fun i hi=>?_,fun i hi=>?_,h1,h2⟩
 ·match i,hi with
  | 0,_=>show Da (0,0)=true; decide
  | 1,_=>show Da (2,0)=true; decide
  | 2,_=>show Da (0,2)=true; decide
  | i+3,h=>exact absurd h (by show ¬ i+3<3; omega)
 ·match i,hi with
  | 0,_=>show GD 0=true; decide
  | 1,_=>show GD 0=true; decide
  | 2,_=>show GD 0=true; decide
  | i+3,h=>exact absurd h (by show ¬ i+3<3; omega)
theorem rB:castOf tri 7 1 KO (RQ.of (Rat.divInt 1 4))=(cst,0):=by
 have hex:∃ q:Rat,RQ.of (Rat.divInt 1 4)=RQ.of q∧0≤q:=⟨_,rfl,by decide +kernel⟩
 unfold castOf
 rw [dif_pos hex]
 have:hex.choose=Rat.divInt 1 4:=(RQ.of_inj hex.choose_spec.1).symm
 rw [this]
 have he:Kc (ZP tri 7 1 (KO+Rat.divInt 1 4))=0:=by
  unfold Kc
  rw [if_pos (Nn _ _ _ (by decide) (by decide)),if_pos]
  refine ⟨⟨by decide,by decide,by decide⟩,⟨_,_,_,_,_,⟨rfl,rfl,rfl,rfl,rfl⟩,⟨by decide +kernel,by decide +kernel,by decide +kernel,by decide +kernel⟩,⟨by decide +kernel,by decide +kernel,by decide +kernel⟩,by decide +kernel⟩,ie⟩
 simp only [he,if_true]
 rfl
theorem rC:castOf tri 7 1 KO (RQ.of (Rat.divInt 15 4))=(HB,1):=by
 have hex:∃ q:Rat,RQ.of (Rat.divInt 15 4)=RQ.of q∧0≤q:=⟨_,rfl,by decide +kernel⟩
 unfold castOf
 rw [dif_pos hex]
 have:hex.choose=Rat.divInt 15 4:=(RQ.of_inj hex.choose_spec.1).symm
 rw [this]
 have he:Kc (ZP tri 7 1 (KO+Rat.divInt 15 4))=1:=by
  unfold Kc
  rw [if_pos (Nn _ _ _ (by decide) (by decide)),if_neg]
  rintro ⟨_,⟨t,l,h,s,r,⟨e1,_⟩,⟨_,ht,_⟩,_⟩,_⟩
  have:=RQ.of_inj e1
  rw [← this] at ht
  revert ht
  decide +kernel
 simp only [he]
 rfl
theorem rD:castOf tri 7 1 KO (RQ.of (Rat.divInt (-1) 4))=(HB,1):=by
 unfold castOf
 rw [dif_neg]
 rintro ⟨q,e,h⟩
 rw [← RQ.of_inj e] at h
 revert h
 decide +kernel
def exJ:List (Int×Int):=[(0,1),(2,1),(2,3)]
def sv:List Int:=[-1,-1,0,1]
def qW:List (Int×Int×Int):=[(1,2,0),(2,2,0),(2,3,1)]
theorem eg:KC exJ sv 3=qW:=by
 decide +kernel
theorem Mw:cst.small:=by
 have h:=ZI
 have h1:=RQ.of_sz (KO+Rat.divInt 1 4)
 have h2:=Jq KO (Rat.divInt 1 4)
 have h3:=CK 1 2 ⟨by omega,by omega⟩ ⟨by omega,by omega⟩
 have h4:=CK 1 4 ⟨by omega,by omega⟩ ⟨by omega,by omega⟩
 have h5:KO=Rat.divInt 1 2:=rfl
 rw [h5] at h1 h2
 exact ⟨h.rim,h.worn,h.marks,by show (RQ.of (KO+Rat.divInt 1 4)).sz≤_; rw [h5]; omega,h.light,h.heavy,h.strength,h.rough⟩
theorem PW:Fn Tryz.prog 27 [] (.bool true):=by
 have hq:qb KO≤3:=CK 1 2 ⟨by omega,by omega⟩ ⟨by omega,by omega⟩
 have o1:=Jk 1 4 ⟨by omega,by omega⟩ ⟨by omega,by omega⟩
 have o2:=Jk 15 4 ⟨by omega,by omega⟩ ⟨by omega,by omega⟩
 have o3:=Jk (-1) 4 ⟨by omega,by omega⟩ ⟨by omega,by omega⟩
 have o4:=Jk 3 4 ⟨by omega,by omega⟩ ⟨by omega,by omega⟩
 have z1:=DH 1 4 ⟨by omega,by omega⟩ ⟨by omega,by omega⟩
 have z2:=DH 15 4 ⟨by omega,by omega⟩ ⟨by omega,by omega⟩
 have z3:=DH (-1) 4 ⟨by omega,by omega⟩ ⟨by omega,by omega⟩
 have k1:=Gt tri ZI 7 1 (RQ.of (Rat.divInt 1 4)) (by omega) (a:=KO) rfl (by omega)
 have k2:=Gt tri ZI 7 1 (RQ.of (Rat.divInt 15 4)) (by omega) (a:=KO) rfl (by omega)
 have k3:=Gt tri ZI 7 1 (RQ.of (Rat.divInt (-1) 4)) (by omega) (a:=KO) rfl (by omega)
 rw [rB] at k1
 rw [rC] at k2
 rw [rD] at k3
 have ct:=Sd
 refine Fn.intro (fn:=Tryz.f27) Tryz.call27 Tryz.func27 rfl mixed 10 [] [2,3,4,30000001,40000001,50000001] [] (by kernel_rfl) (Nat.le_of_ble_eq_true rfl) (by simp) (X1 1000 ?_)
 simp only [AS.start,↓X2,wA,seval,wE]
 refine X0 ct rfl ?_
 simp only [Q3,XC,↓X2,wA,seval,wE]
 refine X0 o1 rfl ?_
 simp only [Q3,XC,↓X2,wA,seval,wE]
 refine X0 k1 rfl ?_
 simp only [Q3,XC,↓X2,wA,seval,wE]
 refine X0 o2 rfl ?_
 simp only [Q3,XC,↓X2,wA,seval,wE]
 refine X0 k2 rfl ?_
 simp only [Q3,XC,↓X2,wA,seval,wE]
 refine X0 o3 rfl ?_
 simp only [Q3,XC,↓X2,wA,seval,wE]
 refine X0 k3 rfl ?_
 simp only [Q3,XC,↓X2,wA,seval,wE]
 have kd:Fn Tryz.prog 97 [C6 exJ,X8 sv] (BS qW):=by
  have:=dG exJ sv (by decide) (by decide)
  rwa [show exJ.length=3 from rfl,eg] at this
 have wj1:Weak (.sl 3 6 (Xq [I 0,I 1,I 2,I 1,I 2,I 3]) true) (C6 exJ):=A7 rfl (Nat.le_refl _) fun j hj=>by
  match j,hj with
  | 0,_=>exact Weak.rfl' _
  | 1,_=>exact Weak.rfl' _
  | 2,_=>exact Weak.rfl' _
  | 3,_=>exact Weak.rfl' _
  | 4,_=>exact Weak.rfl' _
  | 5,_=>exact Weak.rfl' _
  | j+6,h=>exact absurd h (by show ¬ j+6<3*2; omega)
 have wp1:Weak (.sl 4 4 (Xq [I (-1),I (-1),I 0,I 1]) true) (X8 sv):=A7 rfl (Nat.le_refl _) fun j hj=>by
  match j,hj with
  | 0,_=>exact Weak.rfl' _
  | 1,_=>exact Weak.rfl' _
  | 2,_=>exact Weak.rfl' _
  | 3,_=>exact Weak.rfl' _
  | j+4,h=>exact absurd h (by show ¬ j+4<4; omega)
 have wd1:Weak (.sl 3 9 (Xq [I 1,I 2,I 0,I 2,I 2,I 0,I 2,I 3,I 1]) true) (BS qW):=A7 rfl (Nat.le_refl _) fun j hj=>by
  match j,hj with
  | 0,_=>exact Weak.rfl' _
  | 1,_=>exact Weak.rfl' _
  | 2,_=>exact Weak.rfl' _
  | 3,_=>exact Weak.rfl' _
  | 4,_=>exact Weak.rfl' _
  | 5,_=>exact Weak.rfl' _
  | 6,_=>exact Weak.rfl' _
  | 7,_=>exact Weak.rfl' _
  | 8,_=>exact Weak.rfl' _
  | j+9,h=>exact absurd h (by show ¬ j+9<3*3; omega)
 refine Qq kd ⟨wj1,wp1,trivial⟩ ?_
 have i1:(cst.id=7)=True:=eq_true rfl
 have i2:(cst.home=1)=True:=eq_true rfl
 simp only [Q3,XC,i1,i2,Int.reduceEq,↓X2,wA,seval,wE]
 refine X0 o4 rfl ?_
 simp only [Q3,XC,i1,i2,Int.reduceEq,↓X2,wA,seval,wE]
 have et:cst.tol=RQ.of (Rat.divInt 3 4):=by
  show RQ.of (KO+Rat.divInt 1 4)=_
  rw [show KO+Rat.divInt 1 4=Rat.divInt 3 4 by decide +kernel]
 have z4:=DH 3 4 ⟨by omega,by omega⟩ ⟨by omega,by omega⟩
 have ks:=Aq cst.tol (RQ.of (Rat.divInt 3 4)) (by rw [et]; omega) (by omega)
 rw [decide_eq_true et] at ks
 refine X0 ks rfl ?_
 simp only [Q3,XC,i1,i2,Int.reduceEq,↓X2,wA,seval,wE]
 refine X0 (ge qW (by decide)) rfl ?_
 simp only [Q3,XC,i1,i2,Int.reduceEq,↓X2,wA,seval,wE]
 have kk:=YQ qW qW (by decide) (by decide)
 rw [decide_eq_true rfl] at kk
 refine Qq kk ⟨Weak.rfl' _,wd1,trivial⟩ ?_
 simp only [Q3,XC,i1,i2,Int.reduceEq,↓X2,wA,seval,wE]
 have is1:=Fy tri cst ZI Mw (a:=KO) (b:=KO+Rat.divInt 1 4) rfl rfl
 rw [decide_eq_true ⟨rfl,by decide +kernel⟩] at is1
 have is2:=Fy cst tri Mw ZI (a:=KO+Rat.divInt 1 4) (b:=KO) rfl rfl
 rw [decide_eq_false (fun h=>by have:=h.2; revert this; decide +kernel)] at is2
 have is3:=Fy tri tri ZI ZI (a:=KO) (b:=KO) rfl rfl
 rw [decide_eq_true ⟨rfl,Rat.le_refl⟩] at is3
 refine X0 is1 rfl ?_
 simp only [Q3,XC,↓X2,wA,seval,wE]
 refine X0 is2 rfl ?_
 simp only [Q3,XC,↓X2,wA,seval,wE]
 refine X0 is3 rfl ?_
 simp only [↓X2,wA,seval,wE]
 exact Xs rfl rfl (X3 _) rfl
end
end Go.Ab.N
namespace Go.Ab.N
open Go Go.RowKit Go.Proofs
noncomputable section
set_option maxRecDepth 10000
set_option maxHeartbeats 2000000
open Classical
theorem Ng (a b:Int) (la:bl a<4611686018427387904) (lb:bl b<4611686018427387904):Fn Tryz.prog 186 [zA a,zA b] (I (a - b).sign):=by
 unfold bl at la lb
 have c1:=AE (Xb b.natAbs) (Xb a.natAbs) (XO _) (XO _) lb
 have c2:=AE (Xb a.natAbs) (Xb b.natAbs) (XO _) (XO _) la
 rw [XA,XA] at c1 c2
 obtain ⟨V,hV⟩:∃ V,V=(a - b).sign:=⟨_,rfl⟩
 rw [← hV]
 have fin:∀ {s:AS} {v:Int},s.get 4=I v→v=V→RetOk (Qn Tryz.prog Tryz.f186 [] [] (I V)) s:=fun h e=>Xs rfl h (X9 _) (by rw [e])
 refine Fq Tryz.call186 Tryz.func186 5 [] [] [] (by simp [XE]) (X1 1000 ?_)
 by_cases ha:a<0
 ·have f1:(a<0)=True:=eq_true ha
  by_cases hb:b<0
  ·have f2:(b<0)=True:=eq_true hb
   simp only [AS.start,f1,f2,nN,↓X2,wA,seval,wE]
   refine X0 c1 rfl ?_
   simp only [↓X2,wA,seval,wE]
   refine fin rfl ?_
   rw [hV]; congr 1; omega
  ·have f2:(b<0)=False:=eq_false hb
   simp only [AS.start,f1,f2,nM,↓X2,wA,seval,wE]
   refine fin rfl ?_
   rw [hV,Int.sign_eq_neg_one_of_neg (by omega)]
 ·have f1:(a<0)=False:=eq_false ha
  by_cases hb:b<0
  ·have f2:(b<0)=True:=eq_true hb
   simp only [AS.start,f1,f2,nL,↓X2,wA,seval,wE]
   refine fin rfl ?_
   rw [hV,Int.sign_eq_one_of_pos (by omega)]
  ·have f2:(b<0)=False:=eq_false hb
   simp only [AS.start,f1,f2,nK,↓X2,wA,seval,wE]
   refine X0 c2 rfl ?_
   simp only [↓X2,wA,seval,wE]
   refine fin rfl ?_
   rw [hV]; congr 1; omega
theorem U0 (a:Int) (la:bl a<4611686018427387904):Fn Tryz.prog 173 [zA a] (I a.sign):=by
 have c:=Ng a 0 la (by unfold bl; rw [Int.natAbs_zero,XZ]; decide)
 rw [Int.sub_zero] at c
 refine Fq Tryz.call173 Tryz.func173 3 [] [] [] (by simp [wS]) (X1 1000 ?_); simp (config:={ maxSteps:=2000000 }) only [AS.start,↓X2,wA,seval,wE]
 refine Qq c ⟨Weak.rfl' _,?_,trivial⟩ ?_
 ·exact XS ⟨Weak.rfl' _,QJ (by rw [Int.natAbs_zero,XZ]),trivial⟩
 simp only [↓X2,wA,seval,wE]
 exact Xs rfl rfl (X9 _) rfl
theorem ZE (r:Rat):Fn Tryz.prog 162 [qA r] (zA r.den):=by
 obtain ⟨R,hR⟩:∃ R,R=zA r.den:=⟨_,rfl⟩
 have sR:Settled R:=hR▸XE _
 rw [← hR]
 rw [iL] at hR
 by_cases h:r.den=1
 ·have f1:((Xb (qd r)).length=0)=True:=eq_true ((CL r).2 h)
  have f2:(((Xb (qd r)).length:Int)=0)=True:=eq_true (by have:=(CL r).2 h; omega)
  refine Fq Tryz.call162 Tryz.func162 3 [] [] [] (by simp [wS]) (X1 1000 ?_); simp (config:={ maxSteps:=2000000 }) only [AS.start,↓X2,wA,seval,wE]
  simp only [f1,f2,↓X2,wA,seval,wE]
  refine X0 (CQ 1 ⟨by omega,by omega⟩) rfl ?_
  simp only [↓X2,wA,seval,wE]
  exact Ju rfl XP rfl rfl rfl sR (by rw [hR,h]; rfl)
 ·have f1:((Xb (qd r)).length=0)=False:=eq_false fun e=>h ((CL r).1 e)
  have f2:(((Xb (qd r)).length:Int)=0)=False:=eq_false fun e=>h ((CL r).1 (by omega))
  refine Fq Tryz.call162 Tryz.func162 3 [] [] [] (by simp [wS]) (X1 1000 ?_); simp (config:={ maxSteps:=2000000 }) only [AS.start,↓X2,wA,seval,wE]
  simp only [f1,f2,↓X2,wA,seval,wE]
  exact Ju rfl XP rfl rfl rfl sR (by rw [hR,gr h]; rfl)
theorem AP (r:Rat) (h:qb r≤rm):Fn Tryz.prog 84 [qA r] (I r.num.sign):=by
 have h1:=JA r
 have c:=U0 r.num (by unfold rm at h; omega)
 refine Fq Tryz.call84 Tryz.func84 3 [] [] [] (by simp [wS]) (X1 1000 ?_); simp (config:={ maxSteps:=2000000 }) only [AS.start,↓X2,wA,seval,wE]
 refine X0 c rfl ?_
 simp only [↓X2,wA,seval,wE]
 exact Xs rfl rfl (X9 _) rfl
theorem QP (a b:Rat) (ha:qb a≤rm) (hb:qb b≤rm):Fn Tryz.prog 95 [qA a,qA b] (I (Q6 a b)):=by
 unfold rm at ha hb
 have a1:=JA a; have a2:=JN a; have b1:=JA b; have b2:=JN b
 have m1:=Zj a.num b.den (by unfold room; omega) (by unfold room; omega)
 have m2:=Zj b.num a.den (by unfold room; omega) (by unfold room; omega)
 have n1:=JZ a.num b.den
 have n2:=JZ b.num a.den
 have c:=Ng (a.num*b.den) (b.num*a.den) (by omega) (by omega)
 have d1:=ZE a
 have d2:=ZE b
 obtain ⟨V,hV⟩:∃ V,V=Q6 a b:=⟨_,rfl⟩
 rw [show (a.num*b.den - b.num*a.den).sign=V from hV.symm] at c
 rw [← hV]
 refine Fq Tryz.call95 Tryz.func95 5 [] [] [] (by simp [wS]) (X1 1000 ?_); simp (config:={ maxSteps:=2000000 }) only [AS.start,↓X2,wA,seval,wE]
 refine X0 d2 rfl ?_
 simp only [↓X2,wA,seval,wE]
 refine X0 m1 rfl ?_
 simp only [↓X2,wA,seval,wE]
 refine X0 d1 rfl ?_
 simp only [↓X2,wA,seval,wE]
 refine X0 m2 rfl ?_
 simp only [↓X2,wA,seval,wE]
 refine X0 c rfl ?_
 simp only [↓X2,wA,seval,wE]
 exact Xs rfl rfl (X9 _) rfl
theorem Jr (a b:Rat) (ha:qb a≤rm) (hb:qb b≤rm):Fn Tryz.prog 76 [qA a,qA b] (qA (a+b)):=by
 unfold rm at ha hb
 have a1:=JA a; have a2:=JN a; have b1:=JA b; have b2:=JN b
 have m1:=Zj a.num b.den (by unfold room; omega) (by unfold room; omega)
 have m2:=Zj b.num a.den (by unfold room; omega) (by unfold room; omega)
 have m3:=Zj a.den b.den (by unfold room; omega) (by unfold room; omega)
 have n1:=JZ a.num b.den
 have n2:=JZ b.num a.den
 have n3:=JZ a.den b.den
 have n4:=Te (a.num*b.den) (b.num*a.den)
 have s1:=Ru (a.num*b.den) (b.num*a.den) (by unfold room; omega) (by unfold room; omega)
 have k:=DZ (a.num*b.den+b.num*a.den) (a.den*b.den) (by omega) (by omega)
 have e0:a+b=Rat.divInt (a.num*b.den+b.num*a.den) (a.den*b.den):=by
  rw [Rat.add_def',KW]; push_cast; rfl
 rw [← e0] at k
 have d1:=ZE a
 have d2:=ZE b
 obtain ⟨R,hR⟩:∃ R,R=qA (a+b):=⟨_,rfl⟩
 have sR:Settled R:=hR▸Xc _
 rw [← hR] at k ⊢
 refine Fq Tryz.call76 Tryz.func76 7 [] [1,2,3,20000002,20000003,30000002,30000003,40000002,40000003,40000005,40000006] [] (by simp [wS]) (X1 1000 ?_); simp (config:={ maxSteps:=2000000 }) only [AS.start,↓X2,wA,seval,wE]
 refine X0 d2 rfl ?_
 simp only [↓X2,wA,seval,wE]
 refine X0 m1 rfl ?_
 simp only [↓X2,wA,seval,wE]
 refine X0 d1 rfl ?_
 simp only [↓X2,wA,seval,wE]
 refine X0 m2 rfl ?_
 simp only [↓X2,wA,seval,wE]
 refine X0 s1 rfl ?_
 simp only [↓X2,wA,seval,wE]
 refine X0 d1 rfl ?_
 simp only [↓X2,wA,seval,wE]
 refine X0 d2 rfl ?_
 simp only [↓X2,wA,seval,wE]
 refine X0 m3 rfl ?_
 simp only [↓X2,wA,seval,wE]
 refine X0 k rfl ?_
 simp only [hR,↓X2,wA,seval,wE]
 exact Ju rfl Qb rfl rfl rfl sR (hR.trans rfl)
theorem QR (a b:Rat) (ha:qb a≤rm) (hb:qb b≤rm):Fn Tryz.prog 189 [qA a,qA b] (qA (a*b)):=by
 unfold rm at ha hb
 have a1:=JA a; have a2:=JN a; have b1:=JA b; have b2:=JN b
 have m1:=Zj a.num b.num (by unfold room; omega) (by unfold room; omega)
 have m3:=Zj a.den b.den (by unfold room; omega) (by unfold room; omega)
 have n1:=JZ a.num b.num
 have n3:=JZ a.den b.den
 have k:=DZ (a.num*b.num) (a.den*b.den) (by omega) (by omega)
 have e0:a*b=Rat.divInt (a.num*b.num) (a.den*b.den):=by
  rw [Rat.mul_def',KW]; push_cast; rfl
 rw [← e0] at k
 have d1:=ZE a
 have d2:=ZE b
 obtain ⟨R,hR⟩:∃ R,R=qA (a*b):=⟨_,rfl⟩
 have sR:Settled R:=hR▸Xc _
 rw [← hR] at k ⊢
 refine Fq Tryz.call189 Tryz.func189 5 [] [] [] (by simp [wS]) (X1 1000 ?_); simp (config:={ maxSteps:=2000000 }) only [AS.start,↓X2,wA,seval,wE]
 refine X0 m1 rfl ?_
 simp only [↓X2,wA,seval,wE]
 refine X0 d1 rfl ?_
 simp only [↓X2,wA,seval,wE]
 refine X0 d2 rfl ?_
 simp only [↓X2,wA,seval,wE]
 refine X0 m3 rfl ?_
 simp only [↓X2,wA,seval,wE]
 refine X0 k rfl ?_
 simp only [hR,↓X2,wA,seval,wE]
 exact Ju rfl Qb rfl rfl rfl sR (hR.trans rfl)
theorem qm (r:Rat):qd (-r)=qd r:=by unfold qd; rw [Rat.neg_den]
theorem Zu (r:Rat) (h:qb r≤rm):Fn Tryz.prog 103 [qA r] (qA (-r)):=by
 unfold rm at h
 have h1:=JA r
 have c:=Lt r.num (by unfold room; omega)
 have e:qA (-r)=.agg [.bool (decide (-r.num<0)),X8 (Xb (-r.num).natAbs),.bool false,X8 (Xb (qd r))]:=by
  unfold qA qC
  rw [qm,Rat.neg_num]
 obtain ⟨R,hR⟩:∃ R,R=qA (-r):=⟨_,rfl⟩
 have sR:Settled R:=hR▸Xc _
 rw [← hR]
 refine Fq Tryz.call103 Tryz.func103 3 [] [] [] (by simp [wS]) (X1 1000 ?_); simp (config:={ maxSteps:=2000000 }) only [AS.start,↓X2,wA,seval,wE]
 refine X0 c rfl ?_
 simp only [↓X2,wA,seval,wE]
 exact Ju rfl Qb rfl rfl rfl sR (hR.trans e)
theorem Oe (r:Rat):qb (-r)=qb r:=by
 unfold qb bl
 rw [Rat.neg_den,Rat.neg_num,Int.natAbs_neg]
theorem Zv (a b:Rat) (ha:qb a≤rm) (hb:qb b≤rm):Fn Tryz.prog 188 [qA a,qA b] (qA (a - b)):=by
 have c:=Zu b hb
 have k:=Jr a (-b) ha (by rw [Oe]; exact hb)
 rw [← Rat.sub_eq_add_neg] at k
 obtain ⟨R,hR⟩:∃ R,R=qA (a - b):=⟨_,rfl⟩
 have sR:Settled R:=hR▸Xc _
 rw [← hR] at k ⊢
 refine Fq Tryz.call188 Tryz.func188 5 [] [] [] (by simp [wS]) (X1 1000 ?_); simp (config:={ maxSteps:=2000000 }) only [AS.start,↓X2,wA,seval,wE]
 refine X0 c rfl ?_
 simp only [↓X2,wA,seval,wE]
 refine X0 k rfl ?_
 simp only [hR,↓X2,wA,seval,wE]
 exact Ju rfl Qb rfl rfl rfl sR (hR.trans rfl)
theorem FX (neg:Bool) (d:List Int) (hl:d.length<4611686018427387904):Fn Tryz.prog 172 [zR neg d] (.bool (Kh neg d)):=by
 obtain ⟨V,hV⟩:∃ V,V=Kh neg d:=⟨_,rfl⟩
 rw [← hV]
 unfold Kh at hV
 have fin:∀ {s:AS} {v:Bool},s.get 2=.bool v→v=V→RetOk (Qn Tryz.prog Tryz.f172 [] [] (.bool V)) s:=fun h e=>Xs rfl h (X3 _) (by rw [e])
 refine Fq Tryz.call172 Tryz.func172 4 [] [] [] (by simp [Xk]) (X1 1000 ?_)
 simp only [AS.start,zR,↓X2,wA,seval,wE]
 refine Xe (fun i:Nat=>⟨4,[],[.any,.ref 0 0 0,.bool false,I i],[],[.row 0 2 (Xq [.bool neg,X8 d])]⟩) (fun i=>i≤d.length∧∀ j,j<i→Fk (d.getD j 0)=false) (fun i=>d.length - i) 0 ⟨by omega,by omega⟩
  (Xa rfl (by simp [Xh,I]) (by simp [Xi]) (by simp [X4])) ?_
 rintro i ⟨hi,hok⟩ next
 have w1:=wj i (by omega)
 by_cases hi2:i<d.length
 ·have f1:((i:Int)<d.length)=True:=eq_true (by omega)
  have f2:(i<d.length)=True:=eq_true hi2
  have bad:Fk (d.getD i 0)=true→false=V:=fun h=>by
   have:d.any Fk=true:=List.any_eq_true.2 ⟨d.getD i 0,Kb hi2,h⟩
   rw [hV,this]; rfl
  by_cases g1:d.getD i 0<0
  ·have k1:(d.getD i 0<0)=True:=eq_true g1
   refine X1 1000 ?_
   simp only [X4,w1,f1,f2,k1,Int.toNat_natCast,↓X2,wA,seval,wE]
   exact fin rfl (bad (by unfold Fk; rw [decide_eq_true g1]; rfl))
  have k1:(d.getD i 0<0)=False:=eq_false g1
  by_cases g2:1000000000≤d.getD i 0
  ·have k2:(1000000000≤d.getD i 0)=True:=eq_true g2
   refine X1 1000 ?_
   simp only [X4,w1,f1,f2,k1,k2,Int.toNat_natCast,↓X2,wA,seval,wE]
   exact fin rfl (bad (by unfold Fk; rw [decide_eq_true g2]; simp))
  have k2:(1000000000≤d.getD i 0)=False:=eq_false g2
  refine X1 1000 ?_
  simp only [X4,w1,f1,f2,k1,k2,Int.toNat_natCast,↓X2,wA,seval,wE]
  refine next (i+1) _ ⟨by omega,fun j hj=>?_⟩ (by omega) (Xa rfl (by simp [Xh,I]) (by simp [Xi]) (by simp [X4]))
  by_cases e:j<i
  ·exact hok j e
  ·obtain rfl:j=i:=by omega
   unfold Fk; rw [decide_eq_false g1,decide_eq_false g2]; rfl
 obtain rfl:i=d.length:=by omega
 have hall:d.any Fk=false:=by
  rw [List.any_eq_false]
  intro x hx
  obtain ⟨k,hk,rfl⟩:=List.getElem_of_mem hx
  have:=hok k hk
  rw [List.getD_eq_getElem?_getD,List.getElem?_eq_getElem hk] at this
  simpa using this
 rw [hall] at hV
 by_cases h0:d.length=0
 ·have f1:(d.length=0)=True:=eq_true h0
  have f2:((d.length:Int)=0)=True:=eq_true (by omega)
  refine X1 1000 ?_
  simp only [X4,f1,f2,Int.lt_irrefl,Nat.lt_irrefl,↓X2,wA,seval,wE]
  exact fin rfl (by rw [hV,if_pos h0]; simp)
 ·have f1:(d.length=0)=False:=eq_false h0
  have f2:((d.length:Int)=0)=False:=eq_false (by omega)
  have f3:(0<d.length)=True:=eq_true (by omega)
  have f4:(0<(d.length:Int))=True:=eq_true (by omega)
  have w2:IntKind.i64.wrap ((d.length:Int) - 1)=((d.length - 1:Nat):Int):=by rw [IntKind.wrap_i64]; omega
  have f5:(d.length - 1<d.length)=True:=eq_true (by omega)
  refine X1 1000 ?_
  simp only [X4,f1,f2,f3,f4,f5,w2,Int.toNat_natCast,Int.lt_irrefl,Nat.lt_irrefl,↓X2,wA,seval,wE]
  exact fin rfl (by rw [hV,if_neg h0]; simp)
theorem G0 (x:RQ) (hx:x.sz<1000000000):Fn Tryz.prog 83 [x.A] (.bool (decide x.ok)):=by
 unfold RQ.sz at hx
 obtain ⟨V,hV⟩:∃ V,V=decide x.ok:=⟨_,rfl⟩
 have c1:=FX x.pn x.pd (by omega)
 have c2:=FX x.qn x.qd (by omega)
 have c3:=Rc x.qn x.qd
 have bad1:Kh x.pn x.pd=false→V=false:=fun h=>by
  rw [hV]
  refine decide_eq_false ?_
  rintro ⟨r,rfl⟩
  have:Kh (RQ.of r).pn (RQ.of r).pd=true:=(KV _ _).2 ⟨r.num,rfl,rfl⟩
  rw [this] at h; cases h
 have bad2:Kh x.qn x.qd=false→V=false:=fun h=>by
  rw [hV]
  refine decide_eq_false ?_
  rintro ⟨r,rfl⟩
  have:Kh (RQ.of r).qn (RQ.of r).qd=true:=(KV _ _).2 ⟨(Ab.N.qd r:Int),by unfold RQ.of; simp,by unfold RQ.of; simp⟩
  rw [this] at h; cases h
 have fin:∀ {s:AS} {v:Bool},s.get 2=.bool v→v=V→RetOk (Qn Tryz.prog Tryz.f83 [] [] (.bool V)) s:=fun h e=>Xs rfl h (X3 _) (by rw [e])
 rw [← hV]
 refine Fq Tryz.call83 Tryz.func83 3 [] [] [] (by simp [BH]) (X1 1000 ?_)
 simp only [AS.start,RQ.A,RQ.L,↓X2,wA,seval,wE]
 refine X0 c1 rfl ?_
 by_cases v1:Kh x.pn x.pd=true
 rotate_left
 ·rw [Bool.not_eq_true] at v1
  rw [v1]
  simp only [↓X2,wA,seval,wE]
  exact fin rfl (bad1 v1).symm
 rw [v1]
 simp only [↓X2,wA,seval,wE]
 refine X0 c2 rfl ?_
 by_cases v2:Kh x.qn x.qd=true
 rotate_left
 ·rw [Bool.not_eq_true] at v2
  rw [v2]
  simp only [↓X2,wA,seval,wE]
  exact fin rfl (bad2 v2).symm
 rw [v2]
 obtain ⟨p,p1,p2⟩:=(KV _ _).1 v1
 obtain ⟨q,q1,q2⟩:=(KV _ _).1 v2
 have hok:=RQ.ok_iff x p q p1 p2 q1 q2
 have lp:bl p<1000000000:=by unfold bl; rw [← p2]; omega
 have lq:bl q<1000000000:=by unfold bl; rw [← q2]; omega
 rw [q1,q2,Ow] at c3
 have cg:=RF p q lp lq
 have cu:=O7 (Int.gcd p q)
 rw [p1,p2,q1,q2]
 have hl:((Xb q.natAbs).length=0)=(q=0):=propext (digs_len_zero.trans (by omega))
 have hlN:(Xb q.natAbs).length=0↔q=0:=digs_len_zero.trans (by omega)
 have hlI:(((Xb q.natAbs).length:Int)=0)=(q=0):=propext (by omega)
 by_cases h1:q<0
 ·have f1:(q<0)=True:=eq_true h1
  simp only [f1,↓X2,wA,seval,wE]
  exact fin rfl (by rw [hV,decide_eq_false (by rw [hok]; exact fun h=>h.1 h1)])
 have f1:(q<0)=False:=eq_false h1
 simp only [f1,↓X2,wA,seval,wE]
 have c3':=c3
 rw [decide_eq_false h1] at c3'
 refine X0 c3' rfl ?_
 by_cases h2:q=1
 ·have f2:(q=1)=True:=eq_true h2
  simp only [f1,f2,↓X2,wA,seval,wE]
  exact fin rfl (by rw [hV,decide_eq_false (by rw [hok]; exact fun h=>h.2.1 h2)])
 have f2:(q=1)=False:=eq_false h2
 by_cases h0:q=0
 ·have f3:(q=0)=True:=eq_true h0
  simp only [f1,f2,f3,hl,hlI,↓X2,wA,seval,wE]
  exact fin rfl (by rw [hV,decide_eq_true (hok.2 ⟨h1,h2,.inl h0⟩)])
 have f3:(q=0)=False:=eq_false h0
 simp only [f1,f2,f3,hl,hlI,↓X2,wA,seval,wE]
 rw [VH h1] at cg
 refine X0 cg rfl ?_
 simp only [↓X2,wA,seval,wE]
 refine X0 cu rfl ?_
 simp only [↓X2,wA,seval,wE]
 refine fin rfl ?_
 rw [hV,decide_eq_decide,hok]
 constructor
 ·intro h; exact ⟨h1,h2,.inr (by omega)⟩
 ·rintro ⟨_,_,h | h⟩
  ·exact absurd h h0
  ·rw [h]; rfl
theorem An (x y:Int) (hx:Z4 x) (hy:Z4 y):Fn Tryz.prog 106 [I x,I y] (vA ⟨x,y⟩):=by
 have e:∀ n:Int,Rat.divInt n 1=(n:Rat):=fun n=>by
  rw [show (1:Int)=((1:Nat):Int) from rfl,Rat.divInt_ofNat]
  have:=Rat.mkRat_self (n:Rat)
  rwa [Rat.num_intCast,Rat.den_intCast] at this
 obtain ⟨R,hR⟩:∃ R,R=vA ⟨x,y⟩:=⟨_,rfl⟩
 have sR:Settled R:=hR▸Xn _
 have c1:=Jk x 1 hx ⟨by omega,by omega⟩
 have c2:=Jk y 1 hy ⟨by omega,by omega⟩
 rw [e] at c1 c2
 rw [← hR]
 refine Fq Tryz.call106 Tryz.func106 5 [] [] [] (by simp [wS]) (X1 1000 ?_); simp (config:={ maxSteps:=2000000 }) only [AS.start,↓X2,wA,seval,wE]
 refine X0 c1 rfl ?_
 simp only [↓X2,wA,seval,wE]
 refine X0 c2 rfl ?_
 simp only [↓X2,wA,seval,wE]
 exact Z7 rfl Jh rfl rfl rfl sR (hR.trans rfl)
theorem JB (a b:V2) (ha:vb a≤rm) (hb:vb b≤rm):Fn Tryz.prog 104 [vA a,vA b] (vA (a.sub b)):=by
 obtain ⟨R,hR⟩:∃ R,R=vA (a.sub b):=⟨_,rfl⟩
 have sR:Settled R:=hR▸Xn _
 have:=Qw a; have:=Qw b; have:=Qr a; have:=Qr b
 have c1:=Zv a.x b.x (by omega) (by omega)
 have c2:=Zv a.y b.y (by omega) (by omega)
 rw [← hR]
 refine Fq Tryz.call104 Tryz.func104 5 [] [] [] (by simp [wS]) (X1 1000 ?_); simp (config:={ maxSteps:=2000000 }) only [AS.start,↓X2,wA,seval,wE]
 refine X0 c1 rfl ?_
 simp only [↓X2,wA,seval,wE]
 refine X0 c2 rfl ?_
 simp only [↓X2,wA,seval,wE]
 exact Z7 rfl Jh rfl rfl rfl sR (hR.trans rfl)
theorem FY (a b:V2) (ha:vb a≤vm) (hb:vb b≤vm):Fn Tryz.prog 195 [vA a,vA b] (qA (Qs a b)):=by
 unfold vm at ha hb
 obtain ⟨R,hR⟩:∃ R,R=qA (Qs a b):=⟨_,rfl⟩
 have sR:Settled R:=hR▸Xc _
 have:=Qw a; have:=Qw b; have:=Qr a; have:=Qr b
 have m1:=Qx a.x b.y; have m2:=Qx a.y b.x
 have c1:=QR a.x b.y (by unfold rm; omega) (by unfold rm; omega)
 have c2:=QR a.y b.x (by unfold rm; omega) (by unfold rm; omega)
 have c4:=Zv (a.x*b.y) (a.y*b.x) (by unfold rm; omega) (by unfold rm; omega)
 rw [show a.x*b.y - a.y*b.x=Qs a b from rfl,← hR] at c4
 rw [← hR]
 refine Fq Tryz.call195 Tryz.func195 5 [] [] [] (by simp [wS]) (X1 1000 ?_); simp (config:={ maxSteps:=2000000 }) only [AS.start,↓X2,wA,seval,wE]
 refine X0 c1 rfl ?_
 simp only [↓X2,wA,seval,wE]
 refine X0 c2 rfl ?_
 simp only [↓X2,wA,seval,wE]
 refine X0 c4 rfl ?_
 simp only [hR,↓X2,wA,seval,wE]
 exact Z7 rfl Qb rfl rfl rfl sR (hR.trans rfl)
theorem KP (a b:V2) (ha:vb a≤vm) (hb:vb b≤vm):Fn Tryz.prog 193 [vA a,vA b] (qA (Qa a b)):=by
 unfold vm at ha hb
 obtain ⟨R,hR⟩:∃ R,R=qA (Qa a b):=⟨_,rfl⟩
 have sR:Settled R:=hR▸Xc _
 have:=Qw a; have:=Qw b; have:=Qr a; have:=Qr b
 have m1:=Qx a.x b.x; have m2:=Qx a.y b.y
 have c1:=QR a.x b.x (by unfold rm; omega) (by unfold rm; omega)
 have c2:=QR a.y b.y (by unfold rm; omega) (by unfold rm; omega)
 have c4:=Jr (a.x*b.x) (a.y*b.y) (by unfold rm; omega) (by unfold rm; omega)
 rw [show a.x*b.x+a.y*b.y=Qa a b from rfl,← hR] at c4
 rw [← hR]
 refine Fq Tryz.call193 Tryz.func193 5 [] [] [] (by simp [wS]) (X1 1000 ?_); simp (config:={ maxSteps:=2000000 }) only [AS.start,↓X2,wA,seval,wE]
 refine X0 c1 rfl ?_
 simp only [↓X2,wA,seval,wE]
 refine X0 c2 rfl ?_
 simp only [↓X2,wA,seval,wE]
 refine X0 c4 rfl ?_
 simp only [hR,↓X2,wA,seval,wE]
 exact Z7 rfl Qb rfl rfl rfl sR (hR.trans rfl)
theorem AN (a b c:V2) (ha:vb a≤vs) (hb:vb b≤vs) (hc:vb c≤vs):Fn Tryz.prog 182 [vA a,vA b,vA c] (I (Jd a b c)):=by
 unfold vs at ha hb hc
 have m1:=K5 b a; have m2:=K5 c a
 have c1:=JB b a (by unfold rm; omega) (by unfold rm; omega)
 have c2:=JB c a (by unfold rm; omega) (by unfold rm; omega)
 have c3:=FY (b.sub a) (c.sub a) (by unfold vm; omega) (by unfold vm; omega)
 have q:=Cp (b.sub a) (c.sub a)
 have c4:=AP (Qs (b.sub a) (c.sub a)) (by unfold rm; omega)
 refine Fq Tryz.call182 Tryz.func182 7 [] [] [] (by simp [wS]) (X1 1000 ?_); simp (config:={ maxSteps:=2000000 }) only [AS.start,↓X2,wA,seval,wE]
 refine X0 c1 rfl ?_
 simp only [↓X2,wA,seval,wE]
 refine X0 c2 rfl ?_
 simp only [↓X2,wA,seval,wE]
 refine X0 c3 rfl ?_
 simp only [↓X2,wA,seval,wE]
 refine X0 c4 rfl ?_
 simp only [↓X2,wA,seval,wE]
 exact Xs rfl rfl (X9 _) rfl
def V2.turned (a:V2):V2:=⟨-a.y,a.x⟩
theorem Nq (a:V2):vb a.turned=vb a:=by
 unfold vb V2.turned
 simp only [Oe]
 omega
theorem Np (a:V2) (ha:vb a≤rm):Fn Tryz.prog 229 [vA a] (vA a.turned):=by
 have:=Qr a
 have c:=Zu a.y (by omega)
 obtain ⟨R,hR⟩:∃ R,R=vA a.turned:=⟨_,rfl⟩
 have sR:Settled R:=hR▸Xn _
 rw [← hR]
 refine Fq Tryz.call229 Tryz.func229 3 [] [] [] (by simp [wS]) (X1 1000 ?_); simp (config:={ maxSteps:=2000000 }) only [AS.start,↓X2,wA,seval,wE]
 refine X0 c rfl ?_
 simp only [↓X2,wA,seval,wE]
 exact Z7 rfl Jh rfl rfl rfl sR (hR.trans rfl)
theorem WQ (L:List V2) (i:Nat) (hn:L.length<1000000) (h0:L.length≠0) (hi:i<1000000000):Fn Tryz.prog 183 [Xp L,I i] (vA (L.getD (i % L.length) v0)):=by
 obtain ⟨R,hR⟩:∃ R,R=vA (L.getD (i % L.length) v0):=⟨_,rfl⟩
 have sR:Settled R:=hR▸Xn _
 have hm:(i:Int).tmod L.length=((i % L.length:Nat):Int):=rfl
 have hml:i % L.length<L.length:=Nat.mod_lt _ (by omega)
 have f4:(i % L.length<L.length)=True:=eq_true hml
 have f5:(i % L.length*8+8≤L.length*8)=True:=eq_true (by omega)
 have f6:((L.length:Int)=0)=False:=eq_false (by omega)
 have f6':(L.length=0)=False:=eq_false h0
 have v1:=vF L (i % L.length)
 rw [← hR]
 refine Fq Tryz.call183 Tryz.func183 5 [] [] [] (by simp [Xd,X9]) (X1 1000 ?_)
 simp only [AS.start,X5,f4,f5,f6,f6',hm,v1,Int.toNat_natCast,↓X2,wA,seval,wE]
 exact Z7 rfl Jh rfl rfl rfl sR (hR.trans rfl)
theorem O4 (L:List V2) (i:Nat) (hn:L.length<1000000) (hi:i<L.length):Fn Tryz.prog 231 [Xp L,I i] (vA (L.getD ((i+1) % L.length) v0)):=by
 obtain ⟨R,hR⟩:∃ R,R=vA (L.getD ((i+1) % L.length) v0):=⟨_,rfl⟩
 have sR:Settled R:=hR▸Xn _
 have w1:=wj i (by omega)
 rw [← hR]
 refine Fq Tryz.call231 Tryz.func231 5 [] [] [] (by simp [Xd,X9]) (X1 1000 ?_)
 by_cases h:i+1<L.length
 ·have e:(i+1) % L.length=i+1:=Nat.mod_eq_of_lt h
  have f1:(((i+1:Nat):Int)<L.length)=True:=eq_true (by omega)
  have f1':(i+1<L.length)=True:=eq_true h
  have f2:((i+1)*8+8≤L.length*8)=True:=eq_true (by omega)
  have v1:=vF L (i+1)
  rw [e] at hR
  simp only [AS.start,X5,w1,f1,f1',f2,v1,Int.toNat_natCast,↓X2,wA,seval,wE]
  exact Z7 rfl Jh rfl rfl rfl sR (hR.trans rfl)
 ·have hl:i+1=L.length:=by omega
  have e:(i+1) % L.length=0:=by rw [hl,Nat.mod_self]
  have f1:(((i+1:Nat):Int)<L.length)=False:=eq_false (by omega)
  have f1':(i+1<L.length)=False:=eq_false h
  have f2:(0<L.length)=True:=eq_true (by omega)
  have f2':((0:Int)<L.length)=True:=eq_true (by omega)
  have f3:(8≤L.length*8)=True:=eq_true (by omega)
  have v1:=vF L 0
  rw [Nat.zero_mul] at v1
  simp only [Nat.zero_add] at v1
  rw [e] at hR
  simp only [AS.start,X5,w1,f1,f1',f2,f2',f3,v1,Int.toNat_zero,↓X2,wA,seval,wE]
  exact Z7 rfl Jh rfl rfl rfl sR (hR.trans rfl)
def YZ (a b:V2):Rat:=(a.x - b.x)*(a.y+b.y)
def Ad (L:List V2):Nat→Rat
 | 0=>0
 | i+1=>Ad L i+YZ (L.getD i v0) (L.getD ((i+1) % L.length) v0)
def VA (L:List V2):Rat:=Ad L L.length*Rat.divInt 1 2
theorem mI (a b:V2):qb (YZ a b)≤2*(vb a+vb b)+2:=by
 have:=Qw a; have:=Qw b; have:=Qr a; have:=Qr b
 have m1:=F5 a.x b.x; have m2:=Jq a.y b.y
 have m3:=Qx (a.x - b.x) (a.y+b.y)
 unfold YZ; omega
theorem Sc (L:List V2) (k:Nat) (h:XV L k):∀ i,qb (Ad L i)≤(4*k+4)*i+1
 | 0=>by have:=Bc; simp only [Ad]; omega
 | i+1=>by
  have ih:=Sc L k h i
  have h1:=mI (L.getD i v0) (L.getD ((i+1) % L.length) v0)
  have h2:=h i
  have h3:=h ((i+1) % L.length)
  have h4:=Jq (Ad L i) (YZ (L.getD i v0) (L.getD ((i+1) % L.length) v0))
  have e:(4*k+4)*(i+1)=(4*k+4)*i+(4*k+4):=Nat.mul_succ _ _
  simp only [Ad]
  omega
theorem LI (L:List V2):∀ i,i<L.length→Ad L i=KF L i+(L.getD 0 v0).x*(L.getD 0 v0).y - (L.getD i v0).x*(L.getD i v0).y
 | 0,_=>by simp only [Ad,KF]; grind
 | i+1,h=>by
  have ih:=LI L i (by omega)
  have e:(i+1) % L.length=i+1:=Nat.mod_eq_of_lt h
  simp only [Ad,KF,e,ih,YZ,Qs]
  grind
theorem Ug (L:List V2):VA L=Zb L:=by
 unfold VA Zb
 congr 1
 cases hn:L.length with
 | zero=>rfl
 | succ n =>
  have ih:=LI L n (by omega)
  have e:(n+1) % L.length=0:=by rw [hn,Nat.mod_self]
  simp only [Ad,KF,e,ih,YZ,Qs]
  grind
theorem TZ (L:List V2) (k:Nat) (h:XV L k) (hk:k≤1000) (hl:L.length≤1000):Fn Tryz.prog 185 [Xp L] (qA (Zb L)):=by
 rw [← Ug]
 obtain ⟨R,hR⟩:∃ R,R=qA (VA L):=⟨_,rfl⟩
 have sR:Settled R:=hR▸Xc _
 have bv:Jj 2 (Xp L)=True:=eq_true (X6 (Xd L))
 have bT:∀ i,XI 2 (.row 0 4 (Xq (qC (Ad L i))))=True:=fun i=>eq_true (XG (by simp [qC,X7,X3]))
 rw [← hR]
 refine Fq Tryz.call185 Tryz.func185 6 [] [6,7000,70000005,7,80000003] [] (by simp [Xd]) (X1 1000 ?_)
 simp only [AS.start,X5,↓X2,wA,seval,wE]
 refine Xe (fun i:Nat=>⟨6,[],[Xp L,.any,.ref 0 0 0,.ref 1 0 0,I i,.any],[],[KE,.row 0 4 (Xq (qC (Ad L i)))]⟩) (fun i=>i≤L.length) (fun i=>L.length - i) 0 (by omega)
  ?_ ?_
 ·refine Sub.trans (A3 1 (Xq (qC 0)) rfl fun j hj=>?_) (Xa rfl (by simp [Xh,X5,I]) (by simp [Xi,Xw]) (by simp [KE,Ad]))
  match j,hj with
  | 0,_=>exact QY _ _
  | 1,_=>exact Bm (QJ (by rw [Rat.zero_num]; simp [XZ]))
  | 2,_=>exact QY _ _
  | 3,_=>exact Bm (QJ (Dy rfl))
  | j+4,h=>omega
 intro i hi next
 have w1:=wj i (by omega)
 have hq:=Sc L k h i
 have hq2:(4*k+4)*i≤4004*1000:=Nat.mul_le_mul (by omega) (by omega)
 by_cases hi2:i<L.length
 rotate_left
 ·obtain rfl:i=L.length:=by omega
  have c1:=Jk 1 2 ⟨by omega,by omega⟩ ⟨by omega,by omega⟩
  have c2:=QR (Ad L L.length) (Rat.divInt 1 2) (by unfold rm; omega) (by have:=(KA 1 2 3 (by omega) (QM ⟨by omega,by omega⟩) (QM ⟨by omega,by omega⟩):qb (Rat.divInt 1 2)≤3); unfold rm; omega)
  rw [show Ad L L.length*Rat.divInt 1 2=VA L from rfl,← hR] at c2
  refine X1 1000 ?_
  simp only [KE,X5,Int.lt_irrefl,Nat.lt_irrefl,↓X2,wA,seval,wE]
  refine X0 c1 rfl ?_
  simp only [↓X2,wA,seval,wE]
  refine X0 c2 rfl ?_
  simp only [hR,↓X2,wA,seval,wE]
  exact Ju rfl Qb rfl rfl rfl sR (hR.trans rfl)
 have f1:((i:Int)<L.length)=True:=eq_true (by omega)
 have f2:(i<L.length)=True:=eq_true hi2
 have f3:(i*8+8≤L.length*8)=True:=eq_true (by omega)
 have f4:(i*8+4≤L.length*8)=True:=eq_true (by omega)
 have f5:(i*8+4+4≤L.length*8)=True:=eq_true (by omega)
 have v1:=vF L i
 have cn:=O4 L i (by omega) hi2
 obtain ⟨b,hb⟩:∃ b,b=L.getD ((i+1) % L.length) v0:=⟨_,rfl⟩
 have h1:=h i; have h2:=h ((i+1) % L.length)
 rw [← hb] at cn h2
 have:=Qw (L.getD i v0); have:=Qr (L.getD i v0); have:=Qw b; have:=Qr b
 have m1:=F5 (L.getD i v0).x b.x; have m2:=Jq (L.getD i v0).y b.y
 have m3:=Qx ((L.getD i v0).x - b.x) ((L.getD i v0).y+b.y)
 have c1:=Zv (L.getD i v0).x b.x (by unfold rm; omega) (by unfold rm; omega)
 have c2:=Jr (L.getD i v0).y b.y (by unfold rm; omega) (by unfold rm; omega)
 have c3:=QR ((L.getD i v0).x - b.x) ((L.getD i v0).y+b.y) (by unfold rm; omega) (by unfold rm; omega)
 have c4:=Jr (Ad L i) (((L.getD i v0).x - b.x)*((L.getD i v0).y+b.y)) (by unfold rm; omega) (by unfold rm; omega)
 have e:Ad L i+((L.getD i v0).x - b.x)*((L.getD i v0).y+b.y)=Ad L (i+1):=by rw [hb]; rfl
 rw [e] at c4
 refine X1 1000 ?_
 simp only [KE,X5,w1,f1,f2,f3,f4,f5,v1,Int.toNat_natCast,↓X2,wA,seval,wE]
 refine X0 cn rfl ?_
 simp only [KE,X5,w1,f1,f2,f3,f4,f5,v1,Int.toNat_natCast,↓X2,wA,seval,wE]
 refine X0 c1 rfl ?_
 simp only [KE,X5,w1,f1,f2,f3,f4,f5,v1,Int.toNat_natCast,↓X2,wA,seval,wE]
 refine X0 c2 rfl ?_
 simp only [KE,X5,w1,f1,f2,f3,f4,f5,v1,Int.toNat_natCast,↓X2,wA,seval,wE]
 refine X0 c3 rfl ?_
 simp only [KE,X5,w1,f1,f2,f3,f4,f5,v1,Int.toNat_natCast,↓X2,wA,seval,wE]
 refine X0 c4 rfl ?_
 simp only [KE,X5,w1,f1,f2,f3,f4,f5,v1,Int.toNat_natCast,↓X2,wA,seval,wE]
 refine next (i+1) _ (by omega) (by omega) (Xy (m:=2) (Nat.zero_le _) rfl (by simp [X5,Xh,I]) (by simp [Xi]) (by simp [KE,qC,X4]) (by simp [Xx,bv]) (by simp) (by simp [KE,Xx,bT]))
end
end Go.Ab.N
