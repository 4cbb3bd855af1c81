/- Contracts of functions of these chapters, for every argument that fits, and what they need. -/
import Derived.Test.YtefjhgcndhepeaaGreatC5
set_option linter.unusedSimpArgs false
set_option linter.unusedVariables false
open Nat renaming reducePow → Y1, reduceLT → Y2, reduceLeDiff → Y3, reduceEqDiff → Y4, reduceAdd → Y5, reduceMul → Y6, reduceSub → Y7, reduceBEq → Y8, reduceDiv → Y9, reduceMod → YA
namespace Go.Ab.N
open Go Go.RowKit Go.Proofs
noncomputable section
set_option maxRecDepth 10000
set_option maxHeartbeats 4000000
open Classical
theorem X6w (r:Rat):qb r≤(RQ.of r).sz+3:=by
 unfold qb RQ.sz RQ.of bl Ab.N.qd
 simp only
 by_cases h:r.den=1
 ·rw [if_pos h,h]
  have:(X0i ((1:Nat):Int).natAbs).length≤3:=X1n ⟨by omega,by omega⟩
  omega
 ·rw [if_neg h]
  have:((r.den:Int)).natAbs=r.den:=rfl
  rw [this]
  omega
theorem XbH {x:RQ} {q:Rat} (h:x=RQ.of q):Fn Tryz.prog 66 [x.A] (I q.num.sign):=by rw [h]; exact X30 q
theorem Xxi {x y:RQ} {a b:Rat} (hx:x=RQ.of a) (hy:y=RQ.of b) (sx:x.sz≤1000000) (sy:y.sz≤1000000):Fn Tryz.prog 68 [x.A,y.A] (I (X1Z a b)):=by
 rw [hx] at sx; rw [hy] at sy
 have h1:=X6w a; have h2:=X6w b
 rw [hx,hy]; exact X2B a b (by unfold rm; omega) (by unfold rm; omega)
theorem Xuc {x:RQ} {a:Rat} (hx:x=RQ.of a) (sx:x.sz≤1000000) (b:Rat) (hb:qb b≤rm):Fn Tryz.prog 68 [x.A,qA b] (I (X1Z a b)):=by
 rw [hx] at sx
 have h1:=X6w a
 rw [hx]; exact X2B a b (by unfold rm; omega) hb
structure PV.small (p:PV):Prop where
 rim:p.rim.length<1000000
 worn:p.worn.length<1000000
 marks:p.marks.length<1000000
 tol:p.tol.sz≤1000000
 light:p.light.sz≤1000000
 heavy:p.heavy.sz≤1000000
 strength:p.strength.sz≤1000000
 rough:p.rough.sz≤1000000
def Xrr (x:RQ):Prop:=∃ q:Rat,x=RQ.of q∧¬ q.num.sign<0
def Xp5 (p:PV):Prop:=(p.rim.length≤12∧p.worn.length=p.rim.length∧p.marks.length=p.rim.length) ∧
 (∃ t l h s r:Rat,(p.tol=RQ.of t∧p.light=RQ.of l∧p.heavy=RQ.of h∧p.strength=RQ.of s∧p.rough=RQ.of r)∧(0≤t∧t≤4∧0≤r∧r≤4)∧(0<l∧l≤h∧h≤1000)∧0<s)∧X5j (X0Q p.rim)
def X2E (p:PV):Int:=if Xai p then (if Xp5 p then 0 else 1) else 5
theorem X3y (q:Rat):q.num.sign<0↔q<0:=by rw [Int.sign_neg_iff,Rat.lt_iff]; simp
theorem X8y (q:Rat):0<q.num.sign↔0<q:=by rw [Int.sign_pos_iff,Rat.lt_iff]; simp
theorem X4Z (q:Rat):q.num.sign=0↔q=0:=by rw [Int.sign_eq_zero_iff_zero]; exact Rat.num_eq_zero
theorem XiZ (n:Int):Rat.divInt n 1=(n:Rat):=by
 rw [show (1:Int)=((1:Nat):Int) from rfl,Rat.divInt_ofNat]
 have:=Rat.mkRat_self (n:Rat)
 rwa [Rat.num_intCast,Rat.den_intCast] at this
theorem XbE (p:PV) (h:∀ i,i<p.rim.length→Xdp (p.rim.getD i (0,0))=true):X0Y (X0Q p.rim) 1000:=by
 intro i
 by_cases hi:i<p.rim.length
 ·have h1:(X0Q p.rim).getD i v0=ptV (p.rim.getD i (0,0)):=by
   unfold X0Q
   rw [List.getD_eq_getElem?_getD,List.getD_eq_getElem?_getD,List.getElem?_map,List.getElem?_eq_getElem hi]; rfl
  have hok:=h i hi
  unfold Xdp wb at hok
  simp only [Bool.and_eq_true,decide_eq_true_eq] at hok
  rw [h1]
  have q1:=X3j (p.rim.getD i (0,0)).1 3 (by omega) (X1n ⟨by omega,by omega⟩)
  have q2:=X3j (p.rim.getD i (0,0)).2 3 (by omega) (X1n ⟨by omega,by omega⟩)
  unfold vb ptV
  simp only
  omega
 ·have h1:(X0Q p.rim).getD i v0=v0:=by
   rw [List.getD_eq_getElem?_getD,List.getElem?_eq_none (by simp [X0Q]; omega)]; rfl
  rw [h1]
  have:=X5G
  unfold vb v0
  simp only
  omega
theorem XaX (p:PV) (hs:p.small):Fn Tryz.prog 22 [pvA p] (I (X2E p)):=by
 obtain ⟨V,hV⟩:∃ V,V=X2E p:=⟨_,rfl⟩
 have fin:∀ {s:AS} {v:Int},s.get 2=I v→v=V→RetOk (X2f Tryz.prog Tryz.f22 [] [] (I V)) s:=fun h e=>X0r rfl h (X08 _) (by rw [e])
 have c0:=Xja p hs.rim hs.marks
 rw [← hV]
 refine Fq Tryz.call22 Tryz.func22 9 [32,33] [] [] (by simp [X0o]) (X00 1000 ?_)
 simp only [AS.start,pvA,pvC,↓X03,wA,↓reduceIte,reduceIte,reduceCtorEq,Y1,Y2,Y3,Y4,Y5,Y6,Y7,Y8,Y9,YA,wE]
 refine X01 c0 rfl ?_
 by_cases hro:Xai p
 rotate_left
 ·rw [decide_eq_false hro]
  simp only [↓X03,wA,↓reduceIte,reduceIte,reduceCtorEq,Y1,Y2,Y3,Y4,Y5,Y6,Y7,Y8,Y9,YA,wE]
  exact fin rfl (by rw [hV]; unfold X2E; rw [if_neg hro])
 rw [decide_eq_true hro]
 have hV1:V=if Xp5 p then 0 else 1:=by rw [hV]; unfold X2E; rw [if_pos hro]
 have bad:¬ Xp5 p→(1:Int)=V:=fun h=>by rw [hV1,if_neg h]
 by_cases g1:(12:Int)<p.rim.length
 ·have f1:((12:Int)<p.rim.length)=True:=eq_true g1
  simp only [f1,↓X03,wA,↓reduceIte,reduceIte,reduceCtorEq,Y1,Y2,Y3,Y4,Y5,Y6,Y7,Y8,Y9,YA,wE]
  exact fin rfl (bad fun h=>by have:=h.1.1; omega)
 have f1:((12:Int)<p.rim.length)=False:=eq_false g1
 by_cases g2:p.worn.length=p.rim.length
 rotate_left
 ·have f2:(p.worn.length=p.rim.length)=False:=eq_false g2
  have f2':((p.worn.length:Int)=p.rim.length)=False:=eq_false (by omega)
  simp only [f1,f2,f2',↓X03,wA,↓reduceIte,reduceIte,reduceCtorEq,Y1,Y2,Y3,Y4,Y5,Y6,Y7,Y8,Y9,YA,wE]
  exact fin rfl (bad fun h=>g2 h.1.2.1)
 have f2:(p.worn.length=p.rim.length)=True:=eq_true g2
 have f2':((p.worn.length:Int)=p.rim.length)=True:=eq_true (by omega)
 by_cases g3:p.marks.length=p.rim.length
 rotate_left
 ·have f3:(p.marks.length=p.rim.length)=False:=eq_false g3
  have f3':((p.marks.length:Int)=p.rim.length)=False:=eq_false (by omega)
  simp only [f1,f2,f2',f3,f3',↓X03,wA,↓reduceIte,reduceIte,reduceCtorEq,Y1,Y2,Y3,Y4,Y5,Y6,Y7,Y8,Y9,YA,wE]
  exact fin rfl (bad fun h=>g3 h.1.2.2)
 have f3:(p.marks.length=p.rim.length)=True:=eq_true g3
 have f3':((p.marks.length:Int)=p.rim.length)=True:=eq_true (by omega)
 simp only [f1,f2,f2',f3,f3',↓X03,wA,↓reduceIte,reduceIte,reduceCtorEq,Y1,Y2,Y3,Y4,Y5,Y6,Y7,Y8,Y9,YA,wE]
 have cn:=X8s p
 refine X01 cn rfl ?_
 simp only [X9Z,↓X03,wA,↓reduceIte,reduceIte,reduceCtorEq,Y1,Y2,Y3,Y4,Y5,Y6,Y7,Y8,Y9,YA,wE]
 refine X0d (fun i:Nat=>⟨9,[32,33],[.any,.ref 0 0 0,I 0,I p.rim.length,.any,.any,.any,.any,.any],[(32,.agg (X9Z p)),(33,I i)],[.row 0 25 (ofL (pvC p))]⟩) (fun i=>i≤5∧∀ j,j<i→Xrr (p.num j)) (fun i=>5 - i) 0 ⟨by omega,by omega⟩
  (X09 rfl (by simp [X0p,I]) (by simp [X0q,X0P,X9Z,X04,I]) (by simp [pvC,X0e,X0j,X04,I])) ?_
 rintro i ⟨hi,hok⟩ next
 have bn:Bel 1 (.agg (X9Z p))=True:=eq_true (X06 (X0V (by simp [X9Z,X07,X02])))
 have bo:X1j 1 (.row 0 25 (ofL (pvC p)))=True:=eq_true (X0B (X0w p))
 have badi:∀ j,j<5→¬ Xrr (p.num j)→(1:Int)=V:=fun j hj hn=>bad fun h=>by
  obtain ⟨t,l,hh,s,r,⟨e1,e2,e3,e4,e5⟩,⟨b1,b2,b3,b4⟩,⟨b5,b6,b7⟩,b8⟩:=h.2.1
  apply hn
  match j,hj with
  | 0,_=>exact ⟨t,e1,by rw [X3y,Rat.not_lt]; exact b1⟩
  | 1,_=>exact ⟨l,e2,by rw [X3y,Rat.not_lt]; exact Rat.le_of_lt b5⟩
  | 2,_=>exact ⟨hh,e3,by rw [X3y,Rat.not_lt]; exact Rat.le_trans (Rat.le_of_lt b5) b6⟩
  | 3,_=>exact ⟨s,e4,by rw [X3y,Rat.not_lt]; exact Rat.le_of_lt b8⟩
  | 4,_=>exact ⟨r,e5,by rw [X3y,Rat.not_lt]; exact b3⟩
  | j+5,h=>omega
 have hsz:∀ j,(p.num j).sz<1000000000:=fun j=>by
  have:=hs.tol; have:=hs.light; have:=hs.heavy; have:=hs.strength; have:=hs.rough
  match j with
  | 0=>show p.tol.sz<_; omega
  | 1=>show p.light.sz<_; omega
  | 2=>show p.heavy.sz<_; omega
  | 3=>show p.strength.sz<_; omega
  | j+4=>show p.rough.sz<_; omega
 have e5:((5:Nat):Int)=5:=rfl
 by_cases hi5:i<5
 ·have c1:=X7R (p.num i) (hsz i)
  have w0:IntKind.i64.wrap (0+1)=1:=by decide
  have w1:IntKind.i64.wrap (1+1)=2:=by decide
  have w2:IntKind.i64.wrap (2+1)=3:=by decide
  have w3:IntKind.i64.wrap (3+1)=4:=by decide
  have w4:IntKind.i64.wrap (4+1)=5:=by decide
  have e0:((0:Nat):Int)=0:=rfl
  have e1:((1:Nat):Int)=1:=rfl
  have e2:((2:Nat):Int)=2:=rfl
  have e3:((3:Nat):Int)=3:=rfl
  have e4:((4:Nat):Int)=4:=rfl
  have t1:(1:Int).toNat=1:=rfl
  have t2:(2:Int).toNat=2:=rfl
  have t3:(3:Int).toNat=3:=rfl
  have t4:(4:Int).toNat=4:=rfl
  have hcase:i=0∨i=1∨i=2∨i=3∨i=4:=by omega
  by_cases hv:(p.num i).ok
  rotate_left
  ·rw [decide_eq_false hv] at c1
   have hb:=badi i hi5 fun ⟨q,hq,_⟩=>hv ⟨q,hq⟩
   rcases hcase with rfl | rfl | rfl | rfl | rfl
   all_goals
    refine X00 1000 ?_
    simp only [pvC,X9Z,e0,e1,e2,e3,e4,e5,t1,t2,t3,t4,w0,w1,w2,w3,w4,Int.reduceLT,Int.reduceLE,Int.toNat_zero,↓X03,wA,↓reduceIte,reduceIte,reduceCtorEq,Y1,Y2,Y3,Y4,Y5,Y6,Y7,Y8,Y9,YA,wE]
    refine X01 c1 rfl ?_
    simp only [↓X03,wA,↓reduceIte,reduceIte,reduceCtorEq,Y1,Y2,Y3,Y4,Y5,Y6,Y7,Y8,Y9,YA,wE]
    exact fin rfl hb
  obtain ⟨q,hq⟩:=hv
  rw [decide_eq_true ⟨q,hq⟩] at c1
  have c2:=XbH hq
  by_cases hn:q.num.sign<0
  ·have g1:(q.num.sign<0)=True:=eq_true hn
   have hb:=badi i hi5 fun ⟨q',hq',h'⟩=>by
    have:=RQ.of_inj (hq'.symm.trans hq)
    rw [this] at h'; exact h' hn
   rcases hcase with rfl | rfl | rfl | rfl | rfl
   all_goals
    refine X00 1000 ?_
    simp only [pvC,X9Z,e0,e1,e2,e3,e4,e5,t1,t2,t3,t4,w0,w1,w2,w3,w4,Int.reduceLT,Int.reduceLE,Int.toNat_zero,↓X03,wA,↓reduceIte,reduceIte,reduceCtorEq,Y1,Y2,Y3,Y4,Y5,Y6,Y7,Y8,Y9,YA,wE]
    refine X01 c1 rfl ?_
    simp only [↓X03,wA,↓reduceIte,reduceIte,reduceCtorEq,Y1,Y2,Y3,Y4,Y5,Y6,Y7,Y8,Y9,YA,wE]
    refine X01 c2 rfl ?_
    simp only [g1,↓X03,wA,↓reduceIte,reduceIte,reduceCtorEq,Y1,Y2,Y3,Y4,Y5,Y6,Y7,Y8,Y9,YA,wE]
    exact fin rfl hb
  have g1:(q.num.sign<0)=False:=eq_false hn
  have nx:=next (i+1)
  rcases hcase with rfl | rfl | rfl | rfl | rfl
  all_goals
   refine X00 1000 ?_
   simp only [pvC,X9Z,e0,e1,e2,e3,e4,e5,t1,t2,t3,t4,w0,w1,w2,w3,w4,Int.reduceLT,Int.reduceLE,Int.toNat_zero,↓X03,wA,↓reduceIte,reduceIte,reduceCtorEq,Y1,Y2,Y3,Y4,Y5,Y6,Y7,Y8,Y9,YA,wE]
   refine X01 c1 rfl ?_
   simp only [w0,w1,w2,w3,w4,↓X03,wA,↓reduceIte,reduceIte,reduceCtorEq,Y1,Y2,Y3,Y4,Y5,Y6,Y7,Y8,Y9,YA,wE]
   refine X01 c2 rfl ?_
   simp only [g1,w0,w1,w2,w3,w4,↓X03,wA,↓reduceIte,reduceIte,reduceCtorEq,Y1,Y2,Y3,Y4,Y5,Y6,Y7,Y8,Y9,YA,wE]
   refine nx _ ⟨by omega,fun j hj=>?_⟩ (by omega) (X0t (m:=1) (Nat.zero_le _) rfl (by simp [X0p,I]) (by simp [X0q,X0P,X9Z,X04,I]) (by simp [pvC,X0e,X0j,X04,I]) (by simp [X0L]) (by simp [X0L,bn]) (by simp [bo]))
   rcases Nat.lt_succ_iff_lt_or_eq.1 hj with h | h
   ·exact hok j h
   ·rw [h]; exact ⟨q,hq,hn⟩
 obtain rfl:i=5:=by omega
 obtain ⟨t,et,nt⟩:=hok 0 (by omega)
 obtain ⟨l,el,nl⟩:=hok 1 (by omega)
 obtain ⟨h,eh,nh⟩:=hok 2 (by omega)
 obtain ⟨s,es,ns⟩:=hok 3 (by omega)
 obtain ⟨r,er,nr⟩:=hok 4 (by omega)
 refine X00 1000 ?_
 simp only [pvC,e5,Int.lt_irrefl,↓X03,wA,↓reduceIte,reduceIte,reduceCtorEq,Y1,Y2,Y3,Y4,Y5,Y6,Y7,Y8,Y9,YA,wE]
 have c4:=X7P 4 1 ⟨by omega,by omega⟩ ⟨by omega,by omega⟩
 have c1000:=X7P 1000 1 ⟨by omega,by omega⟩ ⟨by omega,by omega⟩
 rw [XiZ] at c4 c1000
 have q4:qb ((4:Int):Rat)≤rm:=by
  have:=X3j 4 3 (by omega) (X1n ⟨by omega,by omega⟩)
  unfold rm; omega
 have q1000:qb ((1000:Int):Rat)≤rm:=by
  have:=X3j 1000 3 (by omega) (X1n ⟨by omega,by omega⟩)
  unfold rm; omega
 have ct:=Xuc et hs.tol ((4:Int):Rat) q4
 have cr:=Xuc er hs.rough ((4:Int):Rat) q4
 have ch:=Xuc eh hs.heavy ((1000:Int):Rat) q1000
 have clh:=Xxi el eh hs.light hs.heavy
 have i4:((4:Int):Rat)=4:=rfl
 have i1000:((1000:Int):Rat)=1000:=rfl
 have who:Xp5 p→(0≤t∧t≤4∧0≤r∧r≤4)∧(0<l∧l≤h∧h≤1000)∧0<s∧X5j (X0Q p.rim):=by
  rintro ⟨_,⟨t',l',h',s',r',⟨a1,a2,a3,a4,a5⟩,b1,b2,b3⟩,b4⟩
  have:=RQ.of_inj (a1.symm.trans et); subst this
  have:=RQ.of_inj (a2.symm.trans el); subst this
  have:=RQ.of_inj (a3.symm.trans eh); subst this
  have:=RQ.of_inj (a4.symm.trans es); subst this
  have:=RQ.of_inj (a5.symm.trans er); subst this
  exact ⟨b1,b2,b3,b4⟩
 refine X01 c4 rfl ?_
 simp only [↓X03,wA,↓reduceIte,reduceIte,reduceCtorEq,Y1,Y2,Y3,Y4,Y5,Y6,Y7,Y8,Y9,YA,wE]
 refine X01 ct rfl ?_
 by_cases ht4:X1Z t ((4:Int):Rat)≤0
 rotate_left
 ·have j1:(X1Z t ((4:Int):Rat)≤0)=False:=eq_false ht4
  have hb:=bad fun hf=>ht4 ((X5H _ _).2 (who hf).1.2.1)
  simp only [j1,↓X03,wA,↓reduceIte,reduceIte,reduceCtorEq,Y1,Y2,Y3,Y4,Y5,Y6,Y7,Y8,Y9,YA,wE]
  refine X01 (XbH el) rfl ?_
  by_cases hl0:0<l.num.sign
  rotate_left
  ·have k1:(0<l.num.sign)=False:=eq_false hl0
   simp only [j1,k1,↓X03,wA,↓reduceIte,reduceIte,reduceCtorEq,Y1,Y2,Y3,Y4,Y5,Y6,Y7,Y8,Y9,YA,wE]
   exact fin rfl hb
  have k1:(0<l.num.sign)=True:=eq_true hl0
  simp only [j1,k1,↓X03,wA,↓reduceIte,reduceIte,reduceCtorEq,Y1,Y2,Y3,Y4,Y5,Y6,Y7,Y8,Y9,YA,wE]
  refine X01 clh rfl ?_
  by_cases hlh:X1Z l h≤0
  rotate_left
  ·have k2:(X1Z l h≤0)=False:=eq_false hlh
   simp only [j1,k1,k2,↓X03,wA,↓reduceIte,reduceIte,reduceCtorEq,Y1,Y2,Y3,Y4,Y5,Y6,Y7,Y8,Y9,YA,wE]
   exact fin rfl hb
  have k2:(X1Z l h≤0)=True:=eq_true hlh
  simp only [j1,k1,k2,↓X03,wA,↓reduceIte,reduceIte,reduceCtorEq,Y1,Y2,Y3,Y4,Y5,Y6,Y7,Y8,Y9,YA,wE]
  refine X01 c1000 rfl ?_
  simp only [j1,k1,k2,↓X03,wA,↓reduceIte,reduceIte,reduceCtorEq,Y1,Y2,Y3,Y4,Y5,Y6,Y7,Y8,Y9,YA,wE]
  refine X01 ch rfl ?_
  simp only [j1,k1,k2,↓X03,wA,↓reduceIte,reduceIte,reduceCtorEq,Y1,Y2,Y3,Y4,Y5,Y6,Y7,Y8,Y9,YA,wE]
  exact fin rfl hb
 have j1:(X1Z t ((4:Int):Rat)≤0)=True:=eq_true ht4
 simp only [j1,↓X03,wA,↓reduceIte,reduceIte,reduceCtorEq,Y1,Y2,Y3,Y4,Y5,Y6,Y7,Y8,Y9,YA,wE]
 refine X01 cr rfl ?_
 by_cases hr4:X1Z r ((4:Int):Rat)≤0
 rotate_left
 ·have j2:(X1Z r ((4:Int):Rat)≤0)=False:=eq_false hr4
  have hb:=bad fun hf=>hr4 ((X5H _ _).2 (who hf).1.2.2.2)
  simp only [j1,j2,↓X03,wA,↓reduceIte,reduceIte,reduceCtorEq,Y1,Y2,Y3,Y4,Y5,Y6,Y7,Y8,Y9,YA,wE]
  refine X01 (XbH el) rfl ?_
  by_cases hl0:0<l.num.sign
  rotate_left
  ·have k1:(0<l.num.sign)=False:=eq_false hl0
   simp only [j1,j2,k1,↓X03,wA,↓reduceIte,reduceIte,reduceCtorEq,Y1,Y2,Y3,Y4,Y5,Y6,Y7,Y8,Y9,YA,wE]
   exact fin rfl hb
  have k1:(0<l.num.sign)=True:=eq_true hl0
  simp only [j1,j2,k1,↓X03,wA,↓reduceIte,reduceIte,reduceCtorEq,Y1,Y2,Y3,Y4,Y5,Y6,Y7,Y8,Y9,YA,wE]
  refine X01 clh rfl ?_
  by_cases hlh:X1Z l h≤0
  rotate_left
  ·have k2:(X1Z l h≤0)=False:=eq_false hlh
   simp only [j1,j2,k1,k2,↓X03,wA,↓reduceIte,reduceIte,reduceCtorEq,Y1,Y2,Y3,Y4,Y5,Y6,Y7,Y8,Y9,YA,wE]
   exact fin rfl hb
  have k2:(X1Z l h≤0)=True:=eq_true hlh
  simp only [j1,j2,k1,k2,↓X03,wA,↓reduceIte,reduceIte,reduceCtorEq,Y1,Y2,Y3,Y4,Y5,Y6,Y7,Y8,Y9,YA,wE]
  refine X01 c1000 rfl ?_
  simp only [j1,j2,k1,k2,↓X03,wA,↓reduceIte,reduceIte,reduceCtorEq,Y1,Y2,Y3,Y4,Y5,Y6,Y7,Y8,Y9,YA,wE]
  refine X01 ch rfl ?_
  simp only [j1,j2,k1,k2,↓X03,wA,↓reduceIte,reduceIte,reduceCtorEq,Y1,Y2,Y3,Y4,Y5,Y6,Y7,Y8,Y9,YA,wE]
  exact fin rfl hb
 have j2:(X1Z r ((4:Int):Rat)≤0)=True:=eq_true hr4
 simp only [j1,j2,↓X03,wA,↓reduceIte,reduceIte,reduceCtorEq,Y1,Y2,Y3,Y4,Y5,Y6,Y7,Y8,Y9,YA,wE]
 refine X01 (XbH el) rfl ?_
 by_cases hl0:0<l.num.sign
 rotate_left
 ·have k1:(0<l.num.sign)=False:=eq_false hl0
  simp only [j1,j2,k1,↓X03,wA,↓reduceIte,reduceIte,reduceCtorEq,Y1,Y2,Y3,Y4,Y5,Y6,Y7,Y8,Y9,YA,wE]
  exact fin rfl (bad fun hf=>hl0 ((X8y _).2 (who hf).2.1.1))
 have k1:(0<l.num.sign)=True:=eq_true hl0
 simp only [j1,j2,k1,↓X03,wA,↓reduceIte,reduceIte,reduceCtorEq,Y1,Y2,Y3,Y4,Y5,Y6,Y7,Y8,Y9,YA,wE]
 refine X01 clh rfl ?_
 by_cases hlh:X1Z l h≤0
 rotate_left
 ·have k2:(X1Z l h≤0)=False:=eq_false hlh
  simp only [j1,j2,k1,k2,↓X03,wA,↓reduceIte,reduceIte,reduceCtorEq,Y1,Y2,Y3,Y4,Y5,Y6,Y7,Y8,Y9,YA,wE]
  exact fin rfl (bad fun hf=>hlh ((X5H _ _).2 (who hf).2.1.2.1))
 have k2:(X1Z l h≤0)=True:=eq_true hlh
 simp only [j1,j2,k1,k2,↓X03,wA,↓reduceIte,reduceIte,reduceCtorEq,Y1,Y2,Y3,Y4,Y5,Y6,Y7,Y8,Y9,YA,wE]
 refine X01 c1000 rfl ?_
 simp only [j1,j2,k1,k2,↓X03,wA,↓reduceIte,reduceIte,reduceCtorEq,Y1,Y2,Y3,Y4,Y5,Y6,Y7,Y8,Y9,YA,wE]
 refine X01 ch rfl ?_
 by_cases hh1:X1Z h ((1000:Int):Rat)≤0
 rotate_left
 ·have k3:(X1Z h ((1000:Int):Rat)≤0)=False:=eq_false hh1
  simp only [j1,j2,k1,k2,k3,↓X03,wA,↓reduceIte,reduceIte,reduceCtorEq,Y1,Y2,Y3,Y4,Y5,Y6,Y7,Y8,Y9,YA,wE]
  exact fin rfl (bad fun hf=>hh1 ((X5H _ _).2 (who hf).2.1.2.2))
 have k3:(X1Z h ((1000:Int):Rat)≤0)=True:=eq_true hh1
 simp only [j1,j2,k1,k2,k3,↓X03,wA,↓reduceIte,reduceIte,reduceCtorEq,Y1,Y2,Y3,Y4,Y5,Y6,Y7,Y8,Y9,YA,wE]
 refine X01 (XbH es) rfl ?_
 by_cases hs0:s.num.sign=0
 ·have k4:(s.num.sign=0)=True:=eq_true hs0
  simp only [k4,↓X03,wA,↓reduceIte,reduceIte,reduceCtorEq,Y1,Y2,Y3,Y4,Y5,Y6,Y7,Y8,Y9,YA,wE]
  exact fin rfl (bad fun hf=>by
   have:=(who hf).2.2.1
   rw [(X4Z _).1 hs0] at this
   exact Rat.lt_irrefl this)
 have k4:(s.num.sign=0)=False:=eq_false hs0
 simp only [k4,↓X03,wA,↓reduceIte,reduceIte,reduceCtorEq,Y1,Y2,Y3,Y4,Y5,Y6,Y7,Y8,Y9,YA,wE]
 have cp:=Xex (X0Q p.rim) (XbE p hro.1) (by simp [X0Q]; exact hs.rim)
 refine X01 (XhM p hs.rim hro.1) rfl ?_
 simp only [↓X03,wA,↓reduceIte,reduceIte,reduceCtorEq,Y1,Y2,Y3,Y4,Y5,Y6,Y7,Y8,Y9,YA,wE]
 refine X01 cp rfl ?_
 by_cases hpo:X5j (X0Q p.rim)
 rotate_left
 ·rw [decide_eq_false hpo]
  simp only [↓X03,wA,↓reduceIte,reduceIte,reduceCtorEq,Y1,Y2,Y3,Y4,Y5,Y6,Y7,Y8,Y9,YA,wE]
  exact fin rfl (bad fun hf=>hpo (who hf).2.2.2)
 rw [decide_eq_true hpo]
 simp only [↓X03,wA,↓reduceIte,reduceIte,reduceCtorEq,Y1,Y2,Y3,Y4,Y5,Y6,Y7,Y8,Y9,YA,wE]
 refine fin rfl ?_
 rw [hV1,if_pos]
 refine ⟨⟨by omega,g2,g3⟩,⟨t,l,h,s,r,⟨et,el,eh,es,er⟩,⟨?_,(X5H _ _).1 ht4,?_,(X5H _ _).1 hr4⟩,⟨(X8y _).1 hl0,(X5H _ _).1 hlh,(X5H _ _).1 hh1⟩,?_⟩,hpo⟩
 ·rw [← Rat.not_lt,← X3y]; exact nt
 ·rw [← Rat.not_lt,← X3y]; exact nr
 ·rw [← X8y]
  omega
theorem PV.eq_iff (a b:PV):a=b↔(a.tol=b.tol∧a.light=b.light∧a.heavy=b.heavy∧a.strength=b.strength∧a.rough=b.rough)∧a.id=b.id∧a.home=b.home∧a.rim=b.rim∧a.worn=b.worn∧a.marks=b.marks:=by
 constructor
 ·rintro rfl; exact ⟨⟨rfl,rfl,rfl,rfl,rfl⟩,rfl,rfl,rfl,rfl,rfl⟩
 ·cases a; cases b
  rintro ⟨⟨h1,h2,h3,h4,h5⟩,h6,h7,h8,h9,h10⟩
  simp only at *
  subst h1; subst h2; subst h3; subst h4; subst h5; subst h6; subst h7; subst h8; subst h9; subst h10
  rfl
theorem XpT (a b:PV) (ha:a.small) (hb:b.small):Fn Tryz.prog 87 [pvA a,pvA b] (.bool (decide (a=b))):=by
 obtain ⟨V,hV⟩:∃ V,V=decide (a=b):=⟨_,rfl⟩
 have fin:∀ {s:AS} {v:Bool},s.get 4=.bool v→v=V→RetOk (X2f Tryz.prog Tryz.f87 [1,20000002,20000003] [] (.bool V)) s:=fun h e=>X0r rfl h (X02 _) (by rw [e])
 have ca:=X8s a
 have cb:=X8s b
 rw [← hV]
 refine Fq Tryz.call87 Tryz.func87 8 [12] [1,20000002,20000003] [] (by simp [X0o]) (X00 1000 ?_)
 simp only [AS.start,pvA,pvC,↓X03,wA,↓reduceIte,reduceIte,reduceCtorEq,Y1,Y2,Y3,Y4,Y5,Y6,Y7,Y8,Y9,YA,wE]
 refine X01 ca rfl ?_
 simp only [X9Z,↓X03,wA,↓reduceIte,reduceIte,reduceCtorEq,Y1,Y2,Y3,Y4,Y5,Y6,Y7,Y8,Y9,YA,wE]
 refine X01 cb rfl ?_
 simp only [X9Z,↓X03,wA,↓reduceIte,reduceIte,reduceCtorEq,Y1,Y2,Y3,Y4,Y5,Y6,Y7,Y8,Y9,YA,wE]
 refine X0d (fun i:Nat=>⟨8,[12],[.any,.any,.ref 0 0 0,.ref 1 0 0,.bool false,.ref 2 0 0,.ref 3 0 0,.any],[(12,I i)],[.con 0 25 (ofL (pvC a)),.con 0 25 (ofL (pvC b)),.row 0 20 (ofL (X9Z a)),.row 0 20 (ofL (X9Z b))]⟩) (fun i=>i≤5∧∀ j,j<i→a.num j=b.num j) (fun i=>5 - i) 0 ⟨by omega,by omega⟩
  (X09 rfl (by simp [X0p,I]) (by simp [X0q,X0P,I]) (by simp [pvC,X9Z,X0e,X0j,X04,I])) ?_
 rintro i ⟨hi,hok⟩ next
 have sz:∀ p:PV,p.small→∀ j,(p.num j).sz<4611686018427387904:=fun p hs j=>by
  have:=hs.tol; have:=hs.light; have:=hs.heavy; have:=hs.strength; have:=hs.rough
  match j with
  | 0=>show p.tol.sz<_; omega
  | 1=>show p.light.sz<_; omega
  | 2=>show p.heavy.sz<_; omega
  | 3=>show p.strength.sz<_; omega
  | j+4=>show p.rough.sz<_; omega
 have w0:IntKind.i64.wrap (0+1)=1:=by decide
 have w1:IntKind.i64.wrap (1+1)=2:=by decide
 have w2:IntKind.i64.wrap (2+1)=3:=by decide
 have w3:IntKind.i64.wrap (3+1)=4:=by decide
 have w4:IntKind.i64.wrap (4+1)=5:=by decide
 have e0:((0:Nat):Int)=0:=rfl
 have e1:((1:Nat):Int)=1:=rfl
 have e2:((2:Nat):Int)=2:=rfl
 have e3:((3:Nat):Int)=3:=rfl
 have e4:((4:Nat):Int)=4:=rfl
 have e5:((5:Nat):Int)=5:=rfl
 have t1:(1:Int).toNat=1:=rfl
 have t2:(2:Int).toNat=2:=rfl
 have t3:(3:Int).toNat=3:=rfl
 have t4:(4:Int).toNat=4:=rfl
 by_cases hi5:i<5
 ·have c1:=Xd8 (a.num i) (b.num i) (sz a ha i) (sz b hb i)
  have hcase:i=0∨i=1∨i=2∨i=3∨i=4:=by omega
  by_cases hv:a.num i=b.num i
  rotate_left
  ·rw [decide_eq_false hv] at c1
   have hb:false=V:=by
    rw [hV,decide_eq_false]
    intro e
    exact hv (by rw [e])
   rcases hcase with rfl | rfl | rfl | rfl | rfl
   all_goals
    refine X00 1000 ?_
    simp only [pvC,X9Z,e0,e1,e2,e3,e4,e5,t1,t2,t3,t4,w0,w1,w2,w3,w4,Int.reduceLT,Int.reduceLE,Int.toNat_zero,↓X03,wA,↓reduceIte,reduceIte,reduceCtorEq,Y1,Y2,Y3,Y4,Y5,Y6,Y7,Y8,Y9,YA,wE]
    refine X01 c1 rfl ?_
    simp only [↓X03,wA,↓reduceIte,reduceIte,reduceCtorEq,Y1,Y2,Y3,Y4,Y5,Y6,Y7,Y8,Y9,YA,wE]
    exact fin rfl hb
  rw [decide_eq_true hv] at c1
  have nx:=next (i+1)
  rcases hcase with rfl | rfl | rfl | rfl | rfl
  all_goals
   refine X00 1000 ?_
   simp only [pvC,X9Z,e0,e1,e2,e3,e4,e5,t1,t2,t3,t4,w0,w1,w2,w3,w4,Int.reduceLT,Int.reduceLE,Int.toNat_zero,↓X03,wA,↓reduceIte,reduceIte,reduceCtorEq,Y1,Y2,Y3,Y4,Y5,Y6,Y7,Y8,Y9,YA,wE]
   refine X01 c1 rfl ?_
   simp only [w0,w1,w2,w3,w4,↓X03,wA,↓reduceIte,reduceIte,reduceCtorEq,Y1,Y2,Y3,Y4,Y5,Y6,Y7,Y8,Y9,YA,wE]
   refine nx _ ⟨by omega,fun j hj=>?_⟩ (by omega) (X09 rfl (by simp [X0p,I]) (by simp [X0q,X0P,I]) (by simp [pvC,X9Z,X0e,X0j,X04,I]))
   rcases Nat.lt_succ_iff_lt_or_eq.1 hj with h | h
   ·exact hok j h
   ·rw [h]; exact hv
 obtain rfl:i=5:=by omega
 have hnum:a.tol=b.tol∧a.light=b.light∧a.heavy=b.heavy∧a.strength=b.strength∧a.rough=b.rough:=⟨hok 0 (by omega),hok 1 (by omega),hok 2 (by omega),hok 3 (by omega),hok 4 (by omega)⟩
 have hV':V=decide (a.id=b.id∧a.home=b.home∧a.rim=b.rim∧a.worn=b.worn∧a.marks=b.marks):=by
  rw [hV,decide_eq_decide,PV.eq_iff]
  exact ⟨fun h=>h.2,fun h=>⟨hnum,h⟩⟩
 have no:∀ {q:Prop},(a.id=b.id∧a.home=b.home∧a.rim=b.rim∧a.worn=b.worn∧a.marks=b.marks→q)→¬ q→false=V:=fun h hq=>by rw [hV',decide_eq_false fun hh=>hq (h hh)]
 refine X00 1000 ?_
 by_cases h1:a.id=b.id
 rotate_left
 ·have f1:(a.id=b.id)=False:=eq_false h1
  simp only [pvC,X9Z,e5,f1,Int.lt_irrefl,↓X03,wA,↓reduceIte,reduceIte,reduceCtorEq,Y1,Y2,Y3,Y4,Y5,Y6,Y7,Y8,Y9,YA,wE]
  exact fin rfl (no (fun h=>h.1) h1)
 have f1:(a.id=b.id)=True:=eq_true h1
 by_cases h2:a.home=b.home
 rotate_left
 ·have f2:(a.home=b.home)=False:=eq_false h2
  simp only [pvC,X9Z,e5,f1,f2,Int.lt_irrefl,↓X03,wA,↓reduceIte,reduceIte,reduceCtorEq,Y1,Y2,Y3,Y4,Y5,Y6,Y7,Y8,Y9,YA,wE]
  exact fin rfl (no (fun h=>h.2.1) h2)
 have f2:(a.home=b.home)=True:=eq_true h2
 simp only [pvC,X9Z,e5,f1,f2,Int.lt_irrefl,↓X03,wA,↓reduceIte,reduceIte,reduceCtorEq,Y1,Y2,Y3,Y4,Y5,Y6,Y7,Y8,Y9,YA,wE]
 have b1:=ha.rim; have b2:=hb.rim; have b3:=ha.worn; have b4:=hb.worn; have b5:=ha.marks; have b6:=hb.marks
 refine X01 (XoY a.rim b.rim (by omega) (by omega)) rfl ?_
 by_cases h3:a.rim=b.rim
 rotate_left
 ·rw [decide_eq_false h3]
  simp only [↓X03,wA,↓reduceIte,reduceIte,reduceCtorEq,Y1,Y2,Y3,Y4,Y5,Y6,Y7,Y8,Y9,YA,wE]
  exact fin rfl (no (fun h=>h.2.2.1) h3)
 rw [decide_eq_true h3]
 simp only [↓X03,wA,↓reduceIte,reduceIte,reduceCtorEq,Y1,Y2,Y3,Y4,Y5,Y6,Y7,Y8,Y9,YA,wE]
 refine X01 (Xj4 a.worn b.worn (by omega) (by omega)) rfl ?_
 by_cases h4:a.worn=b.worn
 rotate_left
 ·rw [decide_eq_false h4]
  simp only [↓X03,wA,↓reduceIte,reduceIte,reduceCtorEq,Y1,Y2,Y3,Y4,Y5,Y6,Y7,Y8,Y9,YA,wE]
  exact fin rfl (no (fun h=>h.2.2.2.1) h4)
 rw [decide_eq_true h4]
 simp only [↓X03,wA,↓reduceIte,reduceIte,reduceCtorEq,Y1,Y2,Y3,Y4,Y5,Y6,Y7,Y8,Y9,YA,wE]
 refine X01 (XdV a.marks b.marks (by omega) (by omega)) rfl ?_
 simp only [↓X03,wA,↓reduceIte,reduceIte,reduceCtorEq,Y1,Y2,Y3,Y4,Y5,Y6,Y7,Y8,Y9,YA,wE]
 refine fin rfl ?_
 rw [hV',decide_eq_decide]
 exact ⟨fun h=>⟨h1,h2,h3,h4,h⟩,fun h=>h.2.2.2.2⟩
def X5d (p c:PV):PV:=⟨p.id,p.home,c.rim,c.worn,c.marks,p.tol,c.light,c.heavy,c.strength,c.rough⟩
theorem X9V {p c:PV} (hp:p.small) (hc:c.small):(X5d p c).small:=⟨hc.rim,hc.worn,hc.marks,hp.tol,hc.light,hc.heavy,hc.strength,hc.rough⟩
theorem XcE (p c:PV) (hp:p.small) (hc:c.small) {a b:Rat} (ea:p.tol=RQ.of a) (eb:c.tol=RQ.of b):Fn Tryz.prog 21 [pvA p,pvA c] (.bool (decide (p=X5d p c∧a≤b))):=by
 have c1:=XpT p (X5d p c) hp (X9V hp hc)
 have c2:=Xxi eb ea hc.tol hp.tol
 obtain ⟨V,hV⟩:∃ V,V=decide (p=X5d p c∧a≤b):=⟨_,rfl⟩
 have fin:∀ {s:AS} {v:Bool},s.get 4=.bool v→v=V→RetOk (X2f Tryz.prog Tryz.f21 [2,30000002] [] (.bool V)) s:=fun h e=>X0r rfl h (X02 _) (by rw [e])
 rw [← hV]
 refine Fq Tryz.call21 Tryz.func21 6 [] [2,30000002] [] (by simp [X0o]) (X00 1000 ?_)
 simp only [AS.start,pvA,pvC,↓X03,wA,seval,wE]
 refine X01 c1 rfl ?_
 by_cases h:p=X5d p c
 rotate_left
 ·rw [decide_eq_false h]
  simp only [↓X03,wA,seval,wE]
  exact fin rfl (by rw [hV,decide_eq_false fun hh=>h hh.1])
 rw [decide_eq_true h]
 simp only [↓X03,wA,seval,wE]
 refine X01 c2 rfl ?_
 simp only [↓X03,wA,seval,wE]
 refine fin rfl ?_
 rw [hV,decide_eq_decide]
 exact ⟨fun hh=>⟨h,(Xad _ _).1 hh⟩,fun hh=>(Xad _ _).2 hh.2⟩
def X92:RQ:=⟨false,[],false,[]⟩
def XeU:PV:=⟨0,0,[],[],[],X92,X92,X92,X92,X92⟩
theorem X3A {f g:Nat→AV} {t:Bool}:Weak (.sl 0 0 f t) (.sl 0 0 g false):=X4e rfl (Nat.le_refl _) fun j hj=>absurd hj (Nat.not_lt_zero j)
def X1z:List AV:=[I 0,I 0,.sl 0 0 (fun _=>.any) false,.sl 0 0 (fun _=>.any) false,.sl 0 0 (fun _=>.any) false,.bool false,.sl 0 0 (fun _=>.any) false,.bool false,.sl 0 0 (fun _=>.any) false,.bool false,.sl 0 0 (fun _=>.any) false,.bool false,.sl 0 0 (fun _=>.any) false,
 .bool false,.sl 0 0 (fun _=>.any) false,.bool false,.sl 0 0 (fun _=>.any) false,.bool false,.sl 0 0 (fun _=>.any) false,.bool false,.sl 0 0 (fun _=>.any) false,.bool false,.sl 0 0 (fun _=>.any) false,.bool false,.sl 0 0 (fun _=>.any) false]
theorem Xnk:WeakL X1z (pvC XeU) :=
 ⟨Weak.rfl' _,Weak.rfl' _,X3A,X3A,X3A,Weak.rfl' _,X3A,Weak.rfl' _,X3A,Weak.rfl' _,X3A,Weak.rfl' _,X3A,Weak.rfl' _,X3A,Weak.rfl' _,X3A,Weak.rfl' _,X3A,Weak.rfl' _,X3A,Weak.rfl' _,X3A,Weak.rfl' _,X3A,trivial⟩
def X5y (p:PV) (id home:Int) (t:Rat):PV:=⟨id,home,p.rim,p.worn,p.marks,RQ.of t,p.light,p.heavy,p.strength,p.rough⟩
def castOf (p:PV) (id home:Int) (a:Rat) (x:RQ):PV×Int :=
 if h:∃ q:Rat,x=RQ.of q∧0≤q then
  let c:=X5y p id home (a+h.choose)
  if X2E c=0 then (c,0) else (XeU,1)
 else (XeU,1)
theorem X9D (p:PV) (hp:p.small) (id home:Int) (x:RQ) (hx:x.sz≤100000) {a:Rat} (ea:p.tol=RQ.of a) (ha:qb a≤100000) :
  Fn Tryz.prog 18 [pvA p,I id,I home,x.A] (.tup [pvA (castOf p id home a x).1,I (castOf p id home a x).2]):=by
 obtain ⟨R,hR⟩:∃ R,R=castOf p id home a x:=⟨_,rfl⟩
 rw [← hR]
 have hbad:(¬ ∃ q:Rat,x=RQ.of q∧0≤q)→R=(XeU,1):=fun h=>by
  rw [hR]; unfold castOf; rw [dif_neg h]
 have zret:∀ {s:AS} {ver id':Nat},s.get 8=.ref id' ver 0→s.h[id']?=some (.row ver 25 (ofL X1z))→s.get 9=I 1→R=(XeU,1)→RetOk (X2f Tryz.prog Tryz.f18 [5,60000004] [] (.tup [pvA R.1,I R.2])) s:=fun h1 h2 h3 h4=>by
  subst h4
  exact X1s rfl (X0l Xjb h1 h2 rfl) (by unfold X1F; rfl) (X0n (X0o _) (X0I Xnk)) (by rw [h3]; exact (X08 _).sees _)
 have c1:=X7R x (by omega)
 refine Fq Tryz.call18 Tryz.func18 11 [] [5,60000004] [] (by simp [X0o,X5r,X08]) (X00 1000 ?_)
 simp only [AS.start,pvA,pvC,RQ.A,RQ.L,↓X03,wA,seval,wE]
 refine X01 c1 rfl ?_
 by_cases hv:x.ok
 rotate_left
 ·rw [decide_eq_false hv]
  simp only [↓X03,wA,seval,wE]
  exact zret rfl rfl rfl (hbad fun ⟨q,hq,_⟩=>hv ⟨q,hq⟩)
 obtain ⟨q,hq⟩:=hv
 rw [decide_eq_true ⟨q,hq⟩]
 have c2:=XbH hq
 simp only [↓X03,wA,seval,wE]
 refine X01 c2 rfl ?_
 by_cases hn:q.num.sign<0
 ·have f1:(q.num.sign<0)=True:=eq_true hn
  simp only [f1,↓X03,wA,seval,wE]
  refine zret rfl rfl rfl (hbad fun ⟨q',hq',h'⟩=>?_)
  have:=RQ.of_inj (hq'.symm.trans hq); subst this
  exact Rat.not_lt.2 h' ((X3y _).1 hn)
 have f1:(q.num.sign<0)=False:=eq_false hn
 simp only [f1,↓X03,wA,seval,wE]
 have hsq:qb q≤100003:=by
  have:=X6w q
  rw [← hq] at this; omega
 have c3:=X4W a q (by unfold rm; omega) (by unfold rm; omega)
 have c3':Fn Tryz.prog 70 [p.tol.A,x.A] (qA (a+q)):=by rw [ea,hq]; exact c3
 refine X01 c3' rfl ?_
 simp only [↓X03,wA,seval,wE]
 have b1:=hp.rim; have b2:=hp.worn; have b3:=hp.marks
 refine X01 (Xla p.rim b1) rfl ?_
 simp only [↓X03,wA,seval,wE]
 refine X01 (Xl8 p.worn b2) rfl ?_
 simp only [↓X03,wA,seval,wE]
 refine X01 (Xl9 p.marks b3) rfl ?_
 simp only [↓X03,wA,seval,wE]
 have hRc:R=if X2E (X5y p id home (a+q))=0 then (X5y p id home (a+q),0) else (XeU,1):=by
  rw [hR]
  have hex:∃ q:Rat,x=RQ.of q∧0≤q:=⟨q,hq,by rw [← Rat.not_lt,← X3y]; exact hn⟩
  unfold castOf
  rw [dif_pos hex]
  have:hex.choose=q:=RQ.of_inj (hex.choose_spec.1.symm.trans hq)
  rw [this]
 have hsm:(X5y p id home (a+q)).small:=⟨b1,b2,b3,by
  have h1:=RQ.of_sz (a+q)
  have h2:=X2n a q
  show (RQ.of (a+q)).sz≤_
  omega,hp.light,hp.heavy,hp.strength,hp.rough⟩
 refine X01 (XaX (X5y p id home (a+q)) hsm) rfl ?_
 by_cases he:X2E (X5y p id home (a+q))=0
 rotate_left
 ·have f2:(X2E (X5y p id home (a+q))=0)=False:=eq_false he
  simp only [f2,↓X03,wA,seval,wE]
  exact zret rfl rfl rfl (by rw [hRc,if_neg he])
 have f2:(X2E (X5y p id home (a+q))=0)=True:=eq_true he
 simp only [f2,↓X03,wA,seval,wE]
 rw [if_pos he] at hRc
 subst hRc
 exact X1s rfl (X0l Xjb rfl rfl rfl) (by unfold X1F; rfl) (X0n (X0o _) (X0I (X0X (pvC (X5y p id home (a+q)))))) ((X08 _).sees _)
def dC (d:Int×Int×Int):List AV:=[I d.1,I d.2.1,I d.2.2]
def X7k (l:List (Int×Int×Int)):AV:=sls dC 3 (0,0,0) l
theorem X5s (d:Int×Int×Int):∀ x∈dC d,Settled x:=by simp [dC,X08]
theorem X5L (l:List (Int×Int×Int)):Settled (X7k l):=X5M X5s
theorem X1K (l:List (Int×Int×Int)):X7k l=.sl l.length (l.length*3) (X0M dC 3 (0,0,0) l) false:=nrfl rfl
theorem dF (l:List (Int×Int×Int)) (i:Nat):X0M dC 3 (0,0,0) l (i*3)=I (l.getD i (0,0,0)).1∧X0M dC 3 (0,0,0) l (i*3+1)=I (l.getD i (0,0,0)).2.1∧X0M dC 3 (0,0,0) l (i*3+2)=I (l.getD i (0,0,0)).2.2:=by
 refine ⟨?_,?_,?_⟩
 ·rw [X3I _ _ _ _ _ (by omega)]; rfl
 all_goals rw [X3z _ _ _ _ _ _ (by omega)]; rfl
def XbO (ps:List Int) (n:Nat) (c:Int):Option Int:=if 0≤c∧c<n∧0≤ps.getD c.toNat 0 then some (ps.getD c.toNat 0) else none
def X2W (ps:List Int) (n:Nat) (c:Int):Option AV:=(XbO ps n c).map I
def Xen (ps:List Int) (k c:Int):List (Int×Int×Int):=match XbO ps ps.length c with
 | some p=>[(k,c,p)]
 | none=>[]
def X5c (G:Int→Option AV) (D:List (Int×Int×Int)):List AO:=[.map .i64 G,.row 0 1 (ofL [.mp 0]),.row 0 1 (ofL [.osl 3 D.length 3 0 D.length]),.row D.length (D.length*3) (X0M dC 3 (0,0,0) D)]
theorem Xxj {P:Program} {fn:Func} {str hcs:List Nat} {m:Nat} {H:List AO} {s:AS} (hr:fn.results=#[]) (hH:s.h.take m=H):RetOk (XjS P fn str hcs m (.tup []) H) s :=
 ⟨.tup [],by simp [Xrz,X7L,XjS,hr,X2a,X6D],rfl,hH⟩
theorem XtW (ps:List Int) (D:List (Int×Int×Int)) (k c:Int) (hD:D.length<1000000) :
  HCall Tryz.prog 187 [I k,I c,.ref 1 0 0,.ref 2 0 0] (X5c (X2W ps ps.length) D) (.tup []) (X5c (X2W ps ps.length) (D ++ Xen ps k c)):=by
 have hG:X1j 4 (.map .i64 (X2W ps ps.length))=True:=eq_true fun n a h=>by
  unfold X2W at h
  simp only [Option.map_eq_some_iff] at h
  obtain ⟨x,_,rfl⟩:=h
  exact X06 (X08 _)
 have hR:∀ v n l,X1j 4 (.row v n (X0M dC 3 (0,0,0) l))=True:=fun v n l=>eq_true fun j _=>X06 (X0c (X5s _) _)
 obtain ⟨D',hD'⟩:∃ D',D'=D ++ Xen ps k c:=⟨_,rfl⟩
 rw [← hD']
 refine HCall.introC (fn:=Tryz.f187) Tryz.call187 Tryz.func187 rfl mixed 8 [] [] [] (by kernel_rfl) (Nat.le_of_ble_eq_true rfl) (by simp [X0L]) (by simp [X5c,X0L,hG,hR]) (X00 1000 ?_)
 cases hs:XbO ps ps.length c with
 | none =>
  have f1:X2W ps ps.length c=none:=by unfold X2W; rw [hs]; rfl
  have ho:Xen ps k c=[]:=by unfold Xen; rw [hs]
  simp only [AS.start,X5c,f1,↓X03,wA,seval,wE]
  exact Xxj rfl (by rw [hD',ho,List.append_nil]; rfl)
 | some p =>
  have f1:X2W ps ps.length c=some (I p):=by unfold X2W; rw [hs]; rfl
  have ho:Xen ps k c=[(k,c,p)]:=by unfold Xen; rw [hs]
  have hl:(D ++ [(k,c,p)]).length=D.length+1:=by simp
  have hap:=X0E dC 3 (0,0,0) D (k,c,p) (by omega)
  simp only [AS.start,X5c,f1,↓X03,wA,seval,wE]
  refine ⟨⟨fun j hj=>?_,by omega,by omega⟩,Xxj rfl ?_⟩
  ·match j,hj with
   | 0,_=>rfl
   | 1,_=>rfl
   | 2,_=>rfl
   | j+3,h=>omega
  ·rw [hD',ho,hl,← hap]; rfl
def XtX (ps:List Int) (k:Int) (j:Int×Int):List (Int×Int×Int):=Xen ps k j.1 ++ Xen ps k j.2
def X3p (js:List (Int×Int)) (ps:List Int):Nat→List (Int×Int×Int)
 | 0=>[]
 | n+1=>X3p js ps n ++ XtX ps n (js.getD n (0,0))
theorem XcO (ps:List Int) (k c:Int):(Xen ps k c).length≤1:=by unfold Xen; split <;> simp
theorem Xbb (js:List (Int×Int)) (ps:List Int):∀ n,(X3p js ps n).length≤2*n
 | 0=>by simp [X3p]
 | n+1=>by
  have h1:=Xbb js ps n
  have h2:=XcO ps n (js.getD n (0,0)).1
  have h3:=XcO ps n (js.getD n (0,0)).2
  simp only [X3p,XtX,List.length_append]
  omega
theorem Xgm (ps:List Int) (n:Nat) (hn:n<ps.length) (h:0≤ps.getD n 0):XjK (X2W ps n) n (I (ps.getD n 0))=X2W ps (n+1):=by
 funext c
 unfold XjK X2W XbO
 by_cases hc:c=n
 ·rw [if_pos hc,if_pos (by rw [hc]; simp only [Int.toNat_natCast]; omega),hc]; rfl
 ·rw [if_neg hc]
  congr 1
  by_cases h1:0≤c∧c<n∧0≤ps.getD c.toNat 0
  ·rw [if_pos h1,if_pos (by omega)]
  ·rw [if_neg h1,if_neg (by omega)]
theorem Xgl (ps:List Int) (n:Nat) (h:¬ 0≤ps.getD n 0):X2W ps n=X2W ps (n+1):=by
 funext c
 unfold X2W XbO
 congr 1
 by_cases h1:0≤c∧c<n∧0≤ps.getD c.toNat 0
 ·rw [if_pos h1,if_pos (by omega)]
 ·rw [if_neg h1,if_neg]
  rintro ⟨h2,h3,h4⟩
  by_cases h5:c=n
  ·rw [h5,Int.toNat_natCast] at h4; exact h h4
  ·exact h1 ⟨h2,by omega,h4⟩
theorem XoK (js:List (Int×Int)) (ps:List Int) (hj:js.length<100000) (hp:ps.length<9223372036854775808):Fn Tryz.prog 97 [pts js,X0f ps] (X7k (X3p js ps js.length)):=by
 obtain ⟨R,hR⟩:∃ R,R=X7k (X3p js ps js.length):=⟨_,rfl⟩
 have sR:Settled R:=hR▸X5L _
 rw [← hR]
 refine Fq Tryz.call97 Tryz.func97 12 [13,14,15,27,28,29] [] [] (by simp [X1c,X07]) (X00 1000 ?_)
 simp only [AS.start,↓X03,wA,seval,wE]
 refine X0d (fun i:Nat=>⟨12,[13,14,15,27,28,29],[pts js,X0f ps,.any,.any,.any,.ref 1 0 0,.any,.any,.any,.any,.any,.any],[(13,X0f ps),(14,I ps.length),(15,I i)],[.map .i64 (X2W ps i),.row 0 1 (ofL [.mp 0])]⟩) (fun i=>i≤ps.length) (fun i=>ps.length - i) 0 (by omega)
  (X09 rfl (by simp [X0p,X0e,X04,I]) (by simp [X0q,X0P,X04,I]) ?_) ?_
 ·have:X2W ps 0=fun _=>none:=by
   funext c
   unfold X2W XbO
   rw [if_neg (by omega)]; rfl
  rw [this]
 ·intro i hi next
  by_cases hi2:i<ps.length
  ·have w1:IntKind.i64.wrap ((i:Int)+1)=((i+1:Nat):Int):=by rw [IntKind.wrap_i64]; omega
   have f1:((i:Int)<ps.length)=True:=eq_true (by omega)
   have f2:(i<ps.length)=True:=eq_true hi2
   by_cases h0:0≤ps.getD i 0
   ·have f3:(0≤ps.getD i 0)=True:=eq_true h0
    have hup:=Xgm ps i hi2 h0
    refine X00 1000 ?_
    simp only [X04,w1,f1,f2,f3,Int.toNat_natCast,↓X03,wA,seval,wE]
    exact next (i+1) _ (by omega) (by omega) (X09 rfl (by simp [X0p,X04,X0e]) (by simp [X0q,X0P,X04,I]) (by rw [← hup]; rfl))
   ·have f3:(0≤ps.getD i 0)=False:=eq_false h0
    have hup:=Xgl ps i h0
    refine X00 1000 ?_
    simp only [X04,w1,f1,f2,f3,Int.toNat_natCast,↓X03,wA,seval,wE]
    exact next (i+1) _ (by omega) (by omega) (X09 rfl (by simp [X0p,X04,X0e]) (by simp [X0q,X0P,X04,I]) (by rw [← hup]))
  obtain rfl:i=ps.length:=by omega
  refine X00 1000 ?_
  simp only [X04,Int.lt_irrefl,Nat.lt_irrefl,↓X03,wA,seval,wE]
  have ad:∀ m,Sub m (⟨12,[13,14,15,27,28,29],[pts js,X0f ps,.any,.any,.any,.ref 1 0 0,.any,.any,.ref 2 0 0,.fn 187 [.ref 1 0 0,.ref 2 0 0],.any,.any],[(29,I 0),(28,I js.length),(27,pts js),(13,X0f ps),(14,I ps.length),(15,I ps.length)],[.map .i64 (X2W ps ps.length),.row 0 1 (ofL [.mp 0]),.row 0 1 (ofL [.sl 0 0 (fun _=>.any) true])]⟩:AS) ⟨12,[13,14,15,27,28,29],[pts js,X0f ps,.any,.any,.any,.ref 1 0 0,.any,.any,.ref 2 0 0,.fn 187 [.ref 1 0 0,.ref 2 0 0],.any,.any],[(29,I 0),(28,I js.length),(27,pts js),(13,X0f ps),(14,I ps.length),(15,I ps.length)],X5c (X2W ps ps.length) []⟩:=fun m=>by
   refine (X1v 2 1 (fun _=>.sl 0 0 (fun _=>.any) true) rfl (Nat.le_refl _) (fun j hj=>by
     obtain rfl:j=0:=by omega
     rfl)).trans ?_
   refine (X5u 2 3 (X0M dC 3 (0,0,0) []) rfl 1 (Nat.le_refl _)).trans ?_
   refine (X1v 2 1 (ofL [.osl 3 0 3 0 0]) rfl (Nat.le_refl _) (fun j hj=>by
     obtain rfl:j=0:=by omega
     rfl)).trans (X09 rfl ?_ ?_ ?_)
   ·simp [X0p]
   ·simp [X0q,X0P]
   ·simp [X5c]
  refine Run.sub ?_ (ad _)
  obtain ⟨G,hGe⟩:∃ G,G=X2W ps ps.length:=⟨_,rfl⟩
  have own:=fun D k c h=>XtW ps D k c h
  have hG:X1j 4 (.map .i64 G)=True:=eq_true fun n a h=>by
   rw [hGe] at h
   unfold X2W at h
   simp only [Option.map_eq_some_iff] at h
   obtain ⟨x,_,rfl⟩:=h
   exact X06 (X08 _)
  have hRo:∀ v n l,X1j 4 (.row v n (X0M dC 3 (0,0,0) l))=True:=fun v n l=>eq_true fun j _=>X06 (X0c (X5s _) _)
  have hJ:Bel 4 (pts js)=True:=eq_true (X06 (X1c _))
  rw [← hGe] at own ⊢
  refine X0d (fun i:Nat=>⟨12,[13,14,15,27,28,29],[.any,.any,.any,.any,.any,.any,.any,.any,.ref 2 0 0,.fn 187 [.ref 1 0 0,.ref 2 0 0],.any,.any],[(27,pts js),(28,I js.length),(29,I i)],X5c G (X3p js ps i)⟩) (fun i=>i≤js.length) (fun i=>js.length - i) 0 (by omega)
   (X09 rfl (by simp [X0p]) (by simp [X0q,X0P]) rfl) ?_
  intro i hi next
  have w1:=wj i (by omega)
  have hdl:=Xbb js ps i
  by_cases hi2:i<js.length
  ·have f1:((i:Int)<js.length)=True:=eq_true (by omega)
   have f2:(i<js.length)=True:=eq_true hi2
   have f3:(i*2+2≤js.length*2)=True:=eq_true (by omega)
   have v1:=ptF js i
   have z0:((0:Int)<((2:Nat):Int))=True:=eq_true (by omega)
   have z1:((1:Int)<((2:Nat):Int))=True:=eq_true (by omega)
   refine X00 1000 ?_
   simp only [X5c,z0,z1,w1,f1,f2,f3,v1,Int.toNat_natCast,↓X03,wA,seval,wE]
   have hOO:∀ D,∀ o∈X5c G D,X1j 4 o:=fun D o ho=>by
    simp only [X5c,List.mem_cons,List.not_mem_nil,or_false] at ho
    rcases ho with rfl | rfl | rfl | rfl
    ·exact hG▸trivial
    ·simp [X0L]
    ·simp [X0L]
    ·exact hRo _ _ _▸trivial
   have hUn:∀ D,∀ o∈X5c G D,o≠.unborn∧∀ v n f,o≠.con v n f:=fun D o ho=>by
    simp only [X5c,List.mem_cons,List.not_mem_nil,or_false] at ho
    rcases ho with rfl | rfl | rfl | rfl <;> exact ⟨by simp,by simp⟩
   have hArg:∀ a b:Int,∀ x∈[I a,I b,.ref 1 0 0,.ref 2 0 0],Bel 4 x:=fun a b x hx=>by
    simp only [List.mem_cons,List.not_mem_nil,or_false] at hx
    rcases hx with rfl | rfl | rfl | rfl
    ·exact X06 (X08 _)
    ·exact X06 (X08 _)
    ·have:Bel 4 (.ref 1 0 0)=True:=by simp [X0L]
     exact this▸trivial
    ·have:Bel 4 (.ref 2 0 0)=True:=by simp [X0L]
     exact this▸trivial
   have h2:=XcO ps i (js.getD i (0,0)).1
   have o1:=own (X3p js ps i) i (js.getD i (0,0)).1 (by omega)
   have o2:=own (X3p js ps i ++ Xen ps i (js.getD i (0,0)).1) i (js.getD i (0,0)).2 (by rw [List.length_append]; omega)
   refine X4f (H1:=X5c G (X3p js ps i)) (H1':=X5c G (X3p js ps i ++ Xen ps i (js.getD i (0,0)).1)) (rest:=[AO.row 0 2 (ofL [I (js.getD i (0,0)).1,I (js.getD i (0,0)).2])]) rfl o1 rfl rfl (hArg _ _) (hOO _) (fun o ho=>(hUn _ o ho).1) (fun o ho=>(hUn _ o ho).1) (X1V (fun o ho=>(hUn _ o ho).2) (fun o ho=>(hUn _ o ho).2)) (X0X _) ?_
   simp only [X5c,z0,z1,w1,Int.reduceLE,↓X03,wA,seval,wE]
   refine X4f (H1:=X5c G (X3p js ps i ++ Xen ps i (js.getD i (0,0)).1)) (H1':=X5c G (X3p js ps i ++ Xen ps i (js.getD i (0,0)).1 ++ Xen ps i (js.getD i (0,0)).2)) (rest:=[AO.row 0 2 (ofL [I (js.getD i (0,0)).1,I (js.getD i (0,0)).2])]) rfl o2 rfl rfl (hArg _ _) (hOO _) (fun o ho=>(hUn _ o ho).1) (fun o ho=>(hUn _ o ho).1) (X1V (fun o ho=>(hUn _ o ho).2) (fun o ho=>(hUn _ o ho).2)) (X0X _) ?_
   simp only [X5c,z0,z1,w1,↓X03,wA,seval,wE]
   have hd:X3p js ps i ++ Xen ps i (js.getD i (0,0)).1 ++ Xen ps i (js.getD i (0,0)).2=X3p js ps (i+1):=by simp only [X3p,XtX,List.append_assoc]
   refine next (i+1) _ (by omega) (by omega) (X0t (m:=4) (Nat.zero_le _) rfl (by simp [X0p]) (by simp [X0q,X0P,X0e,I]) (by rw [← hd]; rfl) ?_ (by simp [X0L,hJ]) (fun o ho=>hOO _ o ho))
   simp [X0L]
  obtain rfl:i=js.length:=by omega
  refine X00 1000 ?_
  simp only [X5c,Int.lt_irrefl,Nat.lt_irrefl,↓X03,wA,seval,wE]
  refine X8R rfl ?_
  rw [hR,X1K]
  refine X1e (n:=(X3p js ps js.length).length) (.inl rfl) (by omega) (fun h=>by rw [h]) fun j hj=>?_
  rw [Nat.zero_add]
  exact (X0c (X5s _) _).sees _
theorem Xwh (d:Int×Int×Int) (j:Nat) (hj:j<3):([AV.int .i64 d.1,.int .i64 d.2.1,.int .i64 d.2.2].getD j .any).one=true:=by
 match j,hj with
 | 0,_=>rfl
 | 1,_=>rfl
 | 2,_=>rfl
 | j+3,h=>omega
theorem XpO (l:List (Int×Int×Int)) (hl:l.length<1000000):Fn Tryz.prog 99 [X7k l] (X7k l):=by
 obtain ⟨R,hR⟩:∃ R,R=X7k l:=⟨_,rfl⟩
 refine Fq Tryz.call99 Tryz.func99 5 [] [] [] (by simp [X5L]) (X00 1000 ?_)
 simp only [AS.start,X1K,↓X03,wA,seval,wE]
 refine X0d (fun i:Nat=>⟨5,[],[X7k l,.any,.any,.osl 0 i 3 0 i,I i],[],[.row i (i*3) (X0M dC 3 (0,0,0) (l.take i))]⟩) (fun i=>i≤l.length) (fun i=>l.length - i) 0 (by omega)
  ((X0W 3 3 (X0M dC 3 (0,0,0) []) rfl).trans (X09 rfl (by simp [AS.put,X0p,X1K,I]) (by simp [AS.put,X0q]) (by simp [AS.put]))) ?_
 intro i hi next
 have w1:=wj i (by omega)
 by_cases hi2:i<l.length
 ·have f1:((i:Int)<l.length)=True:=eq_true (by omega)
  have f2:(i<l.length)=True:=eq_true hi2
  have f3:(i*3+3≤l.length*3)=True:=eq_true (by omega)
  have f4:(i*3<l.length*3)=True:=eq_true (by omega)
  have v1:=dF l i
  have hap:=X0E dC 3 (0,0,0) (l.take i) (l.getD i (0,0,0)) (by omega)
  have hlen:(l.take i).length=i:=by simp; omega
  rw [hlen,← X4i _ _ hi2] at hap
  refine X00 1000 ?_
  simp only [X1K,w1,f1,f2,f3,f4,v1,Int.toNat_natCast,↓X03,wA,seval,wE]
  exact ⟨by omega,by omega,⟨fun j hj=>Xwh _ j hj,by omega,by omega⟩,next (i+1) _ (by omega) (by omega) (X09 rfl (by simp [X0p,X1K,I]) (by simp [X0q]) (by rw [← hap]; rfl))⟩
 obtain rfl:i=l.length:=by omega
 refine X00 1000 ?_
 simp only [X1K,Int.lt_irrefl,Nat.lt_irrefl,↓X03,wA,seval,wE]
 refine X8R rfl ?_
 refine X1e (n:=l.length) (.inl rfl) (by omega) (fun h=>by rw [h]) fun j hj=>?_
 rw [Nat.zero_add,List.take_length]
 exact (X0c (X5s _) _).sees _
theorem XmJ (a b:List (Int×Int×Int)) (la:a.length<1000000) (lb:b.length<1000000):Fn Tryz.prog 98 [X7k a,X7k b] (.bool (decide (a=b))):=by
 obtain ⟨V,hV⟩:∃ V,V=decide (a=b):=⟨_,rfl⟩
 rw [← hV]
 refine Fq Tryz.call98 Tryz.func98 6 [] [] [] (by simp [X5L]) (X00 1000 ?_)
 by_cases hl:a.length=b.length
 rotate_left
 ·have f1:((a.length:Int)=b.length)=False:=eq_false (by omega)
  have f1':(a.length=b.length)=False:=eq_false hl
  simp only [AS.start,X1K,f1,f1',↓X03,wA,seval,wE]
  refine X0r (v:=.bool false) rfl rfl (X02 _) ?_
  rw [hV,decide_eq_false fun e=>hl (by rw [e])]
 have f1:((a.length:Int)=b.length)=True:=eq_true (by omega)
 have f1':(a.length=b.length)=True:=eq_true hl
 simp only [AS.start,X1K,f1,f1',↓X03,wA,seval,wE]
 refine X0d (fun j:Nat=>⟨6,[],[X7k a,X7k b,.any,.any,.any,I j],[],[]⟩) (fun j=>j≤a.length∧∀ i,i<j→a.getD i (0,0,0)=b.getD i (0,0,0)) (fun j=>a.length - j) 0 ⟨by omega,by omega⟩
  (X09 rfl (by simp [X0p,X1K,I,hl]) (by simp [X0q]) rfl) ?_
 rintro j ⟨hj,hno⟩ next
 have w1:=wj j (by omega)
 by_cases hj2:j<a.length
 rotate_left
 ·have f2:((j:Int)<a.length)=False:=eq_false (by omega)
  have f3:(j<a.length)=False:=eq_false hj2
  refine X00 1000 ?_
  simp only [X1K,w1,f2,f3,↓X03,wA,seval,wE]
  refine X0r (v:=.bool true) rfl rfl (X02 _) ?_
  rw [hV,decide_eq_true]
  refine List.ext_getElem hl fun i h1 h2=>?_
  have:=hno i (by omega)
  rw [List.getD_eq_getElem?_getD,List.getElem?_eq_getElem h1,List.getD_eq_getElem?_getD,List.getElem?_eq_getElem h2] at this
  exact this
 have f2:((j:Int)<a.length)=True:=eq_true (by omega)
 have f3:(j<a.length)=True:=eq_true hj2
 have f4:(j<b.length)=True:=eq_true (by omega)
 have f5:(j*3+3≤a.length*3)=True:=eq_true (by omega)
 have f6:(j*3+3≤b.length*3)=True:=eq_true (by omega)
 have v1:=dF a j
 have v2:=dF b j
 by_cases he:a.getD j (0,0,0)=b.getD j (0,0,0)
 ·have g1:((a.getD j (0,0,0)).1=(b.getD j (0,0,0)).1)=True:=eq_true (by rw [he])
  have g2:((a.getD j (0,0,0)).2.1=(b.getD j (0,0,0)).2.1)=True:=eq_true (by rw [he])
  have g3:((a.getD j (0,0,0)).2.2=(b.getD j (0,0,0)).2.2)=True:=eq_true (by rw [he])
  refine X00 1000 ?_
  simp only [X1K,w1,f2,f3,f4,f5,f6,v1,v2,g1,g2,g3,↓X03,wA,seval,wE]
  refine next (j+1) _ ⟨by omega,fun i hi=>?_⟩ (by omega) (X09 rfl (by simp [X0p,X1K,I]) (by simp [X0q]) rfl)
  by_cases e:i=j
  ·rw [e]; exact he
  ·exact hno i (by omega)
 ·have bad:false=V:=by rw [hV,decide_eq_false fun e=>he (by rw [e])]
  refine X00 1000 ?_
  by_cases g1:(a.getD j (0,0,0)).1=(b.getD j (0,0,0)).1
  ·have k1:((a.getD j (0,0,0)).1=(b.getD j (0,0,0)).1)=True:=eq_true g1
   by_cases g2:(a.getD j (0,0,0)).2.1=(b.getD j (0,0,0)).2.1
   ·have k2:((a.getD j (0,0,0)).2.1=(b.getD j (0,0,0)).2.1)=True:=eq_true g2
    have k3:((a.getD j (0,0,0)).2.2=(b.getD j (0,0,0)).2.2)=False:=eq_false fun g3=>he (Prod.ext g1 (Prod.ext g2 g3))
    simp only [X1K,w1,f2,f3,f4,f5,f6,v1,v2,k1,k2,k3,↓X03,wA,seval,wE]
    exact X0r (v:=.bool false) rfl rfl (X02 _) (by rw [bad])
   ·have k2:((a.getD j (0,0,0)).2.1=(b.getD j (0,0,0)).2.1)=False:=eq_false g2
    simp only [X1K,w1,f2,f3,f4,f5,f6,v1,v2,k1,k2,↓X03,wA,seval,wE]
    exact X0r (v:=.bool false) rfl rfl (X02 _) (by rw [bad])
  ·have k1:((a.getD j (0,0,0)).1=(b.getD j (0,0,0)).1)=False:=eq_false g1
   simp only [X1K,w1,f2,f3,f4,f5,f6,v1,v2,k1,↓X03,wA,seval,wE]
   exact X0r (v:=.bool false) rfl rfl (X02 _) (by rw [bad])
theorem X9u:X92=RQ.of 0:=by
 unfold X92 RQ.of Ab.N.qd
 simp [X0O]
def X4r:Rat:=Rat.divInt 1 2
def rOne:Rat:=Rat.divInt 1 1
def rTwo:Rat:=Rat.divInt 2 1
def tri:PV:=⟨0,0,[(0,0),(2,0),(0,2)],[false,false,false],[0,0,0],RQ.of X4r,RQ.of rOne,RQ.of rTwo,RQ.of rOne,RQ.of 0⟩
theorem X9i {P:Program} {fn:Func} {str hcs:List Nat} {r:AV} {s:AS} {t u id ver n:Nat} {L:List AV} (hr:fn.results=#[.cell t u]) (hk:ldk P u=some (some n)) (hs:s.get t=.ref id ver 0)
  (ho:s.h[id]?=some (.row ver n (ofL L))) (hn:L.length=n) (h:X4B s.h (.agg L) r):RetOk (X2f P fn str hcs r) s :=
 ⟨.agg L,by
  have:=X0l hk hs ho hn
  simp [X7L,XdU,X6W,hr,X2a,X6D,this],h⟩
theorem Xgs:Fn Tryz.prog 96 [] (pvA tri):=by
 have c1:=X1M 1 1 ⟨by omega,by omega⟩ ⟨by omega,by omega⟩
 have c2:=X1M 1 2 ⟨by omega,by omega⟩ ⟨by omega,by omega⟩
 have c3:=X1M 2 1 ⟨by omega,by omega⟩ ⟨by omega,by omega⟩
 refine Fn.intro (fn:=Tryz.f96) Tryz.call96 Tryz.func96 rfl mixed 2 [] [2,30000001] [] (by kernel_rfl) (Nat.le_of_ble_eq_true rfl) (by simp) (X00 1000 ?_)
 simp only [AS.start,↓X03,wA,↓reduceIte,reduceIte,reduceCtorEq,Y1,Y2,Y3,Y4,Y5,Y6,Y7,Y8,Y9,YA,wE]
 refine X01 c1 rfl ?_
 simp only [↓X03,wA,↓reduceIte,reduceIte,reduceCtorEq,Y1,Y2,Y3,Y4,Y5,Y6,Y7,Y8,Y9,YA,wE]
 refine ⟨⟨by omega,by omega,by omega⟩,⟨by omega,by omega,by omega⟩,?_⟩
 refine X01 c2 rfl ?_
 simp only [↓X03,wA,↓reduceIte,reduceIte,reduceCtorEq,Y1,Y2,Y3,Y4,Y5,Y6,Y7,Y8,Y9,YA,wE]
 refine X01 c3 rfl ?_
 simp only [↓X03,wA,↓reduceIte,reduceIte,reduceCtorEq,Y1,Y2,Y3,Y4,Y5,Y6,Y7,Y8,Y9,YA,wE]
 have h1:∀ H,X4B H (.sl 3 6 (ofL [I 0,I 0,I 2,I 0,I 0,I 2]) false) (pts tri.rim):=fun H=>X0n (X1c _) (X4e rfl (Nat.le_refl _) fun j hj=>by
  match j,hj with
  | 0,_=>exact Weak.rfl' _
  | 1,_=>exact Weak.rfl' _
  | 2,_=>exact Weak.rfl' _
  | 3,_=>exact Weak.rfl' _
  | 4,_=>exact Weak.rfl' _
  | 5,_=>exact Weak.rfl' _
  | j+6,h=>exact absurd h (by show ¬ j+6<3*2; omega))
 have h2:∀ (H:List AO),H[2]?=some (.row 0 3 fun _=>.bool false)→X4B H (.osl 2 0 1 0 3) (X2R tri.worn):=fun H ho=>by
  refine X1e (M:=3) (.inl ho) (by omega) (by omega) fun j hj=>?_
  match j,hj with
  | 0,_=>exact (X02 _).sees _
  | 1,_=>exact (X02 _).sees _
  | 2,_=>exact (X02 _).sees _
  | j+3,h=>omega
 have h3:∀ (H:List AO),H[3]?=some (.row 0 3 fun _=>.int .i64 0)→X4B H (.osl 3 0 1 0 3) (X0f tri.marks):=fun H ho=>by
  refine X1e (M:=3) (.inl ho) (by omega) (by omega) fun j hj=>?_
  match j,hj with
  | 0,_=>exact (X08 _).sees _
  | 1,_=>exact (X08 _).sees _
  | 2,_=>exact (X08 _).sees _
  | j+3,h=>omega
 have h4:∀ (H:List AO) (f:Nat→AV) (t:Bool),X4B H (.sl 0 0 f t) (X0f (RQ.of 0).pd):=fun H f t=>by
  have e:(RQ.of 0).pd=[]:=by rw [← X9u]; rfl
  rw [e]; exact X0n (X07 _) (X16 _ _)
 have h5:∀ (H:List AO) (f:Nat→AV) (t:Bool),X4B H (.sl 0 0 f t) (X0f (RQ.of 0).qd):=fun H f t=>by
  have e:(RQ.of 0).qd=[]:=by rw [← X9u]; rfl
  rw [e]; exact X0n (X07 _) (X16 _ _)
 have h6:∀ (H:List AO),X4B H (.bool false) (.bool (RQ.of 0).pn):=fun H=>by
  have e:(RQ.of 0).pn=false:=by rw [← X9u]; rfl
  rw [e]; exact (X02 _).sees _
 refine X9i rfl Xjb rfl rfl rfl ?_
 exact X4a ⟨(X08 _).sees _,(X08 _).sees _,h1 _,h2 _ rfl,h3 _ rfl,(X02 _).sees _,(X07 _).sees _,(X02 _).sees _,(X07 _).sees _,(X02 _).sees _,(X07 _).sees _,(X02 _).sees _,(X07 _).sees _,(X02 _).sees _,(X07 _).sees _,(X02 _).sees _,(X07 _).sees _,(X02 _).sees _,(X07 _).sees _,(X02 _).sees _,(X07 _).sees _,h6 _,h4 _ _ _,(X02 _).sees _,h5 _ _ _,trivial⟩
theorem X5O (p q:Int) (hp:X51 p) (hq:X51 q):qb (Rat.divInt p q)≤3:=X2V _ _ _ (by omega) (X1n hp) (X1n hq)
theorem X8W (p q:Int) (hp:X51 p) (hq:X51 q):(RQ.of (Rat.divInt p q)).sz≤3:=Nat.le_trans (RQ.of_sz _) (X5O p q hp hq)
theorem X3R:tri.small:=by
 have h1:=X8W 1 2 ⟨by omega,by omega⟩ ⟨by omega,by omega⟩
 have h2:=X8W 1 1 ⟨by omega,by omega⟩ ⟨by omega,by omega⟩
 have h3:=X8W 2 1 ⟨by omega,by omega⟩ ⟨by omega,by omega⟩
 have h4:(RQ.of 0).sz≤0:=by rw [← X9u]; exact Nat.le_refl _
 exact ⟨by show 3<_; omega,by show 3<_; omega,by show 3<_; omega,by show (RQ.of (Rat.divInt 1 2)).sz≤_; omega,by show (RQ.of (Rat.divInt 1 1)).sz≤_; omega,by show (RQ.of (Rat.divInt 2 1)).sz≤_; omega,by show (RQ.of (Rat.divInt 1 1)).sz≤_; omega,by show (RQ.of 0).sz≤_; omega⟩
def cst:PV:=X5y tri 7 1 (X4r+Rat.divInt 1 4)
theorem Xqq:X5j (X0Q tri.rim):=by
 refine ⟨⟨by decide,by decide⟩,fun i hi=>?_,by decide +kernel⟩
 have hi':i<3:=hi
 have h:∀ i,i<3→¬ X6R (X0Q tri.rim) i:=by
  intro i hi
  match i,hi with
  | 0,_=>unfold X6R; decide +kernel
  | 1,_=>unfold X6R; decide +kernel
  | 2,_=>unfold X6R; decide +kernel
  | i+3,h=>omega
 refine ⟨h i hi',fun k h1 h2 hb=>?_⟩
 have h2':k<3:=h2
 obtain rfl:i=0:=by omega
 obtain rfl:k=2:=by omega
 exact hb.1 (by decide)
theorem XeP (id home:Int) (t:Rat) (h1:wb id 0 999=true) (h2:wb home 0 4=true):Xai (X5y tri id home t):=by
 refine ⟨fun i hi=>?_,fun i hi=>?_,h1,h2⟩
 ·match i,hi with
  | 0,_=>show Xdp (0,0)=true; decide
  | 1,_=>show Xdp (2,0)=true; decide
  | 2,_=>show Xdp (0,2)=true; decide
  | i+3,h=>exact absurd h (by show ¬ i+3<3; omega)
 ·match i,hi with
  | 0,_=>show Xbq 0=true; decide
  | 1,_=>show Xbq 0=true; decide
  | 2,_=>show Xbq 0=true; decide
  | i+3,h=>exact absurd h (by show ¬ i+3<3; omega)
theorem Xyj:castOf tri 7 1 X4r (RQ.of (Rat.divInt 1 4))=(cst,0):=by
 have hex:∃ q:Rat,RQ.of (Rat.divInt 1 4)=RQ.of q∧0≤q:=⟨_,rfl,by decide +kernel⟩
 unfold castOf
 rw [dif_pos hex]
 have:hex.choose=Rat.divInt 1 4:=(RQ.of_inj hex.choose_spec.1).symm
 rw [this]
 have he:X2E (X5y tri 7 1 (X4r+Rat.divInt 1 4))=0:=by
  unfold X2E
  rw [if_pos (XeP _ _ _ (by decide) (by decide)),if_pos]
  refine ⟨⟨by decide,by decide,by decide⟩,⟨_,_,_,_,_,⟨rfl,rfl,rfl,rfl,rfl⟩,⟨by decide +kernel,by decide +kernel,by decide +kernel,by decide +kernel⟩,⟨by decide +kernel,by decide +kernel,by decide +kernel⟩,by decide +kernel⟩,Xqq⟩
 simp only [he,if_true]
 rfl
theorem Xyk:castOf tri 7 1 X4r (RQ.of (Rat.divInt 15 4))=(XeU,1):=by
 have hex:∃ q:Rat,RQ.of (Rat.divInt 15 4)=RQ.of q∧0≤q:=⟨_,rfl,by decide +kernel⟩
 unfold castOf
 rw [dif_pos hex]
 have:hex.choose=Rat.divInt 15 4:=(RQ.of_inj hex.choose_spec.1).symm
 rw [this]
 have he:X2E (X5y tri 7 1 (X4r+Rat.divInt 15 4))=1:=by
  unfold X2E
  rw [if_pos (XeP _ _ _ (by decide) (by decide)),if_neg]
  rintro ⟨_,⟨t,l,h,s,r,⟨e1,_⟩,⟨_,ht,_⟩,_⟩,_⟩
  have:=RQ.of_inj e1
  rw [← this] at ht
  revert ht
  decide +kernel
 simp only [he]
 rfl
theorem Xyl:castOf tri 7 1 X4r (RQ.of (Rat.divInt (-1) 4))=(XeU,1):=by
 unfold castOf
 rw [dif_neg]
 rintro ⟨q,e,h⟩
 rw [← RQ.of_inj e] at h
 revert h
 decide +kernel
def exJ:List (Int×Int):=[(0,1),(2,1),(2,3)]
def exP:List Int:=[-1,-1,0,1]
def exD:List (Int×Int×Int):=[(1,2,0),(2,2,0),(2,3,1)]
theorem Xp2:X3p exJ exP 3=exD:=by
 decide +kernel
theorem XdM:cst.small:=by
 have h:=X3R
 have h1:=RQ.of_sz (X4r+Rat.divInt 1 4)
 have h2:=X2n X4r (Rat.divInt 1 4)
 have h3:=X5O 1 2 ⟨by omega,by omega⟩ ⟨by omega,by omega⟩
 have h4:=X5O 1 4 ⟨by omega,by omega⟩ ⟨by omega,by omega⟩
 have h5:X4r=Rat.divInt 1 2:=rfl
 rw [h5] at h1 h2
 exact ⟨h.rim,h.worn,h.marks,by show (RQ.of (X4r+Rat.divInt 1 4)).sz≤_; rw [h5]; omega,h.light,h.heavy,h.strength,h.rough⟩
theorem XcH:Fn Tryz.prog 27 [] (.bool true):=by
 have hq:qb X4r≤3:=X5O 1 2 ⟨by omega,by omega⟩ ⟨by omega,by omega⟩
 have o1:=X1M 1 4 ⟨by omega,by omega⟩ ⟨by omega,by omega⟩
 have o2:=X1M 15 4 ⟨by omega,by omega⟩ ⟨by omega,by omega⟩
 have o3:=X1M (-1) 4 ⟨by omega,by omega⟩ ⟨by omega,by omega⟩
 have o4:=X1M 3 4 ⟨by omega,by omega⟩ ⟨by omega,by omega⟩
 have z1:=X8W 1 4 ⟨by omega,by omega⟩ ⟨by omega,by omega⟩
 have z2:=X8W 15 4 ⟨by omega,by omega⟩ ⟨by omega,by omega⟩
 have z3:=X8W (-1) 4 ⟨by omega,by omega⟩ ⟨by omega,by omega⟩
 have k1:=X9D tri X3R 7 1 (RQ.of (Rat.divInt 1 4)) (by omega) (a:=X4r) rfl (by omega)
 have k2:=X9D tri X3R 7 1 (RQ.of (Rat.divInt 15 4)) (by omega) (a:=X4r) rfl (by omega)
 have k3:=X9D tri X3R 7 1 (RQ.of (Rat.divInt (-1) 4)) (by omega) (a:=X4r) rfl (by omega)
 rw [Xyj] at k1
 rw [Xyk] at k2
 rw [Xyl] at k3
 have ct:=Xgs
 refine Fn.intro (fn:=Tryz.f27) Tryz.call27 Tryz.func27 rfl mixed 10 [] [2,3,4,30000001,40000001,50000001] [] (by kernel_rfl) (Nat.le_of_ble_eq_true rfl) (by simp) (X00 1000 ?_)
 simp only [AS.start,↓X03,wA,seval,wE]
 refine X01 ct rfl ?_
 simp only [pvA,pvC,↓X03,wA,seval,wE]
 refine X01 o1 rfl ?_
 simp only [pvA,pvC,↓X03,wA,seval,wE]
 refine X01 k1 rfl ?_
 simp only [pvA,pvC,↓X03,wA,seval,wE]
 refine X01 o2 rfl ?_
 simp only [pvA,pvC,↓X03,wA,seval,wE]
 refine X01 k2 rfl ?_
 simp only [pvA,pvC,↓X03,wA,seval,wE]
 refine X01 o3 rfl ?_
 simp only [pvA,pvC,↓X03,wA,seval,wE]
 refine X01 k3 rfl ?_
 simp only [pvA,pvC,↓X03,wA,seval,wE]
 have kd:Fn Tryz.prog 97 [pts exJ,X0f exP] (X7k exD):=by
  have:=XoK exJ exP (by decide) (by decide)
  rwa [show exJ.length=3 from rfl,Xp2] at this
 have wj1:Weak (.sl 3 6 (ofL [I 0,I 1,I 2,I 1,I 2,I 3]) true) (pts exJ):=X4e rfl (Nat.le_refl _) fun j hj=>by
  match j,hj with
  | 0,_=>exact Weak.rfl' _
  | 1,_=>exact Weak.rfl' _
  | 2,_=>exact Weak.rfl' _
  | 3,_=>exact Weak.rfl' _
  | 4,_=>exact Weak.rfl' _
  | 5,_=>exact Weak.rfl' _
  | j+6,h=>exact absurd h (by show ¬ j+6<3*2; omega)
 have wp1:Weak (.sl 4 4 (ofL [I (-1),I (-1),I 0,I 1]) true) (X0f exP):=X4e rfl (Nat.le_refl _) fun j hj=>by
  match j,hj with
  | 0,_=>exact Weak.rfl' _
  | 1,_=>exact Weak.rfl' _
  | 2,_=>exact Weak.rfl' _
  | 3,_=>exact Weak.rfl' _
  | j+4,h=>exact absurd h (by show ¬ j+4<4; omega)
 have wd1:Weak (.sl 3 9 (ofL [I 1,I 2,I 0,I 2,I 2,I 0,I 2,I 3,I 1]) true) (X7k exD):=X4e rfl (Nat.le_refl _) fun j hj=>by
  match j,hj with
  | 0,_=>exact Weak.rfl' _
  | 1,_=>exact Weak.rfl' _
  | 2,_=>exact Weak.rfl' _
  | 3,_=>exact Weak.rfl' _
  | 4,_=>exact Weak.rfl' _
  | 5,_=>exact Weak.rfl' _
  | 6,_=>exact Weak.rfl' _
  | 7,_=>exact Weak.rfl' _
  | 8,_=>exact Weak.rfl' _
  | j+9,h=>exact absurd h (by show ¬ j+9<3*3; omega)
 refine X17 kd ⟨wj1,wp1,trivial⟩ ?_
 have i1:(cst.id=7)=True:=eq_true rfl
 have i2:(cst.home=1)=True:=eq_true rfl
 simp only [pvA,pvC,i1,i2,Int.reduceEq,↓X03,wA,seval,wE]
 refine X01 o4 rfl ?_
 simp only [pvA,pvC,i1,i2,Int.reduceEq,↓X03,wA,seval,wE]
 have et:cst.tol=RQ.of (Rat.divInt 3 4):=by
  show RQ.of (X4r+Rat.divInt 1 4)=_
  rw [show X4r+Rat.divInt 1 4=Rat.divInt 3 4 by decide +kernel]
 have z4:=X8W 3 4 ⟨by omega,by omega⟩ ⟨by omega,by omega⟩
 have ks:=X4v cst.tol (RQ.of (Rat.divInt 3 4)) (by rw [et]; omega) (by omega)
 rw [decide_eq_true et] at ks
 refine X01 ks rfl ?_
 simp only [pvA,pvC,i1,i2,Int.reduceEq,↓X03,wA,seval,wE]
 refine X01 (XpO exD (by decide)) rfl ?_
 simp only [pvA,pvC,i1,i2,Int.reduceEq,↓X03,wA,seval,wE]
 have kk:=XmJ exD exD (by decide) (by decide)
 rw [decide_eq_true rfl] at kk
 refine X17 kk ⟨Weak.rfl' _,wd1,trivial⟩ ?_
 simp only [pvA,pvC,i1,i2,Int.reduceEq,↓X03,wA,seval,wE]
 have is1:=XcE tri cst X3R XdM (a:=X4r) (b:=X4r+Rat.divInt 1 4) rfl rfl
 rw [decide_eq_true ⟨rfl,by decide +kernel⟩] at is1
 have is2:=XcE cst tri XdM X3R (a:=X4r+Rat.divInt 1 4) (b:=X4r) rfl rfl
 rw [decide_eq_false (fun h=>by have:=h.2; revert this; decide +kernel)] at is2
 have is3:=XcE tri tri X3R X3R (a:=X4r) (b:=X4r) rfl rfl
 rw [decide_eq_true ⟨rfl,Rat.le_refl⟩] at is3
 refine X01 is1 rfl ?_
 simp only [pvA,pvC,↓X03,wA,seval,wE]
 refine X01 is2 rfl ?_
 simp only [pvA,pvC,↓X03,wA,seval,wE]
 refine X01 is3 rfl ?_
 simp only [↓X03,wA,seval,wE]
 exact X0r rfl rfl (X02 _) rfl
end
end Go.Ab.N
namespace Go.Ab.N
open Go Go.RowKit Go.Proofs
noncomputable section
set_option maxRecDepth 10000
set_option maxHeartbeats 2000000
open Classical
theorem XeC (a b:Int) (la:bl a<4611686018427387904) (lb:bl b<4611686018427387904):Fn Tryz.prog 186 [zA a,zA b] (I (a - b).sign):=by
 unfold bl at la lb
 have c1:=X4n (X0i b.natAbs) (X0i a.natAbs) (X0D _) (X0D _) lb
 have c2:=X4n (X0i a.natAbs) (X0i b.natAbs) (X0D _) (X0D _) la
 rw [X0u,X0u] at c1 c2
 obtain ⟨V,hV⟩:∃ V,V=(a - b).sign:=⟨_,rfl⟩
 rw [← hV]
 have fin:∀ {s:AS} {v:Int},s.get 4=I v→v=V→RetOk (X2f Tryz.prog Tryz.f186 [] [] (I V)) s:=fun h e=>X0r rfl h (X08 _) (by rw [e])
 refine Fq Tryz.call186 Tryz.func186 5 [] [] [] (by simp [X0y]) (X00 1000 ?_)
 by_cases ha:a<0
 ·have f1:(a<0)=True:=eq_true ha
  by_cases hb:b<0
  ·have f2:(b<0)=True:=eq_true hb
   simp only [AS.start,f1,f2,Xx0,↓X03,wA,seval,wE]
   refine X01 c1 rfl ?_
   simp only [↓X03,wA,seval,wE]
   refine fin rfl ?_
   rw [hV]; congr 1; omega
  ·have f2:(b<0)=False:=eq_false hb
   simp only [AS.start,f1,f2,XwZ,↓X03,wA,seval,wE]
   refine fin rfl ?_
   rw [hV,Int.sign_eq_neg_one_of_neg (by omega)]
 ·have f1:(a<0)=False:=eq_false ha
  by_cases hb:b<0
  ·have f2:(b<0)=True:=eq_true hb
   simp only [AS.start,f1,f2,XwY,↓X03,wA,seval,wE]
   refine fin rfl ?_
   rw [hV,Int.sign_eq_one_of_pos (by omega)]
  ·have f2:(b<0)=False:=eq_false hb
   simp only [AS.start,f1,f2,XwX,↓X03,wA,seval,wE]
   refine X01 c2 rfl ?_
   simp only [↓X03,wA,seval,wE]
   refine fin rfl ?_
   rw [hV]; congr 1; omega
theorem Xju (a:Int) (la:bl a<4611686018427387904):Fn Tryz.prog 173 [zA a] (I a.sign):=by
 have c:=XeC a 0 la (by unfold bl; rw [Int.natAbs_zero,X0O]; decide)
 rw [Int.sub_zero] at c
 refine Fq Tryz.call173 Tryz.func173 3 [] [] [] (by simp [wS]) (X00 1000 ?_); simp (config:={ maxSteps:=2000000 }) only [AS.start,↓X03,wA,seval,wE]
 refine X17 c ⟨Weak.rfl' _,?_,trivial⟩ ?_
 ·exact X0I ⟨Weak.rfl' _,X1i (by rw [Int.natAbs_zero,X0O]),trivial⟩
 simp only [↓X03,wA,seval,wE]
 exact X0r rfl rfl (X08 _) rfl
theorem X3P (r:Rat):Fn Tryz.prog 162 [qA r] (zA r.den):=by
 obtain ⟨R,hR⟩:∃ R,R=zA r.den:=⟨_,rfl⟩
 have sR:Settled R:=hR▸X0y _
 rw [← hR]
 rw [XrC] at hR
 by_cases h:r.den=1
 ·have f1:((X0i (qd r)).length=0)=True:=eq_true ((X7F r).2 h)
  have f2:(((X0i (qd r)).length:Int)=0)=True:=eq_true (by have:=(X7F r).2 h; omega)
  refine Fq Tryz.call162 Tryz.func162 3 [] [] [] (by simp [wS]) (X00 1000 ?_); simp (config:={ maxSteps:=2000000 }) only [AS.start,↓X03,wA,seval,wE]
  simp only [f1,f2,↓X03,wA,seval,wE]
  refine X01 (X76 1 ⟨by omega,by omega⟩) rfl ?_
  simp only [↓X03,wA,seval,wE]
  exact X3V rfl X12 rfl rfl rfl sR (by rw [hR,h]; rfl)
 ·have f1:((X0i (qd r)).length=0)=False:=eq_false fun e=>h ((X7F r).1 e)
  have f2:(((X0i (qd r)).length:Int)=0)=False:=eq_false fun e=>h ((X7F r).1 (by omega))
  refine Fq Tryz.call162 Tryz.func162 3 [] [] [] (by simp [wS]) (X00 1000 ?_); simp (config:={ maxSteps:=2000000 }) only [AS.start,↓X03,wA,seval,wE]
  simp only [f1,f2,↓X03,wA,seval,wE]
  exact X3V rfl X12 rfl rfl rfl sR (by rw [hR,Xu5 h]; rfl)
theorem X4t (r:Rat) (h:qb r≤rm):Fn Tryz.prog 84 [qA r] (I r.num.sign):=by
 have h1:=X2A r
 have c:=Xju r.num (by unfold rm at h; omega)
 refine Fq Tryz.call84 Tryz.func84 3 [] [] [] (by simp [wS]) (X00 1000 ?_); simp (config:={ maxSteps:=2000000 }) only [AS.start,↓X03,wA,seval,wE]
 refine X01 c rfl ?_
 simp only [↓X03,wA,seval,wE]
 exact X0r rfl rfl (X08 _) rfl
theorem X1q (a b:Rat) (ha:qb a≤rm) (hb:qb b≤rm):Fn Tryz.prog 95 [qA a,qA b] (I (X1Z a b)):=by
 unfold rm at ha hb
 have a1:=X2A a; have a2:=X2K a; have b1:=X2A b; have b2:=X2K b
 have m1:=X3F a.num b.den (by unfold room; omega) (by unfold room; omega)
 have m2:=X3F b.num a.den (by unfold room; omega) (by unfold room; omega)
 have n1:=X2P a.num b.den
 have n2:=X2P b.num a.den
 have c:=XeC (a.num*b.den) (b.num*a.den) (by omega) (by omega)
 have d1:=X3P a
 have d2:=X3P b
 obtain ⟨V,hV⟩:∃ V,V=X1Z a b:=⟨_,rfl⟩
 rw [show (a.num*b.den - b.num*a.den).sign=V from hV.symm] at c
 rw [← hV]
 refine Fq Tryz.call95 Tryz.func95 5 [] [] [] (by simp [wS]) (X00 1000 ?_); simp (config:={ maxSteps:=2000000 }) only [AS.start,↓X03,wA,seval,wE]
 refine X01 d2 rfl ?_
 simp only [↓X03,wA,seval,wE]
 refine X01 m1 rfl ?_
 simp only [↓X03,wA,seval,wE]
 refine X01 d1 rfl ?_
 simp only [↓X03,wA,seval,wE]
 refine X01 m2 rfl ?_
 simp only [↓X03,wA,seval,wE]
 refine X01 c rfl ?_
 simp only [↓X03,wA,seval,wE]
 exact X0r rfl rfl (X08 _) rfl
theorem X1W (a b:Rat) (ha:qb a≤rm) (hb:qb b≤rm):Fn Tryz.prog 76 [qA a,qA b] (qA (a+b)):=by
 unfold rm at ha hb
 have a1:=X2A a; have a2:=X2K a; have b1:=X2A b; have b2:=X2K b
 have m1:=X3F a.num b.den (by unfold room; omega) (by unfold room; omega)
 have m2:=X3F b.num a.den (by unfold room; omega) (by unfold room; omega)
 have m3:=X3F a.den b.den (by unfold room; omega) (by unfold room; omega)
 have n1:=X2P a.num b.den
 have n2:=X2P b.num a.den
 have n3:=X2P a.den b.den
 have n4:=XkQ (a.num*b.den) (b.num*a.den)
 have s1:=XhH (a.num*b.den) (b.num*a.den) (by unfold room; omega) (by unfold room; omega)
 have k:=X7v (a.num*b.den+b.num*a.den) (a.den*b.den) (by omega) (by omega)
 have e0:a+b=Rat.divInt (a.num*b.den+b.num*a.den) (a.den*b.den):=by
  rw [Rat.add_def',X39]; push_cast; rfl
 rw [← e0] at k
 have d1:=X3P a
 have d2:=X3P b
 obtain ⟨R,hR⟩:∃ R,R=qA (a+b):=⟨_,rfl⟩
 have sR:Settled R:=hR▸X0a _
 rw [← hR] at k ⊢
 refine Fq Tryz.call76 Tryz.func76 7 [] [1,2,3,20000002,20000003,30000002,30000003,40000002,40000003,40000005,40000006] [] (by simp [wS]) (X00 1000 ?_); simp (config:={ maxSteps:=2000000 }) only [AS.start,↓X03,wA,seval,wE]
 refine X01 d2 rfl ?_
 simp only [↓X03,wA,seval,wE]
 refine X01 m1 rfl ?_
 simp only [↓X03,wA,seval,wE]
 refine X01 d1 rfl ?_
 simp only [↓X03,wA,seval,wE]
 refine X01 m2 rfl ?_
 simp only [↓X03,wA,seval,wE]
 refine X01 s1 rfl ?_
 simp only [↓X03,wA,seval,wE]
 refine X01 d1 rfl ?_
 simp only [↓X03,wA,seval,wE]
 refine X01 d2 rfl ?_
 simp only [↓X03,wA,seval,wE]
 refine X01 m3 rfl ?_
 simp only [↓X03,wA,seval,wE]
 refine X01 k rfl ?_
 simp only [hR,↓X03,wA,seval,wE]
 exact X3V rfl X1k rfl rfl rfl sR (hR.trans rfl)
theorem X1r (a b:Rat) (ha:qb a≤rm) (hb:qb b≤rm):Fn Tryz.prog 189 [qA a,qA b] (qA (a*b)):=by
 unfold rm at ha hb
 have a1:=X2A a; have a2:=X2K a; have b1:=X2A b; have b2:=X2K b
 have m1:=X3F a.num b.num (by unfold room; omega) (by unfold room; omega)
 have m3:=X3F a.den b.den (by unfold room; omega) (by unfold room; omega)
 have n1:=X2P a.num b.num
 have n3:=X2P a.den b.den
 have k:=X7v (a.num*b.num) (a.den*b.den) (by omega) (by omega)
 have e0:a*b=Rat.divInt (a.num*b.num) (a.den*b.den):=by
  rw [Rat.mul_def',X39]; push_cast; rfl
 rw [← e0] at k
 have d1:=X3P a
 have d2:=X3P b
 obtain ⟨R,hR⟩:∃ R,R=qA (a*b):=⟨_,rfl⟩
 have sR:Settled R:=hR▸X0a _
 rw [← hR] at k ⊢
 refine Fq Tryz.call189 Tryz.func189 5 [] [] [] (by simp [wS]) (X00 1000 ?_); simp (config:={ maxSteps:=2000000 }) only [AS.start,↓X03,wA,seval,wE]
 refine X01 m1 rfl ?_
 simp only [↓X03,wA,seval,wE]
 refine X01 d1 rfl ?_
 simp only [↓X03,wA,seval,wE]
 refine X01 d2 rfl ?_
 simp only [↓X03,wA,seval,wE]
 refine X01 m3 rfl ?_
 simp only [↓X03,wA,seval,wE]
 refine X01 k rfl ?_
 simp only [hR,↓X03,wA,seval,wE]
 exact X3V rfl X1k rfl rfl rfl sR (hR.trans rfl)
theorem Xxg (r:Rat):qd (-r)=qd r:=by unfold qd; rw [Rat.neg_den]
theorem X3b (r:Rat) (h:qb r≤rm):Fn Tryz.prog 103 [qA r] (qA (-r)):=by
 unfold rm at h
 have h1:=X2A r
 have c:=Xd7 r.num (by unfold room; omega)
 have e:qA (-r)=.agg [.bool (decide (-r.num<0)),X0f (X0i (-r.num).natAbs),.bool false,X0f (X0i (qd r))]:=by
  unfold qA qC
  rw [Xxg,Rat.neg_num]
 obtain ⟨R,hR⟩:∃ R,R=qA (-r):=⟨_,rfl⟩
 have sR:Settled R:=hR▸X0a _
 rw [← hR]
 refine Fq Tryz.call103 Tryz.func103 3 [] [] [] (by simp [wS]) (X00 1000 ?_); simp (config:={ maxSteps:=2000000 }) only [AS.start,↓X03,wA,seval,wE]
 refine X01 c rfl ?_
 simp only [↓X03,wA,seval,wE]
 exact X3V rfl X1k rfl rfl rfl sR (hR.trans e)
theorem Xg1 (r:Rat):qb (-r)=qb r:=by
 unfold qb bl
 rw [Rat.neg_den,Rat.neg_num,Int.natAbs_neg]
theorem X3t (a b:Rat) (ha:qb a≤rm) (hb:qb b≤rm):Fn Tryz.prog 188 [qA a,qA b] (qA (a - b)):=by
 have c:=X3b b hb
 have k:=X1W a (-b) ha (by rw [Xg1]; exact hb)
 rw [← Rat.sub_eq_add_neg] at k
 obtain ⟨R,hR⟩:∃ R,R=qA (a - b):=⟨_,rfl⟩
 have sR:Settled R:=hR▸X0a _
 rw [← hR] at k ⊢
 refine Fq Tryz.call188 Tryz.func188 5 [] [] [] (by simp [wS]) (X00 1000 ?_); simp (config:={ maxSteps:=2000000 }) only [AS.start,↓X03,wA,seval,wE]
 refine X01 c rfl ?_
 simp only [↓X03,wA,seval,wE]
 refine X01 k rfl ?_
 simp only [hR,↓X03,wA,seval,wE]
 exact X3V rfl X1k rfl rfl rfl sR (hR.trans rfl)
theorem X8N (neg:Bool) (d:List Int) (hl:d.length<4611686018427387904):Fn Tryz.prog 172 [zR neg d] (.bool (X3e neg d)):=by
 obtain ⟨V,hV⟩:∃ V,V=X3e neg d:=⟨_,rfl⟩
 rw [← hV]
 unfold X3e at hV
 have fin:∀ {s:AS} {v:Bool},s.get 2=.bool v→v=V→RetOk (X2f Tryz.prog Tryz.f172 [] [] (.bool V)) s:=fun h e=>X0r rfl h (X02 _) (by rw [e])
 refine Fq Tryz.call172 Tryz.func172 4 [] [] [] (by simp [X0g]) (X00 1000 ?_)
 simp only [AS.start,zR,↓X03,wA,seval,wE]
 refine X0d (fun i:Nat=>⟨4,[],[.any,.ref 0 0 0,.bool false,I i],[],[.row 0 2 (ofL [.bool neg,X0f d])]⟩) (fun i=>i≤d.length∧∀ j,j<i→XgQ (d.getD j 0)=false) (fun i=>d.length - i) 0 ⟨by omega,by omega⟩
  (X09 rfl (by simp [X0p,I]) (by simp [X0q]) (by simp [X04])) ?_
 rintro i ⟨hi,hok⟩ next
 have w1:=wj i (by omega)
 by_cases hi2:i<d.length
 ·have f1:((i:Int)<d.length)=True:=eq_true (by omega)
  have f2:(i<d.length)=True:=eq_true hi2
  have bad:XgQ (d.getD i 0)=true→false=V:=fun h=>by
   have:d.any XgQ=true:=List.any_eq_true.2 ⟨d.getD i 0,X2u hi2,h⟩
   rw [hV,this]; rfl
  by_cases g1:d.getD i 0<0
  ·have k1:(d.getD i 0<0)=True:=eq_true g1
   refine X00 1000 ?_
   simp only [X04,w1,f1,f2,k1,Int.toNat_natCast,↓X03,wA,seval,wE]
   exact fin rfl (bad (by unfold XgQ; rw [decide_eq_true g1]; rfl))
  have k1:(d.getD i 0<0)=False:=eq_false g1
  by_cases g2:1000000000≤d.getD i 0
  ·have k2:(1000000000≤d.getD i 0)=True:=eq_true g2
   refine X00 1000 ?_
   simp only [X04,w1,f1,f2,k1,k2,Int.toNat_natCast,↓X03,wA,seval,wE]
   exact fin rfl (bad (by unfold XgQ; rw [decide_eq_true g2]; simp))
  have k2:(1000000000≤d.getD i 0)=False:=eq_false g2
  refine X00 1000 ?_
  simp only [X04,w1,f1,f2,k1,k2,Int.toNat_natCast,↓X03,wA,seval,wE]
  refine next (i+1) _ ⟨by omega,fun j hj=>?_⟩ (by omega) (X09 rfl (by simp [X0p,I]) (by simp [X0q]) (by simp [X04]))
  by_cases e:j<i
  ·exact hok j e
  ·obtain rfl:j=i:=by omega
   unfold XgQ; rw [decide_eq_false g1,decide_eq_false g2]; rfl
 obtain rfl:i=d.length:=by omega
 have hall:d.any XgQ=false:=by
  rw [List.any_eq_false]
  intro x hx
  obtain ⟨k,hk,rfl⟩:=List.getElem_of_mem hx
  have:=hok k hk
  rw [List.getD_eq_getElem?_getD,List.getElem?_eq_getElem hk] at this
  simpa using this
 rw [hall] at hV
 by_cases h0:d.length=0
 ·have f1:(d.length=0)=True:=eq_true h0
  have f2:((d.length:Int)=0)=True:=eq_true (by omega)
  refine X00 1000 ?_
  simp only [X04,f1,f2,Int.lt_irrefl,Nat.lt_irrefl,↓X03,wA,seval,wE]
  exact fin rfl (by rw [hV,if_pos h0]; simp)
 ·have f1:(d.length=0)=False:=eq_false h0
  have f2:((d.length:Int)=0)=False:=eq_false (by omega)
  have f3:(0<d.length)=True:=eq_true (by omega)
  have f4:(0<(d.length:Int))=True:=eq_true (by omega)
  have w2:IntKind.i64.wrap ((d.length:Int) - 1)=((d.length - 1:Nat):Int):=by rw [IntKind.wrap_i64]; omega
  have f5:(d.length - 1<d.length)=True:=eq_true (by omega)
  refine X00 1000 ?_
  simp only [X04,f1,f2,f3,f4,f5,w2,Int.toNat_natCast,Int.lt_irrefl,Nat.lt_irrefl,↓X03,wA,seval,wE]
  exact fin rfl (by rw [hV,if_neg h0]; simp)
theorem X8Q (x:RQ) (hx:x.sz<1000000000):Fn Tryz.prog 83 [x.A] (.bool (decide x.ok)):=by
 unfold RQ.sz at hx
 obtain ⟨V,hV⟩:∃ V,V=decide x.ok:=⟨_,rfl⟩
 have c1:=X8N x.pn x.pd (by omega)
 have c2:=X8N x.qn x.qd (by omega)
 have c3:=Xhs x.qn x.qd
 have bad1:X3e x.pn x.pd=false→V=false:=fun h=>by
  rw [hV]
  refine decide_eq_false ?_
  rintro ⟨r,rfl⟩
  have:X3e (RQ.of r).pn (RQ.of r).pd=true:=(X3f _ _).2 ⟨r.num,rfl,rfl⟩
  rw [this] at h; cases h
 have bad2:X3e x.qn x.qd=false→V=false:=fun h=>by
  rw [hV]
  refine decide_eq_false ?_
  rintro ⟨r,rfl⟩
  have:X3e (RQ.of r).qn (RQ.of r).qd=true:=(X3f _ _).2 ⟨(Ab.N.qd r:Int),by unfold RQ.of; simp,by unfold RQ.of; simp⟩
  rw [this] at h; cases h
 have fin:∀ {s:AS} {v:Bool},s.get 2=.bool v→v=V→RetOk (X2f Tryz.prog Tryz.f83 [] [] (.bool V)) s:=fun h e=>X0r rfl h (X02 _) (by rw [e])
 rw [← hV]
 refine Fq Tryz.call83 Tryz.func83 3 [] [] [] (by simp [X5r]) (X00 1000 ?_)
 simp only [AS.start,RQ.A,RQ.L,↓X03,wA,seval,wE]
 refine X01 c1 rfl ?_
 by_cases v1:X3e x.pn x.pd=true
 rotate_left
 ·rw [Bool.not_eq_true] at v1
  rw [v1]
  simp only [↓X03,wA,seval,wE]
  exact fin rfl (bad1 v1).symm
 rw [v1]
 simp only [↓X03,wA,seval,wE]
 refine X01 c2 rfl ?_
 by_cases v2:X3e x.qn x.qd=true
 rotate_left
 ·rw [Bool.not_eq_true] at v2
  rw [v2]
  simp only [↓X03,wA,seval,wE]
  exact fin rfl (bad2 v2).symm
 rw [v2]
 obtain ⟨p,p1,p2⟩:=(X3f _ _).1 v1
 obtain ⟨q,q1,q2⟩:=(X3f _ _).1 v2
 have hok:=RQ.ok_iff x p q p1 p2 q1 q2
 have lp:bl p<1000000000:=by unfold bl; rw [← p2]; omega
 have lq:bl q<1000000000:=by unfold bl; rw [← q2]; omega
 rw [q1,q2,Xi5] at c3
 have cg:=XhL p q lp lq
 have cu:=XfS (Int.gcd p q)
 rw [p1,p2,q1,q2]
 have hl:((X0i q.natAbs).length=0)=(q=0):=propext (digs_len_zero.trans (by omega))
 have hlN:(X0i q.natAbs).length=0↔q=0:=digs_len_zero.trans (by omega)
 have hlI:(((X0i q.natAbs).length:Int)=0)=(q=0):=propext (by omega)
 by_cases h1:q<0
 ·have f1:(q<0)=True:=eq_true h1
  simp only [f1,↓X03,wA,seval,wE]
  exact fin rfl (by rw [hV,decide_eq_false (by rw [hok]; exact fun h=>h.1 h1)])
 have f1:(q<0)=False:=eq_false h1
 simp only [f1,↓X03,wA,seval,wE]
 have c3':=c3
 rw [decide_eq_false h1] at c3'
 refine X01 c3' rfl ?_
 by_cases h2:q=1
 ·have f2:(q=1)=True:=eq_true h2
  simp only [f1,f2,↓X03,wA,seval,wE]
  exact fin rfl (by rw [hV,decide_eq_false (by rw [hok]; exact fun h=>h.2.1 h2)])
 have f2:(q=1)=False:=eq_false h2
 by_cases h0:q=0
 ·have f3:(q=0)=True:=eq_true h0
  simp only [f1,f2,f3,hl,hlI,↓X03,wA,seval,wE]
  exact fin rfl (by rw [hV,decide_eq_true (hok.2 ⟨h1,h2,.inl h0⟩)])
 have f3:(q=0)=False:=eq_false h0
 simp only [f1,f2,f3,hl,hlI,↓X03,wA,seval,wE]
 rw [XqP h1] at cg
 refine X01 cg rfl ?_
 simp only [↓X03,wA,seval,wE]
 refine X01 cu rfl ?_
 simp only [↓X03,wA,seval,wE]
 refine fin rfl ?_
 rw [hV,decide_eq_decide,hok]
 constructor
 ·intro h; exact ⟨h1,h2,.inr (by omega)⟩
 ·rintro ⟨_,_,h | h⟩
  ·exact absurd h h0
  ·rw [h]; rfl
theorem X3k (x y:Int) (hx:X51 x) (hy:X51 y):Fn Tryz.prog 106 [I x,I y] (vA ⟨x,y⟩):=by
 have e:∀ n:Int,Rat.divInt n 1=(n:Rat):=fun n=>by
  rw [show (1:Int)=((1:Nat):Int) from rfl,Rat.divInt_ofNat]
  have:=Rat.mkRat_self (n:Rat)
  rwa [Rat.num_intCast,Rat.den_intCast] at this
 obtain ⟨R,hR⟩:∃ R,R=vA ⟨x,y⟩:=⟨_,rfl⟩
 have sR:Settled R:=hR▸X0k _
 have c1:=X1M x 1 hx ⟨by omega,by omega⟩
 have c2:=X1M y 1 hy ⟨by omega,by omega⟩
 rw [e] at c1 c2
 rw [← hR]
 refine Fq Tryz.call106 Tryz.func106 5 [] [] [] (by simp [wS]) (X00 1000 ?_); simp (config:={ maxSteps:=2000000 }) only [AS.start,↓X03,wA,seval,wE]
 refine X01 c1 rfl ?_
 simp only [↓X03,wA,seval,wE]
 refine X01 c2 rfl ?_
 simp only [↓X03,wA,seval,wE]
 exact X6f rfl X2z rfl rfl rfl sR (hR.trans rfl)
theorem X29 (a b:V2) (ha:vb a≤rm) (hb:vb b≤rm):Fn Tryz.prog 104 [vA a,vA b] (vA (a.sub b)):=by
 obtain ⟨R,hR⟩:∃ R,R=vA (a.sub b):=⟨_,rfl⟩
 have sR:Settled R:=hR▸X0k _
 have:=X2w a; have:=X2w b; have:=X2k a; have:=X2k b
 have c1:=X3t a.x b.x (by omega) (by omega)
 have c2:=X3t a.y b.y (by omega) (by omega)
 rw [← hR]
 refine Fq Tryz.call104 Tryz.func104 5 [] [] [] (by simp [wS]) (X00 1000 ?_); simp (config:={ maxSteps:=2000000 }) only [AS.start,↓X03,wA,seval,wE]
 refine X01 c1 rfl ?_
 simp only [↓X03,wA,seval,wE]
 refine X01 c2 rfl ?_
 simp only [↓X03,wA,seval,wE]
 exact X6f rfl X2z rfl rfl rfl sR (hR.trans rfl)
theorem X8O (a b:V2) (ha:vb a≤vm) (hb:vb b≤vm):Fn Tryz.prog 195 [vA a,vA b] (qA (X1E a b)):=by
 unfold vm at ha hb
 obtain ⟨R,hR⟩:∃ R,R=qA (X1E a b):=⟨_,rfl⟩
 have sR:Settled R:=hR▸X0a _
 have:=X2w a; have:=X2w b; have:=X2k a; have:=X2k b
 have m1:=X1u a.x b.y; have m2:=X1u a.y b.x
 have c1:=X1r a.x b.y (by unfold rm; omega) (by unfold rm; omega)
 have c2:=X1r a.y b.x (by unfold rm; omega) (by unfold rm; omega)
 have c4:=X3t (a.x*b.y) (a.y*b.x) (by unfold rm; omega) (by unfold rm; omega)
 rw [show a.x*b.y - a.y*b.x=X1E a b from rfl,← hR] at c4
 rw [← hR]
 refine Fq Tryz.call195 Tryz.func195 5 [] [] [] (by simp [wS]) (X00 1000 ?_); simp (config:={ maxSteps:=2000000 }) only [AS.start,↓X03,wA,seval,wE]
 refine X01 c1 rfl ?_
 simp only [↓X03,wA,seval,wE]
 refine X01 c2 rfl ?_
 simp only [↓X03,wA,seval,wE]
 refine X01 c4 rfl ?_
 simp only [hR,↓X03,wA,seval,wE]
 exact X6f rfl X1k rfl rfl rfl sR (hR.trans rfl)
theorem X3a (a b:V2) (ha:vb a≤vm) (hb:vb b≤vm):Fn Tryz.prog 193 [vA a,vA b] (qA (dot a b)):=by
 unfold vm at ha hb
 obtain ⟨R,hR⟩:∃ R,R=qA (dot a b):=⟨_,rfl⟩
 have sR:Settled R:=hR▸X0a _
 have:=X2w a; have:=X2w b; have:=X2k a; have:=X2k b
 have m1:=X1u a.x b.x; have m2:=X1u a.y b.y
 have c1:=X1r a.x b.x (by unfold rm; omega) (by unfold rm; omega)
 have c2:=X1r a.y b.y (by unfold rm; omega) (by unfold rm; omega)
 have c4:=X1W (a.x*b.x) (a.y*b.y) (by unfold rm; omega) (by unfold rm; omega)
 rw [show a.x*b.x+a.y*b.y=dot a b from rfl,← hR] at c4
 rw [← hR]
 refine Fq Tryz.call193 Tryz.func193 5 [] [] [] (by simp [wS]) (X00 1000 ?_); simp (config:={ maxSteps:=2000000 }) only [AS.start,↓X03,wA,seval,wE]
 refine X01 c1 rfl ?_
 simp only [↓X03,wA,seval,wE]
 refine X01 c2 rfl ?_
 simp only [↓X03,wA,seval,wE]
 refine X01 c4 rfl ?_
 simp only [hR,↓X03,wA,seval,wE]
 exact X6f rfl X1k rfl rfl rfl sR (hR.trans rfl)
theorem X4s (a b c:V2) (ha:vb a≤vs) (hb:vb b≤vs) (hc:vb c≤vs):Fn Tryz.prog 182 [vA a,vA b,vA c] (I (X3H a b c)):=by
 unfold vs at ha hb hc
 have m1:=X2Y b a; have m2:=X2Y c a
 have c1:=X29 b a (by unfold rm; omega) (by unfold rm; omega)
 have c2:=X29 c a (by unfold rm; omega) (by unfold rm; omega)
 have c3:=X8O (b.sub a) (c.sub a) (by unfold vm; omega) (by unfold vm; omega)
 have q:=X6v (b.sub a) (c.sub a)
 have c4:=X4t (X1E (b.sub a) (c.sub a)) (by unfold rm; omega)
 refine Fq Tryz.call182 Tryz.func182 7 [] [] [] (by simp [wS]) (X00 1000 ?_); simp (config:={ maxSteps:=2000000 }) only [AS.start,↓X03,wA,seval,wE]
 refine X01 c1 rfl ?_
 simp only [↓X03,wA,seval,wE]
 refine X01 c2 rfl ?_
 simp only [↓X03,wA,seval,wE]
 refine X01 c3 rfl ?_
 simp only [↓X03,wA,seval,wE]
 refine X01 c4 rfl ?_
 simp only [↓X03,wA,seval,wE]
 exact X0r rfl rfl (X08 _) rfl
def V2.turned (a:V2):V2:=⟨-a.y,a.x⟩
theorem XeR (a:V2):vb a.turned=vb a:=by
 unfold vb V2.turned
 simp only [Xg1]
 omega
theorem XeQ (a:V2) (ha:vb a≤rm):Fn Tryz.prog 229 [vA a] (vA a.turned):=by
 have:=X2k a
 have c:=X3b a.y (by omega)
 obtain ⟨R,hR⟩:∃ R,R=vA a.turned:=⟨_,rfl⟩
 have sR:Settled R:=hR▸X0k _
 rw [← hR]
 refine Fq Tryz.call229 Tryz.func229 3 [] [] [] (by simp [wS]) (X00 1000 ?_); simp (config:={ maxSteps:=2000000 }) only [AS.start,↓X03,wA,seval,wE]
 refine X01 c rfl ?_
 simp only [↓X03,wA,seval,wE]
 exact X6f rfl X2z rfl rfl rfl sR (hR.trans rfl)
theorem Xlj (L:List V2) (i:Nat) (hn:L.length<1000000) (h0:L.length≠0) (hi:i<1000000000):Fn Tryz.prog 183 [X0A L,I i] (vA (L.getD (i % L.length) v0)):=by
 obtain ⟨R,hR⟩:∃ R,R=vA (L.getD (i % L.length) v0):=⟨_,rfl⟩
 have sR:Settled R:=hR▸X0k _
 have hm:(i:Int).tmod L.length=((i % L.length:Nat):Int):=rfl
 have hml:i % L.length<L.length:=Nat.mod_lt _ (by omega)
 have f4:(i % L.length<L.length)=True:=eq_true hml
 have f5:(i % L.length*8+8≤L.length*8)=True:=eq_true (by omega)
 have f6:((L.length:Int)=0)=False:=eq_false (by omega)
 have f6':(L.length=0)=False:=eq_false h0
 have v1:=vF L (i % L.length)
 rw [← hR]
 refine Fq Tryz.call183 Tryz.func183 5 [] [] [] (by simp [X0b,X08]) (X00 1000 ?_)
 simp only [AS.start,X05,f4,f5,f6,f6',hm,v1,Int.toNat_natCast,↓X03,wA,seval,wE]
 exact X6f rfl X2z rfl rfl rfl sR (hR.trans rfl)
theorem XfQ (L:List V2) (i:Nat) (hn:L.length<1000000) (hi:i<L.length):Fn Tryz.prog 231 [X0A L,I i] (vA (L.getD ((i+1) % L.length) v0)):=by
 obtain ⟨R,hR⟩:∃ R,R=vA (L.getD ((i+1) % L.length) v0):=⟨_,rfl⟩
 have sR:Settled R:=hR▸X0k _
 have w1:=wj i (by omega)
 rw [← hR]
 refine Fq Tryz.call231 Tryz.func231 5 [] [] [] (by simp [X0b,X08]) (X00 1000 ?_)
 by_cases h:i+1<L.length
 ·have e:(i+1) % L.length=i+1:=Nat.mod_eq_of_lt h
  have f1:(((i+1:Nat):Int)<L.length)=True:=eq_true (by omega)
  have f1':(i+1<L.length)=True:=eq_true h
  have f2:((i+1)*8+8≤L.length*8)=True:=eq_true (by omega)
  have v1:=vF L (i+1)
  rw [e] at hR
  simp only [AS.start,X05,w1,f1,f1',f2,v1,Int.toNat_natCast,↓X03,wA,seval,wE]
  exact X6f rfl X2z rfl rfl rfl sR (hR.trans rfl)
 ·have hl:i+1=L.length:=by omega
  have e:(i+1) % L.length=0:=by rw [hl,Nat.mod_self]
  have f1:(((i+1:Nat):Int)<L.length)=False:=eq_false (by omega)
  have f1':(i+1<L.length)=False:=eq_false h
  have f2:(0<L.length)=True:=eq_true (by omega)
  have f2':((0:Int)<L.length)=True:=eq_true (by omega)
  have f3:(8≤L.length*8)=True:=eq_true (by omega)
  have v1:=vF L 0
  rw [Nat.zero_mul] at v1
  simp only [Nat.zero_add] at v1
  rw [e] at hR
  simp only [AS.start,X05,w1,f1,f1',f2,f2',f3,v1,Int.toNat_zero,↓X03,wA,seval,wE]
  exact X6f rfl X2z rfl rfl rfl sR (hR.trans rfl)
def Xvh (a b:V2):Rat:=(a.x - b.x)*(a.y+b.y)
def X5V (L:List V2):Nat→Rat
 | 0=>0
 | i+1=>X5V L i+Xvh (L.getD i v0) (L.getD ((i+1) % L.length) v0)
def Xqp (L:List V2):Rat:=X5V L L.length*Rat.divInt 1 2
theorem Xuw (a b:V2):qb (Xvh a b)≤2*(vb a+vb b)+2:=by
 have:=X2w a; have:=X2w b; have:=X2k a; have:=X2k b
 have m1:=Xac a.x b.x; have m2:=X2n a.y b.y
 have m3:=X1u (a.x - b.x) (a.y+b.y)
 unfold Xvh; omega
theorem Xi2 (L:List V2) (k:Nat) (h:X0Y L k):∀ i,qb (X5V L i)≤(4*k+4)*i+1
 | 0=>by have:=X5G; simp only [X5V]; omega
 | i+1=>by
  have ih:=Xi2 L k h i
  have h1:=Xuw (L.getD i v0) (L.getD ((i+1) % L.length) v0)
  have h2:=h i
  have h3:=h ((i+1) % L.length)
  have h4:=X2n (X5V L i) (Xvh (L.getD i v0) (L.getD ((i+1) % L.length) v0))
  have e:(4*k+4)*(i+1)=(4*k+4)*i+(4*k+4):=Nat.mul_succ _ _
  simp only [X5V]
  omega
theorem XbQ (L:List V2):∀ i,i<L.length→X5V L i=X45 L i+(L.getD 0 v0).x*(L.getD 0 v0).y - (L.getD i v0).x*(L.getD i v0).y
 | 0,_=>by simp only [X5V,X45]; grind
 | i+1,h=>by
  have ih:=XbQ L i (by omega)
  have e:(i+1) % L.length=i+1:=Nat.mod_eq_of_lt h
  simp only [X5V,X45,e,ih,Xvh,X1E]
  grind
theorem XjI (L:List V2):Xqp L=X4S L:=by
 unfold Xqp X4S
 congr 1
 cases hn:L.length with
 | zero=>rfl
 | succ n =>
  have ih:=XbQ L n (by omega)
  have e:(n+1) % L.length=0:=by rw [hn,Nat.mod_self]
  simp only [X5V,X45,e,ih,Xvh,X1E]
  grind
theorem Xjt (L:List V2) (k:Nat) (h:X0Y L k) (hk:k≤1000) (hl:L.length≤1000):Fn Tryz.prog 185 [X0A L] (qA (X4S L)):=by
 rw [← XjI]
 obtain ⟨R,hR⟩:∃ R,R=qA (Xqp L):=⟨_,rfl⟩
 have sR:Settled R:=hR▸X0a _
 have bv:Bel 2 (X0A L)=True:=eq_true (X06 (X0b L))
 have bT:∀ i,X1j 2 (.row 0 4 (ofL (qC (X5V L i))))=True:=fun i=>eq_true (X0B (by simp [qC,X07,X02]))
 rw [← hR]
 refine Fq Tryz.call185 Tryz.func185 6 [] [6,7000,70000005,7,80000003] [] (by simp [X0b]) (X00 1000 ?_)
 simp only [AS.start,X05,↓X03,wA,seval,wE]
 refine X0d (fun i:Nat=>⟨6,[],[X0A L,.any,.ref 0 0 0,.ref 1 0 0,I i,.any],[],[X44,.row 0 4 (ofL (qC (X5V L i)))]⟩) (fun i=>i≤L.length) (fun i=>L.length - i) 0 (by omega)
  ?_ ?_
 ·refine Sub.trans (X4c 1 (ofL (qC 0)) rfl fun j hj=>?_) (X09 rfl (by simp [X0p,X05,I]) (by simp [X0q,X0P]) (by simp [X44,X5V]))
  match j,hj with
  | 0,_=>exact X1B _ _
  | 1,_=>exact X2Z (X1i (by rw [Rat.zero_num]; simp [X0O]))
  | 2,_=>exact X1B _ _
  | 3,_=>exact X2Z (X1i (X8M rfl))
  | j+4,h=>omega
 intro i hi next
 have w1:=wj i (by omega)
 have hq:=Xi2 L k h i
 have hq2:(4*k+4)*i≤4004*1000:=Nat.mul_le_mul (by omega) (by omega)
 by_cases hi2:i<L.length
 rotate_left
 ·obtain rfl:i=L.length:=by omega
  have c1:=X1M 1 2 ⟨by omega,by omega⟩ ⟨by omega,by omega⟩
  have c2:=X1r (X5V L L.length) (Rat.divInt 1 2) (by unfold rm; omega) (by have:=(X2V 1 2 3 (by omega) (X1n ⟨by omega,by omega⟩) (X1n ⟨by omega,by omega⟩):qb (Rat.divInt 1 2)≤3); unfold rm; omega)
  rw [show X5V L L.length*Rat.divInt 1 2=Xqp L from rfl,← hR] at c2
  refine X00 1000 ?_
  simp only [X44,X05,Int.lt_irrefl,Nat.lt_irrefl,↓X03,wA,seval,wE]
  refine X01 c1 rfl ?_
  simp only [↓X03,wA,seval,wE]
  refine X01 c2 rfl ?_
  simp only [hR,↓X03,wA,seval,wE]
  exact X3V rfl X1k rfl rfl rfl sR (hR.trans rfl)
 have f1:((i:Int)<L.length)=True:=eq_true (by omega)
 have f2:(i<L.length)=True:=eq_true hi2
 have f3:(i*8+8≤L.length*8)=True:=eq_true (by omega)
 have f4:(i*8+4≤L.length*8)=True:=eq_true (by omega)
 have f5:(i*8+4+4≤L.length*8)=True:=eq_true (by omega)
 have v1:=vF L i
 have cn:=XfQ L i (by omega) hi2
 obtain ⟨b,hb⟩:∃ b,b=L.getD ((i+1) % L.length) v0:=⟨_,rfl⟩
 have h1:=h i; have h2:=h ((i+1) % L.length)
 rw [← hb] at cn h2
 have:=X2w (L.getD i v0); have:=X2k (L.getD i v0); have:=X2w b; have:=X2k b
 have m1:=Xac (L.getD i v0).x b.x; have m2:=X2n (L.getD i v0).y b.y
 have m3:=X1u ((L.getD i v0).x - b.x) ((L.getD i v0).y+b.y)
 have c1:=X3t (L.getD i v0).x b.x (by unfold rm; omega) (by unfold rm; omega)
 have c2:=X1W (L.getD i v0).y b.y (by unfold rm; omega) (by unfold rm; omega)
 have c3:=X1r ((L.getD i v0).x - b.x) ((L.getD i v0).y+b.y) (by unfold rm; omega) (by unfold rm; omega)
 have c4:=X1W (X5V L i) (((L.getD i v0).x - b.x)*((L.getD i v0).y+b.y)) (by unfold rm; omega) (by unfold rm; omega)
 have e:X5V L i+((L.getD i v0).x - b.x)*((L.getD i v0).y+b.y)=X5V L (i+1):=by rw [hb]; rfl
 rw [e] at c4
 refine X00 1000 ?_
 simp only [X44,X05,w1,f1,f2,f3,f4,f5,v1,Int.toNat_natCast,↓X03,wA,seval,wE]
 refine X01 cn rfl ?_
 simp only [X44,X05,w1,f1,f2,f3,f4,f5,v1,Int.toNat_natCast,↓X03,wA,seval,wE]
 refine X01 c1 rfl ?_
 simp only [X44,X05,w1,f1,f2,f3,f4,f5,v1,Int.toNat_natCast,↓X03,wA,seval,wE]
 refine X01 c2 rfl ?_
 simp only [X44,X05,w1,f1,f2,f3,f4,f5,v1,Int.toNat_natCast,↓X03,wA,seval,wE]
 refine X01 c3 rfl ?_
 simp only [X44,X05,w1,f1,f2,f3,f4,f5,v1,Int.toNat_natCast,↓X03,wA,seval,wE]
 refine X01 c4 rfl ?_
 simp only [X44,X05,w1,f1,f2,f3,f4,f5,v1,Int.toNat_natCast,↓X03,wA,seval,wE]
 refine next (i+1) _ (by omega) (by omega) (X0t (m:=2) (Nat.zero_le _) rfl (by simp [X05,X0p,I]) (by simp [X0q]) (by simp [X44,qC,X04]) (by simp [X0L,bv]) (by simp) (by simp [X44,X0L,bT]))
end
end Go.Ab.N
