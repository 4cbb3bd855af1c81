/- Contracts of functions of these chapters, for every argument that fits, and what they need. -/
import Derived.Test.YtefjhgcndhepeaaGreatC9
set_option linter.unusedSimpArgs false
set_option linter.unusedVariables false
open Nat renaming reducePow → Y1, reduceLT → Y2, reduceLeDiff → Y3, reduceEqDiff → Y4, reduceAdd → Y5, reduceMul → Y6, reduceSub → Y7, reduceBEq → Y8, reduceDiv → Y9, reduceMod → YA
namespace Go.Ab.N
open Go Go.RowKit Go.Proofs
noncomputable section
set_option maxRecDepth 10000
set_option maxHeartbeats 4000000
open Classical
def qs (l:List Rat):AV:=pz qC 4 0 l
theorem IF (l:List Rat):Settled (qs l):=D7 fun a x hx=>by
 have:∀ x∈qC a,Settled x:=by simp [qC,X4,X3]
 exact this x hx
theorem Av (l:List Rat):qs l=.sl l.length (l.length*4) (Xr qC 4 0 l) false:=nrfl rfl
theorem rK (l:List Rat) (i:Nat):Xr qC 4 0 l (i*4)=.bool (decide ((l.getD i 0).num<0))∧Xr qC 4 0 l (i*4+1)=X6 (X8 (l.getD i 0).num.natAbs)∧Xr qC 4 0 l (i*4+2)=.bool false∧Xr qC 4 0 l (i*4+3)=X6 (X8 (qd (l.getD i 0))):=by
 refine ⟨?_,?_,?_,?_⟩
 ·rw [Ju _ _ _ _ _ (by omega)]; rfl
 all_goals rw [Jm _ _ _ _ _ _ (by omega)]; rfl
def DD (sg:Int) (x:Rat) (l:List Rat):Nat→Rat
 | 0=>x
 | k+1=>if Js (l.getD k 0) (DD sg x l k)=sg then l.getD k 0 else DD sg x l k
theorem Nu (sg:Int) (x:Rat) (l:List Rat) (c:Nat) (hx:qb x≤c) (hl:∀ k,qb (l.getD k 0)≤c):∀ k,qb (DD sg x l k)≤c
 | 0=>hx
 | k+1=>by
  simp only [DD]
  split
  ·exact hl k
  ·exact Nu sg x l c hx hl k
def Gd:List AV:=[.bool false,.sl 0 0 (fun _=>.any) true,.bool false,.sl 0 0 (fun _=>.any) true]
theorem BS (sg:Int) (x:Rat) (l:List Rat) (hl:l.length<1000000) (hx:qb x≤vm) (hq:∀ k,qb (l.getD k 0)≤vm):Fn Tryz.prog 286 [I sg,qA x,qs l] (qA (DD sg x l l.length)):=by
 unfold vm at hx hq
 obtain ⟨R,hR⟩:∃ R,R=qA (DD sg x l l.length):=⟨_,rfl⟩
 have sR:Settled R:=hR▸Xc _
 have hqc:∀ r:Rat,∀ x∈qC r,Settled x:=fun r=>by simp [qC,X4,X3]
 have bx:∀ r,XS 2 (.row 0 4 (Xn (qC r)))=True:=fun r=>eq_true (XM (hqc r))
 have bl:Kd 2 (qs l)=True:=eq_true (X9 (IF l))
 rw [← hR]
 refine Fq Tryz.call286 Tryz.func286 9 [9,10,11] [] [] (by simp [Xa,Xc,IF]) (X0 1000 ?_)
 simp only [AS.start,Av,↓X2,wA,seval,wE]
 refine Xf (fun k:Nat=>⟨9,[9,10,11],[I sg,.any,.any,.any,.ref 0 0 0,.any,.ref 1 0 0,.any,.any],[(9,qs l),(10,I l.length),(11,I k)],[.row 0 4 (Xn (qC (DD sg x l k))),.row 0 4 (Xn Gd)]⟩) (fun k=>k≤l.length) (fun k=>l.length - k) 0 (by omega)
  (Xb rfl (by simp [Xh,I]) (by simp [Xi,Xp,Av,I]) rfl) ?_
 intro k hk next
 have w1:=wj k (by omega)
 have he:=Nu sg x l 1000000 hx hq k
 by_cases hk2:k<l.length
 ·have f1:((k:Int)<l.length)=True:=eq_true (by omega)
  have f2:(k<l.length)=True:=eq_true hk2
  have f3:(k*4+4≤l.length*4)=True:=eq_true (by omega)
  have v1:=rK l k
  have c1:=K0 (l.getD k 0) (DD sg x l k) (by have:=hq k; unfold rm; omega) (by unfold rm; omega)
  have nx:=next (k+1)
  have hs:DD sg x l (k+1)=if Js (l.getD k 0) (DD sg x l k)=sg then l.getD k 0 else DD sg x l k:=rfl
  generalize DD sg x l k=E at *
  refine X0 1000 ?_
  simp only [Av,w1,f1,f2,f3,v1,Int.toNat_natCast,↓X2,wA,seval,wE]
  refine X1 c1 rfl ?_
  by_cases h:Js (l.getD k 0) E=sg
  ·have g1:(Js (l.getD k 0) E=sg)=True:=eq_true h
   rw [if_pos h] at hs
   simp only [hs] at nx
   simp only [g1,w1,↓X2,wA,seval,wE]
   exact nx _ (by omega) (by omega) (XA (m:=2) (Nat.zero_le _) rfl (by simp [Xh,I]) (by simp [Xi,Xp,Av,I]) (by simp [qC,Gd,X5]) (by simp [Xz]) (by simp [Xz,bl]) (by simp [bx,Gd,Xz]))
  ·have g1:(Js (l.getD k 0) E=sg)=False:=eq_false h
   rw [if_neg h] at hs
   simp only [hs] at nx
   simp only [g1,w1,↓X2,wA,seval,wE]
   exact nx _ (by omega) (by omega) (XA (m:=2) (Nat.zero_le _) rfl (by simp [Xh,I]) (by simp [Xi,Xp,Av,I]) (by simp [qC,Gd,X5]) (by simp [Xz]) (by simp [Xz,bl]) (by simp [bx,Gd,Xz]))
 obtain rfl:k=l.length:=by omega
 refine X0 1000 ?_
 simp only [Av,Gd,Int.lt_irrefl,Nat.lt_irrefl,↓X2,wA,seval,wE]
 exact JD rfl Q8 rfl rfl rfl sR (hR.trans rfl)
def Qh (n:V2) (L:List V2):List Rat:=L.map (Q7 n)
theorem T5 (n:V2) (L:List V2) (i:Nat) (hi:i<L.length):Qh n (L.take i) ++ [Q7 n (L.getD i v0)]=Qh n (L.take (i+1)):=by
 rw [AD _ v0 hi]; simp [Qh]
theorem oL (a:Rat):∀ j,j<4→((qC a).getD j .any).one=true:=fun j hj=>by
 match j,hj with
 | 0,_=>rfl
 | 1,_=>rfl
 | 2,_=>rfl
 | 3,_=>rfl
 | j+4,h=>omega
theorem Gz (n:V2) (L:List V2) (k:Nat) (h:Qt L k) (hk:k≤100000) (hl:L.length<1000000) (hn:vb n≤100000):Fn Tryz.prog 285 [vA n,Xs L] (qs (Qh n L)):=by
 have hvc:∀ a:V2,∀ x∈vC a,Settled x:=fun a=>by simp [vC,X4,X3]
 have hqc:∀ r:Rat,∀ x∈qC r,Settled x:=fun r=>by simp [qC,X4,X3]
 have bo:XS 2 (.row 0 8 (Xn (vC n)))=True:=eq_true (XM (hvc n))
 have bv:Kd 2 (Xs L)=True:=eq_true (X9 (Xk L))
 have br:∀ i l n,XS 2 (.row i n (Xr qC 4 0 l))=True:=fun i l n=>eq_true fun j _=>X9 (Xg (hqc _) _)
 obtain ⟨R,hR⟩:∃ R,R=qs (Qh n L):=⟨_,rfl⟩
 rw [← hR]
 refine Fq Tryz.call285 Tryz.func285 8 [8,9,10] [] [] (by simp [Xo,Xk]) (X0 1000 ?_)
 simp only [AS.start,X7,↓X2,wA,seval,wE]
 refine Xf (fun i:Nat=>⟨8,[8,9,10],[.any,.any,.ref 0 0 0,.any,.any,.osl 1 i 4 0 i,.any,.any],[(8,Xs L),(9,I L.length),(10,I i)],[.row 0 8 (Xn (vC n)),.row i (i*4) (Xr qC 4 0 (Qh n (L.take i)))]⟩) (fun i=>i≤L.length) (fun i=>L.length - i) 0 (by omega)
  (Sub.trans (QL 5 4 (Xr qC 4 0 []) rfl) (Xb rfl (by simp [AS.put,Xh,I]) (by simp [AS.put,Xi,Xp,X7,I]) (by simp [AS.put,vC,X5,Qh]))) ?_
 intro i hi next
 have w1:=wj i (by omega)
 by_cases hi2:i<L.length
 ·have f1:((i:Int)<L.length)=True:=eq_true (by omega)
  have f2:(i<L.length)=True:=eq_true hi2
  have f3:(i*8+8≤L.length*8)=True:=eq_true (by omega)
  have v1:=vF L i
  have hb:=h i
  have c1:=F8 n (L.getD i v0) (by unfold vm; omega) (by unfold vm; omega)
  have hap:=Qq qC 4 0 (Qh n (L.take i)) (Q7 n (L.getD i v0)) (by omega)
  rw [T5 _ _ _ hi2,show (Qh n (L.take i)).length=i by simp [Qh]; omega] at hap
  refine X0 1000 ?_
  simp only [X7,w1,f1,f2,f3,v1,Int.toNat_natCast,↓X2,wA,seval,wE]
  refine X1 c1 rfl ?_
  simp only [w1,↓X2,wA,seval,wE]
  exact ⟨⟨oL _,by omega,by omega⟩,next (i+1) _ (by omega) (by omega) (XA (m:=2) (Nat.zero_le _) rfl (by simp [Xh]) (by simp [Xi,Xp,X7,I]) (by rw [← hap]; rfl) (by simp [Xz]) (by simp [Xz,bv]) (by simp [bo,br]))⟩
 obtain rfl:i=L.length:=by omega
 refine X0 1000 ?_
 simp only [X7,Int.lt_irrefl,Nat.lt_irrefl,↓X2,wA,seval,wE]
 refine AH rfl ?_
 have hlen:(Qh n L).length=L.length:=by simp [Qh]
 rw [hR,Av,hlen]
 refine QD (n:=L.length) (.inl rfl) (by omega) (fun h=>by rw [h]) fun j hj=>?_
 rw [List.take_length,Nat.zero_add]
 exact (Xg (hqc _) _).sees _
def HY (sg:Int) (l:List Rat):Rat:=DD sg (l.getD 0 0) (l.drop 1) (l.drop 1).length
def Nk (n:V2) (A B:List V2):Rat:=HY (-1) (Qh n B) - HY 1 (Qh n A)
theorem BZ (n:V2) (L:List V2) (k:Nat) (h:Qt L k) (i:Nat):qb ((Qh n L).getD i 0)≤2*(vb n+k)+1:=by
 have h0:=h i
 have h1:=Bf n (L.getD i v0)
 have q0:=Zh
 by_cases hi:i<L.length
 ·have e:(Qh n L).getD i 0=Q7 n (L.getD i v0):=by
   unfold Qh
   rw [List.getD_eq_getElem?_getD,List.getElem?_map,List.getD_eq_getElem?_getD,List.getElem?_eq_getElem hi]; rfl
  rw [e]; omega
 ·have e:(Qh n L).getD i 0=0:=by
   rw [List.getD_eq_getElem?_getD,List.getElem?_eq_none (by simp [Qh]; omega)]; rfl
  rw [e]; omega
theorem EO (l:List Rat) (i:Nat):(l.drop 1).getD i 0=l.getD (1+i) 0:=by
 rw [List.getD_eq_getElem?_getD,List.getD_eq_getElem?_getD,List.getElem?_drop]
theorem Hj (sg:Int) (l:List Rat) (c:Nat) (h:∀ i,qb (l.getD i 0)≤c):qb (HY sg l)≤c :=
 Nu _ _ _ _ (h 0) (fun k=>by rw [EO]; exact h _) _
theorem IV (l:List Rat) {n m:Nat} {t:Bool} (hn:n=l.length - 1) (hm:(l.length - 1)*4≤m):Weak (.sl n m (fun j=>Xr qC 4 0 l (4+j)) t) (qs (l.drop 1)):=by
 rw [Av]
 refine ZY (by rw [List.length_drop]; exact hn) (by rw [List.length_drop]; exact hm) fun j hj=>?_
 have e:Xr qC 4 0 l (4+j)=Xr qC 4 0 (l.drop 1) j:=by
  unfold Xr
  rw [EO,show (4+j) / 4=1+j / 4 by omega,show (4+j) % 4=j % 4 by omega]
 rw [e]
 exact Weak.rfl' _
theorem od (n:V2) (A B:List V2) (k:Nat) (ha:Qt A k) (hb:Qt B k) (hk:k≤10000) (la:A.length<1000000) (lb:B.length<1000000) (pa:0<A.length) (pb:0<B.length) (hn:vb n≤10000):Fn Tryz.prog 271 [vA n,Xs A,Xs B] (qA (Nk n A B)):=by
 have c1:=Gz n A k ha (by omega) la (by omega)
 have c2:=Gz n B k hb (by omega) lb (by omega)
 have qa:=BZ n A k ha
 have qb':=BZ n B k hb
 have hlA:(Qh n A).length=A.length:=by simp [Qh]
 have hlB:(Qh n B).length=B.length:=by simp [Qh]
 have c3:=BS (-1) ((Qh n B).getD 0 0) ((Qh n B).drop 1) (by rw [List.length_drop]; omega) (by have:=qb' 0; unfold vm; omega) (fun i=>by rw [EO]; have:=qb' (1+i); unfold vm; omega)
 have c4:=BS 1 ((Qh n A).getD 0 0) ((Qh n A).drop 1) (by rw [List.length_drop]; omega) (by have:=qa 0; unfold vm; omega) (fun i=>by rw [EO]; have:=qa (1+i); unfold vm; omega)
 have e1:=Hj (-1) (Qh n B) _ qb'
 have e2:=Hj 1 (Qh n A) _ qa
 have c5:=ND (HY (-1) (Qh n B)) (HY 1 (Qh n A)) (by unfold rm; omega) (by unfold rm; omega)
 rw [show DD (-1) ((Qh n B).getD 0 0) ((Qh n B).drop 1) ((Qh n B).drop 1).length=HY (-1) (Qh n B) from rfl] at c3
 rw [show DD 1 ((Qh n A).getD 0 0) ((Qh n A).drop 1) ((Qh n A).drop 1).length=HY 1 (Qh n A) from rfl] at c4
 rw [show HY (-1) (Qh n B) - HY 1 (Qh n A)=Nk n A B from rfl] at c5
 have v1:=rK (Qh n A) 0
 have v2:=rK (Qh n B) 0
 obtain ⟨R,hR⟩:∃ R,R=qA (Nk n A B):=⟨_,rfl⟩
 have sR:Settled R:=hR▸Xc _
 rw [← hR] at c5 ⊢
 generalize Qh n A=PA at *
 generalize Qh n B=PB at *
 simp only [Nat.zero_mul,Nat.zero_add] at v1 v2
 have f1:(0<PA.length)=True:=eq_true (by omega)
 have f2:(0<PB.length)=True:=eq_true (by omega)
 have f3:((0:Int)<PA.length)=True:=eq_true (by omega)
 have f4:((0:Int)<PB.length)=True:=eq_true (by omega)
 have f5:(4≤PA.length*4)=True:=eq_true (by omega)
 have f6:(4≤PB.length*4)=True:=eq_true (by omega)
 have f7:((1:Int)≤PA.length)=True:=eq_true (by omega)
 have f8:((1:Int)≤PB.length)=True:=eq_true (by omega)
 refine Fq Tryz.call271 Tryz.func271 9 [] [2] [] (by simp [Xo,Xk]) (X0 1000 ?_)
 simp only [AS.start,X7,↓X2,wA,seval,wE]
 refine X1 c1 rfl ?_
 simp only [↓X2,wA,seval,wE]
 refine X1 c2 rfl ?_
 simp only [Av,v1,v2,f1,f2,f3,f4,f5,f6,f7,f8,Int.toNat_zero,Int.reduceLE,↓X2,wA,seval,wE]
 refine XV c3 ⟨Weak.rfl' _,Weak.rfl' _,IV PB (by omega) (by omega),trivial⟩ ?_
 simp only [Av,v1,v2,f1,f2,f3,f4,f5,f6,f7,f8,Int.toNat_zero,Int.reduceLE,↓X2,wA,seval,wE]
 refine XV c4 ⟨Weak.rfl' _,Weak.rfl' _,IV PA (by omega) (by omega),trivial⟩ ?_
 simp only [↓X2,wA,seval,wE]
 refine X1 c5 rfl ?_
 simp only [hR,↓X2,wA,seval,wE]
 exact JD rfl Q8 rfl rfl rfl sR (hR.trans rfl)
def GN (x:Rat):Rat:=if x<0 then -x else x
def BE (n:V2):Rat:=GN n.x+GN n.y
theorem Hi (x:Rat):qb (GN x)=qb x:=by unfold GN; split <;> simp [Bg]
theorem Py (x y:Rat):Js x y=1↔y<x:=by
 rw [← KW]
 unfold Js
 rw [Int.sign_eq_one_iff_pos,Int.sign_pos_iff]
theorem U3 (x:Rat):DD 1 x [-x] 1=GN x:=by
 show (if Js (-x) x=1 then -x else x)=_
 unfold GN
 by_cases h:x<0
 ·rw [if_pos h,if_pos ((Py _ _).2 (by grind))]
 ·rw [if_neg h,if_neg fun hh=>h (by have:=(Py _ _).1 hh; grind)]
theorem Rt (x:Rat) {t:Bool}:Weak (.sl 1 4 (Xn [.bool (decide (x.num<0)),X6 (X8 x.num.natAbs),.bool false,X6 (X8 (qd x))]) t) (qs [x]):=by
 rw [Av]
 refine ZY rfl (Nat.le_refl _) fun j hj=>?_
 match j,hj with
 | 0,_=>exact Weak.rfl' _
 | 1,_=>exact Weak.rfl' _
 | 2,_=>exact Weak.rfl' _
 | 3,_=>exact Weak.rfl' _
 | j+4,h=>exact absurd h (by show ¬ j+4<1*4; omega)
theorem Mf (x:Rat) (c:Nat) (hc:1≤c) (h:qb x≤c) (k:Nat):qb (([x]:List Rat).getD k 0)≤c:=by
 have q0:=Zh
 match k with
 | 0=>exact h
 | k+1=>show qb 0≤c; omega
theorem l7 (n:V2) (hn:vb n≤100000):Fn Tryz.prog 287 [vA n] (qA (BE n)):=by
 have:=QO n; have:=QJ n
 have n1:=C7 n.x
 have n2:=C7 n.y
 have a1:=Hi n.x; have a2:=Hi n.y
 have c1:=BS 1 n.x [-n.x] (by simp) (by unfold vm; omega) (Mf _ _ (by unfold vm; omega) (by rw [Bg]; unfold vm; omega))
 have c2:=BS 1 n.y [-n.y] (by simp) (by unfold vm; omega) (Mf _ _ (by unfold vm; omega) (by rw [Bg]; unfold vm; omega))
 rw [show ([-n.x]:List Rat).length=1 from rfl,U3] at c1
 rw [show ([-n.y]:List Rat).length=1 from rfl,U3] at c2
 have c3:=Ae (GN n.x) (GN n.y) (by unfold rm; omega) (by unfold rm; omega)
 rw [show GN n.x+GN n.y=BE n from rfl] at c3
 obtain ⟨R,hR⟩:∃ R,R=qA (BE n):=⟨_,rfl⟩
 have sR:Settled R:=hR▸Xc _
 rw [← hR] at c3 ⊢
 refine Fq Tryz.call287 Tryz.func287 3 [] [1,20000001] [] (by simp [wS]) (X0 1000 ?_); simp (config:={ maxSteps:=2000000 }) only [AS.start,↓X2,wA,seval,wE]
 refine X1 n1 rfl ?_
 simp only [↓X2,wA,seval,wE]
 refine XV c1 ⟨Weak.rfl' _,Weak.rfl' _,Rt _,trivial⟩ ?_
 simp only [↓X2,wA,seval,wE]
 refine X1 n2 rfl ?_
 simp only [↓X2,wA,seval,wE]
 refine XV c2 ⟨Weak.rfl' _,Weak.rfl' _,Rt _,trivial⟩ ?_
 simp only [↓X2,wA,seval,wE]
 refine X1 c3 rfl ?_
 simp only [hR,↓X2,wA,seval,wE]
 exact JD rfl Q8 rfl rfl rfl sR (hR.trans rfl)
theorem Uu (n:V2):qb (BE n)≤2*vb n+1:=by
 have:=QO n; have:=QJ n
 have a1:=Hi n.x; have a2:=Hi n.y
 have:=Kt (GN n.x) (GN n.y)
 unfold BE; omega
theorem kT (n:V2) (e:Rat) (hn:vb n≤100000) (he:qb e≤100000):Fn Tryz.prog 272 [vA n,qA e] (qA (e*BE n)):=by
 have q:=Uu n
 have c1:=l7 n hn
 have c2:=JO e (BE n) (by unfold rm; omega) (by unfold rm; omega)
 obtain ⟨R,hR⟩:∃ R,R=qA (e*BE n):=⟨_,rfl⟩
 have sR:Settled R:=hR▸Xc _
 rw [← hR] at c2 ⊢
 refine Fq Tryz.call272 Tryz.func272 5 [] [] [] (by simp [wS]) (X0 1000 ?_); simp (config:={ maxSteps:=2000000 }) only [AS.start,↓X2,wA,seval,wE]
 refine X1 c1 rfl ?_
 simp only [↓X2,wA,seval,wE]
 refine X1 c2 rfl ?_
 simp only [hR,↓X2,wA,seval,wE]
 exact JD rfl Q8 rfl rfl rfl sR (hR.trans rfl)
def mm (p q:V2):V2:=⟨(q.sub p).y,-(q.sub p).x⟩
theorem gb (p q:V2):vb (mm p q)≤vb p+vb q+1:=by
 have:=Kk q p
 have:=QO (q.sub p); have:=QJ (q.sub p)
 have:=Bg (q.sub p).x
 unfold mm
 show max (qb (q.sub p).y) (qb (-(q.sub p).x))≤_
 omega
theorem HA (p q:V2) (hp:vb p≤100000) (hq:vb q≤100000):Fn Tryz.prog 270 [vA p,vA q] (vA (mm p q)):=by
 have c1:=AU q p (by unfold rm; omega) (by unfold rm; omega)
 have c2:=C7 (q.sub p).x
 obtain ⟨R,hR⟩:∃ R,R=vA (mm p q):=⟨_,rfl⟩
 have sR:Settled R:=hR▸Xo _
 rw [← hR]
 refine Fq Tryz.call270 Tryz.func270 6 [] [] [] (by simp [wS]) (X0 1000 ?_); simp (config:={ maxSteps:=2000000 }) only [AS.start,↓X2,wA,seval,wE]
 refine X1 c1 rfl ?_
 simp only [↓X2,wA,seval,wE]
 refine X1 c2 rfl ?_
 simp only [↓X2,wA,seval,wE]
 exact A4 rfl Ko rfl rfl rfl sR (hR.trans rfl)
def PZ (n:V2) (A B:List V2) (e:Rat):Prop:=e*BE n≤Nk n A B
theorem Wi (n:V2) (A B:List V2) (k:Nat) (ha:Qt A k) (hb:Qt B k):qb (Nk n A B)≤4*(vb n+k)+3:=by
 have e1:=Hj (-1) (Qh n B) _ (BZ n B k hb)
 have e2:=Hj 1 (Qh n A) _ (BZ n A k ha)
 have:=El (HY (-1) (Qh n B)) (HY 1 (Qh n A))
 unfold Nk; omega
theorem NF (n:V2) (A B:List V2) (e:Rat) (k:Nat) (ha:Qt A k) (hb:Qt B k) (hk:k≤10000) (la:A.length<1000000) (lb:B.length<1000000) (pa:0<A.length) (pb:0<B.length) (hn:vb n≤10000) (he:qb e≤10000):Fn Tryz.prog 262 [vA n,Xs A,Xs B,qA e] (.bool (decide (PZ n A B e))):=by
 have c1:=od n A B k ha hb hk la lb pa pb hn
 have c2:=kT n e (by omega) (by omega)
 have q1:=Wi n A B k ha hb
 have q2:=Uu n
 have q3:=Qs e (BE n)
 have c3:=K0 (Nk n A B) (e*BE n) (by unfold rm; omega) (by unfold rm; omega)
 have hd:decide (PZ n A B e)=decide (0≤Js (Nk n A B) (e*BE n)):=decide_eq_decide.2 (Uv _ _).symm
 rw [hd]
 refine Fq Tryz.call262 Tryz.func262 9 [] [] [] (by simp [Xo,Xk,Xc]) (X0 1000 ?_)
 simp only [AS.start,X7,↓X2,wA,seval,wE]
 refine X1 c1 rfl ?_
 simp only [↓X2,wA,seval,wE]
 refine X1 c2 rfl ?_
 simp only [↓X2,wA,seval,wE]
 refine X1 c3 rfl ?_
 simp only [↓X2,wA,seval,wE]
 exact Xv rfl rfl (X3 _) rfl
def dA (A:List V2) (i:Nat):V2:=mm (A.getD i v0) (A.getD ((i+1) % A.length) v0)
def dB (B:List V2) (i:Nat):V2:=mm (B.getD ((i+1) % B.length) v0) (B.getD i v0)
def RA (A:List V2) (i:Nat):List V2:=(List.range i).map (dA A)
def TV (B:List V2) (i:Nat):List V2:=(List.range i).map (dB B)
def Ch (A B:List V2):List V2:=(RA A A.length ++ TV B B.length) ++ [JB (1,0),JB (0,1),JB (-1,0),JB (0,-1)]
theorem bN (A:List V2) (i:Nat):RA A (i+1)=RA A i ++ [dA A i]:=by unfold RA; rw [List.range_succ,List.map_append]; rfl
theorem bO (B:List V2) (i:Nat):TV B (i+1)=TV B i ++ [dB B i]:=by unfold TV; rw [List.range_succ,List.map_append]; rfl
theorem H4 (A:List V2) (i:Nat):(RA A i).length=i:=by simp [RA]
theorem Nd (B:List V2) (i:Nat):(TV B i).length=i:=by simp [TV]
theorem rg (L:List V2) (a b c d:V2) (j:Nat) (hj:j<(L.length+4)*8):QH (L.length*8) (Xr vC 8 v0 L) 32 (Xn (vC a ++ (vC b ++ (vC c ++ vC d)))) j=Xr vC 8 v0 (L ++ [a,b,c,d]) j:=by
 unfold QH
 by_cases h:j<L.length*8
 ·rw [if_pos h]
  unfold Xr
  have:j / 8<L.length:=by omega
  have e:(L ++ [a,b,c,d]).getD (j / 8) v0=L.getD (j / 8) v0:=by rw [List.getD_eq_getElem?_getD,List.getD_eq_getElem?_getD,List.getElem?_append_left this]
  rw [e]
 ·rw [if_neg h,if_pos (by omega)]
  obtain ⟨i,rfl⟩:∃ i,j=L.length*8+i:=⟨j - L.length*8,by omega⟩
  have hi:i<32:=by omega
  have e1:L.length*8+i - L.length*8=i:=by omega
  have e2:(L.length*8+i) / 8=L.length+i / 8:=by omega
  have e3:(L.length*8+i) % 8=i % 8:=by omega
  unfold Xr
  rw [e1,e2,e3]
  have e4:(L ++ [a,b,c,d]).getD (L.length+i / 8) v0=[a,b,c,d].getD (i / 8) v0:=by
   rw [List.getD_eq_getElem?_getD,List.getD_eq_getElem?_getD,List.getElem?_append_right (by omega)]
   rw [show L.length+i / 8 - L.length=i / 8 by omega]
  rw [e4]
  clear e1 e2 e3 e4 hj h
  match i,hi with
  | 0,_=>rfl
  | 1,_=>rfl
  | 2,_=>rfl
  | 3,_=>rfl
  | 4,_=>rfl
  | 5,_=>rfl
  | 6,_=>rfl
  | 7,_=>rfl
  | 8,_=>rfl
  | 9,_=>rfl
  | 10,_=>rfl
  | 11,_=>rfl
  | 12,_=>rfl
  | 13,_=>rfl
  | 14,_=>rfl
  | 15,_=>rfl
  | 16,_=>rfl
  | 17,_=>rfl
  | 18,_=>rfl
  | 19,_=>rfl
  | 20,_=>rfl
  | 21,_=>rfl
  | 22,_=>rfl
  | 23,_=>rfl
  | 24,_=>rfl
  | 25,_=>rfl
  | 26,_=>rfl
  | 27,_=>rfl
  | 28,_=>rfl
  | 29,_=>rfl
  | 30,_=>rfl
  | 31,_=>rfl
  | i+32,h=>omega
theorem Sw (A B:List V2) (k:Nat) (ha:Qt A k) (hb:Qt B k) (hk:1≤k):∀ x∈Ch A B,vb x≤2*k+3:=by
 intro x hx
 have p4:∀ c:Int×Int,-1≤c.1∧c.1≤1→-1≤c.2∧c.2≤1→vb (JB c)≤3:=fun c h1 h2=>by
  have q1:=ZA c.1 3 (by omega) (QA ⟨by omega,by omega⟩)
  have q2:=ZA c.2 3 (by omega) (QA ⟨by omega,by omega⟩)
  unfold vb JB; simp only; omega
 unfold Ch at hx
 rcases List.mem_append.1 hx with h | h
 ·rcases List.mem_append.1 h with h | h
  ·obtain ⟨i,_,rfl⟩:=List.mem_map.1 h
   have:=gb (A.getD i v0) (A.getD ((i+1) % A.length) v0)
   have:=ha i; have:=ha ((i+1) % A.length)
   unfold dA; omega
  ·obtain ⟨i,_,rfl⟩:=List.mem_map.1 h
   have:=gb (B.getD ((i+1) % B.length) v0) (B.getD i v0)
   have:=hb i; have:=hb ((i+1) % B.length)
   unfold dB; omega
 ·simp only [List.mem_cons,List.not_mem_nil,or_false] at h
  rcases h with rfl | rfl | rfl | rfl
  ·exact Nat.le_trans (p4 _ (by decide) (by decide)) (by omega)
  ·exact Nat.le_trans (p4 _ (by decide) (by decide)) (by omega)
  ·exact Nat.le_trans (p4 _ (by decide) (by decide)) (by omega)
  ·exact Nat.le_trans (p4 _ (by decide) (by decide)) (by omega)
theorem rG (a b c d:V2):∀ j,j<32→((vC a ++ (vC b ++ (vC c ++ vC d))).getD j .any).one=true:=fun j hj=>by
 match j,hj with
 | 0,_=>rfl
 | 1,_=>rfl
 | 2,_=>rfl
 | 3,_=>rfl
 | 4,_=>rfl
 | 5,_=>rfl
 | 6,_=>rfl
 | 7,_=>rfl
 | 8,_=>rfl
 | 9,_=>rfl
 | 10,_=>rfl
 | 11,_=>rfl
 | 12,_=>rfl
 | 13,_=>rfl
 | 14,_=>rfl
 | 15,_=>rfl
 | 16,_=>rfl
 | 17,_=>rfl
 | 18,_=>rfl
 | 19,_=>rfl
 | 20,_=>rfl
 | 21,_=>rfl
 | 22,_=>rfl
 | 23,_=>rfl
 | 24,_=>rfl
 | 25,_=>rfl
 | 26,_=>rfl
 | 27,_=>rfl
 | 28,_=>rfl
 | 29,_=>rfl
 | 30,_=>rfl
 | 31,_=>rfl
 | j+32,h=>omega
theorem ar (A B:List V2) (c:Nat) (ha:Qt A c) (hb:Qt B c) (hc:c≤10000) (la:A.length<100000) (lb:B.length<100000):Fn Tryz.prog 261 [Xs A,Xs B] (Xs (Ch A B)):=by
 have hvc:∀ a:V2,∀ x∈vC a,Settled x:=fun a=>by simp [vC,X4,X3]
 have bA:Kd 1 (Xs A)=True:=eq_true (X9 (Xk A))
 have bB:Kd 1 (Xs B)=True:=eq_true (X9 (Xk B))
 have br:∀ i l n,XS 1 (.row i n (Xr vC 8 v0 l))=True:=fun i l n=>eq_true fun j _=>X9 (Xg (hvc _) _)
 obtain ⟨R,hR⟩:∃ R,R=Xs (Ch A B):=⟨_,rfl⟩
 rw [← hR]
 refine Fq Tryz.call261 Tryz.func261 10 [10,11,12,31,32,33] [5,60000007,10,110000009] [] (by simp [Xk]) (X0 1000 ?_)
 simp only [AS.start,X7,↓X2,wA,seval,wE]
 refine Xf (fun i:Nat=>⟨10,[10,11,12,31,32,33],[Xs A,Xs B,.any,.any,.any,.osl 0 i 8 0 i,.any,.any,.any,.any],[(10,Xs A),(11,I A.length),(12,I i)],[.row i (i*8) (Xr vC 8 v0 (RA A i))]⟩) (fun i=>i≤A.length) (fun i=>A.length - i) 0 (by omega)
  (Sub.trans (QL 5 8 (Xr vC 8 v0 []) rfl) (Xb rfl (by simp [AS.put,Xh,X7,I]) (by simp [AS.put,Xi,Xp,X7,I]) (by simp [AS.put,RA]))) ?_
 intro i hi next
 have w1:=wj i (by omega)
 by_cases hi2:i<A.length
 ·have nx:=next (i+1)
  have f1:((i:Int)<A.length)=True:=eq_true (by omega)
  have f2:(i<A.length)=True:=eq_true hi2
  have f3:(i*8+8≤A.length*8)=True:=eq_true (by omega)
  have hm:((i+1:Nat):Int).tmod A.length=(((i+1) % A.length:Nat):Int):=rfl
  have hml:(i+1) % A.length<A.length:=Nat.mod_lt _ (by omega)
  have f4:((i+1) % A.length<A.length)=True:=eq_true hml
  have f5:((i+1) % A.length*8+8≤A.length*8)=True:=eq_true (by omega)
  have f6:((A.length:Int)=0)=False:=eq_false (by omega)
  have f6':(A.length=0)=False:=eq_false (by omega)
  have v1:=vF A i
  have v2:=vF A ((i+1) % A.length)
  have s1:=ha i; have s2:=ha ((i+1) % A.length)
  have hap:=Qq vC 8 v0 (RA A i) (dA A i) (by omega)
  rw [H4,← bN] at hap
  have c1:=HA (A.getD i v0) (A.getD ((i+1) % A.length) v0) (by omega) (by omega)
  rw [show mm (A.getD i v0) (A.getD ((i+1) % A.length) v0)=dA A i from rfl] at c1
  refine X0 1000 ?_
  simp only [X7,w1,f1,f2,f3,f4,f5,f6,f6',hm,v1,v2,Int.toNat_natCast,↓X2,wA,seval,wE]
  refine X1 c1 rfl ?_
  simp only [w1,↓X2,wA,seval,wE]
  exact ⟨⟨Et _,by omega,by omega⟩,nx _ (by omega) (by omega) (XA (m:=1) (Nat.zero_le _) rfl (by simp [Xh,X7,I]) (by simp [Xi,Xp,X7,I]) (by rw [← hap]; rfl) (by simp [Xz,bA,bB]) (by simp [Xz,bA,bB]) (by simp [br]))⟩
 obtain rfl:i=A.length:=by omega
 refine X0 1000 ?_
 simp only [X7,Int.lt_irrefl,Nat.lt_irrefl,↓X2,wA,seval,wE]
 refine Xf (fun i:Nat=>⟨10,[10,11,12,31,32,33],[Xs A,Xs B,.any,.any,.any,.osl 0 (A.length+i) 8 0 (A.length+i),.any,.any,.any,.any],[(31,Xs B),(32,I B.length),(33,I i)],[.row (A.length+i) ((A.length+i)*8) (Xr vC 8 v0 (RA A A.length ++ TV B i))]⟩) (fun i=>i≤B.length) (fun i=>B.length - i) 0 (by omega)
  (Xb rfl (by simp [Xh,X7,I]) (by simp [Xi,Xp,X7,I]) (by simp [TV])) ?_
 intro i hi next
 have w1:=wj i (by omega)
 by_cases hi2:i<B.length
 ·have nx:=next (i+1)
  have f1:((i:Int)<B.length)=True:=eq_true (by omega)
  have f2:(i<B.length)=True:=eq_true hi2
  have f3:(i*8+8≤B.length*8)=True:=eq_true (by omega)
  have hm:((i+1:Nat):Int).tmod B.length=(((i+1) % B.length:Nat):Int):=rfl
  have hml:(i+1) % B.length<B.length:=Nat.mod_lt _ (by omega)
  have f4:((i+1) % B.length<B.length)=True:=eq_true hml
  have f5:((i+1) % B.length*8+8≤B.length*8)=True:=eq_true (by omega)
  have f6:((B.length:Int)=0)=False:=eq_false (by omega)
  have f6':(B.length=0)=False:=eq_false (by omega)
  have v1:=vF B i
  have v2:=vF B ((i+1) % B.length)
  have s1:=hb i; have s2:=hb ((i+1) % B.length)
  have hap:=Qq vC 8 v0 (RA A A.length ++ TV B i) (dB B i) (by omega)
  rw [List.append_assoc,← bO,List.length_append,H4,Nd] at hap
  have ea:A.length+(i+1)=A.length+i+1:=by omega
  simp only [ea] at nx
  have c1:=HA (B.getD ((i+1) % B.length) v0) (B.getD i v0) (by omega) (by omega)
  rw [show mm (B.getD ((i+1) % B.length) v0) (B.getD i v0)=dB B i from rfl] at c1
  refine X0 1000 ?_
  simp only [X7,w1,f1,f2,f3,f4,f5,f6,f6',hm,v1,v2,Int.toNat_natCast,↓X2,wA,seval,wE]
  refine X1 c1 rfl ?_
  simp only [w1,↓X2,wA,seval,wE]
  exact ⟨⟨Et _,by omega,by omega⟩,nx _ (by omega) (by omega) (XA (m:=1) (Nat.zero_le _) rfl (by simp [Xh,X7,I]) (by simp [Xi,Xp,X7,I]) (by rw [← hap]; rfl) (by simp [Xz,bA,bB]) (by simp [Xz,bA,bB]) (by simp [br]))⟩
 obtain rfl:i=B.length:=by omega
 have hl:(RA A A.length ++ TV B B.length).length=A.length+B.length:=by rw [List.length_append,H4,Nd]
 have h4:=rg (RA A A.length ++ TV B B.length) (JB (1,0)) (JB (0,1)) (JB (-1,0)) (JB (0,-1))
 rw [hl] at h4
 have c1:=G0 1 0 ⟨by omega,by omega⟩ ⟨by omega,by omega⟩
 have c2:=G0 0 1 ⟨by omega,by omega⟩ ⟨by omega,by omega⟩
 have c3:=G0 (-1) 0 ⟨by omega,by omega⟩ ⟨by omega,by omega⟩
 have c4:=G0 0 (-1) ⟨by omega,by omega⟩ ⟨by omega,by omega⟩
 have hlen:(Ch A B).length=A.length+B.length+4:=by unfold Ch; rw [List.length_append,hl]; rfl
 rw [show (⟨((1:Int):Rat),((0:Int):Rat)⟩:V2)=JB (1,0) from rfl] at c1
 rw [show (⟨((0:Int):Rat),((1:Int):Rat)⟩:V2)=JB (0,1) from rfl] at c2
 rw [show (⟨((-1:Int):Rat),((0:Int):Rat)⟩:V2)=JB (-1,0) from rfl] at c3
 rw [show (⟨((0:Int):Rat),((-1:Int):Rat)⟩:V2)=JB (0,-1) from rfl] at c4
 have hD:Ch A B=(RA A A.length ++ TV B B.length) ++ [JB (1,0),JB (0,1),JB (-1,0),JB (0,-1)]:=rfl
 generalize JB (1,0)=E1 at *
 generalize JB (0,1)=E2 at *
 generalize JB (-1,0)=E3 at *
 generalize JB (0,-1)=E4 at *
 refine X0 1000 ?_
 simp only [X7,Int.lt_irrefl,Nat.lt_irrefl,↓X2,wA,seval,wE]
 refine X1 c1 rfl ?_
 simp only [↓X2,wA,seval,wE]
 refine X1 c2 rfl ?_
 simp only [↓X2,wA,seval,wE]
 refine X1 c3 rfl ?_
 simp only [↓X2,wA,seval,wE]
 refine X1 c4 rfl ?_
 simp only [↓X2,wA,seval,wE]
 refine ⟨⟨rG E1 E2 E3 E4,by omega,by omega⟩,?_⟩
 rw [hR]
 refine AH rfl ?_
 rw [X7,hlen]
 refine QD (n:=A.length+B.length+4) (.inl rfl) (by omega) (fun h=>by omega) fun j hj=>?_
 rw [Nat.zero_add,hD,← h4 j hj]
 have:=Xg (hvc ((RA A A.length ++ TV B B.length ++ [E1,E2,E3,E4]).getD (j / 8) v0)) (j % 8)
 have e:Settled (Xr vC 8 v0 (RA A A.length ++ TV B B.length ++ [E1,E2,E3,E4]) j):=this
 rw [← h4 j hj] at e
 exact e.sees _
def ES (p:V2→Bool):List V2→V2×Bool
 | []=>(v0,false)
 | x :: l=>if p x=true then (x,true) else ES p l
theorem LU {p:V2→Bool}:∀ {s:List V2} {j:Nat},j<s.length→p (s.getD j v0)=true→(∀ i,i<j→p (s.getD i v0)=false)→ES p s=(s.getD j v0,true)
 | [],j,h,_,_=>absurd h (Nat.not_lt_zero j)
 | x :: l,0,_,h,_=>if_pos h
 | x :: l,j+1,hj,h,hno=>by
  have h0:p x=false:=hno 0 (by omega)
  have ih:=LU (p:=p) (s:=l) (j:=j) (by simpa using hj) h (fun i hi=>hno (i+1) (by omega))
  show (if p x=true then (x,true) else ES p l)=_
  rw [if_neg (by rw [h0]; decide),ih]
  rfl
theorem HZ {p:V2→Bool}:∀ {s:List V2},(∀ i,i<s.length→p (s.getD i v0)=false)→ES p s=(v0,false)
 | [],_=>rfl
 | x :: l,hno=>by
  have h0:p x=false:=hno 0 (by simp)
  have ih:=HZ (p:=p) (s:=l) (fun i hi=>hno (i+1) (by simpa using hi))
  show (if p x=true then (x,true) else ES p l)=_
  rw [if_neg (by rw [h0]; decide),ih]
noncomputable def Bs (A B:List V2) (e:Rat):V2×Bool:=ES (fun d=>decide (PZ d A B e)) (Ch A B)
structure Shp (c:Nat) (A:List V2):Prop where
 small:Qt A c
 pos:0<A.length
 len:A.length<10000
theorem NZ (A B:List V2) (e:Rat) (c:Nat) (ha:Shp c A) (hb:Shp c B) (h1:1≤c) (hc:c≤1000) (he:qb e≤10000):Fn Tryz.prog 244 [Xs A,Xs B,qA e] (.tup [vA (Bs A B e).1,.bool (Bs A B e).2]):=by
 obtain ⟨a1,a2,a3⟩:=ha
 obtain ⟨b1,b2,b3⟩:=hb
 obtain ⟨R,hR⟩:∃ R,R=Bs A B e:=⟨_,rfl⟩
 rw [← hR]
 have cd:=ar A B c a1 b1 (by omega) (by omega) (by omega)
 have hds:=Sw A B c a1 b1 h1
 unfold Bs at hR
 have hlen:(Ch A B).length=A.length+B.length+4:=by unfold Ch; rw [List.length_append,List.length_append,H4,Nd]; rfl
 generalize Ch A B=D at *
 have be:XS 2 (.row 0 4 (Xn (qC e)))=True:=eq_true (XM (by simp [qC,X4,X3]))
 have bz:XS 2 (.row 0 8 (Xn Qf))=True:=eq_true (XM (D4 [] [] ⟨0,0,0,0,0,v0,v0,v0⟩ 0))
 have bA:Kd 2 (Xs A)=True:=eq_true (X9 (Xk A))
 have bB:Kd 2 (Xs B)=True:=eq_true (X9 (Xk B))
 have bD:Kd 2 (Xs D)=True:=eq_true (X9 (Xk D))
 refine Fq Tryz.call244 Tryz.func244 10 [12,13,14] [] [] (by simp [Xk,Xc]) (X0 1000 ?_)
 simp only [AS.start,X7,↓X2,wA,seval,wE]
 refine X1 cd rfl ?_
 simp only [X7,↓X2,wA,seval,wE]
 refine Xf (fun i:Nat=>⟨10,[12,13,14],[Xs A,Xs B,.any,.any,.any,.ref 0 0 0,.ref 1 0 0,.bool false,.any,.any],[(12,Xs D),(13,I D.length),(14,I i)],[.row 0 4 (Xn (qC e)),.row 0 8 (Xn Qf)]⟩) (fun i=>i≤D.length∧∀ j,j<i→decide (PZ (D.getD j v0) A B e)=false) (fun i=>D.length - i) 0 ⟨by omega,by omega⟩
  (Xb rfl (by simp [Xh,X7,I]) (by simp [Xi,Xp,X7,I]) (by simp [qC,Qf,X5])) ?_
 rintro i ⟨hi,hno⟩ next
 have w1:=wj i (by omega)
 by_cases hi2:i<D.length
 rotate_left
 ·obtain rfl:i=D.length:=by omega
  rw [HZ hno] at hR
  refine X0 1000 ?_
  simp only [X7,Qf,Int.lt_irrefl,Nat.lt_irrefl,↓X2,wA,seval,wE]
  subst hR
  exact K8 rfl (Xm Ko rfl rfl rfl) (by unfold Jb; rfl) (XG (Xo _) (Qi Cf)) ((X3 _).sees _)
 have f1:((i:Int)<D.length)=True:=eq_true (by omega)
 have f2:(i<D.length)=True:=eq_true hi2
 have f3:(i*8+8≤D.length*8)=True:=eq_true (by omega)
 have v1:=vF D i
 have hs:=hds _ (Gc hi2)
 have cs:=NF (D.getD i v0) A B e c a1 b1 (by omega) (by omega) (by omega) a2 b2 (by omega) he
 have nx:=next (i+1)
 refine X0 1000 ?_
 simp only [X7,w1,f1,f2,f3,v1,Int.toNat_natCast,↓X2,wA,seval,wE]
 refine X1 cs rfl ?_
 by_cases hsep:PZ (D.getD i v0) A B e
 ·have hd:decide (PZ (D.getD i v0) A B e)=true:=decide_eq_true hsep
  rw [hd]
  rw [LU hi2 hd hno] at hR
  simp only [X7,Qf,w1,f1,f2,f3,v1,Int.toNat_natCast,↓X2,wA,seval,wE]
  subst hR
  exact K8 rfl (Xm Ko rfl rfl rfl) (by unfold Jb; rfl) (XG (Xo _) (Qi (Qc (vC (D.getD i v0))))) ((X3 _).sees _)
 ·have hd:decide (PZ (D.getD i v0) A B e)=false:=decide_eq_false hsep
  rw [hd]
  simp only [w1,↓X2,wA,seval,wE]
  exact nx _ ⟨by omega,Bn.2 ⟨hno,hd⟩⟩ (by omega) (XA (m:=2) (Nat.zero_le _) rfl (by simp [Xh,X7,I]) (by simp [Xi,Xp,X7,I]) (by simp [qC,Qf,X5]) (by simp [Xz,bA,bB,bD]) (by simp [Xz,bD]) (by simp [be,bz]))
noncomputable def Tv (l:List (List V2)):AV:=Qb Xs [] l
theorem XT (l:List (List V2)):Tv l=.sl l.length l.length (Q3 Xs [] l) false:=nrfl rfl
theorem ZW (l:List (List V2)):Settled (Tv l):=QS fun _ _=>Xk _
theorem qS (l:List (List V2)) (i:Nat):Q3 Xs [] l i=Xs (l.getD i []):=nrfl rfl
noncomputable def Zz (A B:List (List V2)) (e:Rat) (i k:Nat):Bool:=(Bs (A.getD i []) (B.getD k []) e).2
noncomputable def O6 (A B:List (List V2)) (e:Rat) (i:Nat):Bool:=decide (∀ k,k<B.length→Zz A B e i k=true)
noncomputable def O4 (A B:List (List V2)) (e:Rat):Bool:=decide (∀ i,i<A.length→O6 A B e i=true)
theorem ir {A B:List (List V2)} {e:Rat} {i k:Nat} (h:k<B.length) (hp:Zz A B e i k=false):O6 A B e i=false :=
 decide_eq_false fun H=>by rw [H k h] at hp; cases hp
def KV (A:List (List V2)):AV:=.ptr 1 (Xn [Tv A]) 0
theorem QN (A:List (List V2)):KV A=.ptr 1 (Xn [Tv A]) 0:=nrfl rfl
theorem Fj (A:List (List V2)):Settled (KV A):=QK fun j hj=>by
 obtain rfl:j=0:=by omega
 exact ZW A
theorem eN (A B:List (List V2)):Fn Tryz.prog 243 [Tv A,Tv B] (.fn 260 [KV A,KV B]):=by
 have hset:Settled (.fn 260 [KV A,KV B]):=J7 (by
  intro a ha
  simp only [List.mem_cons,List.not_mem_nil,or_false] at ha
  rcases ha with rfl | rfl <;> exact Fj _)
 refine Fq Tryz.call243 Tryz.func243 5 [] [] [] (by simp [ZW]) (X0 1000 ?_)
 simp only [AS.start,XT,↓X2,wA,seval,wE]
 refine AH rfl (AZ ⟨Kw (.inl rfl) (by omega) fun j hj=>?_,Kw (.inl rfl) (by omega) fun j hj=>?_,trivial⟩)
 ·obtain rfl:j=0:=by omega
  exact (ZW A).sees _
 ·obtain rfl:j=0:=by omega
  exact (ZW B).sees _
theorem ET {P:Program} {tok:List Tok} {all:Array Oper} {i:Nat} {s:AS} {o:Oper} {v:AV} {h':List AO} (ho:all[i]?=some o) (hg:o.guard=none) (h:QU P false none o.op s.ev s.h=some (v,h')) :
  GStep P tok (fun _=>false) true (fun _=>none) all i s (({ s with h:=h' }:AS).putO o.dst v):=⟨o,ho,.inl ⟨by unfold gval; rw [hg],⟨fun _ h=>(by cases h),v,h',.inl h,rfl⟩⟩⟩
def NR (m:Nat) (H:List AO):Prop:=H.length=m∧∀ o∈H,XS m o∧o≠.unborn∧∀ v n f,o≠.con v n f
theorem T2 (A B:List (List V2)) (t:Tok) (m:Nat) (Hs:Nat→List AO) (la:A.length≤1000) (lb:B.length≤1000) (hHs:∀ n,NR m (Hs n)) (hce:t.ce.H.length≤m)
  (hy:∀ i k,i<A.length→k<B.length→YCall Tryz.prog t [Xs (A.getD i []),Xs (B.getD k [])] (Hs (i*B.length+k)) (.bool true) (Hs (i*B.length+k+1))) :
  ICall Tryz.prog t 260 [.yld t.l,KV A,KV B] (Hs 0) (Hs (A.length*B.length)):=by
 have vA':=fun i=>qS A i
 have vB':=fun i=>qS B i
 refine ICall.intro (fn:=Tryz.f260) Tryz.call260 Tryz.func260 rfl mixed 8 [8,9,10,14,15,16] [] [] (by kernel_rfl) (Nat.le_of_ble_eq_true rfl) (by rw [(hHs 0).1]; exact hce) (by rw [(hHs 0).1]; exact fun o ho=>((hHs _).2 o ho).1) (X0 1000 ?_)
 simp only [AS.start,QN,XT,↓X2,wA,seval,wE]
 refine Xf (fun i:Nat=>⟨8,[8,9,10,14,15,16],[.yld t.l,KV A,KV B,.any,.any,.any,.any,.any],[(8,Tv A),(9,I A.length),(10,I i)],Hs (i*B.length)⟩) (fun i=>i≤A.length) (fun i=>A.length - i) 0 (by omega)
  (Xb rfl (by simp [Xh,QN,XT]) (by simp [Xi,Xp,XT,I]) (by simp)) ?_
 intro i hi next
 have w1:=wj i (by omega)
 by_cases hi2:i<A.length
 rotate_left
 ·obtain rfl:i=A.length:=by omega
  refine X0 1000 ?_
  simp only [QN,XT,Int.lt_irrefl,Nat.lt_irrefl,↓X2,wA,seval,wE]
  exact oS rfl (by show (Hs _).take (Hs 0).length=_; rw [(hHs 0).1,← (hHs (A.length*B.length)).1,List.take_length])
 have f1:((i:Int)<A.length)=True:=eq_true (by omega)
 have f2:(i<A.length)=True:=eq_true hi2
 have f3:(i+1≤A.length)=True:=eq_true (by omega)
 refine X0 1000 ?_
 simp only [QN,XT,w1,f1,f2,f3,vA',Int.toNat_natCast,↓X2,wA,seval,wE]
 refine Xf (fun k:Nat=>⟨8,[8,9,10,14,15,16],[.yld t.l,KV A,KV B,.any,.any,Xs (A.getD i []),.any,.any],[(14,Tv B),(15,I B.length),(16,I k),(8,Tv A),(9,I A.length),(10,I i)],Hs (i*B.length+k)⟩) (fun k=>k≤B.length) (fun k=>B.length - k) 0 (by omega)
  (Xb rfl (by simp [Xh,QN,XT,X7]) (by simp [Xi,Xp,XT,I]) (by simp)) ?_
 intro k hk next2
 have w2:=wj k (by omega)
 by_cases hk2:k<B.length
 rotate_left
 ·obtain rfl:k=B.length:=by omega
  refine X0 1000 ?_
  simp only [QN,XT,w1,Int.lt_irrefl,Nat.lt_irrefl,↓X2,wA,seval,wE]
  exact next (i+1) _ (by omega) (by omega) (Xb rfl (by simp [Xh,QN,XT]) (by simp [Xi,Xp,XT,I]) (by simp [Nat.succ_mul]))
 have g1:((k:Int)<B.length)=True:=eq_true (by omega)
 have g2:(k<B.length)=True:=eq_true hk2
 have g3:(k+1≤B.length)=True:=eq_true (by omega)
 refine X0 1000 ?_
 simp only [QN,XT,w1,w2,g1,g2,g3,vB',Int.toNat_natCast,↓X2,wA,seval,wE]
 obtain ⟨q1,q2⟩:=hHs (i*B.length+k)
 obtain ⟨q3,q4⟩:=hHs (i*B.length+k+1)
 refine BK (t:=t) (H1:=Hs (i*B.length+k)) (H1':=Hs (i*B.length+k+1)) (rest:=[]) rfl rfl (List.mem_singleton.2 rfl) (hy i k hi2 hk2) (List.append_nil _).symm (q3.trans q1.symm) (by rw [q1]; exact hce) ?_ (by rw [q1]; exact fun o ho=>(q2 o ho).1) (fun o ho=>(q2 o ho).2.1) (fun o ho=>(q4 o ho).2.1) (QI (fun o ho=>(q2 o ho).2.2) (fun o ho=>(q4 o ho).2.2)) ⟨Weak.rfl' _,Weak.rfl' _,trivial⟩ ?_
 ·intro a ha
  simp only [List.mem_cons,List.not_mem_nil,or_false] at ha
  rcases ha with rfl | rfl <;> exact X9 (Xk _)
 simp only [QN,XT,w1,w2,↓X2,wA,seval,wE]
 exact next2 (k+1) _ (by omega) (by omega) (Xb rfl (by simp [Xh,QN,XT]) (by simp [Xi,Xp,XT,I]) (by simp [Nat.add_assoc]))
theorem WH (A B:List (List V2)) (t:Tok) (m:Nat) (Hs:Nat→List AO) (Hf:List AO) (la:A.length≤1000) (lb:B.length≤1000) (hHs:∀ n,NR m (Hs n)) (hce:t.ce.H.length≤m)
  (i0 k0:Nat) (hi0:i0<A.length) (hk0:k0<B.length) (hy:∀ i k,i<i0∨i=i0∧k<k0→k<B.length→YCall Tryz.prog t [Xs (A.getD i []),Xs (B.getD k [])] (Hs (i*B.length+k)) (.bool true) (Hs (i*B.length+k+1))) (hz:YC Tryz.prog t false [Xs (A.getD i0 []),Xs (B.getD k0 [])] (Hs (i0*B.length+k0)) Hf) (hHf:NR m Hf) :
  ICallQ Tryz.prog t false 260 [.yld t.l,KV A,KV B] (Hs 0) Hf:=by
 have vA':=fun i=>qS A i
 have vB':=fun i=>qS B i
 refine ICallQ.intro (fn:=Tryz.f260) Tryz.call260 Tryz.func260 rfl mixed 8 [8,9,10,14,15,16] [] [] (by kernel_rfl) (Nat.le_of_ble_eq_true rfl) (by rw [(hHs 0).1]; exact hce) (by rw [(hHs 0).1]; exact fun o ho=>(hHf.2 o ho).1) (X0 1000 ?_)
 simp only [AS.start,QN,XT,↓X2,wA,seval,wE]
 refine Xf (fun i:Nat=>⟨8,[8,9,10,14,15,16],[.yld t.l,KV A,KV B,.any,.any,.any,.any,.any],[(8,Tv A),(9,I A.length),(10,I i)],Hs (i*B.length)⟩) (fun i=>i≤i0) (fun i=>i0 - i) 0 (by omega)
  (Xb rfl (by simp [Xh,QN,XT]) (by simp [Xi,Xp,XT,I]) (by simp)) ?_
 intro i hi next
 have w1:=wj i (by omega)
 have hi2:i<A.length:=by omega
 have f1:((i:Int)<A.length)=True:=eq_true (by omega)
 have f2:(i<A.length)=True:=eq_true hi2
 have f3:(i+1≤A.length)=True:=eq_true (by omega)
 refine X0 1000 ?_
 simp only [QN,XT,w1,f1,f2,f3,vA',Int.toNat_natCast,↓X2,wA,seval,wE]
 refine Xf (fun k:Nat=>⟨8,[8,9,10,14,15,16],[.yld t.l,KV A,KV B,.any,.any,Xs (A.getD i []),.any,.any],[(14,Tv B),(15,I B.length),(16,I k),(8,Tv A),(9,I A.length),(10,I i)],Hs (i*B.length+k)⟩) (fun k=>k≤B.length∧(i=i0→k≤k0)) (fun k=>B.length - k) 0 ⟨by omega,by omega⟩
  (Xb rfl (by simp [Xh,QN,XT,X7]) (by simp [Xi,Xp,XT,I]) (by simp)) ?_
 rintro k ⟨hk,hkk⟩ next2
 have w2:=wj k (by omega)
 by_cases hk2:k<B.length
 rotate_left
 ·obtain rfl:k=B.length:=by omega
  refine X0 1000 ?_
  simp only [QN,XT,w1,Int.lt_irrefl,Nat.lt_irrefl,↓X2,wA,seval,wE]
  exact next (i+1) _ (by omega) (by omega) (Xb rfl (by simp [Xh,QN,XT]) (by simp [Xi,Xp,XT,I]) (by simp [Nat.succ_mul]))
 have g1:((k:Int)<B.length)=True:=eq_true (by omega)
 have g2:(k<B.length)=True:=eq_true hk2
 have g3:(k+1≤B.length)=True:=eq_true (by omega)
 by_cases hlast:i=i0∧k=k0
 ·obtain ⟨rfl,rfl⟩:=hlast
  refine X0 20 ?_
  simp only [QN,XT,w1,w2,g1,g2,g3,vB',Int.toNat_natCast,↓X2,wA,seval,wE]
  refine kV (t:=t) (j:=3) (l1:=[0,1,2]) (l2:=[4]) rfl rfl (List.mem_singleton.2 rfl) rfl rfl ⟨_,ET rfl rfl rfl,_,ET rfl rfl rfl,_,ET rfl rfl rfl,rfl⟩ ⟨rfl,_,_,_,[Xs (A.getD i []),Xs (B.getD k [])],Hf,rfl,rfl,⟨Weak.rfl' _,Weak.rfl' _,trivial⟩,hz,rfl⟩ ⟨_,ET rfl rfl rfl,rfl⟩ ?_
  show Run (qm Tryz.prog Tryz.f260 [] [] (Hs 0).length Hf) _ _
  refine Run.sub (s':=⟨8,[],[],[(24,.bool true)],Hf⟩) ?_ (Xb rfl trivial ⟨.inr rfl,trivial⟩ rfl)
  refine X0 1000 ?_
  simp only [↓X2,wA,seval,wE]
  exact rN rfl (by show Hf.take (Hs 0).length=_; rw [(hHs 0).1,← hHf.1,List.take_length])
 have hp:i<i0∨i=i0∧k<k0:=by omega
 refine X0 1000 ?_
 simp only [QN,XT,w1,w2,g1,g2,g3,vB',Int.toNat_natCast,↓X2,wA,seval,wE]
 obtain ⟨q1,q2⟩:=hHs (i*B.length+k)
 obtain ⟨q3,q4⟩:=hHs (i*B.length+k+1)
 refine BK (t:=t) (H1:=Hs (i*B.length+k)) (H1':=Hs (i*B.length+k+1)) (rest:=[]) rfl rfl (List.mem_singleton.2 rfl) (hy i k hp hk2) (List.append_nil _).symm (q3.trans q1.symm) (by rw [q1]; exact hce) ?_ (by rw [q1]; exact fun o ho=>(q2 o ho).1) (fun o ho=>(q2 o ho).2.1) (fun o ho=>(q4 o ho).2.1) (QI (fun o ho=>(q2 o ho).2.2) (fun o ho=>(q4 o ho).2.2)) ⟨Weak.rfl' _,Weak.rfl' _,trivial⟩ ?_
 ·intro a ha
  simp only [List.mem_cons,List.not_mem_nil,or_false] at ha
  rcases ha with rfl | rfl <;> exact X9 (Xk _)
 simp only [QN,XT,w1,w2,↓X2,wA,seval,wE]
 exact next2 (k+1) _ ⟨by omega,by omega⟩ (by omega) (Xb rfl (by simp [Xh,QN,XT]) (by simp [Xi,Xp,XT,I]) (by simp [Nat.add_assoc]))
end
end Go.Ab.N
