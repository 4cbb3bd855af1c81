/- Contracts of functions of these chapters, for every argument that fits, and what they need. -/
import Derived.Test.YtefjhgcndhepeaaGreatC9
set_option linter.unusedSimpArgs false
set_option linter.unusedVariables false
open Nat renaming reducePow → Y1, reduceLT → Y2, reduceLeDiff → Y3, reduceEqDiff → Y4, reduceAdd → Y5, reduceMul → Y6, reduceSub → Y7, reduceBEq → Y8, reduceDiv → Y9, reduceMod → YA
namespace Go.Ab.N
open Go Go.RowKit Go.Proofs
noncomputable section
set_option maxRecDepth 10000
set_option maxHeartbeats 4000000
open Classical
def qs (l:List Rat):AV:=sK qC 4 0 l
theorem IV (l:List Rat):Settled (qs l):=Dg fun a x hx=>by
 have:∀ x∈qC a,Settled x:=by simp [qC,X8,X2]
 exact this x hx
theorem AG (l:List Rat):qs l=.sl l.length (l.length*4) (Xt qC 4 0 l) false:=nrfl rfl
theorem v6 (l:List Rat) (i:Nat):Xt qC 4 0 l (i*4)=.bool (decide ((l.getD i 0).num<0))∧Xt qC 4 0 l (i*4+1)=X3 (X6 (l.getD i 0).num.natAbs)∧Xt qC 4 0 l (i*4+2)=.bool false∧Xt qC 4 0 l (i*4+3)=X3 (X6 (qd (l.getD i 0))):=by
 refine ⟨?_,?_,?_,?_⟩
 ·rw [JQ _ _ _ _ _ (by omega)]; rfl
 all_goals rw [Jy _ _ _ _ _ _ (by omega)]; rfl
def BZ (sg:Int) (x:Rat) (l:List Rat):Nat→Rat
 | 0=>x
 | k+1=>if QZ (l.getD k 0) (BZ sg x l k)=sg then l.getD k 0 else BZ sg x l k
theorem NY (sg:Int) (x:Rat) (l:List Rat) (c:Nat) (hx:qb x≤c) (hl:∀ k,qb (l.getD k 0)≤c):∀ k,qb (BZ sg x l k)≤c
 | 0=>hx
 | k+1=>by
  simp only [BZ]
  split
  ·exact hl k
  ·exact NY sg x l c hx hl k
def Ge:List AV:=[.bool false,.sl 0 0 (fun _=>.any) true,.bool false,.sl 0 0 (fun _=>.any) true]
theorem C0 (sg:Int) (x:Rat) (l:List Rat) (hl:l.length<1000000) (hx:qb x≤vm) (hq:∀ k,qb (l.getD k 0)≤vm):Fn Tryz.prog 286 [I sg,qA x,qs l] (qA (BZ sg x l l.length)):=by
 unfold vm at hx hq
 obtain ⟨R,hR⟩:∃ R,R=qA (BZ sg x l l.length):=⟨_,rfl⟩
 have sR:Settled R:=hR▸Xa _
 have hqc:∀ r:Rat,∀ x∈qC r,Settled x:=fun r=>by simp [qC,X8,X2]
 have bx:∀ r,XW 2 (.row 0 4 (Xk (qC r)))=True:=fun r=>eq_true (XX (hqc r))
 have bl:Kn 2 (qs l)=True:=eq_true (X7 (IV l))
 rw [← hR]
 refine Fq Tryz.call286 Tryz.func286 9 [9,10,11] [] [] (by simp [X9,Xa,IV]) (Xi ?_)
 simp only [AS.start,AG,↓X1,wF,seval]
 refine Xd (fun k:Nat=>⟨9,[9,10,11],[I sg,.any,.any,.any,.ref 0 0 0,.any,.ref 1 0 0,.any,.any],[(9,qs l),(10,I l.length),(11,I k)],[.row 0 4 (Xk (qC (BZ sg x l k))),.row 0 4 (Xk Ge)]⟩) (fun k=>k≤l.length) (fun k=>l.length - k) 0 (by omega)
  (Xf rfl (by simp [Xg,I]) (by simp [Xn,Xr,AG,I]) rfl) ?_
 intro k hk next
 have w1:=wj k (by omega)
 have he:=NY sg x l 1000000 hx hq k
 by_cases hk2:k<l.length
 ·have f1:((k:Int)<l.length)=True:=eq_true (by omega)
  have f2:(k<l.length)=True:=eq_true hk2
  have f3:(k*4+4≤l.length*4)=True:=eq_true (by omega)
  have v1:=v6 l k
  have c1:=Qw (l.getD k 0) (BZ sg x l k) (by have:=hq k; unfold rm; omega) (by unfold rm; omega)
  have nx:=next (k+1)
  have hs:BZ sg x l (k+1)=if QZ (l.getD k 0) (BZ sg x l k)=sg then l.getD k 0 else BZ sg x l k:=rfl
  generalize BZ sg x l k=E at *
  refine Xi ?_
  simp only [AG,w1,f1,f2,f3,v1,Int.toNat_natCast,↓X1,wF,seval]
  refine X0 c1 rfl ?_
  by_cases h:QZ (l.getD k 0) E=sg
  ·have g1:(QZ (l.getD k 0) E=sg)=True:=eq_true h
   rw [if_pos h] at hs
   simp only [hs] at nx
   simp only [g1,w1,↓X1,wF,seval]
   exact nx _ (by omega) (by omega) (XD (m:=2) (Nat.zero_le _) rfl (by simp [Xg,I]) (by simp [Xn,Xr,AG,I]) (by simp [qC,Ge,X4]) (by simp [XA]) (by simp [XA,bl]) (by simp [bx,Ge,XA]))
  ·have g1:(QZ (l.getD k 0) E=sg)=False:=eq_false h
   rw [if_neg h] at hs
   simp only [hs] at nx
   simp only [g1,w1,↓X1,wF,seval]
   exact nx _ (by omega) (by omega) (XD (m:=2) (Nat.zero_le _) rfl (by simp [Xg,I]) (by simp [Xn,Xr,AG,I]) (by simp [qC,Ge,X4]) (by simp [XA]) (by simp [XA,bl]) (by simp [bx,Ge,XA]))
 obtain rfl:k=l.length:=by omega
 refine Xi ?_
 simp only [AG,Ge,Int.lt_irrefl,Nat.lt_irrefl,↓X1,wF,seval]
 exact JL rfl Qe rfl rfl rfl sR (hR.trans rfl)
def Q3 (n:V2) (L:List V2):List Rat:=L.map (Q4 n)
theorem TN (n:V2) (L:List V2) (i:Nat) (hi:i<L.length):Q3 n (L.take i) ++ [Q4 n (L.getD i v0)]=Q3 n (L.take (i+1)):=by
 rw [Cn _ v0 hi]; simp [Q3]
theorem rO (a:Rat):∀ j,j<4→((qC a).getD j .any).one=true:=fun j hj=>by
 match j,hj with
 | 0,_=>rfl
 | 1,_=>rfl
 | 2,_=>rfl
 | 3,_=>rfl
 | j+4,h=>omega
theorem GD (n:V2) (L:List V2) (k:Nat) (h:Qk L k) (hk:k≤100000) (hl:L.length<1000000) (hn:vb n≤100000):Fn Tryz.prog 285 [vA n,Xw L] (qs (Q3 n L)):=by
 have hvc:∀ a:V2,∀ x∈vC a,Settled x:=fun a=>by simp [vC,X8,X2]
 have hqc:∀ r:Rat,∀ x∈qC r,Settled x:=fun r=>by simp [qC,X8,X2]
 have bo:XW 2 (.row 0 8 (Xk (vC n)))=True:=eq_true (XX (hvc n))
 have bv:Kn 2 (Xw L)=True:=eq_true (X7 (Xh L))
 have br:∀ i l n,XW 2 (.row i n (Xt qC 4 0 l))=True:=fun i l n=>eq_true fun j _=>X7 (Xe (hqc _) _)
 obtain ⟨R,hR⟩:∃ R,R=qs (Q3 n L):=⟨_,rfl⟩
 rw [← hR]
 refine Fq Tryz.call285 Tryz.func285 8 [8,9,10] [] [] (by simp [Xm,Xh]) (Xi ?_)
 simp only [AS.start,X5,↓X1,wF,seval]
 refine Xd (fun i:Nat=>⟨8,[8,9,10],[.any,.any,.ref 0 0 0,.any,.any,.osl 1 i 4 0 i,.any,.any],[(8,Xw L),(9,I L.length),(10,I i)],[.row 0 8 (Xk (vC n)),.row i (i*4) (Xt qC 4 0 (Q3 n (L.take i)))]⟩) (fun i=>i≤L.length) (fun i=>L.length - i) 0 (by omega)
  (Sub.trans (Jk 5 4 (Xt qC 4 0 []) rfl) (Xf rfl (by simp [AS.put,Xg,I]) (by simp [AS.put,Xn,Xr,X5,I]) (by simp [AS.put,vC,X4,Q3]))) ?_
 intro i hi next
 have w1:=wj i (by omega)
 by_cases hi2:i<L.length
 ·have f1:((i:Int)<L.length)=True:=eq_true (by omega)
  have f2:(i<L.length)=True:=eq_true hi2
  have f3:(i*8+8≤L.length*8)=True:=eq_true (by omega)
  have v1:=vF L i
  have hb:=h i
  have c1:=Fd n (L.getD i v0) (by unfold vm; omega) (by unfold vm; omega)
  have hap:=QR qC 4 0 (Q3 n (L.take i)) (Q4 n (L.getD i v0)) (by omega)
  rw [TN _ _ _ hi2,show (Q3 n (L.take i)).length=i by simp [Q3]; omega] at hap
  refine Xi ?_
  simp only [X5,w1,f1,f2,f3,v1,Int.toNat_natCast,↓X1,wF,seval]
  refine X0 c1 rfl ?_
  simp only [w1,↓X1,wF,seval]
  exact ⟨⟨rO _,by omega,by omega⟩,next (i+1) _ (by omega) (by omega) (XD (m:=2) (Nat.zero_le _) rfl (by simp [Xg]) (by simp [Xn,Xr,X5,I]) (by rw [← hap]; rfl) (by simp [XA]) (by simp [XA,bv]) (by simp [bo,br]))⟩
 obtain rfl:i=L.length:=by omega
 refine Xi ?_
 simp only [X5,Int.lt_irrefl,Nat.lt_irrefl,↓X1,wF,seval]
 refine BI rfl ?_
 have hlen:(Q3 n L).length=L.length:=by simp [Q3]
 rw [hR,AG,hlen]
 refine Jv (n:=L.length) (.inl rfl) (by omega) (fun h=>by rw [h]) fun j hj=>?_
 rw [List.take_length,Nat.zero_add]
 exact (Xe (hqc _) _).sees _
def EW (sg:Int) (l:List Rat):Rat:=BZ sg (l.getD 0 0) (l.drop 1) (l.drop 1).length
def Lz (n:V2) (A B:List V2):Rat:=EW (-1) (Q3 n B) - EW 1 (Q3 n A)
theorem C7 (n:V2) (L:List V2) (k:Nat) (h:Qk L k) (i:Nat):qb ((Q3 n L).getD i 0)≤2*(vb n+k)+1:=by
 have h0:=h i
 have h1:=Bm n (L.getD i v0)
 have q0:=Ap
 by_cases hi:i<L.length
 ·have e:(Q3 n L).getD i 0=Q4 n (L.getD i v0):=by
   unfold Q3
   rw [List.getD_eq_getElem?_getD,List.getElem?_map,List.getD_eq_getElem?_getD,List.getElem?_eq_getElem hi]; rfl
  rw [e]; omega
 ·have e:(Q3 n L).getD i 0=0:=by
   rw [List.getD_eq_getElem?_getD,List.getElem?_eq_none (by simp [Q3]; omega)]; rfl
  rw [e]; omega
theorem ET (l:List Rat) (i:Nat):(l.drop 1).getD i 0=l.getD (1+i) 0:=by
 rw [List.getD_eq_getElem?_getD,List.getD_eq_getElem?_getD,List.getElem?_drop]
theorem Hu (sg:Int) (l:List Rat) (c:Nat) (h:∀ i,qb (l.getD i 0)≤c):qb (EW sg l)≤c :=
 NY _ _ _ _ (h 0) (fun k=>by rw [ET]; exact h _) _
theorem L9 (l:List Rat) {n m:Nat} {t:Bool} (hn:n=l.length - 1) (hm:(l.length - 1)*4≤m):Weak (.sl n m (fun j=>Xt qC 4 0 l (4+j)) t) (qs (l.drop 1)):=by
 rw [AG]
 refine Dm (by rw [List.length_drop]; exact hn) (by rw [List.length_drop]; exact hm) fun j hj=>?_
 have e:Xt qC 4 0 l (4+j)=Xt qC 4 0 (l.drop 1) j:=by
  unfold Xt
  rw [ET,show (4+j) / 4=1+j / 4 by omega,show (4+j) % 4=j % 4 by omega]
 rw [e]
 exact Weak.rfl' _
theorem qf (n:V2) (A B:List V2) (k:Nat) (ha:Qk A k) (hb:Qk B k) (hk:k≤10000) (la:A.length<1000000) (lb:B.length<1000000) (pa:0<A.length) (pb:0<B.length) (hn:vb n≤10000):Fn Tryz.prog 271 [vA n,Xw A,Xw B] (qA (Lz n A B)):=by
 have c1:=GD n A k ha (by omega) la (by omega)
 have c2:=GD n B k hb (by omega) lb (by omega)
 have qa:=C7 n A k ha
 have qb':=C7 n B k hb
 have hlA:(Q3 n A).length=A.length:=by simp [Q3]
 have hlB:(Q3 n B).length=B.length:=by simp [Q3]
 have c3:=C0 (-1) ((Q3 n B).getD 0 0) ((Q3 n B).drop 1) (by rw [List.length_drop]; omega) (by have:=qb' 0; unfold vm; omega) (fun i=>by rw [ET]; have:=qb' (1+i); unfold vm; omega)
 have c4:=C0 1 ((Q3 n A).getD 0 0) ((Q3 n A).drop 1) (by rw [List.length_drop]; omega) (by have:=qa 0; unfold vm; omega) (fun i=>by rw [ET]; have:=qa (1+i); unfold vm; omega)
 have e1:=Hu (-1) (Q3 n B) _ qb'
 have e2:=Hu 1 (Q3 n A) _ qa
 have c5:=O6 (EW (-1) (Q3 n B)) (EW 1 (Q3 n A)) (by unfold rm; omega) (by unfold rm; omega)
 rw [show BZ (-1) ((Q3 n B).getD 0 0) ((Q3 n B).drop 1) ((Q3 n B).drop 1).length=EW (-1) (Q3 n B) from rfl] at c3
 rw [show BZ 1 ((Q3 n A).getD 0 0) ((Q3 n A).drop 1) ((Q3 n A).drop 1).length=EW 1 (Q3 n A) from rfl] at c4
 rw [show EW (-1) (Q3 n B) - EW 1 (Q3 n A)=Lz n A B from rfl] at c5
 have v1:=v6 (Q3 n A) 0
 have v2:=v6 (Q3 n B) 0
 obtain ⟨R,hR⟩:∃ R,R=qA (Lz n A B):=⟨_,rfl⟩
 have sR:Settled R:=hR▸Xa _
 rw [← hR] at c5 ⊢
 generalize Q3 n A=PA at *
 generalize Q3 n B=PB at *
 simp only [Nat.zero_mul,Nat.zero_add] at v1 v2
 have f1:(0<PA.length)=True:=eq_true (by omega)
 have f2:(0<PB.length)=True:=eq_true (by omega)
 have f3:((0:Int)<PA.length)=True:=eq_true (by omega)
 have f4:((0:Int)<PB.length)=True:=eq_true (by omega)
 have f5:(4≤PA.length*4)=True:=eq_true (by omega)
 have f6:(4≤PB.length*4)=True:=eq_true (by omega)
 have f7:((1:Int)≤PA.length)=True:=eq_true (by omega)
 have f8:((1:Int)≤PB.length)=True:=eq_true (by omega)
 refine Fq Tryz.call271 Tryz.func271 9 [] [2] [] (by simp [Xm,Xh]) (Xi ?_)
 simp only [AS.start,X5,↓X1,wF,seval]
 refine X0 c1 rfl ?_
 simp only [↓X1,wF,seval]
 refine X0 c2 rfl ?_
 simp only [AG,v1,v2,f1,f2,f3,f4,f5,f6,f7,f8,Int.toNat_zero,Int.reduceLE,↓X1,wF,seval]
 refine QS c3 ⟨Weak.rfl' _,Weak.rfl' _,L9 PB (by omega) (by omega),trivial⟩ ?_
 simp only [AG,v1,v2,f1,f2,f3,f4,f5,f6,f7,f8,Int.toNat_zero,Int.reduceLE,↓X1,wF,seval]
 refine QS c4 ⟨Weak.rfl' _,Weak.rfl' _,L9 PA (by omega) (by omega),trivial⟩ ?_
 simp only [↓X1,wF,seval]
 refine X0 c5 rfl ?_
 simp only [hR,↓X1,wF,seval]
 exact JL rfl Qe rfl rfl rfl sR (hR.trans rfl)
def EI (x:Rat):Rat:=if x<0 then -x else x
def Ac (n:V2):Rat:=EI n.x+EI n.y
theorem Ht (x:Rat):qb (EI x)=qb x:=by unfold EI; split <;> simp [Bn]
theorem Rm (x y:Rat):QZ x y=1↔y<x:=by
 rw [← KN]
 unfold QZ
 rw [Int.sign_eq_one_iff_pos,Int.sign_pos_iff]
theorem UW (x:Rat):BZ 1 x [-x] 1=EI x:=by
 show (if QZ (-x) x=1 then -x else x)=_
 unfold EI
 by_cases h:x<0
 ·rw [if_pos h,if_pos ((Rm _ _).2 (by grind))]
 ·rw [if_neg h,if_neg fun hh=>h (by have:=(Rm _ _).1 hh; grind)]
theorem Se (x:Rat) {t:Bool}:Weak (.sl 1 4 (Xk [.bool (decide (x.num<0)),X3 (X6 x.num.natAbs),.bool false,X3 (X6 (qd x))]) t) (qs [x]):=by
 rw [AG]
 refine Dm rfl (Nat.le_refl _) fun j hj=>?_
 match j,hj with
 | 0,_=>exact Weak.rfl' _
 | 1,_=>exact Weak.rfl' _
 | 2,_=>exact Weak.rfl' _
 | 3,_=>exact Weak.rfl' _
 | j+4,h=>exact absurd h (by show ¬ j+4<1*4; omega)
theorem ME (x:Rat) (c:Nat) (hc:1≤c) (h:qb x≤c) (k:Nat):qb (([x]:List Rat).getD k 0)≤c:=by
 have q0:=Ap
 match k with
 | 0=>exact h
 | k+1=>show qb 0≤c; omega
theorem mK (n:V2) (hn:vb n≤100000):Fn Tryz.prog 287 [vA n] (qA (Ac n)):=by
 have:=QL n; have:=QG n
 have n1:=Cf n.x
 have n2:=Cf n.y
 have a1:=Ht n.x; have a2:=Ht n.y
 have c1:=C0 1 n.x [-n.x] (by simp) (by unfold vm; omega) (ME _ _ (by unfold vm; omega) (by rw [Bn]; unfold vm; omega))
 have c2:=C0 1 n.y [-n.y] (by simp) (by unfold vm; omega) (ME _ _ (by unfold vm; omega) (by rw [Bn]; unfold vm; omega))
 rw [show ([-n.x]:List Rat).length=1 from rfl,UW] at c1
 rw [show ([-n.y]:List Rat).length=1 from rfl,UW] at c2
 have c3:=ZW (EI n.x) (EI n.y) (by unfold rm; omega) (by unfold rm; omega)
 rw [show EI n.x+EI n.y=Ac n from rfl] at c3
 obtain ⟨R,hR⟩:∃ R,R=qA (Ac n):=⟨_,rfl⟩
 have sR:Settled R:=hR▸Xa _
 rw [← hR] at c3 ⊢
 refine Fr Tryz.call287 Tryz.func287 3 [] [1,20000001] [] ?_; simp (maxSteps:=999999) only [AS.start,↓X1,wF,seval]
 refine X0 n1 rfl ?_
 simp only [↓X1,wF,seval]
 refine QS c1 ⟨Weak.rfl' _,Weak.rfl' _,Se _,trivial⟩ ?_
 simp only [↓X1,wF,seval]
 refine X0 n2 rfl ?_
 simp only [↓X1,wF,seval]
 refine QS c2 ⟨Weak.rfl' _,Weak.rfl' _,Se _,trivial⟩ ?_
 simp only [↓X1,wF,seval]
 refine X0 c3 rfl ?_
 simp only [hR,↓X1,wF,seval]
 exact JL rfl Qe rfl rfl rfl sR (hR.trans rfl)
theorem Vs (n:V2):qb (Ac n)≤2*vb n+1:=by
 have:=QL n; have:=QG n
 have a1:=Ht n.x; have a2:=Ht n.y
 have:=Z7 (EI n.x) (EI n.y)
 unfold Ac; omega
theorem mA (n:V2) (e:Rat) (hn:vb n≤100000) (he:qb e≤100000):Fn Tryz.prog 272 [vA n,qA e] (qA (e*Ac n)):=by
 have q:=Vs n
 have c1:=mK n hn
 have c2:=JW e (Ac n) (by unfold rm; omega) (by unfold rm; omega)
 obtain ⟨R,hR⟩:∃ R,R=qA (e*Ac n):=⟨_,rfl⟩
 have sR:Settled R:=hR▸Xa _
 rw [← hR] at c2 ⊢
 refine Fr Tryz.call272 Tryz.func272 5 [] [] [] ?_; simp (maxSteps:=999999) only [AS.start,↓X1,wF,seval]
 refine X0 c1 rfl ?_
 simp only [↓X1,wF,seval]
 refine X0 c2 rfl ?_
 simp only [hR,↓X1,wF,seval]
 exact JL rfl Qe rfl rfl rfl sR (hR.trans rfl)
def ji (p q:V2):V2:=⟨(q.sub p).y,-(q.sub p).x⟩
theorem iK (p q:V2):vb (ji p q)≤vb p+vb q+1:=by
 have:=Za q p
 have:=QL (q.sub p); have:=QG (q.sub p)
 have:=Bn (q.sub p).x
 unfold ji
 show max (qb (q.sub p).y) (qb (-(q.sub p).x))≤_
 omega
theorem HM (p q:V2) (hp:vb p≤100000) (hq:vb q≤100000):Fn Tryz.prog 270 [vA p,vA q] (vA (ji p q)):=by
 have c1:=B8 q p (by unfold rm; omega) (by unfold rm; omega)
 have c2:=Cf (q.sub p).x
 obtain ⟨R,hR⟩:∃ R,R=vA (ji p q):=⟨_,rfl⟩
 have sR:Settled R:=hR▸Xm _
 rw [← hR]
 refine Fr Tryz.call270 Tryz.func270 6 [] [] [] ?_; simp (maxSteps:=999999) only [AS.start,↓X1,wF,seval]
 refine X0 c1 rfl ?_
 simp only [↓X1,wF,seval]
 refine X0 c2 rfl ?_
 simp only [↓X1,wF,seval]
 exact Ah rfl K8 rfl rfl rfl sR (hR.trans rfl)
def Ga (n:V2) (A B:List V2) (e:Rat):Prop:=e*Ac n≤Lz n A B
theorem Ys (n:V2) (A B:List V2) (k:Nat) (ha:Qk A k) (hb:Qk B k):qb (Lz n A B)≤4*(vb n+k)+3:=by
 have e1:=Hu (-1) (Q3 n B) _ (C7 n B k hb)
 have e2:=Hu 1 (Q3 n A) _ (C7 n A k ha)
 have:=En (EW (-1) (Q3 n B)) (EW 1 (Q3 n A))
 unfold Lz; omega
theorem O8 (n:V2) (A B:List V2) (e:Rat) (k:Nat) (ha:Qk A k) (hb:Qk B k) (hk:k≤10000) (la:A.length<1000000) (lb:B.length<1000000) (pa:0<A.length) (pb:0<B.length) (hn:vb n≤10000) (he:qb e≤10000):Fn Tryz.prog 262 [vA n,Xw A,Xw B,qA e] (.bool (decide (Ga n A B e))):=by
 have c1:=qf n A B k ha hb hk la lb pa pb hn
 have c2:=mA n e (by omega) (by omega)
 have q1:=Ys n A B k ha hb
 have q2:=Vs n
 have q3:=Qu e (Ac n)
 have c3:=Qw (Lz n A B) (e*Ac n) (by unfold rm; omega) (by unfold rm; omega)
 have hd:decide (Ga n A B e)=decide (0≤QZ (Lz n A B) (e*Ac n)):=decide_eq_decide.2 (Vt _ _).symm
 rw [hd]
 refine Fq Tryz.call262 Tryz.func262 9 [] [] [] (by simp [Xm,Xh,Xa]) (Xi ?_)
 simp only [AS.start,X5,↓X1,wF,seval]
 refine X0 c1 rfl ?_
 simp only [↓X1,wF,seval]
 refine X0 c2 rfl ?_
 simp only [↓X1,wF,seval]
 refine X0 c3 rfl ?_
 simp only [↓X1,wF,seval]
 exact Xx rfl rfl (X2 _) rfl
def dA (A:List V2) (i:Nat):V2:=ji (A.getD i v0) (A.getD ((i+1) % A.length) v0)
def dB (B:List V2) (i:Nat):V2:=ji (B.getD ((i+1) % B.length) v0) (B.getD i v0)
def P2 (A:List V2) (i:Nat):List V2:=(List.range i).map (dA A)
def Td (B:List V2) (i:Nat):List V2:=(List.range i).map (dB B)
def AZ (A B:List V2):List V2:=(P2 A A.length ++ Td B B.length) ++ [Qc (1,0),Qc (0,1),Qc (-1,0),Qc (0,-1)]
theorem ei (A:List V2) (i:Nat):P2 A (i+1)=P2 A i ++ [dA A i]:=by unfold P2; rw [List.range_succ,List.map_append]; rfl
theorem ek (B:List V2) (i:Nat):Td B (i+1)=Td B i ++ [dB B i]:=by unfold Td; rw [List.range_succ,List.map_append]; rfl
theorem Hi (A:List V2) (i:Nat):(P2 A i).length=i:=by simp [P2]
theorem NE (B:List V2) (i:Nat):(Td B i).length=i:=by simp [Td]
theorem uD (L:List V2) (a b c d:V2) (j:Nat) (hj:j<(L.length+4)*8):QD (L.length*8) (Xt vC 8 v0 L) 32 (Xk (vC a ++ (vC b ++ (vC c ++ vC d)))) j=Xt vC 8 v0 (L ++ [a,b,c,d]) j:=by
 unfold QD
 by_cases h:j<L.length*8
 ·rw [if_pos h]
  unfold Xt
  have:j / 8<L.length:=by omega
  have e:(L ++ [a,b,c,d]).getD (j / 8) v0=L.getD (j / 8) v0:=by rw [List.getD_eq_getElem?_getD,List.getD_eq_getElem?_getD,List.getElem?_append_left this]
  rw [e]
 ·rw [if_neg h,if_pos (by omega)]
  obtain ⟨i,rfl⟩:∃ i,j=L.length*8+i:=⟨j - L.length*8,by omega⟩
  have hi:i<32:=by omega
  have e1:L.length*8+i - L.length*8=i:=by omega
  have e2:(L.length*8+i) / 8=L.length+i / 8:=by omega
  have e3:(L.length*8+i) % 8=i % 8:=by omega
  unfold Xt
  rw [e1,e2,e3]
  have e4:(L ++ [a,b,c,d]).getD (L.length+i / 8) v0=[a,b,c,d].getD (i / 8) v0:=by
   rw [List.getD_eq_getElem?_getD,List.getD_eq_getElem?_getD,List.getElem?_append_right (by omega)]
   rw [show L.length+i / 8 - L.length=i / 8 by omega]
  rw [e4]
  clear e1 e2 e3 e4 hj h
  match i,hi with
  | 0,_=>rfl
  | 1,_=>rfl
  | 2,_=>rfl
  | 3,_=>rfl
  | 4,_=>rfl
  | 5,_=>rfl
  | 6,_=>rfl
  | 7,_=>rfl
  | 8,_=>rfl
  | 9,_=>rfl
  | 10,_=>rfl
  | 11,_=>rfl
  | 12,_=>rfl
  | 13,_=>rfl
  | 14,_=>rfl
  | 15,_=>rfl
  | 16,_=>rfl
  | 17,_=>rfl
  | 18,_=>rfl
  | 19,_=>rfl
  | 20,_=>rfl
  | 21,_=>rfl
  | 22,_=>rfl
  | 23,_=>rfl
  | 24,_=>rfl
  | 25,_=>rfl
  | 26,_=>rfl
  | 27,_=>rfl
  | 28,_=>rfl
  | 29,_=>rfl
  | 30,_=>rfl
  | 31,_=>rfl
  | i+32,h=>omega
theorem Tf (A B:List V2) (k:Nat) (ha:Qk A k) (hb:Qk B k) (hk:1≤k):∀ x∈AZ A B,vb x≤2*k+3:=by
 intro x hx
 have p4:∀ c:Int×Int,-1≤c.1∧c.1≤1→-1≤c.2∧c.2≤1→vb (Qc c)≤3:=fun c h1 h2=>by
  have q1:=Z8 c.1 3 (by omega) (QJ ⟨by omega,by omega⟩)
  have q2:=Z8 c.2 3 (by omega) (QJ ⟨by omega,by omega⟩)
  unfold vb Qc; simp only; omega
 unfold AZ at hx
 rcases List.mem_append.1 hx with h | h
 ·rcases List.mem_append.1 h with h | h
  ·obtain ⟨i,_,rfl⟩:=List.mem_map.1 h
   have:=iK (A.getD i v0) (A.getD ((i+1) % A.length) v0)
   have:=ha i; have:=ha ((i+1) % A.length)
   unfold dA; omega
  ·obtain ⟨i,_,rfl⟩:=List.mem_map.1 h
   have:=iK (B.getD ((i+1) % B.length) v0) (B.getD i v0)
   have:=hb i; have:=hb ((i+1) % B.length)
   unfold dB; omega
 ·simp only [List.mem_cons,List.not_mem_nil,or_false] at h
  rcases h with rfl | rfl | rfl | rfl
  ·exact Nat.le_trans (p4 _ (by decide) (by decide)) (by omega)
  ·exact Nat.le_trans (p4 _ (by decide) (by decide)) (by omega)
  ·exact Nat.le_trans (p4 _ (by decide) (by decide)) (by omega)
  ·exact Nat.le_trans (p4 _ (by decide) (by decide)) (by omega)
theorem uW (a b c d:V2):∀ j,j<32→((vC a ++ (vC b ++ (vC c ++ vC d))).getD j .any).one=true:=fun j hj=>by
 match j,hj with
 | 0,_=>rfl
 | 1,_=>rfl
 | 2,_=>rfl
 | 3,_=>rfl
 | 4,_=>rfl
 | 5,_=>rfl
 | 6,_=>rfl
 | 7,_=>rfl
 | 8,_=>rfl
 | 9,_=>rfl
 | 10,_=>rfl
 | 11,_=>rfl
 | 12,_=>rfl
 | 13,_=>rfl
 | 14,_=>rfl
 | 15,_=>rfl
 | 16,_=>rfl
 | 17,_=>rfl
 | 18,_=>rfl
 | 19,_=>rfl
 | 20,_=>rfl
 | 21,_=>rfl
 | 22,_=>rfl
 | 23,_=>rfl
 | 24,_=>rfl
 | 25,_=>rfl
 | 26,_=>rfl
 | 27,_=>rfl
 | 28,_=>rfl
 | 29,_=>rfl
 | 30,_=>rfl
 | 31,_=>rfl
 | j+32,h=>omega
theorem cL (A B:List V2) (c:Nat) (ha:Qk A c) (hb:Qk B c) (hc:c≤10000) (la:A.length<100000) (lb:B.length<100000):Fn Tryz.prog 261 [Xw A,Xw B] (Xw (AZ A B)):=by
 have hvc:∀ a:V2,∀ x∈vC a,Settled x:=fun a=>by simp [vC,X8,X2]
 have bA:Kn 1 (Xw A)=True:=eq_true (X7 (Xh A))
 have bB:Kn 1 (Xw B)=True:=eq_true (X7 (Xh B))
 have br:∀ i l n,XW 1 (.row i n (Xt vC 8 v0 l))=True:=fun i l n=>eq_true fun j _=>X7 (Xe (hvc _) _)
 obtain ⟨R,hR⟩:∃ R,R=Xw (AZ A B):=⟨_,rfl⟩
 rw [← hR]
 refine Fq Tryz.call261 Tryz.func261 10 [10,11,12,31,32,33] [5,60000007,10,110000009] [] (by simp [Xh]) (Xi ?_)
 simp only [AS.start,X5,↓X1,wF,seval]
 refine Xd (fun i:Nat=>⟨10,[10,11,12,31,32,33],[Xw A,Xw B,.any,.any,.any,.osl 0 i 8 0 i,.any,.any,.any,.any],[(10,Xw A),(11,I A.length),(12,I i)],[.row i (i*8) (Xt vC 8 v0 (P2 A i))]⟩) (fun i=>i≤A.length) (fun i=>A.length - i) 0 (by omega)
  (Sub.trans (Jk 5 8 (Xt vC 8 v0 []) rfl) (Xf rfl (by simp [AS.put,Xg,X5,I]) (by simp [AS.put,Xn,Xr,X5,I]) (by simp [AS.put,P2]))) ?_
 intro i hi next
 have w1:=wj i (by omega)
 by_cases hi2:i<A.length
 ·have nx:=next (i+1)
  have f1:((i:Int)<A.length)=True:=eq_true (by omega)
  have f2:(i<A.length)=True:=eq_true hi2
  have f3:(i*8+8≤A.length*8)=True:=eq_true (by omega)
  have hm:((i+1:Nat):Int).tmod A.length=(((i+1) % A.length:Nat):Int):=rfl
  have hml:(i+1) % A.length<A.length:=Nat.mod_lt _ (by omega)
  have f4:((i+1) % A.length<A.length)=True:=eq_true hml
  have f5:((i+1) % A.length*8+8≤A.length*8)=True:=eq_true (by omega)
  have f6:((A.length:Int)=0)=False:=eq_false (by omega)
  have f6':(A.length=0)=False:=eq_false (by omega)
  have v1:=vF A i
  have v2:=vF A ((i+1) % A.length)
  have s1:=ha i; have s2:=ha ((i+1) % A.length)
  have hap:=QR vC 8 v0 (P2 A i) (dA A i) (by omega)
  rw [Hi,← ei] at hap
  have c1:=HM (A.getD i v0) (A.getD ((i+1) % A.length) v0) (by omega) (by omega)
  rw [show ji (A.getD i v0) (A.getD ((i+1) % A.length) v0)=dA A i from rfl] at c1
  refine Xi ?_
  simp only [X5,w1,f1,f2,f3,f4,f5,f6,f6',hm,v1,v2,Int.toNat_natCast,↓X1,wF,seval]
  refine X0 c1 rfl ?_
  simp only [w1,↓X1,wF,seval]
  exact ⟨⟨Gc _,by omega,by omega⟩,nx _ (by omega) (by omega) (XD (m:=1) (Nat.zero_le _) rfl (by simp [Xg,X5,I]) (by simp [Xn,Xr,X5,I]) (by rw [← hap]; rfl) (by simp [XA,bA,bB]) (by simp [XA,bA,bB]) (by simp [br]))⟩
 obtain rfl:i=A.length:=by omega
 refine Xi ?_
 simp only [X5,Int.lt_irrefl,Nat.lt_irrefl,↓X1,wF,seval]
 refine Xd (fun i:Nat=>⟨10,[10,11,12,31,32,33],[Xw A,Xw B,.any,.any,.any,.osl 0 (A.length+i) 8 0 (A.length+i),.any,.any,.any,.any],[(31,Xw B),(32,I B.length),(33,I i)],[.row (A.length+i) ((A.length+i)*8) (Xt vC 8 v0 (P2 A A.length ++ Td B i))]⟩) (fun i=>i≤B.length) (fun i=>B.length - i) 0 (by omega)
  (Xf rfl (by simp [Xg,X5,I]) (by simp [Xn,Xr,X5,I]) (by simp [Td])) ?_
 intro i hi next
 have w1:=wj i (by omega)
 by_cases hi2:i<B.length
 ·have nx:=next (i+1)
  have f1:((i:Int)<B.length)=True:=eq_true (by omega)
  have f2:(i<B.length)=True:=eq_true hi2
  have f3:(i*8+8≤B.length*8)=True:=eq_true (by omega)
  have hm:((i+1:Nat):Int).tmod B.length=(((i+1) % B.length:Nat):Int):=rfl
  have hml:(i+1) % B.length<B.length:=Nat.mod_lt _ (by omega)
  have f4:((i+1) % B.length<B.length)=True:=eq_true hml
  have f5:((i+1) % B.length*8+8≤B.length*8)=True:=eq_true (by omega)
  have f6:((B.length:Int)=0)=False:=eq_false (by omega)
  have f6':(B.length=0)=False:=eq_false (by omega)
  have v1:=vF B i
  have v2:=vF B ((i+1) % B.length)
  have s1:=hb i; have s2:=hb ((i+1) % B.length)
  have hap:=QR vC 8 v0 (P2 A A.length ++ Td B i) (dB B i) (by omega)
  rw [List.append_assoc,← ek,List.length_append,Hi,NE] at hap
  have ea:A.length+(i+1)=A.length+i+1:=by omega
  simp only [ea] at nx
  have c1:=HM (B.getD ((i+1) % B.length) v0) (B.getD i v0) (by omega) (by omega)
  rw [show ji (B.getD ((i+1) % B.length) v0) (B.getD i v0)=dB B i from rfl] at c1
  refine Xi ?_
  simp only [X5,w1,f1,f2,f3,f4,f5,f6,f6',hm,v1,v2,Int.toNat_natCast,↓X1,wF,seval]
  refine X0 c1 rfl ?_
  simp only [w1,↓X1,wF,seval]
  exact ⟨⟨Gc _,by omega,by omega⟩,nx _ (by omega) (by omega) (XD (m:=1) (Nat.zero_le _) rfl (by simp [Xg,X5,I]) (by simp [Xn,Xr,X5,I]) (by rw [← hap]; rfl) (by simp [XA,bA,bB]) (by simp [XA,bA,bB]) (by simp [br]))⟩
 obtain rfl:i=B.length:=by omega
 have hl:(P2 A A.length ++ Td B B.length).length=A.length+B.length:=by rw [List.length_append,Hi,NE]
 have h4:=uD (P2 A A.length ++ Td B B.length) (Qc (1,0)) (Qc (0,1)) (Qc (-1,0)) (Qc (0,-1))
 rw [hl] at h4
 have c1:=G3 1 0 ⟨by omega,by omega⟩ ⟨by omega,by omega⟩
 have c2:=G3 0 1 ⟨by omega,by omega⟩ ⟨by omega,by omega⟩
 have c3:=G3 (-1) 0 ⟨by omega,by omega⟩ ⟨by omega,by omega⟩
 have c4:=G3 0 (-1) ⟨by omega,by omega⟩ ⟨by omega,by omega⟩
 have hlen:(AZ A B).length=A.length+B.length+4:=by unfold AZ; rw [List.length_append,hl]; rfl
 rw [show (⟨((1:Int):Rat),((0:Int):Rat)⟩:V2)=Qc (1,0) from rfl] at c1
 rw [show (⟨((0:Int):Rat),((1:Int):Rat)⟩:V2)=Qc (0,1) from rfl] at c2
 rw [show (⟨((-1:Int):Rat),((0:Int):Rat)⟩:V2)=Qc (-1,0) from rfl] at c3
 rw [show (⟨((0:Int):Rat),((-1:Int):Rat)⟩:V2)=Qc (0,-1) from rfl] at c4
 have hD:AZ A B=(P2 A A.length ++ Td B B.length) ++ [Qc (1,0),Qc (0,1),Qc (-1,0),Qc (0,-1)]:=rfl
 generalize Qc (1,0)=E1 at *
 generalize Qc (0,1)=E2 at *
 generalize Qc (-1,0)=E3 at *
 generalize Qc (0,-1)=E4 at *
 refine Xi ?_
 simp only [X5,Int.lt_irrefl,Nat.lt_irrefl,↓X1,wF,seval]
 refine X0 c1 rfl ?_
 simp only [↓X1,wF,seval]
 refine X0 c2 rfl ?_
 simp only [↓X1,wF,seval]
 refine X0 c3 rfl ?_
 simp only [↓X1,wF,seval]
 refine X0 c4 rfl ?_
 simp only [↓X1,wF,seval]
 refine ⟨⟨uW E1 E2 E3 E4,by omega,by omega⟩,?_⟩
 rw [hR]
 refine BI rfl ?_
 rw [X5,hlen]
 refine Jv (n:=A.length+B.length+4) (.inl rfl) (by omega) (fun h=>by omega) fun j hj=>?_
 rw [Nat.zero_add,hD,← h4 j hj]
 have:=Xe (hvc ((P2 A A.length ++ Td B B.length ++ [E1,E2,E3,E4]).getD (j / 8) v0)) (j % 8)
 have e:Settled (Xt vC 8 v0 (P2 A A.length ++ Td B B.length ++ [E1,E2,E3,E4]) j):=this
 rw [← h4 j hj] at e
 exact e.sees _
def EY (p:V2→Bool):List V2→V2×Bool
 | []=>(v0,false)
 | x :: l=>if p x=true then (x,true) else EY p l
theorem Me {p:V2→Bool}:∀ {s:List V2} {j:Nat},j<s.length→p (s.getD j v0)=true→(∀ i,i<j→p (s.getD i v0)=false)→EY p s=(s.getD j v0,true)
 | [],j,h,_,_=>absurd h (Nat.not_lt_zero j)
 | x :: l,0,_,h,_=>if_pos h
 | x :: l,j+1,hj,h,hno=>by
  have h0:p x=false:=hno 0 (by omega)
  have ih:=Me (p:=p) (s:=l) (j:=j) (by simpa using hj) h (fun i hi=>hno (i+1) (by omega))
  show (if p x=true then (x,true) else EY p l)=_
  rw [if_neg (by rw [h0]; decide),ih]
  rfl
theorem Id {p:V2→Bool}:∀ {s:List V2},(∀ i,i<s.length→p (s.getD i v0)=false)→EY p s=(v0,false)
 | [],_=>rfl
 | x :: l,hno=>by
  have h0:p x=false:=hno 0 (by simp)
  have ih:=Id (p:=p) (s:=l) (fun i hi=>hno (i+1) (by simpa using hi))
  show (if p x=true then (x,true) else EY p l)=_
  rw [if_neg (by rw [h0]; decide),ih]
noncomputable def A2 (A B:List V2) (e:Rat):V2×Bool:=EY (fun d=>decide (Ga d A B e)) (AZ A B)
structure Shp (c:Nat) (A:List V2):Prop where
 small:Qk A c
 pos:0<A.length
 len:A.length<10000
theorem Oy (A B:List V2) (e:Rat) (c:Nat) (ha:Shp c A) (hb:Shp c B) (h1:1≤c) (hc:c≤1000) (he:qb e≤10000):Fn Tryz.prog 244 [Xw A,Xw B,qA e] (.tup [vA (A2 A B e).1,.bool (A2 A B e).2]):=by
 obtain ⟨a1,a2,a3⟩:=ha
 obtain ⟨b1,b2,b3⟩:=hb
 obtain ⟨R,hR⟩:∃ R,R=A2 A B e:=⟨_,rfl⟩
 rw [← hR]
 have cd:=cL A B c a1 b1 (by omega) (by omega) (by omega)
 have hds:=Tf A B c a1 b1 h1
 unfold A2 at hR
 have hlen:(AZ A B).length=A.length+B.length+4:=by unfold AZ; rw [List.length_append,List.length_append,Hi,NE]; rfl
 generalize AZ A B=D at *
 have be:XW 2 (.row 0 4 (Xk (qC e)))=True:=eq_true (XX (by simp [qC,X8,X2]))
 have bz:XW 2 (.row 0 8 (Xk Q2))=True:=eq_true (XX (Dd [] [] ⟨0,0,0,0,0,v0,v0,v0⟩ 0))
 have bA:Kn 2 (Xw A)=True:=eq_true (X7 (Xh A))
 have bB:Kn 2 (Xw B)=True:=eq_true (X7 (Xh B))
 have bD:Kn 2 (Xw D)=True:=eq_true (X7 (Xh D))
 refine Fq Tryz.call244 Tryz.func244 10 [12,13,14] [] [] (by simp [Xh,Xa]) (Xi ?_)
 simp only [AS.start,X5,↓X1,wF,seval]
 refine X0 cd rfl ?_
 simp only [X5,↓X1,wF,seval]
 refine Xd (fun i:Nat=>⟨10,[12,13,14],[Xw A,Xw B,.any,.any,.any,.ref 0 0 0,.ref 1 0 0,.bool false,.any,.any],[(12,Xw D),(13,I D.length),(14,I i)],[.row 0 4 (Xk (qC e)),.row 0 8 (Xk Q2)]⟩) (fun i=>i≤D.length∧∀ j,j<i→decide (Ga (D.getD j v0) A B e)=false) (fun i=>D.length - i) 0 ⟨by omega,by omega⟩
  (Xf rfl (by simp [Xg,X5,I]) (by simp [Xn,Xr,X5,I]) (by simp [qC,Q2,X4])) ?_
 rintro i ⟨hi,hno⟩ next
 have w1:=wj i (by omega)
 by_cases hi2:i<D.length
 rotate_left
 ·obtain rfl:i=D.length:=by omega
  rw [Id hno] at hR
  refine Xi ?_
  simp only [X5,Q2,Int.lt_irrefl,Nat.lt_irrefl,↓X1,wF,seval]
  subst hR
  exact Kd rfl (Xl K8 rfl rfl rfl) (by unfold Je; rfl) (XN (Xm _) (Ji Co)) ((X2 _).sees _)
 have f1:((i:Int)<D.length)=True:=eq_true (by omega)
 have f2:(i<D.length)=True:=eq_true hi2
 have f3:(i*8+8≤D.length*8)=True:=eq_true (by omega)
 have v1:=vF D i
 have hs:=hds _ (aP hi2)
 have cs:=O8 (D.getD i v0) A B e c a1 b1 (by omega) (by omega) (by omega) a2 b2 (by omega) he
 have nx:=next (i+1)
 refine Xi ?_
 simp only [X5,w1,f1,f2,f3,v1,Int.toNat_natCast,↓X1,wF,seval]
 refine X0 cs rfl ?_
 by_cases hsep:Ga (D.getD i v0) A B e
 ·have hd:decide (Ga (D.getD i v0) A B e)=true:=decide_eq_true hsep
  rw [hd]
  rw [Me hi2 hd hno] at hR
  simp only [X5,Q2,w1,f1,f2,f3,v1,Int.toNat_natCast,↓X1,wF,seval]
  subst hR
  exact Kd rfl (Xl K8 rfl rfl rfl) (by unfold Je; rfl) (XN (Xm _) (Ji (Qn (vC (D.getD i v0))))) ((X2 _).sees _)
 ·have hd:decide (Ga (D.getD i v0) A B e)=false:=decide_eq_false hsep
  rw [hd]
  simp only [w1,↓X1,wF,seval]
  exact nx _ ⟨by omega,CC.2 ⟨hno,hd⟩⟩ (by omega) (XD (m:=2) (Nat.zero_le _) rfl (by simp [Xg,X5,I]) (by simp [Xn,Xr,X5,I]) (by simp [qC,Q2,X4]) (by simp [XA,bA,bB,bD]) (by simp [XA,bD]) (by simp [be,bz]))
noncomputable def Uh (l:List (List V2)):AV:=Qg Xw [] l
theorem XT (l:List (List V2)):Uh l=.sl l.length l.length (Q9 Xw [] l) false:=nrfl rfl
theorem Aa (l:List (List V2)):Settled (Uh l):=QP fun _ _=>Xh _
theorem ue (l:List (List V2)) (i:Nat):Q9 Xw [] l i=Xw (l.getD i []):=nrfl rfl
noncomputable def Zs (A B:List (List V2)) (e:Rat) (i k:Nat):Bool:=(A2 (A.getD i []) (B.getD k []) e).2
noncomputable def Nn (A B:List (List V2)) (e:Rat) (i:Nat):Bool:=decide (∀ k,k<B.length→Zs A B e i k=true)
noncomputable def Cu (A B:List (List V2)) (e:Rat):Bool:=decide (∀ i,i<A.length→Nn A B e i=true)
theorem jI {A B:List (List V2)} {e:Rat} {i k:Nat} (h:k<B.length) (hp:Zs A B e i k=false):Nn A B e i=false :=
 decide_eq_false fun H=>by rw [H k h] at hp; cases hp
def Z3 (A:List (List V2)):AV:=.ptr 1 (Xk [Uh A]) 0
theorem QH (A:List (List V2)):Z3 A=.ptr 1 (Xk [Uh A]) 0:=nrfl rfl
theorem Fm (A:List (List V2)):Settled (Z3 A):=QF fun j hj=>by
 obtain rfl:j=0:=by omega
 exact Aa A
theorem gI (A B:List (List V2)):Fn Tryz.prog 243 [Uh A,Uh B] (.fn 260 [Z3 A,Z3 B]):=by
 have hset:Settled (.fn 260 [Z3 A,Z3 B]):=Jw (by
  intro a ha
  simp only [List.mem_cons,List.not_mem_nil,or_false] at ha
  rcases ha with rfl | rfl <;> exact Fm _)
 refine Fq Tryz.call243 Tryz.func243 5 [] [] [] (by simp [Aa]) (Xi ?_)
 simp only [AS.start,XT,↓X1,wF,seval]
 refine BI rfl (Cj ⟨Z0 (.inl rfl) (by omega) fun j hj=>?_,Z0 (.inl rfl) (by omega) fun j hj=>?_,trivial⟩)
 ·obtain rfl:j=0:=by omega
  exact (Aa A).sees _
 ·obtain rfl:j=0:=by omega
  exact (Aa B).sees _
theorem EZ {P:Program} {tok:List Tok} {all:Array Oper} {i:Nat} {s:AS} {o:Oper} {v:AV} {h':List AO} (ho:all[i]?=some o) (hg:o.guard=none) (h:QU P false none o.op s.ev s.h=some (v,h')) :
  GStep P tok (fun _=>false) true (fun _=>none) all i s (({ s with h:=h' }:AS).putO o.dst v):=⟨o,ho,.inl ⟨by unfold gval; rw [hg],⟨fun _ h=>(by cases h),v,h',.inl h,rfl⟩⟩⟩
def On (m:Nat) (H:List AO):Prop:=H.length=m∧∀ o∈H,XW m o∧o≠.unborn∧∀ v n f,o≠.con v n f
theorem TK (A B:List (List V2)) (t:Tok) (m:Nat) (Hs:Nat→List AO) (la:A.length≤1000) (lb:B.length≤1000) (hHs:∀ n,On m (Hs n)) (hce:t.ce.H.length≤m)
  (hy:∀ i k,i<A.length→k<B.length→YCall Tryz.prog t [Xw (A.getD i []),Xw (B.getD k [])] (Hs (i*B.length+k)) (.bool true) (Hs (i*B.length+k+1))) :
  ICall Tryz.prog t 260 [.yld t.l,Z3 A,Z3 B] (Hs 0) (Hs (A.length*B.length)):=by
 have vA':=fun i=>ue A i
 have vB':=fun i=>ue B i
 refine ICall.intro (fn:=Tryz.f260) Tryz.call260 Tryz.func260 rfl mixed 8 [8,9,10,14,15,16] [] [] (by kernel_rfl) (Nat.le_of_ble_eq_true rfl) (by rw [(hHs 0).1]; exact hce) (by rw [(hHs 0).1]; exact fun o ho=>((hHs _).2 o ho).1) (Xi ?_)
 simp only [AS.start,QH,XT,↓X1,wF,seval]
 refine Xd (fun i:Nat=>⟨8,[8,9,10,14,15,16],[.yld t.l,Z3 A,Z3 B,.any,.any,.any,.any,.any],[(8,Uh A),(9,I A.length),(10,I i)],Hs (i*B.length)⟩) (fun i=>i≤A.length) (fun i=>A.length - i) 0 (by omega)
  (Xf rfl (by simp [Xg,QH,XT]) (by simp [Xn,Xr,XT,I]) (by simp)) ?_
 intro i hi next
 have w1:=wj i (by omega)
 by_cases hi2:i<A.length
 rotate_left
 ·obtain rfl:i=A.length:=by omega
  refine Xi ?_
  simp only [QH,XT,Int.lt_irrefl,Nat.lt_irrefl,↓X1,wF,seval]
  exact rT rfl (by show (Hs _).take (Hs 0).length=_; rw [(hHs 0).1,← (hHs (A.length*B.length)).1,List.take_length])
 have f1:((i:Int)<A.length)=True:=eq_true (by omega)
 have f2:(i<A.length)=True:=eq_true hi2
 have f3:(i+1≤A.length)=True:=eq_true (by omega)
 refine Xi ?_
 simp only [QH,XT,w1,f1,f2,f3,vA',Int.toNat_natCast,↓X1,wF,seval]
 refine Xd (fun k:Nat=>⟨8,[8,9,10,14,15,16],[.yld t.l,Z3 A,Z3 B,.any,.any,Xw (A.getD i []),.any,.any],[(14,Uh B),(15,I B.length),(16,I k),(8,Uh A),(9,I A.length),(10,I i)],Hs (i*B.length+k)⟩) (fun k=>k≤B.length) (fun k=>B.length - k) 0 (by omega)
  (Xf rfl (by simp [Xg,QH,XT,X5]) (by simp [Xn,Xr,XT,I]) (by simp)) ?_
 intro k hk next2
 have w2:=wj k (by omega)
 by_cases hk2:k<B.length
 rotate_left
 ·obtain rfl:k=B.length:=by omega
  refine Xi ?_
  simp only [QH,XT,w1,Int.lt_irrefl,Nat.lt_irrefl,↓X1,wF,seval]
  exact next (i+1) _ (by omega) (by omega) (Xf rfl (by simp [Xg,QH,XT]) (by simp [Xn,Xr,XT,I]) (by simp [Nat.succ_mul]))
 have g1:((k:Int)<B.length)=True:=eq_true (by omega)
 have g2:(k<B.length)=True:=eq_true hk2
 have g3:(k+1≤B.length)=True:=eq_true (by omega)
 refine Xi ?_
 simp only [QH,XT,w1,w2,g1,g2,g3,vB',Int.toNat_natCast,↓X1,wF,seval]
 obtain ⟨q1,q2⟩:=hHs (i*B.length+k)
 obtain ⟨q3,q4⟩:=hHs (i*B.length+k+1)
 refine BS (t:=t) (H1:=Hs (i*B.length+k)) (H1':=Hs (i*B.length+k+1)) (rest:=[]) rfl rfl (List.mem_singleton.2 rfl) (hy i k hi2 hk2) (List.append_nil _).symm (q3.trans q1.symm) (by rw [q1]; exact hce) ?_ (by rw [q1]; exact fun o ho=>(q2 o ho).1) (fun o ho=>(q2 o ho).2.1) (fun o ho=>(q4 o ho).2.1) (QM (fun o ho=>(q2 o ho).2.2) (fun o ho=>(q4 o ho).2.2)) ⟨Weak.rfl' _,Weak.rfl' _,trivial⟩ ?_
 ·intro a ha
  simp only [List.mem_cons,List.not_mem_nil,or_false] at ha
  rcases ha with rfl | rfl <;> exact X7 (Xh _)
 simp only [QH,XT,w1,w2,↓X1,wF,seval]
 exact next2 (k+1) _ (by omega) (by omega) (Xf rfl (by simp [Xg,QH,XT]) (by simp [Xn,Xr,XT,I]) (by simp [Nat.add_assoc]))
theorem YT (A B:List (List V2)) (t:Tok) (m:Nat) (Hs:Nat→List AO) (Hf:List AO) (la:A.length≤1000) (lb:B.length≤1000) (hHs:∀ n,On m (Hs n)) (hce:t.ce.H.length≤m)
  (i0 k0:Nat) (hi0:i0<A.length) (hk0:k0<B.length) (hy:∀ i k,i<i0∨i=i0∧k<k0→k<B.length→YCall Tryz.prog t [Xw (A.getD i []),Xw (B.getD k [])] (Hs (i*B.length+k)) (.bool true) (Hs (i*B.length+k+1))) (hz:YC Tryz.prog t false [Xw (A.getD i0 []),Xw (B.getD k0 [])] (Hs (i0*B.length+k0)) Hf) (hHf:On m Hf) :
  ICallQ Tryz.prog t false 260 [.yld t.l,Z3 A,Z3 B] (Hs 0) Hf:=by
 have vA':=fun i=>ue A i
 have vB':=fun i=>ue B i
 refine ICallQ.intro (fn:=Tryz.f260) Tryz.call260 Tryz.func260 rfl mixed 8 [8,9,10,14,15,16] [] [] (by kernel_rfl) (Nat.le_of_ble_eq_true rfl) (by rw [(hHs 0).1]; exact hce) (by rw [(hHs 0).1]; exact fun o ho=>(hHf.2 o ho).1) (Xi ?_)
 simp only [AS.start,QH,XT,↓X1,wF,seval]
 refine Xd (fun i:Nat=>⟨8,[8,9,10,14,15,16],[.yld t.l,Z3 A,Z3 B,.any,.any,.any,.any,.any],[(8,Uh A),(9,I A.length),(10,I i)],Hs (i*B.length)⟩) (fun i=>i≤i0) (fun i=>i0 - i) 0 (by omega)
  (Xf rfl (by simp [Xg,QH,XT]) (by simp [Xn,Xr,XT,I]) (by simp)) ?_
 intro i hi next
 have w1:=wj i (by omega)
 have hi2:i<A.length:=by omega
 have f1:((i:Int)<A.length)=True:=eq_true (by omega)
 have f2:(i<A.length)=True:=eq_true hi2
 have f3:(i+1≤A.length)=True:=eq_true (by omega)
 refine Xi ?_
 simp only [QH,XT,w1,f1,f2,f3,vA',Int.toNat_natCast,↓X1,wF,seval]
 refine Xd (fun k:Nat=>⟨8,[8,9,10,14,15,16],[.yld t.l,Z3 A,Z3 B,.any,.any,Xw (A.getD i []),.any,.any],[(14,Uh B),(15,I B.length),(16,I k),(8,Uh A),(9,I A.length),(10,I i)],Hs (i*B.length+k)⟩) (fun k=>k≤B.length∧(i=i0→k≤k0)) (fun k=>B.length - k) 0 ⟨by omega,by omega⟩
  (Xf rfl (by simp [Xg,QH,XT,X5]) (by simp [Xn,Xr,XT,I]) (by simp)) ?_
 rintro k ⟨hk,hkk⟩ next2
 have w2:=wj k (by omega)
 by_cases hk2:k<B.length
 rotate_left
 ·obtain rfl:k=B.length:=by omega
  refine Xi ?_
  simp only [QH,XT,w1,Int.lt_irrefl,Nat.lt_irrefl,↓X1,wF,seval]
  exact next (i+1) _ (by omega) (by omega) (Xf rfl (by simp [Xg,QH,XT]) (by simp [Xn,Xr,XT,I]) (by simp [Nat.succ_mul]))
 have g1:((k:Int)<B.length)=True:=eq_true (by omega)
 have g2:(k<B.length)=True:=eq_true hk2
 have g3:(k+1≤B.length)=True:=eq_true (by omega)
 by_cases hlast:i=i0∧k=k0
 ·obtain ⟨rfl,rfl⟩:=hlast
  refine J8 20 ?_
  simp only [QH,XT,w1,w2,g1,g2,g3,vB',Int.toNat_natCast,↓X1,wF,seval]
  refine mC (t:=t) (j:=3) (l1:=[0,1,2]) (l2:=[4]) rfl rfl (List.mem_singleton.2 rfl) rfl rfl ⟨_,EZ rfl rfl rfl,_,EZ rfl rfl rfl,_,EZ rfl rfl rfl,rfl⟩ ⟨rfl,_,_,_,[Xw (A.getD i []),Xw (B.getD k [])],Hf,rfl,rfl,⟨Weak.rfl' _,Weak.rfl' _,trivial⟩,hz,rfl⟩ ⟨_,EZ rfl rfl rfl,rfl⟩ ?_
  show Run (tH Tryz.prog Tryz.f260 [] [] (Hs 0).length Hf) _ _
  refine Run.sub (s':=⟨8,[],[],[(24,.bool true)],Hf⟩) ?_ (Xf rfl trivial ⟨.inr rfl,trivial⟩ rfl)
  refine Xi ?_
  simp only [↓X1,wF,seval]
  exact vd rfl (by show Hf.take (Hs 0).length=_; rw [(hHs 0).1,← hHf.1,List.take_length])
 have hp:i<i0∨i=i0∧k<k0:=by omega
 refine Xi ?_
 simp only [QH,XT,w1,w2,g1,g2,g3,vB',Int.toNat_natCast,↓X1,wF,seval]
 obtain ⟨q1,q2⟩:=hHs (i*B.length+k)
 obtain ⟨q3,q4⟩:=hHs (i*B.length+k+1)
 refine BS (t:=t) (H1:=Hs (i*B.length+k)) (H1':=Hs (i*B.length+k+1)) (rest:=[]) rfl rfl (List.mem_singleton.2 rfl) (hy i k hp hk2) (List.append_nil _).symm (q3.trans q1.symm) (by rw [q1]; exact hce) ?_ (by rw [q1]; exact fun o ho=>(q2 o ho).1) (fun o ho=>(q2 o ho).2.1) (fun o ho=>(q4 o ho).2.1) (QM (fun o ho=>(q2 o ho).2.2) (fun o ho=>(q4 o ho).2.2)) ⟨Weak.rfl' _,Weak.rfl' _,trivial⟩ ?_
 ·intro a ha
  simp only [List.mem_cons,List.not_mem_nil,or_false] at ha
  rcases ha with rfl | rfl <;> exact X7 (Xh _)
 simp only [QH,XT,w1,w2,↓X1,wF,seval]
 exact next2 (k+1) _ ⟨by omega,by omega⟩ (by omega) (Xf rfl (by simp [Xg,QH,XT]) (by simp [Xn,Xr,XT,I]) (by simp [Nat.add_assoc]))
end
end Go.Ab.N
