/- Contracts of functions of these chapters, for every argument that fits, and what they need. -/
import Derived.Test.YtefjhgcndhepeaaGreatC9
set_option linter.unusedSimpArgs false
set_option linter.unusedVariables false
open Nat renaming reducePow → Y1, reduceLT → Y2, reduceLeDiff → Y3, reduceEqDiff → Y4, reduceAdd → Y5, reduceMul → Y6, reduceSub → Y7, reduceBEq → Y8, reduceDiv → Y9, reduceMod → YA
namespace Go.Ab.N
open Go Go.RowKit Go.Proofs
noncomputable section
set_option maxRecDepth 10000
set_option maxHeartbeats 4000000
open Classical
def qs (l:List Rat):AV:=uB qC 4 0 l
theorem Lt (l:List Rat):Settled (qs l):=DB fun a x hx=>by
 have:∀ x∈qC a,Settled x:=by simp [qC,X6,X2]
 exact this x hx
theorem AU (l:List Rat):qs l=.sl l.length (l.length*4) (Xt qC 4 0 l) false:=nrfl rfl
theorem xm (l:List Rat) (i:Nat):Xt qC 4 0 l (i*4)=.bool (decide ((l.getD i 0).num<0))∧Xt qC 4 0 l (i*4+1)=X4 (X8 (l.getD i 0).num.natAbs)∧Xt qC 4 0 l (i*4+2)=.bool false∧Xt qC 4 0 l (i*4+3)=X4 (X8 (qd (l.getD i 0))):=by
 refine ⟨?_,?_,?_,?_⟩
 ·rw [JT _ _ _ _ _ (by omega)]; rfl
 all_goals rw [JD _ _ _ _ _ _ (by omega)]; rfl
def Cd (sg:Int) (x:Rat) (l:List Rat):Nat→Rat
 | 0=>x
 | k+1=>if J3 (l.getD k 0) (Cd sg x l k)=sg then l.getD k 0 else Cd sg x l k
theorem OE (sg:Int) (x:Rat) (l:List Rat) (c:Nat) (hx:qb x≤c) (hl:∀ k,qb (l.getD k 0)≤c):∀ k,qb (Cd sg x l k)≤c
 | 0=>hx
 | k+1=>by
  simp only [Cd]
  split
  ·exact hl k
  ·exact OE sg x l c hx hl k
def GR:List AV:=[.bool false,.sl 0 0 (fun _=>.any) true,.bool false,.sl 0 0 (fun _=>.any) true]
theorem Ce (sg:Int) (x:Rat) (l:List Rat) (hl:l.length<1000000) (hx:qb x≤vm) (hq:∀ k,qb (l.getD k 0)≤vm):Fn Tryz.prog 286 [I sg,qA x,qs l] (qA (Cd sg x l l.length)):=by
 unfold vm at hx hq
 obtain ⟨R,hR⟩:∃ R,R=qA (Cd sg x l l.length):=⟨_,rfl⟩
 have sR:Settled R:=hR▸Xa _
 have hqc:∀ r:Rat,∀ x∈qC r,Settled x:=fun r=>by simp [qC,X6,X2]
 have bx:∀ r,XT 2 (.row 0 4 (Xk (qC r)))=True:=fun r=>eq_true (XL (hqc r))
 have bl:Ko 2 (qs l)=True:=eq_true (X7 (Lt l))
 rw [← hR]
 refine Fq Tryz.call286 Tryz.func286 9 [9,10,11] [] [] (by simp [X9,Xa,Lt]) (Xj ?_)
 simp only [AS.start,AU,↓X1,wF,seval]
 refine Xd (fun k:Nat=>⟨9,[9,10,11],[I sg,.any,.any,.any,.ref 0 0 0,.any,.ref 1 0 0,.any,.any],[(9,qs l),(10,I l.length),(11,I k)],[.row 0 4 (Xk (qC (Cd sg x l k))),.row 0 4 (Xk GR)]⟩) (fun k=>k≤l.length) (fun k=>l.length - k) 0 (by omega)
  (Xg rfl (by simp [Xf,I]) (by simp [Xm,Xq,AU,I]) rfl) ?_
 intro k hk next
 have w1:=wj k (by omega)
 have he:=OE sg x l 1000000 hx hq k
 by_cases hk2:k<l.length
 ·have f1:((k:Int)<l.length)=True:=eq_true (by omega)
  have f2:(k<l.length)=True:=eq_true hk2
  have f3:(k*4+4≤l.length*4)=True:=eq_true (by omega)
  have v1:=xm l k
  have c1:=QD (l.getD k 0) (Cd sg x l k) (by have:=hq k; unfold rm; omega) (by unfold rm; omega)
  have nx:=next (k+1)
  have hs:Cd sg x l (k+1)=if J3 (l.getD k 0) (Cd sg x l k)=sg then l.getD k 0 else Cd sg x l k:=rfl
  generalize Cd sg x l k=E at *
  refine Xj ?_
  simp only [AU,w1,f1,f2,f3,v1,Int.toNat_natCast,↓X1,wF,seval]
  refine X0 c1 rfl ?_
  by_cases h:J3 (l.getD k 0) E=sg
  ·have g1:(J3 (l.getD k 0) E=sg)=True:=eq_true h
   rw [if_pos h] at hs
   simp only [hs] at nx
   simp only [g1,w1,↓X1,wF,seval]
   exact nx _ (by omega) (by omega) (XD (m:=2) (Nat.zero_le _) rfl (by simp [Xf,I]) (by simp [Xm,Xq,AU,I]) (by simp [qC,GR,X3]) (by simp [XA]) (by simp [XA,bl]) (by simp [bx,GR,XA]))
  ·have g1:(J3 (l.getD k 0) E=sg)=False:=eq_false h
   rw [if_neg h] at hs
   simp only [hs] at nx
   simp only [g1,w1,↓X1,wF,seval]
   exact nx _ (by omega) (by omega) (XD (m:=2) (Nat.zero_le _) rfl (by simp [Xf,I]) (by simp [Xm,Xq,AU,I]) (by simp [qC,GR,X3]) (by simp [XA]) (by simp [XA,bl]) (by simp [bx,GR,XA]))
 obtain rfl:k=l.length:=by omega
 refine Xj ?_
 simp only [AU,GR,Int.lt_irrefl,Nat.lt_irrefl,↓X1,wF,seval]
 exact JO rfl Qh rfl rfl rfl sR (hR.trans rfl)
def Q7 (n:V2) (L:List V2):List Rat:=L.map (Q1 n)
theorem Uz (n:V2) (L:List V2) (i:Nat) (hi:i<L.length):Q7 n (L.take i) ++ [Q1 n (L.getD i v0)]=Q7 n (L.take (i+1)):=by
 rw [CB _ v0 hi]; simp [Q7]
theorem tN (a:Rat):∀ j,j<4→((qC a).getD j .any).one=true:=fun j hj=>by
 match j,hj with
 | 0,_=>rfl
 | 1,_=>rfl
 | 2,_=>rfl
 | 3,_=>rfl
 | j+4,h=>omega
theorem Hj (n:V2) (L:List V2) (k:Nat) (h:Qs L k) (hk:k≤100000) (hl:L.length<1000000) (hn:vb n≤100000):Fn Tryz.prog 285 [vA n,Xx L] (qs (Q7 n L)):=by
 have hvc:∀ a:V2,∀ x∈vC a,Settled x:=fun a=>by simp [vC,X6,X2]
 have hqc:∀ r:Rat,∀ x∈qC r,Settled x:=fun r=>by simp [qC,X6,X2]
 have bo:XT 2 (.row 0 8 (Xk (vC n)))=True:=eq_true (XL (hvc n))
 have bv:Ko 2 (Xx L)=True:=eq_true (X7 (Xh L))
 have br:∀ i l n,XT 2 (.row i n (Xt qC 4 0 l))=True:=fun i l n=>eq_true fun j _=>X7 (Xe (hqc _) _)
 obtain ⟨R,hR⟩:∃ R,R=qs (Q7 n L):=⟨_,rfl⟩
 rw [← hR]
 refine Fq Tryz.call285 Tryz.func285 8 [8,9,10] [] [] (by simp [Xo,Xh]) (Xj ?_)
 simp only [AS.start,X5,↓X1,wF,seval]
 refine Xd (fun i:Nat=>⟨8,[8,9,10],[.any,.any,.ref 0 0 0,.any,.any,.osl 1 i 4 0 i,.any,.any],[(8,Xx L),(9,I L.length),(10,I i)],[.row 0 8 (Xk (vC n)),.row i (i*4) (Xt qC 4 0 (Q7 n (L.take i)))]⟩) (fun i=>i≤L.length) (fun i=>L.length - i) 0 (by omega)
  (Sub.trans (Jd 5 4 (Xt qC 4 0 []) rfl) (Xg rfl (by simp [AS.put,Xf,I]) (by simp [AS.put,Xm,Xq,X5,I]) (by simp [AS.put,vC,X3,Q7]))) ?_
 intro i hi next
 have w1:=wj i (by omega)
 by_cases hi2:i<L.length
 ·have f1:((i:Int)<L.length)=True:=eq_true (by omega)
  have f2:(i<L.length)=True:=eq_true hi2
  have f3:(i*8+8≤L.length*8)=True:=eq_true (by omega)
  have v1:=vF L i
  have hb:=h i
  have c1:=FJ n (L.getD i v0) (by unfold vm; omega) (by unfold vm; omega)
  have hap:=QN qC 4 0 (Q7 n (L.take i)) (Q1 n (L.getD i v0)) (by omega)
  rw [Uz _ _ _ hi2,show (Q7 n (L.take i)).length=i by simp [Q7]; omega] at hap
  refine Xj ?_
  simp only [X5,w1,f1,f2,f3,v1,Int.toNat_natCast,↓X1,wF,seval]
  refine X0 c1 rfl ?_
  simp only [w1,↓X1,wF,seval]
  exact ⟨⟨tN _,by omega,by omega⟩,next (i+1) _ (by omega) (by omega) (XD (m:=2) (Nat.zero_le _) rfl (by simp [Xf]) (by simp [Xm,Xq,X5,I]) (by rw [← hap]; rfl) (by simp [XA]) (by simp [XA,bv]) (by simp [bo,br]))⟩
 obtain rfl:i=L.length:=by omega
 refine Xj ?_
 simp only [X5,Int.lt_irrefl,Nat.lt_irrefl,↓X1,wF,seval]
 refine BU rfl ?_
 have hlen:(Q7 n L).length=L.length:=by simp [Q7]
 rw [hR,AU,hlen]
 refine Jk (n:=L.length) (.inl rfl) (by omega) (fun h=>by rw [h]) fun j hj=>?_
 rw [List.take_length,Nat.zero_add]
 exact (Xe (hqc _) _).sees _
def Fs (sg:Int) (l:List Rat):Rat:=Cd sg (l.getD 0 0) (l.drop 1) (l.drop 1).length
def Mf (n:V2) (A B:List V2):Rat:=Fs (-1) (Q7 n B) - Fs 1 (Q7 n A)
theorem Cm (n:V2) (L:List V2) (k:Nat) (h:Qs L k) (i:Nat):qb ((Q7 n L).getD i 0)≤2*(vb n+k)+1:=by
 have h0:=h i
 have h1:=Bx n (L.getD i v0)
 have q0:=Zx
 by_cases hi:i<L.length
 ·have e:(Q7 n L).getD i 0=Q1 n (L.getD i v0):=by
   unfold Q7
   rw [List.getD_eq_getElem?_getD,List.getElem?_map,List.getD_eq_getElem?_getD,List.getElem?_eq_getElem hi]; rfl
  rw [e]; omega
 ·have e:(Q7 n L).getD i 0=0:=by
   rw [List.getD_eq_getElem?_getD,List.getElem?_eq_none (by simp [Q7]; omega)]; rfl
  rw [e]; omega
theorem Fl (l:List Rat) (i:Nat):(l.drop 1).getD i 0=l.getD (1+i) 0:=by
 rw [List.getD_eq_getElem?_getD,List.getD_eq_getElem?_getD,List.getElem?_drop]
theorem I4 (sg:Int) (l:List Rat) (c:Nat) (h:∀ i,qb (l.getD i 0)≤c):qb (Fs sg l)≤c :=
 OE _ _ _ _ (h 0) (fun k=>by rw [Fl]; exact h _) _
theorem LH (l:List Rat) {n m:Nat} {t:Bool} (hn:n=l.length - 1) (hm:(l.length - 1)*4≤m):Weak (.sl n m (fun j=>Xt qC 4 0 l (4+j)) t) (qs (l.drop 1)):=by
 rw [AU]
 refine DH (by rw [List.length_drop]; exact hn) (by rw [List.length_drop]; exact hm) fun j hj=>?_
 have e:Xt qC 4 0 l (4+j)=Xt qC 4 0 (l.drop 1) j:=by
  unfold Xt
  rw [Fl,show (4+j) / 4=1+j / 4 by omega,show (4+j) % 4=j % 4 by omega]
 rw [e]
 exact Weak.rfl' _
theorem rN (n:V2) (A B:List V2) (k:Nat) (ha:Qs A k) (hb:Qs B k) (hk:k≤10000) (la:A.length<1000000) (lb:B.length<1000000) (pa:0<A.length) (pb:0<B.length) (hn:vb n≤10000):Fn Tryz.prog 271 [vA n,Xx A,Xx B] (qA (Mf n A B)):=by
 have c1:=Hj n A k ha (by omega) la (by omega)
 have c2:=Hj n B k hb (by omega) lb (by omega)
 have qa:=Cm n A k ha
 have qb':=Cm n B k hb
 have hlA:(Q7 n A).length=A.length:=by simp [Q7]
 have hlB:(Q7 n B).length=B.length:=by simp [Q7]
 have c3:=Ce (-1) ((Q7 n B).getD 0 0) ((Q7 n B).drop 1) (by rw [List.length_drop]; omega) (by have:=qb' 0; unfold vm; omega) (fun i=>by rw [Fl]; have:=qb' (1+i); unfold vm; omega)
 have c4:=Ce 1 ((Q7 n A).getD 0 0) ((Q7 n A).drop 1) (by rw [List.length_drop]; omega) (by have:=qa 0; unfold vm; omega) (fun i=>by rw [Fl]; have:=qa (1+i); unfold vm; omega)
 have e1:=I4 (-1) (Q7 n B) _ qb'
 have e2:=I4 1 (Q7 n A) _ qa
 have c5:=OM (Fs (-1) (Q7 n B)) (Fs 1 (Q7 n A)) (by unfold rm; omega) (by unfold rm; omega)
 rw [show Cd (-1) ((Q7 n B).getD 0 0) ((Q7 n B).drop 1) ((Q7 n B).drop 1).length=Fs (-1) (Q7 n B) from rfl] at c3
 rw [show Cd 1 ((Q7 n A).getD 0 0) ((Q7 n A).drop 1) ((Q7 n A).drop 1).length=Fs 1 (Q7 n A) from rfl] at c4
 rw [show Fs (-1) (Q7 n B) - Fs 1 (Q7 n A)=Mf n A B from rfl] at c5
 have v1:=xm (Q7 n A) 0
 have v2:=xm (Q7 n B) 0
 obtain ⟨R,hR⟩:∃ R,R=qA (Mf n A B):=⟨_,rfl⟩
 have sR:Settled R:=hR▸Xa _
 rw [← hR] at c5 ⊢
 generalize Q7 n A=PA at *
 generalize Q7 n B=PB at *
 simp only [Nat.zero_mul,Nat.zero_add] at v1 v2
 have f1:(0<PA.length)=True:=eq_true (by omega)
 have f2:(0<PB.length)=True:=eq_true (by omega)
 have f3:((0:Int)<PA.length)=True:=eq_true (by omega)
 have f4:((0:Int)<PB.length)=True:=eq_true (by omega)
 have f5:(4≤PA.length*4)=True:=eq_true (by omega)
 have f6:(4≤PB.length*4)=True:=eq_true (by omega)
 have f7:((1:Int)≤PA.length)=True:=eq_true (by omega)
 have f8:((1:Int)≤PB.length)=True:=eq_true (by omega)
 refine Fq Tryz.call271 Tryz.func271 9 [] [2] [] (by simp [Xo,Xh]) (Xj ?_)
 simp only [AS.start,X5,↓X1,wF,seval]
 refine X0 c1 rfl ?_
 simp only [↓X1,wF,seval]
 refine X0 c2 rfl ?_
 simp only [AU,v1,v2,f1,f2,f3,f4,f5,f6,f7,f8,Int.toNat_zero,Int.reduceLE,↓X1,wF,seval]
 refine Qm c3 ⟨Weak.rfl' _,Weak.rfl' _,LH PB (by omega) (by omega),trivial⟩ ?_
 simp only [AU,v1,v2,f1,f2,f3,f4,f5,f6,f7,f8,Int.toNat_zero,Int.reduceLE,↓X1,wF,seval]
 refine Qm c4 ⟨Weak.rfl' _,Weak.rfl' _,LH PA (by omega) (by omega),trivial⟩ ?_
 simp only [↓X1,wF,seval]
 refine X0 c5 rfl ?_
 simp only [hR,↓X1,wF,seval]
 exact JO rfl Qh rfl rfl rfl sR (hR.trans rfl)
def F9 (x:Rat):Rat:=if x<0 then -x else x
def Ak (n:V2):Rat:=F9 n.x+F9 n.y
theorem I3 (x:Rat):qb (F9 x)=qb x:=by unfold F9; split <;> simp [Bz]
theorem Sb (x y:Rat):J3 x y=1↔y<x:=by
 rw [← KP]
 unfold J3
 rw [Int.sign_eq_one_iff_pos,Int.sign_pos_iff]
theorem VN (x:Rat):Cd 1 x [-x] 1=F9 x:=by
 show (if J3 (-x) x=1 then -x else x)=_
 unfold F9
 by_cases h:x<0
 ·rw [if_pos h,if_pos ((Sb _ _).2 (by grind))]
 ·rw [if_neg h,if_neg fun hh=>h (by have:=(Sb _ _).1 hh; grind)]
theorem SY (x:Rat) {t:Bool}:Weak (.sl 1 4 (Xk [.bool (decide (x.num<0)),X4 (X8 x.num.natAbs),.bool false,X4 (X8 (qd x))]) t) (qs [x]):=by
 rw [AU]
 refine DH rfl (Nat.le_refl _) fun j hj=>?_
 match j,hj with
 | 0,_=>exact Weak.rfl' _
 | 1,_=>exact Weak.rfl' _
 | 2,_=>exact Weak.rfl' _
 | 3,_=>exact Weak.rfl' _
 | j+4,h=>exact absurd h (by show ¬ j+4<1*4; omega)
theorem Ni (x:Rat) (c:Nat) (hc:1≤c) (h:qb x≤c) (k:Nat):qb (([x]:List Rat).getD k 0)≤c:=by
 have q0:=Zx
 match k with
 | 0=>exact h
 | k+1=>show qb 0≤c; omega
theorem oG (n:V2) (hn:vb n≤100000):Fn Tryz.prog 287 [vA n] (qA (Ak n)):=by
 have:=QM n; have:=QG n
 have n1:=Cu n.x
 have n2:=Cu n.y
 have a1:=I3 n.x; have a2:=I3 n.y
 have c1:=Ce 1 n.x [-n.x] (by simp) (by unfold vm; omega) (Ni _ _ (by unfold vm; omega) (by rw [Bz]; unfold vm; omega))
 have c2:=Ce 1 n.y [-n.y] (by simp) (by unfold vm; omega) (Ni _ _ (by unfold vm; omega) (by rw [Bz]; unfold vm; omega))
 rw [show ([-n.x]:List Rat).length=1 from rfl,VN] at c1
 rw [show ([-n.y]:List Rat).length=1 from rfl,VN] at c2
 have c3:=A2 (F9 n.x) (F9 n.y) (by unfold rm; omega) (by unfold rm; omega)
 rw [show F9 n.x+F9 n.y=Ak n from rfl] at c3
 obtain ⟨R,hR⟩:∃ R,R=qA (Ak n):=⟨_,rfl⟩
 have sR:Settled R:=hR▸Xa _
 rw [← hR] at c3 ⊢
 refine Fr Tryz.call287 Tryz.func287 3 [] [1,20000001] [] ?_; simp (maxSteps:=999999) only [AS.start,↓X1,wF,seval]
 refine X0 n1 rfl ?_
 simp only [↓X1,wF,seval]
 refine Qm c1 ⟨Weak.rfl' _,Weak.rfl' _,SY _,trivial⟩ ?_
 simp only [↓X1,wF,seval]
 refine X0 n2 rfl ?_
 simp only [↓X1,wF,seval]
 refine Qm c2 ⟨Weak.rfl' _,Weak.rfl' _,SY _,trivial⟩ ?_
 simp only [↓X1,wF,seval]
 refine X0 c3 rfl ?_
 simp only [hR,↓X1,wF,seval]
 exact JO rfl Qh rfl rfl rfl sR (hR.trans rfl)
theorem Wl (n:V2):qb (Ak n)≤2*vb n+1:=by
 have:=QM n; have:=QG n
 have a1:=I3 n.x; have a2:=I3 n.y
 have:=KW (F9 n.x) (F9 n.y)
 unfold Ak; omega
theorem ow (n:V2) (e:Rat) (hn:vb n≤100000) (he:qb e≤100000):Fn Tryz.prog 272 [vA n,qA e] (qA (e*Ak n)):=by
 have q:=Wl n
 have c1:=oG n hn
 have c2:=JZ e (Ak n) (by unfold rm; omega) (by unfold rm; omega)
 obtain ⟨R,hR⟩:∃ R,R=qA (e*Ak n):=⟨_,rfl⟩
 have sR:Settled R:=hR▸Xa _
 rw [← hR] at c2 ⊢
 refine Fr Tryz.call272 Tryz.func272 5 [] [] [] ?_; simp (maxSteps:=999999) only [AS.start,↓X1,wF,seval]
 refine X0 c1 rfl ?_
 simp only [↓X1,wF,seval]
 refine X0 c2 rfl ?_
 simp only [hR,↓X1,wF,seval]
 exact JO rfl Qh rfl rfl rfl sR (hR.trans rfl)
def kJ (p q:V2):V2:=⟨(q.sub p).y,-(q.sub p).x⟩
theorem jZ (p q:V2):vb (kJ p q)≤vb p+vb q+1:=by
 have:=KZ q p
 have:=QM (q.sub p); have:=QG (q.sub p)
 have:=Bz (q.sub p).x
 unfold kJ
 show max (qb (q.sub p).y) (qb (-(q.sub p).x))≤_
 omega
theorem Ik (p q:V2) (hp:vb p≤100000) (hq:vb q≤100000):Fn Tryz.prog 270 [vA p,vA q] (vA (kJ p q)):=by
 have c1:=Bh q p (by unfold rm; omega) (by unfold rm; omega)
 have c2:=Cu (q.sub p).x
 obtain ⟨R,hR⟩:∃ R,R=vA (kJ p q):=⟨_,rfl⟩
 have sR:Settled R:=hR▸Xo _
 rw [← hR]
 refine Fr Tryz.call270 Tryz.func270 6 [] [] [] ?_; simp (maxSteps:=999999) only [AS.start,↓X1,wF,seval]
 refine X0 c1 rfl ?_
 simp only [↓X1,wF,seval]
 refine X0 c2 rfl ?_
 simp only [↓X1,wF,seval]
 exact Ar rfl Kc rfl rfl rfl sR (hR.trans rfl)
def GL (n:V2) (A B:List V2) (e:Rat):Prop:=e*Ak n≤Mf n A B
theorem aL (n:V2) (A B:List V2) (k:Nat) (ha:Qs A k) (hb:Qs B k):qb (Mf n A B)≤4*(vb n+k)+3:=by
 have e1:=I4 (-1) (Q7 n B) _ (Cm n B k hb)
 have e2:=I4 1 (Q7 n A) _ (Cm n A k ha)
 have:=EU (Fs (-1) (Q7 n B)) (Fs 1 (Q7 n A))
 unfold Mf; omega
theorem OO (n:V2) (A B:List V2) (e:Rat) (k:Nat) (ha:Qs A k) (hb:Qs B k) (hk:k≤10000) (la:A.length<1000000) (lb:B.length<1000000) (pa:0<A.length) (pb:0<B.length) (hn:vb n≤10000) (he:qb e≤10000):Fn Tryz.prog 262 [vA n,Xx A,Xx B,qA e] (.bool (decide (GL n A B e))):=by
 have c1:=rN n A B k ha hb hk la lb pa pb hn
 have c2:=ow n e (by omega) (by omega)
 have q1:=aL n A B k ha hb
 have q2:=Wl n
 have q3:=QA e (Ak n)
 have c3:=QD (Mf n A B) (e*Ak n) (by unfold rm; omega) (by unfold rm; omega)
 have hd:decide (GL n A B e)=decide (0≤J3 (Mf n A B) (e*Ak n)):=decide_eq_decide.2 (Wm _ _).symm
 rw [hd]
 refine Fq Tryz.call262 Tryz.func262 9 [] [] [] (by simp [Xo,Xh,Xa]) (Xj ?_)
 simp only [AS.start,X5,↓X1,wF,seval]
 refine X0 c1 rfl ?_
 simp only [↓X1,wF,seval]
 refine X0 c2 rfl ?_
 simp only [↓X1,wF,seval]
 refine X0 c3 rfl ?_
 simp only [↓X1,wF,seval]
 exact Xv rfl rfl (X2 _) rfl
def dA (A:List V2) (i:Nat):V2:=kJ (A.getD i v0) (A.getD ((i+1) % A.length) v0)
def dB (B:List V2) (i:Nat):V2:=kJ (B.getD ((i+1) % B.length) v0) (B.getD i v0)
def PK (A:List V2) (i:Nat):List V2:=(List.range i).map (dA A)
def TV (B:List V2) (i:Nat):List V2:=(List.range i).map (dB B)
def Bf (A B:List V2):List V2:=(PK A A.length ++ TV B B.length) ++ [Qe (1,0),Qe (0,1),Qe (-1,0),Qe (0,-1)]
theorem fV (A:List V2) (i:Nat):PK A (i+1)=PK A i ++ [dA A i]:=by unfold PK; rw [List.range_succ,List.map_append]; rfl
theorem fZ (B:List V2) (i:Nat):TV B (i+1)=TV B i ++ [dB B i]:=by unfold TV; rw [List.range_succ,List.map_append]; rfl
theorem HS (A:List V2) (i:Nat):(PK A i).length=i:=by simp [PK]
theorem Oi (B:List V2) (i:Nat):(TV B i).length=i:=by simp [TV]
theorem wQ (L:List V2) (a b c d:V2) (j:Nat) (hj:j<(L.length+4)*8):QK (L.length*8) (Xt vC 8 v0 L) 32 (Xk (vC a ++ (vC b ++ (vC c ++ vC d)))) j=Xt vC 8 v0 (L ++ [a,b,c,d]) j:=by
 unfold QK
 by_cases h:j<L.length*8
 ·rw [if_pos h]
  unfold Xt
  have:j / 8<L.length:=by omega
  have e:(L ++ [a,b,c,d]).getD (j / 8) v0=L.getD (j / 8) v0:=by rw [List.getD_eq_getElem?_getD,List.getD_eq_getElem?_getD,List.getElem?_append_left this]
  rw [e]
 ·rw [if_neg h,if_pos (by omega)]
  obtain ⟨i,rfl⟩:∃ i,j=L.length*8+i:=⟨j - L.length*8,by omega⟩
  have hi:i<32:=by omega
  have e1:L.length*8+i - L.length*8=i:=by omega
  have e2:(L.length*8+i) / 8=L.length+i / 8:=by omega
  have e3:(L.length*8+i) % 8=i % 8:=by omega
  unfold Xt
  rw [e1,e2,e3]
  have e4:(L ++ [a,b,c,d]).getD (L.length+i / 8) v0=[a,b,c,d].getD (i / 8) v0:=by
   rw [List.getD_eq_getElem?_getD,List.getD_eq_getElem?_getD,List.getElem?_append_right (by omega)]
   rw [show L.length+i / 8 - L.length=i / 8 by omega]
  rw [e4]
  clear e1 e2 e3 e4 hj h
  match i,hi with
  | 0,_=>rfl
  | 1,_=>rfl
  | 2,_=>rfl
  | 3,_=>rfl
  | 4,_=>rfl
  | 5,_=>rfl
  | 6,_=>rfl
  | 7,_=>rfl
  | 8,_=>rfl
  | 9,_=>rfl
  | 10,_=>rfl
  | 11,_=>rfl
  | 12,_=>rfl
  | 13,_=>rfl
  | 14,_=>rfl
  | 15,_=>rfl
  | 16,_=>rfl
  | 17,_=>rfl
  | 18,_=>rfl
  | 19,_=>rfl
  | 20,_=>rfl
  | 21,_=>rfl
  | 22,_=>rfl
  | 23,_=>rfl
  | 24,_=>rfl
  | 25,_=>rfl
  | 26,_=>rfl
  | 27,_=>rfl
  | 28,_=>rfl
  | 29,_=>rfl
  | 30,_=>rfl
  | 31,_=>rfl
  | i+32,h=>omega
theorem TX (A B:List V2) (k:Nat) (ha:Qs A k) (hb:Qs B k) (hk:1≤k):∀ x∈Bf A B,vb x≤2*k+3:=by
 intro x hx
 have p4:∀ c:Int×Int,-1≤c.1∧c.1≤1→-1≤c.2∧c.2≤1→vb (Qe c)≤3:=fun c h1 h2=>by
  have q1:=Za c.1 3 (by omega) (QR ⟨by omega,by omega⟩)
  have q2:=Za c.2 3 (by omega) (QR ⟨by omega,by omega⟩)
  unfold vb Qe; simp only; omega
 unfold Bf at hx
 rcases List.mem_append.1 hx with h | h
 ·rcases List.mem_append.1 h with h | h
  ·obtain ⟨i,_,rfl⟩:=List.mem_map.1 h
   have:=jZ (A.getD i v0) (A.getD ((i+1) % A.length) v0)
   have:=ha i; have:=ha ((i+1) % A.length)
   unfold dA; omega
  ·obtain ⟨i,_,rfl⟩:=List.mem_map.1 h
   have:=jZ (B.getD ((i+1) % B.length) v0) (B.getD i v0)
   have:=hb i; have:=hb ((i+1) % B.length)
   unfold dB; omega
 ·simp only [List.mem_cons,List.not_mem_nil,or_false] at h
  rcases h with rfl | rfl | rfl | rfl
  ·exact Nat.le_trans (p4 _ (by decide) (by decide)) (by omega)
  ·exact Nat.le_trans (p4 _ (by decide) (by decide)) (by omega)
  ·exact Nat.le_trans (p4 _ (by decide) (by decide)) (by omega)
  ·exact Nat.le_trans (p4 _ (by decide) (by decide)) (by omega)
theorem xi (a b c d:V2):∀ j,j<32→((vC a ++ (vC b ++ (vC c ++ vC d))).getD j .any).one=true:=fun j hj=>by
 match j,hj with
 | 0,_=>rfl
 | 1,_=>rfl
 | 2,_=>rfl
 | 3,_=>rfl
 | 4,_=>rfl
 | 5,_=>rfl
 | 6,_=>rfl
 | 7,_=>rfl
 | 8,_=>rfl
 | 9,_=>rfl
 | 10,_=>rfl
 | 11,_=>rfl
 | 12,_=>rfl
 | 13,_=>rfl
 | 14,_=>rfl
 | 15,_=>rfl
 | 16,_=>rfl
 | 17,_=>rfl
 | 18,_=>rfl
 | 19,_=>rfl
 | 20,_=>rfl
 | 21,_=>rfl
 | 22,_=>rfl
 | 23,_=>rfl
 | 24,_=>rfl
 | 25,_=>rfl
 | 26,_=>rfl
 | 27,_=>rfl
 | 28,_=>rfl
 | 29,_=>rfl
 | 30,_=>rfl
 | 31,_=>rfl
 | j+32,h=>omega
theorem eE (A B:List V2) (c:Nat) (ha:Qs A c) (hb:Qs B c) (hc:c≤10000) (la:A.length<100000) (lb:B.length<100000):Fn Tryz.prog 261 [Xx A,Xx B] (Xx (Bf A B)):=by
 have hvc:∀ a:V2,∀ x∈vC a,Settled x:=fun a=>by simp [vC,X6,X2]
 have bA:Ko 1 (Xx A)=True:=eq_true (X7 (Xh A))
 have bB:Ko 1 (Xx B)=True:=eq_true (X7 (Xh B))
 have br:∀ i l n,XT 1 (.row i n (Xt vC 8 v0 l))=True:=fun i l n=>eq_true fun j _=>X7 (Xe (hvc _) _)
 obtain ⟨R,hR⟩:∃ R,R=Xx (Bf A B):=⟨_,rfl⟩
 rw [← hR]
 refine Fq Tryz.call261 Tryz.func261 10 [10,11,12,31,32,33] [5,60000007,10,110000009] [] (by simp [Xh]) (Xj ?_)
 simp only [AS.start,X5,↓X1,wF,seval]
 refine Xd (fun i:Nat=>⟨10,[10,11,12,31,32,33],[Xx A,Xx B,.any,.any,.any,.osl 0 i 8 0 i,.any,.any,.any,.any],[(10,Xx A),(11,I A.length),(12,I i)],[.row i (i*8) (Xt vC 8 v0 (PK A i))]⟩) (fun i=>i≤A.length) (fun i=>A.length - i) 0 (by omega)
  (Sub.trans (Jd 5 8 (Xt vC 8 v0 []) rfl) (Xg rfl (by simp [AS.put,Xf,X5,I]) (by simp [AS.put,Xm,Xq,X5,I]) (by simp [AS.put,PK]))) ?_
 intro i hi next
 have w1:=wj i (by omega)
 by_cases hi2:i<A.length
 ·have nx:=next (i+1)
  have f1:((i:Int)<A.length)=True:=eq_true (by omega)
  have f2:(i<A.length)=True:=eq_true hi2
  have f3:(i*8+8≤A.length*8)=True:=eq_true (by omega)
  have hm:((i+1:Nat):Int).tmod A.length=(((i+1) % A.length:Nat):Int):=rfl
  have hml:(i+1) % A.length<A.length:=Nat.mod_lt _ (by omega)
  have f4:((i+1) % A.length<A.length)=True:=eq_true hml
  have f5:((i+1) % A.length*8+8≤A.length*8)=True:=eq_true (by omega)
  have f6:((A.length:Int)=0)=False:=eq_false (by omega)
  have f6':(A.length=0)=False:=eq_false (by omega)
  have v1:=vF A i
  have v2:=vF A ((i+1) % A.length)
  have s1:=ha i; have s2:=ha ((i+1) % A.length)
  have hap:=QN vC 8 v0 (PK A i) (dA A i) (by omega)
  rw [HS,← fV] at hap
  have c1:=Ik (A.getD i v0) (A.getD ((i+1) % A.length) v0) (by omega) (by omega)
  rw [show kJ (A.getD i v0) (A.getD ((i+1) % A.length) v0)=dA A i from rfl] at c1
  refine Xj ?_
  simp only [X5,w1,f1,f2,f3,f4,f5,f6,f6',hm,v1,v2,Int.toNat_natCast,↓X1,wF,seval]
  refine X0 c1 rfl ?_
  simp only [w1,↓X1,wF,seval]
  exact ⟨⟨F4 _,by omega,by omega⟩,nx _ (by omega) (by omega) (XD (m:=1) (Nat.zero_le _) rfl (by simp [Xf,X5,I]) (by simp [Xm,Xq,X5,I]) (by rw [← hap]; rfl) (by simp [XA,bA,bB]) (by simp [XA,bA,bB]) (by simp [br]))⟩
 obtain rfl:i=A.length:=by omega
 refine Xj ?_
 simp only [X5,Int.lt_irrefl,Nat.lt_irrefl,↓X1,wF,seval]
 refine Xd (fun i:Nat=>⟨10,[10,11,12,31,32,33],[Xx A,Xx B,.any,.any,.any,.osl 0 (A.length+i) 8 0 (A.length+i),.any,.any,.any,.any],[(31,Xx B),(32,I B.length),(33,I i)],[.row (A.length+i) ((A.length+i)*8) (Xt vC 8 v0 (PK A A.length ++ TV B i))]⟩) (fun i=>i≤B.length) (fun i=>B.length - i) 0 (by omega)
  (Xg rfl (by simp [Xf,X5,I]) (by simp [Xm,Xq,X5,I]) (by simp [TV])) ?_
 intro i hi next
 have w1:=wj i (by omega)
 by_cases hi2:i<B.length
 ·have nx:=next (i+1)
  have f1:((i:Int)<B.length)=True:=eq_true (by omega)
  have f2:(i<B.length)=True:=eq_true hi2
  have f3:(i*8+8≤B.length*8)=True:=eq_true (by omega)
  have hm:((i+1:Nat):Int).tmod B.length=(((i+1) % B.length:Nat):Int):=rfl
  have hml:(i+1) % B.length<B.length:=Nat.mod_lt _ (by omega)
  have f4:((i+1) % B.length<B.length)=True:=eq_true hml
  have f5:((i+1) % B.length*8+8≤B.length*8)=True:=eq_true (by omega)
  have f6:((B.length:Int)=0)=False:=eq_false (by omega)
  have f6':(B.length=0)=False:=eq_false (by omega)
  have v1:=vF B i
  have v2:=vF B ((i+1) % B.length)
  have s1:=hb i; have s2:=hb ((i+1) % B.length)
  have hap:=QN vC 8 v0 (PK A A.length ++ TV B i) (dB B i) (by omega)
  rw [List.append_assoc,← fZ,List.length_append,HS,Oi] at hap
  have ea:A.length+(i+1)=A.length+i+1:=by omega
  simp only [ea] at nx
  have c1:=Ik (B.getD ((i+1) % B.length) v0) (B.getD i v0) (by omega) (by omega)
  rw [show kJ (B.getD ((i+1) % B.length) v0) (B.getD i v0)=dB B i from rfl] at c1
  refine Xj ?_
  simp only [X5,w1,f1,f2,f3,f4,f5,f6,f6',hm,v1,v2,Int.toNat_natCast,↓X1,wF,seval]
  refine X0 c1 rfl ?_
  simp only [w1,↓X1,wF,seval]
  exact ⟨⟨F4 _,by omega,by omega⟩,nx _ (by omega) (by omega) (XD (m:=1) (Nat.zero_le _) rfl (by simp [Xf,X5,I]) (by simp [Xm,Xq,X5,I]) (by rw [← hap]; rfl) (by simp [XA,bA,bB]) (by simp [XA,bA,bB]) (by simp [br]))⟩
 obtain rfl:i=B.length:=by omega
 have hl:(PK A A.length ++ TV B B.length).length=A.length+B.length:=by rw [List.length_append,HS,Oi]
 have h4:=wQ (PK A A.length ++ TV B B.length) (Qe (1,0)) (Qe (0,1)) (Qe (-1,0)) (Qe (0,-1))
 rw [hl] at h4
 have c1:=GA 1 0 ⟨by omega,by omega⟩ ⟨by omega,by omega⟩
 have c2:=GA 0 1 ⟨by omega,by omega⟩ ⟨by omega,by omega⟩
 have c3:=GA (-1) 0 ⟨by omega,by omega⟩ ⟨by omega,by omega⟩
 have c4:=GA 0 (-1) ⟨by omega,by omega⟩ ⟨by omega,by omega⟩
 have hlen:(Bf A B).length=A.length+B.length+4:=by unfold Bf; rw [List.length_append,hl]; rfl
 rw [show (⟨((1:Int):Rat),((0:Int):Rat)⟩:V2)=Qe (1,0) from rfl] at c1
 rw [show (⟨((0:Int):Rat),((1:Int):Rat)⟩:V2)=Qe (0,1) from rfl] at c2
 rw [show (⟨((-1:Int):Rat),((0:Int):Rat)⟩:V2)=Qe (-1,0) from rfl] at c3
 rw [show (⟨((0:Int):Rat),((-1:Int):Rat)⟩:V2)=Qe (0,-1) from rfl] at c4
 have hD:Bf A B=(PK A A.length ++ TV B B.length) ++ [Qe (1,0),Qe (0,1),Qe (-1,0),Qe (0,-1)]:=rfl
 generalize Qe (1,0)=E1 at *
 generalize Qe (0,1)=E2 at *
 generalize Qe (-1,0)=E3 at *
 generalize Qe (0,-1)=E4 at *
 refine Xj ?_
 simp only [X5,Int.lt_irrefl,Nat.lt_irrefl,↓X1,wF,seval]
 refine X0 c1 rfl ?_
 simp only [↓X1,wF,seval]
 refine X0 c2 rfl ?_
 simp only [↓X1,wF,seval]
 refine X0 c3 rfl ?_
 simp only [↓X1,wF,seval]
 refine X0 c4 rfl ?_
 simp only [↓X1,wF,seval]
 refine ⟨⟨xi E1 E2 E3 E4,by omega,by omega⟩,?_⟩
 rw [hR]
 refine BU rfl ?_
 rw [X5,hlen]
 refine Jk (n:=A.length+B.length+4) (.inl rfl) (by omega) (fun h=>by omega) fun j hj=>?_
 rw [Nat.zero_add,hD,← h4 j hj]
 have:=Xe (hvc ((PK A A.length ++ TV B B.length ++ [E1,E2,E3,E4]).getD (j / 8) v0)) (j % 8)
 have e:Settled (Xt vC 8 v0 (PK A A.length ++ TV B B.length ++ [E1,E2,E3,E4]) j):=this
 rw [← h4 j hj] at e
 exact e.sees _
def Fu (p:V2→Bool):List V2→V2×Bool
 | []=>(v0,false)
 | x :: l=>if p x=true then (x,true) else Fu p l
theorem MV {p:V2→Bool}:∀ {s:List V2} {j:Nat},j<s.length→p (s.getD j v0)=true→(∀ i,i<j→p (s.getD i v0)=false)→Fu p s=(s.getD j v0,true)
 | [],j,h,_,_=>absurd h (Nat.not_lt_zero j)
 | x :: l,0,_,h,_=>if_pos h
 | x :: l,j+1,hj,h,hno=>by
  have h0:p x=false:=hno 0 (by omega)
  have ih:=MV (p:=p) (s:=l) (j:=j) (by simpa using hj) h (fun i hi=>hno (i+1) (by omega))
  show (if p x=true then (x,true) else Fu p l)=_
  rw [if_neg (by rw [h0]; decide),ih]
  rfl
theorem IL {p:V2→Bool}:∀ {s:List V2},(∀ i,i<s.length→p (s.getD i v0)=false)→Fu p s=(v0,false)
 | [],_=>rfl
 | x :: l,hno=>by
  have h0:p x=false:=hno 0 (by simp)
  have ih:=IL (p:=p) (s:=l) (fun i hi=>hno (i+1) (by simpa using hi))
  show (if p x=true then (x,true) else Fu p l)=_
  rw [if_neg (by rw [h0]; decide),ih]
noncomputable def A8 (A B:List V2) (e:Rat):V2×Bool:=Fu (fun d=>decide (GL d A B e)) (Bf A B)
structure Shp (c:Nat) (A:List V2):Prop where
 small:Qs A c
 pos:0<A.length
 len:A.length<10000
theorem Pf (A B:List V2) (e:Rat) (c:Nat) (ha:Shp c A) (hb:Shp c B) (h1:1≤c) (hc:c≤1000) (he:qb e≤10000):Fn Tryz.prog 244 [Xx A,Xx B,qA e] (.tup [vA (A8 A B e).1,.bool (A8 A B e).2]):=by
 obtain ⟨a1,a2,a3⟩:=ha
 obtain ⟨b1,b2,b3⟩:=hb
 obtain ⟨R,hR⟩:∃ R,R=A8 A B e:=⟨_,rfl⟩
 rw [← hR]
 have cd:=eE A B c a1 b1 (by omega) (by omega) (by omega)
 have hds:=TX A B c a1 b1 h1
 unfold A8 at hR
 have hlen:(Bf A B).length=A.length+B.length+4:=by unfold Bf; rw [List.length_append,List.length_append,HS,Oi]; rfl
 generalize Bf A B=D at *
 have be:XT 2 (.row 0 4 (Xk (qC e)))=True:=eq_true (XL (by simp [qC,X6,X2]))
 have bz:XT 2 (.row 0 8 (Xk Q5))=True:=eq_true (XL (Dy [] [] ⟨0,0,0,0,0,v0,v0,v0⟩ 0))
 have bA:Ko 2 (Xx A)=True:=eq_true (X7 (Xh A))
 have bB:Ko 2 (Xx B)=True:=eq_true (X7 (Xh B))
 have bD:Ko 2 (Xx D)=True:=eq_true (X7 (Xh D))
 refine Fq Tryz.call244 Tryz.func244 10 [12,13,14] [] [] (by simp [Xh,Xa]) (Xj ?_)
 simp only [AS.start,X5,↓X1,wF,seval]
 refine X0 cd rfl ?_
 simp only [X5,↓X1,wF,seval]
 refine Xd (fun i:Nat=>⟨10,[12,13,14],[Xx A,Xx B,.any,.any,.any,.ref 0 0 0,.ref 1 0 0,.bool false,.any,.any],[(12,Xx D),(13,I D.length),(14,I i)],[.row 0 4 (Xk (qC e)),.row 0 8 (Xk Q5)]⟩) (fun i=>i≤D.length∧∀ j,j<i→decide (GL (D.getD j v0) A B e)=false) (fun i=>D.length - i) 0 ⟨by omega,by omega⟩
  (Xg rfl (by simp [Xf,X5,I]) (by simp [Xm,Xq,X5,I]) (by simp [qC,Q5,X3])) ?_
 rintro i ⟨hi,hno⟩ next
 have w1:=wj i (by omega)
 by_cases hi2:i<D.length
 rotate_left
 ·obtain rfl:i=D.length:=by omega
  rw [IL hno] at hR
  refine Xj ?_
  simp only [X5,Q5,Int.lt_irrefl,Nat.lt_irrefl,↓X1,wF,seval]
  subst hR
  exact Ki rfl (Xn Kc rfl rfl rfl) (by unfold Jj; rfl) (XK (Xo _) (QY CC)) ((X2 _).sees _)
 have f1:((i:Int)<D.length)=True:=eq_true (by omega)
 have f2:(i<D.length)=True:=eq_true hi2
 have f3:(i*8+8≤D.length*8)=True:=eq_true (by omega)
 have v1:=vF D i
 have hs:=hds _ (GQ hi2)
 have cs:=OO (D.getD i v0) A B e c a1 b1 (by omega) (by omega) (by omega) a2 b2 (by omega) he
 have nx:=next (i+1)
 refine Xj ?_
 simp only [X5,w1,f1,f2,f3,v1,Int.toNat_natCast,↓X1,wF,seval]
 refine X0 cs rfl ?_
 by_cases hsep:GL (D.getD i v0) A B e
 ·have hd:decide (GL (D.getD i v0) A B e)=true:=decide_eq_true hsep
  rw [hd]
  rw [MV hi2 hd hno] at hR
  simp only [X5,Q5,w1,f1,f2,f3,v1,Int.toNat_natCast,↓X1,wF,seval]
  subst hR
  exact Ki rfl (Xn Kc rfl rfl rfl) (by unfold Jj; rfl) (XK (Xo _) (QY (Qj (vC (D.getD i v0))))) ((X2 _).sees _)
 ·have hd:decide (GL (D.getD i v0) A B e)=false:=decide_eq_false hsep
  rw [hd]
  simp only [w1,↓X1,wF,seval]
  exact nx _ ⟨by omega,BG.2 ⟨hno,hd⟩⟩ (by omega) (XD (m:=2) (Nat.zero_le _) rfl (by simp [Xf,X5,I]) (by simp [Xm,Xq,X5,I]) (by simp [qC,Q5,X3]) (by simp [XA,bA,bB,bD]) (by simp [XA,bD]) (by simp [be,bz]))
noncomputable def V7 (l:List (List V2)):AV:=Qn Xx [] l
theorem XX (l:List (List V2)):V7 l=.sl l.length l.length (Qb Xx [] l) false:=nrfl rfl
theorem Aj (l:List (List V2)):Settled (V7 l):=QX fun _ _=>Xh _
theorem we (l:List (List V2)) (i:Nat):Qb Xx [] l i=Xx (l.getD i []):=nrfl rfl
noncomputable def Zw (A B:List (List V2)) (e:Rat) (i k:Nat):Bool:=(A8 (A.getD i []) (B.getD k []) e).2
noncomputable def NZ (A B:List (List V2)) (e:Rat) (i:Nat):Bool:=decide (∀ k,k<B.length→Zw A B e i k=true)
noncomputable def CG (A B:List (List V2)) (e:Rat):Bool:=decide (∀ i,i<A.length→NZ A B e i=true)
theorem li {A B:List (List V2)} {e:Rat} {i k:Nat} (h:k<B.length) (hp:Zw A B e i k=false):NZ A B e i=false :=
 decide_eq_false fun H=>by rw [H k h] at hp; cases hp
def Z6 (A:List (List V2)):AV:=.ptr 1 (Xk [V7 A]) 0
theorem QP (A:List (List V2)):Z6 A=.ptr 1 (Xk [V7 A]) 0:=nrfl rfl
theorem FS (A:List (List V2)):Settled (Z6 A):=QO fun j hj=>by
 obtain rfl:j=0:=by omega
 exact Aj A
theorem jc (A B:List (List V2)):Fn Tryz.prog 243 [V7 A,V7 B] (.fn 260 [Z6 A,Z6 B]):=by
 have hset:Settled (.fn 260 [Z6 A,Z6 B]):=Jb (by
  intro a ha
  simp only [List.mem_cons,List.not_mem_nil,or_false] at ha
  rcases ha with rfl | rfl <;> exact FS _)
 refine Fq Tryz.call243 Tryz.func243 5 [] [] [] (by simp [Aj]) (Xj ?_)
 simp only [AS.start,XX,↓X1,wF,seval]
 refine BU rfl (Bm ⟨KE (.inl rfl) (by omega) fun j hj=>?_,KE (.inl rfl) (by omega) fun j hj=>?_,trivial⟩)
 ·obtain rfl:j=0:=by omega
  exact (Aj A).sees _
 ·obtain rfl:j=0:=by omega
  exact (Aj B).sees _
theorem Fw {P:Program} {tok:List Tok} {all:Array Oper} {i:Nat} {s:AS} {o:Oper} {v:AV} {h':List AO} (ho:all[i]?=some o) (hg:o.guard=none) (h:QZ P false none o.op s.ev s.h=some (v,h')) :
  GStep P tok (fun _=>false) true (fun _=>none) all i s (({ s with h:=h' }:AS).putO o.dst v):=⟨o,ho,.inl ⟨by unfold gval; rw [hg],⟨fun _ h=>(by cases h),v,h',.inl h,rfl⟩⟩⟩
def P7 (m:Nat) (H:List AO):Prop:=H.length=m∧∀ o∈H,XT m o∧o≠.unborn∧∀ v n f,o≠.con v n f
theorem Ux (A B:List (List V2)) (t:Tok) (m:Nat) (Hs:Nat→List AO) (la:A.length≤1000) (lb:B.length≤1000) (hHs:∀ n,P7 m (Hs n)) (hce:t.ce.H.length≤m)
  (hy:∀ i k,i<A.length→k<B.length→YCall Tryz.prog t [Xx (A.getD i []),Xx (B.getD k [])] (Hs (i*B.length+k)) (.bool true) (Hs (i*B.length+k+1))) :
  ICall Tryz.prog t 260 [.yld t.l,Z6 A,Z6 B] (Hs 0) (Hs (A.length*B.length)):=by
 have vA':=fun i=>we A i
 have vB':=fun i=>we B i
 refine ICall.intro (fn:=Tryz.f260) Tryz.call260 Tryz.func260 rfl mixed 8 [8,9,10,14,15,16] [] [] (by kernel_rfl) (Nat.le_of_ble_eq_true rfl) (by rw [(hHs 0).1]; exact hce) (by rw [(hHs 0).1]; exact fun o ho=>((hHs _).2 o ho).1) (Xj ?_)
 simp only [AS.start,QP,XX,↓X1,wF,seval]
 refine Xd (fun i:Nat=>⟨8,[8,9,10,14,15,16],[.yld t.l,Z6 A,Z6 B,.any,.any,.any,.any,.any],[(8,V7 A),(9,I A.length),(10,I i)],Hs (i*B.length)⟩) (fun i=>i≤A.length) (fun i=>A.length - i) 0 (by omega)
  (Xg rfl (by simp [Xf,QP,XX]) (by simp [Xm,Xq,XX,I]) (by simp)) ?_
 intro i hi next
 have w1:=wj i (by omega)
 by_cases hi2:i<A.length
 rotate_left
 ·obtain rfl:i=A.length:=by omega
  refine Xj ?_
  simp only [QP,XX,Int.lt_irrefl,Nat.lt_irrefl,↓X1,wF,seval]
  exact tS rfl (by show (Hs _).take (Hs 0).length=_; rw [(hHs 0).1,← (hHs (A.length*B.length)).1,List.take_length])
 have f1:((i:Int)<A.length)=True:=eq_true (by omega)
 have f2:(i<A.length)=True:=eq_true hi2
 have f3:(i+1≤A.length)=True:=eq_true (by omega)
 refine Xj ?_
 simp only [QP,XX,w1,f1,f2,f3,vA',Int.toNat_natCast,↓X1,wF,seval]
 refine Xd (fun k:Nat=>⟨8,[8,9,10,14,15,16],[.yld t.l,Z6 A,Z6 B,.any,.any,Xx (A.getD i []),.any,.any],[(14,V7 B),(15,I B.length),(16,I k),(8,V7 A),(9,I A.length),(10,I i)],Hs (i*B.length+k)⟩) (fun k=>k≤B.length) (fun k=>B.length - k) 0 (by omega)
  (Xg rfl (by simp [Xf,QP,XX,X5]) (by simp [Xm,Xq,XX,I]) (by simp)) ?_
 intro k hk next2
 have w2:=wj k (by omega)
 by_cases hk2:k<B.length
 rotate_left
 ·obtain rfl:k=B.length:=by omega
  refine Xj ?_
  simp only [QP,XX,w1,Int.lt_irrefl,Nat.lt_irrefl,↓X1,wF,seval]
  exact next (i+1) _ (by omega) (by omega) (Xg rfl (by simp [Xf,QP,XX]) (by simp [Xm,Xq,XX,I]) (by simp [Nat.succ_mul]))
 have g1:((k:Int)<B.length)=True:=eq_true (by omega)
 have g2:(k<B.length)=True:=eq_true hk2
 have g3:(k+1≤B.length)=True:=eq_true (by omega)
 refine Xj ?_
 simp only [QP,XX,w1,w2,g1,g2,g3,vB',Int.toNat_natCast,↓X1,wF,seval]
 obtain ⟨q1,q2⟩:=hHs (i*B.length+k)
 obtain ⟨q3,q4⟩:=hHs (i*B.length+k+1)
 refine C7 (t:=t) (H1:=Hs (i*B.length+k)) (H1':=Hs (i*B.length+k+1)) (rest:=[]) rfl rfl (List.mem_singleton.2 rfl) (hy i k hi2 hk2) (List.append_nil _).symm (q3.trans q1.symm) (by rw [q1]; exact hce) ?_ (by rw [q1]; exact fun o ho=>(q2 o ho).1) (fun o ho=>(q2 o ho).2.1) (fun o ho=>(q4 o ho).2.1) (QU (fun o ho=>(q2 o ho).2.2) (fun o ho=>(q4 o ho).2.2)) ⟨Weak.rfl' _,Weak.rfl' _,trivial⟩ ?_
 ·intro a ha
  simp only [List.mem_cons,List.not_mem_nil,or_false] at ha
  rcases ha with rfl | rfl <;> exact X7 (Xh _)
 simp only [QP,XX,w1,w2,↓X1,wF,seval]
 exact next2 (k+1) _ (by omega) (by omega) (Xg rfl (by simp [Xf,QP,XX]) (by simp [Xm,Xq,XX,I]) (by simp [Nat.add_assoc]))
theorem bJ (A B:List (List V2)) (t:Tok) (m:Nat) (Hs:Nat→List AO) (Hf:List AO) (la:A.length≤1000) (lb:B.length≤1000) (hHs:∀ n,P7 m (Hs n)) (hce:t.ce.H.length≤m)
  (i0 k0:Nat) (hi0:i0<A.length) (hk0:k0<B.length) (hy:∀ i k,i<i0∨i=i0∧k<k0→k<B.length→YCall Tryz.prog t [Xx (A.getD i []),Xx (B.getD k [])] (Hs (i*B.length+k)) (.bool true) (Hs (i*B.length+k+1))) (hz:YC Tryz.prog t false [Xx (A.getD i0 []),Xx (B.getD k0 [])] (Hs (i0*B.length+k0)) Hf) (hHf:P7 m Hf) :
  ICallQ Tryz.prog t false 260 [.yld t.l,Z6 A,Z6 B] (Hs 0) Hf:=by
 have vA':=fun i=>we A i
 have vB':=fun i=>we B i
 refine ICallQ.intro (fn:=Tryz.f260) Tryz.call260 Tryz.func260 rfl mixed 8 [8,9,10,14,15,16] [] [] (by kernel_rfl) (Nat.le_of_ble_eq_true rfl) (by rw [(hHs 0).1]; exact hce) (by rw [(hHs 0).1]; exact fun o ho=>(hHf.2 o ho).1) (Xj ?_)
 simp only [AS.start,QP,XX,↓X1,wF,seval]
 refine Xd (fun i:Nat=>⟨8,[8,9,10,14,15,16],[.yld t.l,Z6 A,Z6 B,.any,.any,.any,.any,.any],[(8,V7 A),(9,I A.length),(10,I i)],Hs (i*B.length)⟩) (fun i=>i≤i0) (fun i=>i0 - i) 0 (by omega)
  (Xg rfl (by simp [Xf,QP,XX]) (by simp [Xm,Xq,XX,I]) (by simp)) ?_
 intro i hi next
 have w1:=wj i (by omega)
 have hi2:i<A.length:=by omega
 have f1:((i:Int)<A.length)=True:=eq_true (by omega)
 have f2:(i<A.length)=True:=eq_true hi2
 have f3:(i+1≤A.length)=True:=eq_true (by omega)
 refine Xj ?_
 simp only [QP,XX,w1,f1,f2,f3,vA',Int.toNat_natCast,↓X1,wF,seval]
 refine Xd (fun k:Nat=>⟨8,[8,9,10,14,15,16],[.yld t.l,Z6 A,Z6 B,.any,.any,Xx (A.getD i []),.any,.any],[(14,V7 B),(15,I B.length),(16,I k),(8,V7 A),(9,I A.length),(10,I i)],Hs (i*B.length+k)⟩) (fun k=>k≤B.length∧(i=i0→k≤k0)) (fun k=>B.length - k) 0 ⟨by omega,by omega⟩
  (Xg rfl (by simp [Xf,QP,XX,X5]) (by simp [Xm,Xq,XX,I]) (by simp)) ?_
 rintro k ⟨hk,hkk⟩ next2
 have w2:=wj k (by omega)
 by_cases hk2:k<B.length
 rotate_left
 ·obtain rfl:k=B.length:=by omega
  refine Xj ?_
  simp only [QP,XX,w1,Int.lt_irrefl,Nat.lt_irrefl,↓X1,wF,seval]
  exact next (i+1) _ (by omega) (by omega) (Xg rfl (by simp [Xf,QP,XX]) (by simp [Xm,Xq,XX,I]) (by simp [Nat.succ_mul]))
 have g1:((k:Int)<B.length)=True:=eq_true (by omega)
 have g2:(k<B.length)=True:=eq_true hk2
 have g3:(k+1≤B.length)=True:=eq_true (by omega)
 by_cases hlast:i=i0∧k=k0
 ·obtain ⟨rfl,rfl⟩:=hlast
  refine Je 20 ?_
  simp only [QP,XX,w1,w2,g1,g2,g3,vB',Int.toNat_natCast,↓X1,wF,seval]
  refine oy (t:=t) (j:=3) (l1:=[0,1,2]) (l2:=[4]) rfl rfl (List.mem_singleton.2 rfl) rfl rfl ⟨_,Fw rfl rfl rfl,_,Fw rfl rfl rfl,_,Fw rfl rfl rfl,rfl⟩ ⟨rfl,_,_,_,[Xx (A.getD i []),Xx (B.getD k [])],Hf,rfl,rfl,⟨Weak.rfl' _,Weak.rfl' _,trivial⟩,hz,rfl⟩ ⟨_,Fw rfl rfl rfl,rfl⟩ ?_
  show Run (vp Tryz.prog Tryz.f260 [] [] (Hs 0).length Hf) _ _
  refine Run.sub (s':=⟨8,[],[],[(24,.bool true)],Hf⟩) ?_ (Xg rfl trivial ⟨.inr rfl,trivial⟩ rfl)
  refine Xj ?_
  simp only [↓X1,wF,seval]
  exact xp rfl (by show Hf.take (Hs 0).length=_; rw [(hHs 0).1,← hHf.1,List.take_length])
 have hp:i<i0∨i=i0∧k<k0:=by omega
 refine Xj ?_
 simp only [QP,XX,w1,w2,g1,g2,g3,vB',Int.toNat_natCast,↓X1,wF,seval]
 obtain ⟨q1,q2⟩:=hHs (i*B.length+k)
 obtain ⟨q3,q4⟩:=hHs (i*B.length+k+1)
 refine C7 (t:=t) (H1:=Hs (i*B.length+k)) (H1':=Hs (i*B.length+k+1)) (rest:=[]) rfl rfl (List.mem_singleton.2 rfl) (hy i k hp hk2) (List.append_nil _).symm (q3.trans q1.symm) (by rw [q1]; exact hce) ?_ (by rw [q1]; exact fun o ho=>(q2 o ho).1) (fun o ho=>(q2 o ho).2.1) (fun o ho=>(q4 o ho).2.1) (QU (fun o ho=>(q2 o ho).2.2) (fun o ho=>(q4 o ho).2.2)) ⟨Weak.rfl' _,Weak.rfl' _,trivial⟩ ?_
 ·intro a ha
  simp only [List.mem_cons,List.not_mem_nil,or_false] at ha
  rcases ha with rfl | rfl <;> exact X7 (Xh _)
 simp only [QP,XX,w1,w2,↓X1,wF,seval]
 exact next2 (k+1) _ ⟨by omega,by omega⟩ (by omega) (Xg rfl (by simp [Xf,QP,XX]) (by simp [Xm,Xq,XX,I]) (by simp [Nat.add_assoc]))
end
end Go.Ab.N
