/- Contracts of functions of these chapters, for every argument that fits, and what they need. -/
import Derived.Test.YtefjhgcndhepeaaGreatC8
set_option linter.unusedSimpArgs false
set_option linter.unusedVariables false
open Nat renaming reducePow → Y1, reduceLT → Y2, reduceLeDiff → Y3, reduceEqDiff → Y4, reduceAdd → Y5, reduceMul → Y6, reduceSub → Y7, reduceBEq → Y8, reduceDiv → Y9, reduceMod → YA
namespace Go.Ab.N
open Go Go.RowKit Go.Proofs
noncomputable section
set_option maxRecDepth 10000
set_option maxHeartbeats 4000000
open Classical
theorem PE (a b:PV) (f:FV) (hf:Cp a.rim.length b.rim.length f) (ha:a.even) (hb:b.even) (ht:vb f.turn≤vm):Fn Tryz.prog 150 [Qf a,Qf b,Ke f] (.bool (decide (MI a b f))):=by
 obtain ⟨⟨s1,s2⟩,⟨s3,s4⟩,s5,s6,s7⟩:=hf
 obtain ⟨N,hN⟩:∃ N:Nat,f.M=N:=⟨f.M.toNat,by omega⟩
 have la:=ha.rim; have lb:=hb.rim
 obtain ⟨V,hV⟩:∃ V,V=decide (MI a b f):=⟨_,rfl⟩
 rw [← hV]
 have fin:∀ {s:AS} {v:Bool},s.get 6=.bool v→v=V→RetOk (Qr Tryz.prog Tryz.f150 [4,50000003,50000004,50000005] [] (.bool V)) s:=fun h e=>Xr rfl h (X3 _) (by rw [e])
 have ba:XH 3 (.con 0 25 (Xp (XD a)))=True:=eq_true (fun j _=>X6 (Xd (XE a) j))
 have bb:XH 3 (.con 0 25 (Xp (XD b)))=True:=eq_true (fun j _=>X6 (Xd (XE b) j))
 have bf:XH 3 (.con 0 29 (Xp (Q8 f)))=True:=eq_true (fun j _=>X6 (Xd (Qe f) j))
 refine Fq Tryz.call150 Tryz.func150 10 [] [4,50000003,50000004,50000005] [] (by simp [Xu,XK]) (X0 1000 ?_)
 simp only [AS.start,Qf,XD,Ke,Q8,↓X2,wA,seval,wE]
 refine Xe (fun k:Nat=>⟨10,[],[.any,.any,.any,.ref 0 0 0,.ref 1 0 0,.ref 2 0 0,.bool false,I k,.any,.any],[],[.con 0 25 (Xp (XD a)),.con 0 25 (Xp (XD b)),.con 0 29 (Xp (Q8 f))]⟩) (fun k=>k≤N∧∀ j,j<k→¬ ((EI a b f j).2=true∧(EI a b f j).1=f.turn)) (fun k=>N - k) 0 ⟨by omega,by omega⟩
  (Sub.trans (Qt 0 rfl) (Sub.trans (Qt 1 rfl) (Sub.trans (Qt 2 rfl) (Xa rfl (by simp [Xh,I]) (by simp [Xi]) (by simp [XD,Q8,Xg,Xm,X4,I]))))) ?_
 rintro k ⟨hk,hok⟩ next
 have w1:=wj k (by omega)
 by_cases hk2:k<N
 rotate_left
 ·have f1:((k:Int)<f.M)=False:=eq_false (by omega)
  refine X0 1000 ?_
  simp only [XD,Q8,f1,↓X2,wA,seval,wE]
  exact fin rfl (by rw [hV,decide_eq_false]; rintro ⟨j,hj,h1,h2⟩; exact hok j (by omega) ⟨h1,h2⟩)
 have f1:((k:Int)<f.M)=True:=eq_true (by omega)
 have wx:IntKind.i64.wrap (f.EA+(k:Int))=f.EA+(k:Int):=by rw [IntKind.wrap_i64]; omega
 have wy:IntKind.i64.wrap (f.EB - (k:Int))=f.EB - (k:Int):=by rw [IntKind.wrap_i64]; omega
 have c1:=QS (f.EA+(k:Int)) a.rim.length (by omega) (by omega) (by omega)
 have c2:=QS (f.EB - (k:Int)) b.rim.length (by omega) (by omega) (by omega)
 rw [Mu _ _ _ (by omega)] at c1
 rw [Th _ _ _ (by omega)] at c2
 have ca:=UR a b (xK a.rim.length f k) (yK b.rim.length f k) la lb ha.near hb.near
 have hsm:=CO ha.near hb.near (xK a.rim.length f k) (yK b.rim.length f k)
 rw [show J9 a.rim b.rim (xK a.rim.length f k) (yK b.rim.length f k)=EI a b f k from rfl] at ca hsm
 have ct:=BM (EI a b f k).1 f.turn (by unfold vm; omega) ht
 have nx:=next (k+1)
 have hyes:(EI a b f k).2=true→(EI a b f k).1=f.turn→true=V:=fun h1 h2=>by rw [hV,decide_eq_true]; exact ⟨k,by omega,h1,h2⟩
 have hno:¬ ((EI a b f k).2=true∧(EI a b f k).1=f.turn)→∀ j,j<k+1→¬ ((EI a b f j).2=true∧(EI a b f j).1=f.turn):=fun h=>JJ.2 ⟨hok,h⟩
 generalize EI a b f k=X at *
 obtain ⟨t,ok⟩:=X
 refine X0 1000 ?_
 simp only [XD,Q8,Xg,w1,wx,wy,f1,Int.toNat_natCast,↓X2,wA,seval,wE]
 refine X1 c1 rfl ?_
 simp only [XD,Q8,Xg,w1,wx,wy,f1,Int.toNat_natCast,↓X2,wA,seval,wE]
 refine X1 c2 rfl ?_
 simp only [XD,Q8,Xg,Xm,X4,w1,wx,wy,f1,Int.toNat_natCast,↓X2,wA,seval,wE]
 refine X1 ca rfl ?_
 cases ok with
 | false =>
  simp only [XD,Q8,Xg,Xm,X4,w1,↓X2,wA,seval,wE]
  exact nx _ ⟨by omega,hno fun h=>Bool.false_ne_true h.1⟩ (by omega) (Xz (m:=3) (Nat.zero_le _) rfl (by simp [Xh,I]) (by simp [Xi]) (by simp [XD,Q8,Xg,Xm,X4,I]) (by simp [Xy]) (by simp [Xy]) (by simp [ba,bb,bf]))
 | true =>
  simp only [XD,Q8,Xg,Xm,X4,w1,↓X2,wA,seval,wE]
  refine X1 ct rfl ?_
  by_cases he:t=f.turn
  ·rw [decide_eq_true (p:=(t,true).1=f.turn) he]
   simp only [↓X2,wA,seval,wE]
   exact fin rfl (hyes rfl he)
  ·rw [decide_eq_false (p:=(t,true).1=f.turn) he]
   simp only [w1,↓X2,wA,seval,wE]
   exact nx _ ⟨by omega,hno fun h=>he h.2⟩ (by omega) (Xz (m:=3) (Nat.zero_le _) rfl (by simp [Xh,I]) (by simp [Xi]) (by simp [XD,Q8,Xg,Xm,X4,I]) (by simp [Xy]) (by simp [Xy]) (by simp [ba,bb,bf]))
noncomputable def cV (x y:Rat):Rat:=if x<y then y else x
noncomputable def cU (x y:Rat):Rat:=if y<x then y else x
theorem sr (x y:Rat) (k:Nat) (hx:qb x≤k) (hy:qb y≤k):qb (cV x y)≤k:=by unfold cV; split <;> assumption
theorem sq (x y:Rat) (k:Nat) (hx:qb x≤k) (hy:qb y≤k):qb (cU x y)≤k:=by unfold cU; split <;> assumption
theorem N4 (x y:Rat) (hx:qb x≤rm) (hy:qb y≤rm):Fn Tryz.prog 125 [qA x,qA y] (qA (cV x y)):=by
 have c1:=QR x y hx hy
 obtain ⟨R,hR⟩:∃ R,R=qA (cV x y):=⟨_,rfl⟩
 have sR:Settled R:=hR▸Xc _
 rw [← hR]
 refine Fq Tryz.call125 Tryz.func125 5 [] [] [] (by simp [wS]) (X0 1000 ?_); simp (config:={ maxSteps:=2000000 }) only [AS.start,↓X2,wA,seval,wE]
 refine X1 c1 rfl ?_
 by_cases h:x<y
 ·have f1:(XV x y<0)=True:=eq_true ((Kg x y).2 h)
  simp only [f1,↓X2,wA,seval,wE]
  have e:cV x y=y:=if_pos h
  rw [e] at hR
  exact JE rfl Qc rfl rfl rfl sR (hR.trans rfl)
 ·have f1:(XV x y<0)=False:=eq_false fun hh=>h ((Kg x y).1 hh)
  simp only [f1,↓X2,wA,seval,wE]
  have e:cV x y=x:=if_neg h
  rw [e] at hR
  exact JE rfl Qc rfl rfl rfl sR (hR.trans rfl)
theorem Mb (x y:Rat) (hx:qb x≤rm) (hy:qb y≤rm):Fn Tryz.prog 126 [qA x,qA y] (qA (cU x y)):=by
 have c1:=QR x y hx hy
 obtain ⟨R,hR⟩:∃ R,R=qA (cU x y):=⟨_,rfl⟩
 have sR:Settled R:=hR▸Xc _
 rw [← hR]
 refine Fq Tryz.call126 Tryz.func126 5 [] [] [] (by simp [wS]) (X0 1000 ?_); simp (config:={ maxSteps:=2000000 }) only [AS.start,↓X2,wA,seval,wE]
 refine X1 c1 rfl ?_
 by_cases h:y<x
 ·have f1:(0<XV x y)=True:=eq_true ((JR x y).2 h)
  simp only [f1,↓X2,wA,seval,wE]
  have e:cU x y=y:=if_pos h
  rw [e] at hR
  exact JE rfl Qc rfl rfl rfl sR (hR.trans rfl)
 ·have f1:(0<XV x y)=False:=eq_false fun hh=>h ((JR x y).1 hh)
  simp only [f1,↓X2,wA,seval,wE]
  have e:cU x y=x:=if_neg h
  rw [e] at hR
  exact JE rfl Qc rfl rfl rfl sR (hR.trans rfl)
noncomputable def uR (g:Nat→Rat):Nat→Rat
 | 0=>g 0
 | k+1=>cV (uR g k) (g (k+1))
noncomputable def uQ (g:Nat→Rat):Nat→Rat
 | 0=>g 0
 | k+1=>cU (uQ g k) (g (k+1))
theorem LR (g:Nat→Rat) (c:Nat) (h:∀ k,qb (g k)≤c):∀ n,qb (uR g n)≤c
 | 0=>h 0
 | n+1=>sr _ _ _ (LR g c h n) (h _)
theorem LQ (g:Nat→Rat) (c:Nat) (h:∀ k,qb (g k)≤c):∀ n,qb (uQ g n)≤c
 | 0=>h 0
 | n+1=>sq _ _ _ (LQ g c h n) (h _)
def Ae (a b:List (Int×Int)) (f:FV) (k:Nat):V2 :=
 (JB (a.getD (xK a.length f k) (0,0))).sub (M5 f.turn (JB (b.getD ((f.EB+1 - k) % b.length).toNat (0,0))))
noncomputable def AL (a b:List (Int×Int)) (f:FV) (k:Nat):V2:=⟨uR (fun j=>(Ae a b f j).x) k,uR (fun j=>(Ae a b f j).y) k⟩
noncomputable def AK (a b:List (Int×Int)) (f:FV) (k:Nat):V2:=⟨uQ (fun j=>(Ae a b f j).x) k,uQ (fun j=>(Ae a b f j).y) k⟩
noncomputable def XJ (a b:List (Int×Int)) (f:FV) (e:Rat):V2×V2×Bool :=
 if Cp a.length b.length f∧Dk f.turn then
  let lo:=(AL a b f f.M.toNat).sub ⟨e,e⟩
  let hi:=(AK a b f f.M.toNat).add ⟨e,e⟩
  if hi.x<lo.x∨hi.y<lo.y then (v0,v0,false) else (lo,hi,true)
 else (v0,v0,false)
theorem KB {R:List (Int×Int)} (h:J0 R) (i:Nat):vb (JB (R.getD i (0,0)))≤3:=by
 have:=DQ h i
 have q1:=ZC (R.getD i (0,0)).1 3 (by omega) (QO ⟨by omega,by omega⟩)
 have q2:=ZC (R.getD i (0,0)).2 3 (by omega) (QO ⟨by omega,by omega⟩)
 unfold vb JB
 simp only
 omega
theorem Bn {a b:List (Int×Int)} (ha:J0 a) (hb:J0 b) (f:FV) (ht:vb f.turn≤1000) (k:Nat):vb (Ae a b f k)≤3000:=by
 have h1:=KB ha (xK a.length f k)
 have h2:=KB hb ((f.EB+1 - k) % b.length).toNat
 unfold Ae
 have h3:=Dl f.turn (JB (b.getD ((f.EB+1 - k) % b.length).toNat (0,0)))
 have h4:=Kd (JB (a.getD (xK a.length f k) (0,0))) (M5 f.turn (JB (b.getD ((f.EB+1 - k) % b.length).toNat (0,0))))
 omega
theorem Cz {a b:List (Int×Int)} (ha:J0 a) (hb:J0 b) (f:FV) (ht:vb f.turn≤1000) (k:Nat):vb (AL a b f k)≤3000:=by
 have h1:=LR (fun j=>(Ae a b f j).x) 3000 (fun j=>Nat.le_trans (Qw _) (Bn ha hb f ht j)) k
 have h2:=LR (fun j=>(Ae a b f j).y) 3000 (fun j=>Nat.le_trans (Qq _) (Bn ha hb f ht j)) k
 exact Nat.max_le.2 ⟨h1,h2⟩
theorem Cx {a b:List (Int×Int)} (ha:J0 a) (hb:J0 b) (f:FV) (ht:vb f.turn≤1000) (k:Nat):vb (AK a b f k)≤3000:=by
 have h1:=LQ (fun j=>(Ae a b f j).x) 3000 (fun j=>Nat.le_trans (Qw _) (Bn ha hb f ht j)) k
 have h2:=LQ (fun j=>(Ae a b f j).y) 3000 (fun j=>Nat.le_trans (Qq _) (Bn ha hb f ht j)) k
 exact Nat.max_le.2 ⟨h1,h2⟩
theorem IB {P:Program} {fn:Func} {str hcs:List Nat} {a b c x y z:AV} {s:AS} {r1 r2 r3:ResultVar} (hr:fn.results=#[r1,r2,r3]) (h1:QA P s r1=some x) (h2:QA P s r2=some y) (h3:QA P s r3=some z) (g1:JT s.h x a) (g2:JT s.h y b) (g3:JT s.h z c) :
  RetOk (Qr P fn str hcs (.tup [a,b,c])) s :=
 ⟨.tup [x,y,z],by simp [KT,Lm,CX,hr,J1,A2,h1,h2,h3],Zt ⟨g1,g2,g3,trivial⟩⟩
def XN:List AV:=[.bool false,.sl 0 0 (fun _=>.any) true,.bool false,.sl 0 0 (fun _=>.any) true,.bool false,.sl 0 0 (fun _=>.any) true,.bool false,.sl 0 0 (fun _=>.any) true]
noncomputable def aL (a b:List (Int×Int)) (f:FV):Nat→List AV
 | 0=>XN
 | k+1=>vC (AL a b f k)
noncomputable def aE (a b:List (Int×Int)) (f:FV):Nat→List AV
 | 0=>XN
 | k+1=>vC (AK a b f k)
theorem KW (a b:List (Int×Int)) (f:FV):∀ k,∀ x∈aL a b f k,Settled x
 | 0=>fun x h=>by
  simp only [aL,XN,List.mem_cons,List.not_mem_nil,or_false] at h
  rcases h with rfl | rfl | rfl | rfl | rfl | rfl | rfl | rfl <;> first | exact X3 _ | exact J2 (fun j hj=>absurd hj (Nat.not_lt_zero j))
 | k+1=>by simp [aL,vC,X7,X3]
theorem SH (a b:List (Int×Int)) (f:FV):∀ k,∀ x∈aE a b f k,Settled x
 | 0=>fun x h=>by
  simp only [aE,XN,List.mem_cons,List.not_mem_nil,or_false] at h
  rcases h with rfl | rfl | rfl | rfl | rfl | rfl | rfl | rfl <;> first | exact X3 _ | exact J2 (fun j hj=>absurd hj (Nat.not_lt_zero j))
 | k+1=>by simp [aE,vC,X7,X3]
def yL (m:Nat) (f:FV) (k:Nat):Nat:=((f.EB+1 - k) % m).toNat
theorem kh (m:Nat) (f:FV) (k:Nat) (h:0<m):(f.EB+1 - k) % (m:Int)=(yL m f k:Int):=by
 have:=Int.emod_nonneg (f.EB+1 - k) (show (m:Int)≠0 by omega)
 unfold yL; omega
theorem q7 (m:Nat) (f:FV) (k:Nat) (h:0<m):yL m f k<m:=by
 have:=kh m f k h
 have:=Int.emod_lt_of_pos (f.EB+1 - k) (show (0:Int)<m by omega)
 omega
theorem IK (a b:PV) (f:FV) (ha:a.even) (hb:b.even) (ht:vb f.turn≤1000) {ta tb:Rat} (ea:a.tol=RQ.of ta) (eb:b.tol=RQ.of tb) (qa:qb ta≤1000) (q2:qb tb≤1000) :
  Fn Tryz.prog 46 [Qf a,Qf b,Ke f] (.tup [vA (XJ a.rim b.rim f (ta+tb)).1,vA (XJ a.rim b.rim f (ta+tb)).2.1,.bool (XJ a.rim b.rim f (ta+tb)).2.2]):=by
 have la:=ha.rim; have lb:=hb.rim
 obtain ⟨R,hR⟩:∃ R,R=XJ a.rim b.rim f (ta+tb):=⟨_,rfl⟩
 rw [← hR]
 have zret:∀ {s:AS} {i j v w:Nat},s.get 6=.ref i v 0→s.h[i]?=some (.row v 8 (Xp Zd))→s.get 7=.ref j w 0→s.h[j]?=some (.row w 8 (Xp Zd))→s.get 8=.bool false→R=(v0,v0,false)→RetOk (Qr Tryz.prog Tryz.f46 [9,100000005,11,120000015,18,190000012,190000013] [] (.tup [vA R.1,vA R.2.1,.bool R.2.2])) s:=fun h1 h2 h3 h4 h5 h6=>by
  subst h6
  exact IB rfl (Xq Jp h1 h2 rfl) (Xq Jp h3 h4 rfl) (by unfold QA; rfl) (Xs (Xn _) (XT Za)) (Xs (Xn _) (XT Za)) (by rw [h5]; exact (X3 _).sees _)
 have cs:=Hx a b f la lb
 have ct:=iZ f.turn (by unfold vm; omega)
 refine Fq Tryz.call46 Tryz.func46 16 [40,41] [9,100000005,11,120000015,18,190000012,190000013] [] (by simp [Xu,XK]) (X0 1000 ?_)
 simp only [AS.start,Qf,XD,Ke,Q8,↓X2,wA,↓reduceIte,reduceIte,reduceCtorEq,Y1,Y2,Y3,Y4,Y5,Y6,Y7,Y8,Y9,YA,wE]
 refine X1 cs rfl ?_
 by_cases hf:Cp a.rim.length b.rim.length f
 rotate_left
 ·rw [decide_eq_false hf]
  simp only [↓X2,wA,↓reduceIte,reduceIte,reduceCtorEq,Y1,Y2,Y3,Y4,Y5,Y6,Y7,Y8,Y9,YA,wE]
  exact zret rfl rfl rfl rfl rfl (by rw [hR]; unfold XJ; rw [if_neg fun h=>hf h.1])
 rw [decide_eq_true hf]
 simp only [↓X2,wA,↓reduceIte,reduceIte,reduceCtorEq,Y1,Y2,Y3,Y4,Y5,Y6,Y7,Y8,Y9,YA,wE]
 refine X1 ct rfl ?_
 by_cases hto:Dk f.turn
 rotate_left
 ·rw [decide_eq_false hto]
  simp only [↓X2,wA,↓reduceIte,reduceIte,reduceCtorEq,Y1,Y2,Y3,Y4,Y5,Y6,Y7,Y8,Y9,YA,wE]
  exact zret rfl rfl rfl rfl rfl (by rw [hR]; unfold XJ; rw [if_neg fun h=>hto h.2])
 rw [decide_eq_true hto]
 have hRe:R=if ((AK a.rim b.rim f f.M.toNat).add ⟨ta+tb,ta+tb⟩).x<((AL a.rim b.rim f f.M.toNat).sub ⟨ta+tb,ta+tb⟩).x∨((AK a.rim b.rim f f.M.toNat).add ⟨ta+tb,ta+tb⟩).y<((AL a.rim b.rim f f.M.toNat).sub ⟨ta+tb,ta+tb⟩).y then (v0,v0,false) else ((AL a.rim b.rim f f.M.toNat).sub ⟨ta+tb,ta+tb⟩,(AK a.rim b.rim f f.M.toNat).add ⟨ta+tb,ta+tb⟩,true):=by
  rw [hR]; unfold XJ; rw [if_pos ⟨hf,hto⟩]
 clear hR
 obtain ⟨⟨s1,s2⟩,⟨s3,s4⟩,s5,s6,s7⟩:=hf
 obtain ⟨N,hN⟩:∃ N:Nat,f.M=N:=⟨f.M.toNat,by omega⟩
 have hNt:f.M.toNat=N:=by rw [hN]; rfl
 rw [hNt] at hRe
 have r1:=OZ a la (AX ha.near)
 have r2:=OZ b lb (AX hb.near)
 have hla:(XB a.rim).length=a.rim.length:=by simp [XB]
 have hlb:(XB b.rim).length=b.rim.length:=by simp [XB]
 have c3:Fn Tryz.prog 70 [a.tol.A,b.tol.A] (qA (ta+tb)):=by rw [ea,eb]; exact AM ta tb (by unfold rm; omega) (by unfold rm; omega)
 have qe:=Jy ta tb
 simp only [↓X2,wA,↓reduceIte,reduceIte,reduceCtorEq,Y1,Y2,Y3,Y4,Y5,Y6,Y7,Y8,Y9,YA,wE]
 refine X1 r1 rfl ?_
 simp only [↓X2,wA,↓reduceIte,reduceIte,reduceCtorEq,Y1,Y2,Y3,Y4,Y5,Y6,Y7,Y8,Y9,YA,wE]
 refine X1 r2 rfl ?_
 simp only [↓X2,wA,↓reduceIte,reduceIte,reduceCtorEq,Y1,Y2,Y3,Y4,Y5,Y6,Y7,Y8,Y9,YA,wE]
 refine X1 c3 rfl ?_
 have wM:IntKind.i64.wrap (f.M+1)=((N+1:Nat):Int):=by rw [IntKind.wrap_i64]; omega
 simp only [wM,↓X2,wA,↓reduceIte,reduceIte,reduceCtorEq,Y1,Y2,Y3,Y4,Y5,Y6,Y7,Y8,Y9,YA,wE]
 have ba:XH 8 (.row 0 25 (Xp (XD a)))=True:=eq_true (XF (XE a))
 have bb:XH 8 (.row 0 25 (Xp (XD b)))=True:=eq_true (XF (XE b))
 have bf:XH 8 (.con 0 29 (Xp (Q8 f)))=True:=eq_true (fun j _=>X6 (Xd (Qe f) j))
 have bz:XH 8 (.row 0 8 (Xp XN))=True:=eq_true (XF (KW a.rim b.rim f 0))
 have be:XH 8 (.row 0 4 (Xp [.bool (decide ((ta+tb).num<0)),X9 (Xb (ta+tb).num.natAbs),.bool false,X9 (Xb (qd (ta+tb)))]))=True:=eq_true (XF (by simp [X7,X3]))
 have bl:∀ k,XH 8 (.row 0 8 (Xp (aL a.rim b.rim f k)))=True:=fun k=>eq_true (XF (KW a.rim b.rim f k))
 have bh:∀ k,XH 8 (.row 0 8 (Xp (aE a.rim b.rim f k)))=True:=fun k=>eq_true (XF (SH a.rim b.rim f k))
 have bx:Js 8 (Xt (XB a.rim))=True:=eq_true (X6 (Xf _))
 have by':Js 8 (Xt (XB b.rim))=True:=eq_true (X6 (Xf _))
 refine Xe (fun k:Nat=>⟨16,[40,41],[.any,.any,.any,.ref 0 0 0,.ref 1 0 0,.ref 2 0 0,.ref 3 0 0,.ref 4 0 0,.bool false,Xt (XB a.rim),Xt (XB b.rim),.ref 5 0 0,.ref 6 0 0,.ref 7 0 0,.any,.any],[(40,I ((N+1:Nat):Int)),(41,I k)],[.row 0 25 (Xp (XD a)),.row 0 25 (Xp (XD b)),.con 0 29 (Xp (Q8 f)),.row 0 8 (Xp XN),.row 0 8 (Xp XN),.row 0 4 (Xp [.bool (decide ((ta+tb).num<0)),X9 (Xb (ta+tb).num.natAbs),.bool false,X9 (Xb (qd (ta+tb)))]),.row 0 8 (Xp (aL a.rim b.rim f k)),.row 0 8 (Xp (aE a.rim b.rim f k))]⟩) (fun k=>k≤N+1) (fun k=>N+1 - k) 0 (by omega)
  (Sub.trans (Qt 2 rfl) (Xa rfl (by simp [Xh,X5,I]) (by simp [Xi,Xv,I]) (by simp [XD,Q8,XN,aL,aE,Xg,Xm,X4,I]))) ?_
 intro k hk next
 have w1:=wj k (by omega)
 by_cases hk2:k<N+1
 ·have nx:=next (k+1)
  have fk:((k:Int)<((N+1:Nat):Int))=True:=eq_true (by omega)
  have wx:IntKind.i64.wrap (f.EA+(k:Int))=f.EA+(k:Int):=by rw [IntKind.wrap_i64]; omega
  have wy1:IntKind.i64.wrap (f.EB+1)=f.EB+1:=by rw [IntKind.wrap_i64]; omega
  have wy:IntKind.i64.wrap (f.EB+1 - (k:Int))=f.EB+1 - (k:Int):=by rw [IntKind.wrap_i64]; omega
  have c1:=Ao (f.EA+(k:Int)) a.rim.length (by omega) (by omega) (by omega)
  have c2:=Ao (f.EB+1 - (k:Int)) b.rim.length (by omega) (by omega) (by omega)
  rw [Mu _ _ _ (by omega)] at c1
  rw [kh _ _ _ (by omega)] at c2
  have hX:=WG a.rim.length f k (by omega)
  have hY:=q7 b.rim.length f k (by omega)
  have vx:=KB ha.near (xK a.rim.length f k)
  have vy:=KB hb.near (yL b.rim.length f k)
  have vr:=Dl f.turn (JB (b.rim.getD (yL b.rim.length f k) (0,0)))
  have c3:=LN f.turn (JB (b.rim.getD (yL b.rim.length f k) (0,0))) (by unfold vm; omega) (by unfold vm; omega)
  have c4:=D5 (JB (a.rim.getD (xK a.rim.length f k) (0,0))) (M5 f.turn (JB (b.rim.getD (yL b.rim.length f k) (0,0)))) (by unfold rm; omega) (by unfold rm; omega)
  rw [show (JB (a.rim.getD (xK a.rim.length f k) (0,0))).sub (M5 f.turn (JB (b.rim.getD (yL b.rim.length f k) (0,0))))=Ae a.rim b.rim f k from rfl] at c4
  have hD:=Bn ha.near hb.near f ht
  have hL:=Cz ha.near hb.near f ht
  have hH:=Cx ha.near hb.near f ht
  have v1:=vF (XB a.rim) (xK a.rim.length f k)
  have v2:=vF (XB b.rim) (yL b.rim.length f k)
  rw [Gv] at v1 v2
  generalize xK a.rim.length f k=X at *
  generalize yL b.rim.length f k=Y at *
  generalize JB (a.rim.getD X (0,0))=PX at *
  generalize JB (b.rim.getD Y (0,0))=PY at *
  generalize M5 f.turn PY=RY at *
  have fX:((X:Int)<a.rim.length)=True:=eq_true (by omega)
  have fX':(X<a.rim.length)=True:=eq_true hX
  have fX8:(X*8+8≤a.rim.length*8)=True:=eq_true (by omega)
  have fY:((Y:Int)<b.rim.length)=True:=eq_true (by omega)
  have fY':(Y<b.rim.length)=True:=eq_true hY
  have fY8:(Y*8+8≤b.rim.length*8)=True:=eq_true (by omega)
  refine X0 1000 ?_
  simp only [Q8,X5,w1,wx,wy1,wy,fk,fX,fX',fX8,fY,fY',fY8,hla,hlb,v1,v2,Int.toNat_natCast,↓X2,wA,↓reduceIte,reduceIte,reduceCtorEq,Y1,Y2,Y3,Y4,Y5,Y6,Y7,Y8,Y9,YA,wE]
  refine X1 c1 rfl ?_
  simp only [Q8,X5,w1,wx,wy1,wy,fk,fX,fX',fX8,fY,fY',fY8,hla,hlb,v1,v2,Int.toNat_natCast,↓X2,wA,↓reduceIte,reduceIte,reduceCtorEq,Y1,Y2,Y3,Y4,Y5,Y6,Y7,Y8,Y9,YA,wE]
  refine X1 c2 rfl ?_
  simp only [Q8,X5,w1,wx,wy1,wy,fk,fX,fX',fX8,fY,fY',fY8,hla,hlb,v1,v2,Int.toNat_natCast,↓X2,wA,↓reduceIte,reduceIte,reduceCtorEq,Y1,Y2,Y3,Y4,Y5,Y6,Y7,Y8,Y9,YA,wE]
  refine X1 c3 rfl ?_
  simp only [Q8,X5,w1,wx,wy1,wy,fk,fX,fX',fX8,fY,fY',fY8,hla,hlb,v1,v2,Int.toNat_natCast,↓X2,wA,↓reduceIte,reduceIte,reduceCtorEq,Y1,Y2,Y3,Y4,Y5,Y6,Y7,Y8,Y9,YA,wE]
  refine X1 c4 rfl ?_
  match k,w1,fk,hk2,nx with
  | 0,w1,fk,hk2,nx =>
   have e0:((0:Nat):Int)=0:=rfl
   have hL0:aL a.rim b.rim f 1=vC (Ae a.rim b.rim f 0):=rfl
   have hH0:aE a.rim b.rim f 1=vC (Ae a.rim b.rim f 0):=rfl
   simp only [Nat.zero_add,hL0,hH0] at nx
   generalize Ae a.rim b.rim f 0=D at *
   have w0:IntKind.i64.wrap (0+1)=1:=by decide
   have bD:XH 8 (.row 0 8 (Xp (vC D)))=True:=eq_true (XF (by simp [vC,X7,X3]))
   simp only [aL,aE,XN,e0,w0,↓X2,wA,↓reduceIte,reduceIte,reduceCtorEq,Y1,Y2,Y3,Y4,Y5,Y6,Y7,Y8,Y9,YA,wE]
   exact nx _ (by omega) (by omega) (Xz (m:=8) (Nat.zero_le _) rfl (by simp [Xh,X5,hla,hlb,I]) (by simp [Xi,Xv,I]) (by simp [XD,Q8,XN,aL,aE,vC,Xg,Xm,X4,I]) (by simp [Xy,bx,by']) (by simp [Xy]) (by simp [ba,bb,bf,bz,be,bD,bl,bh]))
  | j+1,w1,fk,hk2,nx =>
   have g0:(((j+1:Nat):Int)=0)=False:=eq_false (by omega)
   have g0':((j:Int)+1=0)=False:=eq_false (by omega)
   have g0'':(j+1=0)=False:=eq_false (by omega)
   have bD:=bl 0
   have hl1:aL a.rim b.rim f (j+1)=vC (AL a.rim b.rim f j):=rfl
   have hh1:aE a.rim b.rim f (j+1)=vC (AK a.rim b.rim f j):=rfl
   have hl2:aL a.rim b.rim f (j+1+1)=vC (AL a.rim b.rim f (j+1)):=rfl
   have hh2:aE a.rim b.rim f (j+1+1)=vC (AK a.rim b.rim f (j+1)):=rfl
   have hDj:=hD (j+1); have hLj:=hL j; have hHj:=hH j
   have k1:=N4 (AL a.rim b.rim f j).x (Ae a.rim b.rim f (j+1)).x (by have:=Qw (AL a.rim b.rim f j); unfold rm; omega) (by have:=Qw (Ae a.rim b.rim f (j+1)); unfold rm; omega)
   have k2:=N4 (AL a.rim b.rim f j).y (Ae a.rim b.rim f (j+1)).y (by have:=Qq (AL a.rim b.rim f j); unfold rm; omega) (by have:=Qq (Ae a.rim b.rim f (j+1)); unfold rm; omega)
   have k3:=Mb (AK a.rim b.rim f j).x (Ae a.rim b.rim f (j+1)).x (by have:=Qw (AK a.rim b.rim f j); unfold rm; omega) (by have:=Qw (Ae a.rim b.rim f (j+1)); unfold rm; omega)
   have k4:=Mb (AK a.rim b.rim f j).y (Ae a.rim b.rim f (j+1)).y (by have:=Qq (AK a.rim b.rim f j); unfold rm; omega) (by have:=Qq (Ae a.rim b.rim f (j+1)); unfold rm; omega)
   rw [show cV (AL a.rim b.rim f j).x (Ae a.rim b.rim f (j+1)).x=(AL a.rim b.rim f (j+1)).x from rfl] at k1
   rw [show cV (AL a.rim b.rim f j).y (Ae a.rim b.rim f (j+1)).y=(AL a.rim b.rim f (j+1)).y from rfl] at k2
   rw [show cU (AK a.rim b.rim f j).x (Ae a.rim b.rim f (j+1)).x=(AK a.rim b.rim f (j+1)).x from rfl] at k3
   rw [show cU (AK a.rim b.rim f j).y (Ae a.rim b.rim f (j+1)).y=(AK a.rim b.rim f (j+1)).y from rfl] at k4
   have bl2:=bl (j+1+1); have bh2:=bh (j+1+1)
   simp only [hl2,hh2] at nx bl2 bh2
   rw [hl1,hh1]
   clear hD hL hH
   generalize Ae a.rim b.rim f (j+1)=D at *
   generalize AL a.rim b.rim f (j+1)=L2 at *
   generalize AK a.rim b.rim f (j+1)=H2 at *
   generalize AL a.rim b.rim f j=L1 at *
   generalize AK a.rim b.rim f j=H1 at *
   simp only [g0,g0',g0'',w1,↓X2,wA,↓reduceIte,reduceIte,reduceCtorEq,Y1,Y2,Y3,Y4,Y5,Y6,Y7,Y8,Y9,YA,wE]
   refine X1 k1 rfl ?_
   simp only [g0,g0',g0'',w1,↓X2,wA,↓reduceIte,reduceIte,reduceCtorEq,Y1,Y2,Y3,Y4,Y5,Y6,Y7,Y8,Y9,YA,wE]
   refine X1 k3 rfl ?_
   simp only [g0,g0',g0'',w1,↓X2,wA,↓reduceIte,reduceIte,reduceCtorEq,Y1,Y2,Y3,Y4,Y5,Y6,Y7,Y8,Y9,YA,wE]
   refine X1 k2 rfl ?_
   simp only [g0,g0',g0'',w1,↓X2,wA,↓reduceIte,reduceIte,reduceCtorEq,Y1,Y2,Y3,Y4,Y5,Y6,Y7,Y8,Y9,YA,wE]
   refine X1 k4 rfl ?_
   simp only [g0,g0',g0'',w1,↓X2,wA,↓reduceIte,reduceIte,reduceCtorEq,Y1,Y2,Y3,Y4,Y5,Y6,Y7,Y8,Y9,YA,wE]
   exact nx _ (by omega) (by omega) (Xz (m:=8) (Nat.zero_le _) rfl (by simp [Xh,X5,hla,hlb,I]) (by simp [Xi,Xv,I]) (by simp [XD,Q8,XN,aL,aE,vC,Xg,Xm,X4,I]) (by simp [Xy,bx,by']) (by simp [Xy]) (by simp [ba,bb,bf,bz,be,bD,bl2,bh2]))
 obtain rfl:k=N+1:=by omega
 have hL:=Cz ha.near hb.near f ht N
 have hH:=Cx ha.near hb.near f ht N
 have hl1:aL a.rim b.rim f (N+1)=vC (AL a.rim b.rim f N):=rfl
 have hh1:aE a.rim b.rim f (N+1)=vC (AK a.rim b.rim f N):=rfl
 rw [hl1,hh1]
 clear bl bh hl1 hh1
 generalize AL a.rim b.rim f N=LO at *
 generalize AK a.rim b.rim f N=HI at *
 have m0:vb ⟨ta+tb,ta+tb⟩≤2001:=by unfold vb; simp only; omega
 have m1:=Kd LO ⟨ta+tb,ta+tb⟩
 have m2:=Bc HI ⟨ta+tb,ta+tb⟩
 have c1:=D5 LO ⟨ta+tb,ta+tb⟩ (by unfold rm; omega) (by unfold rm; omega)
 have c2:=Gd HI ⟨ta+tb,ta+tb⟩ (by unfold vm; omega) (by unfold vm; omega)
 generalize LO.sub ⟨ta+tb,ta+tb⟩=A at *
 generalize HI.add ⟨ta+tb,ta+tb⟩=B at *
 have:=Qw A; have:=Qq A; have:=Qw B; have:=Qq B
 have q1:=QR A.x B.x (by unfold rm; omega) (by unfold rm; omega)
 have q2:=QR A.y B.y (by unfold rm; omega) (by unfold rm; omega)
 refine X0 1000 ?_
 simp only [Q8,Int.lt_irrefl,Nat.lt_irrefl,↓X2,wA,↓reduceIte,reduceIte,reduceCtorEq,Y1,Y2,Y3,Y4,Y5,Y6,Y7,Y8,Y9,YA,wE]
 refine X1 c1 rfl ?_
 simp only [↓X2,wA,↓reduceIte,reduceIte,reduceCtorEq,Y1,Y2,Y3,Y4,Y5,Y6,Y7,Y8,Y9,YA,wE]
 refine X1 c2 rfl ?_
 simp only [↓X2,wA,↓reduceIte,reduceIte,reduceCtorEq,Y1,Y2,Y3,Y4,Y5,Y6,Y7,Y8,Y9,YA,wE]
 refine X1 q1 rfl ?_
 by_cases h1:B.x<A.x
 ·have f1:(0<XV A.x B.x)=True:=eq_true ((JR _ _).2 h1)
  simp only [f1,XN,↓X2,wA,↓reduceIte,reduceIte,reduceCtorEq,Y1,Y2,Y3,Y4,Y5,Y6,Y7,Y8,Y9,YA,wE]
  exact zret rfl rfl rfl rfl rfl (by rw [hRe,if_pos (.inl h1)])
 have f1:(0<XV A.x B.x)=False:=eq_false fun h=>h1 ((JR _ _).1 h)
 simp only [f1,↓X2,wA,↓reduceIte,reduceIte,reduceCtorEq,Y1,Y2,Y3,Y4,Y5,Y6,Y7,Y8,Y9,YA,wE]
 refine X1 q2 rfl ?_
 by_cases h2:B.y<A.y
 ·have f2:(0<XV A.y B.y)=True:=eq_true ((JR _ _).2 h2)
  simp only [f1,f2,XN,↓X2,wA,↓reduceIte,reduceIte,reduceCtorEq,Y1,Y2,Y3,Y4,Y5,Y6,Y7,Y8,Y9,YA,wE]
  exact zret rfl rfl rfl rfl rfl (by rw [hRe,if_pos (.inr h2)])
 have f2:(0<XV A.y B.y)=False:=eq_false fun h=>h2 ((JR _ _).1 h)
 simp only [f1,f2,XN,↓X2,wA,↓reduceIte,reduceIte,reduceCtorEq,Y1,Y2,Y3,Y4,Y5,Y6,Y7,Y8,Y9,YA,wE]
 rw [if_neg fun h=>h.elim h1 h2] at hRe
 subst hRe
 exact IB rfl (Xq Jp rfl rfl rfl) (Xq Jp rfl rfl rfl) (by unfold QA; rfl) (Xs (Xn _) (XT (XS (vC A)))) (Xs (Xn _) (XT (XS (vC B)))) ((X3 _).sees _)
def tk (e:Rat):List AV:=[.bool (decide (e.num<0)),X9 (Xb e.num.natAbs),.bool false,X9 (Xb (qd e))]
noncomputable def cT (a b:List (Int×Int)) (f:FV) (e:Rat):Nat→List AV
 | 0=>XN
 | k+1=>vC ((AL a b f k).sub ⟨e,e⟩)
noncomputable def cR (a b:List (Int×Int)) (f:FV) (e:Rat):Nat→List AV
 | 0=>XN
 | k+1=>vC ((AK a b f k).add ⟨e,e⟩)
theorem SJ (a b:List (Int×Int)) (f:FV) (e:Rat):∀ k,∀ x∈cT a b f e k,Settled x
 | 0=>KW a b f 0
 | k+1=>by simp [cT,vC,X7,X3]
theorem SI (a b:List (Int×Int)) (f:FV) (e:Rat):∀ k,∀ x∈cR a b f e k,Settled x
 | 0=>KW a b f 0
 | k+1=>by simp [cR,vC,X7,X3]
theorem iF (x y e:Rat):(0<XV (y - e) (x - e)∧cV x y - e=y - e)∨(¬ 0<XV (y - e) (x - e)∧cV x y - e=x - e):=by
 unfold cV
 by_cases h:x<y
 ·exact .inl ⟨(JR _ _).2 (by grind),by rw [if_pos h]⟩
 ·exact .inr ⟨fun hh=>h (by have:=(JR _ _).1 hh; grind),by rw [if_neg h]⟩
theorem iA (x y e:Rat):(XV (y+e) (x+e)<0∧cU x y+e=y+e)∨(¬ XV (y+e) (x+e)<0∧cU x y+e=x+e):=by
 unfold cU
 by_cases h:y<x
 ·exact .inl ⟨(Kg _ _).2 (by grind),by rw [if_pos h]⟩
 ·exact .inr ⟨fun hh=>h (by have:=(Kg _ _).1 hh; grind),by rw [if_neg h]⟩
theorem NT (a b:PV) (f:FV) (ha:a.even) (hb:b.even) (ht:vb f.turn≤1000) {ta tb:Rat} (ea:a.tol=RQ.of ta) (eb:b.tol=RQ.of tb) (qa:qb ta≤1000) (q2:qb tb≤1000) :
  Fn Tryz.prog 47 [Qf a,Qf b,Ke f] (.tup [vA (XJ a.rim b.rim f (ta+tb)).1,vA (XJ a.rim b.rim f (ta+tb)).2.1,.bool (XJ a.rim b.rim f (ta+tb)).2.2]):=by
 have la:=ha.rim; have lb:=hb.rim
 obtain ⟨R,hR⟩:∃ R,R=XJ a.rim b.rim f (ta+tb):=⟨_,rfl⟩
 rw [← hR]
 have zret:∀ {s:AS} {i j v w:Nat},s.get 6=.ref i v 0→s.h[i]?=some (.row v 8 (Xp Zd))→s.get 7=.ref j w 0→s.h[j]?=some (.row w 8 (Xp Zd))→s.get 8=.bool false→R=(v0,v0,false)→RetOk (Qr Tryz.prog Tryz.f47 [11,120000005,24,250000013,250000014] [] (.tup [vA R.1,vA R.2.1,.bool R.2.2])) s:=fun h1 h2 h3 h4 h5 h6=>by
  subst h6
  exact IB rfl (Xq Jp h1 h2 rfl) (Xq Jp h3 h4 rfl) (by unfold QA; rfl) (Xs (Xn _) (XT Za)) (Xs (Xn _) (XT Za)) (by rw [h5]; exact (X3 _).sees _)
 have cs:=HO a b f la lb
 have ct:=Sq f.turn (by unfold vm; omega)
 refine Fq Tryz.call47 Tryz.func47 19 [] [11,120000005,24,250000013,250000014] [] (by simp [Xu,XK]) (X0 1000 ?_)
 simp only [AS.start,Qf,XD,Ke,Q8,↓X2,wA,↓reduceIte,reduceIte,reduceCtorEq,Y1,Y2,Y3,Y4,Y5,Y6,Y7,Y8,Y9,YA,wE]
 refine X1 cs rfl ?_
 by_cases hf:Cp a.rim.length b.rim.length f
 rotate_left
 ·rw [decide_eq_false hf]
  simp only [↓X2,wA,↓reduceIte,reduceIte,reduceCtorEq,Y1,Y2,Y3,Y4,Y5,Y6,Y7,Y8,Y9,YA,wE]
  exact zret rfl rfl rfl rfl rfl (by rw [hR]; unfold XJ; rw [if_neg fun h=>hf h.1])
 rw [decide_eq_true hf]
 simp only [↓X2,wA,↓reduceIte,reduceIte,reduceCtorEq,Y1,Y2,Y3,Y4,Y5,Y6,Y7,Y8,Y9,YA,wE]
 refine X1 ct rfl ?_
 by_cases hto:Dk f.turn
 rotate_left
 ·rw [decide_eq_false hto]
  simp only [↓X2,wA,↓reduceIte,reduceIte,reduceCtorEq,Y1,Y2,Y3,Y4,Y5,Y6,Y7,Y8,Y9,YA,wE]
  exact zret rfl rfl rfl rfl rfl (by rw [hR]; unfold XJ; rw [if_neg fun h=>hto h.2])
 rw [decide_eq_true hto]
 have hRe:R=if ((AK a.rim b.rim f f.M.toNat).add ⟨ta+tb,ta+tb⟩).x<((AL a.rim b.rim f f.M.toNat).sub ⟨ta+tb,ta+tb⟩).x∨((AK a.rim b.rim f f.M.toNat).add ⟨ta+tb,ta+tb⟩).y<((AL a.rim b.rim f f.M.toNat).sub ⟨ta+tb,ta+tb⟩).y then (v0,v0,false) else ((AL a.rim b.rim f f.M.toNat).sub ⟨ta+tb,ta+tb⟩,(AK a.rim b.rim f f.M.toNat).add ⟨ta+tb,ta+tb⟩,true):=by
  rw [hR]; unfold XJ; rw [if_pos ⟨hf,hto⟩]
 clear hR
 obtain ⟨⟨s1,s2⟩,⟨s3,s4⟩,s5,s6,s7⟩:=hf
 obtain ⟨N,hN⟩:∃ N:Nat,f.M=N:=⟨f.M.toNat,by omega⟩
 have hNt:f.M.toNat=N:=by rw [hN]; rfl
 rw [hNt] at hRe
 have r1:=Gu a la (AX ha.near)
 have r2:=Gu b lb (AX hb.near)
 have hla:(XB a.rim).length=a.rim.length:=by simp [XB]
 have hlb:(XB b.rim).length=b.rim.length:=by simp [XB]
 have c3:Fn Tryz.prog 76 [a.tol.A,b.tol.A] (qA (ta+tb)):=by rw [ea,eb]; exact Jz ta tb (by unfold rm; omega) (by unfold rm; omega)
 have qe:=Jy ta tb
 generalize ta+tb=e at *
 simp only [↓X2,wA,↓reduceIte,reduceIte,reduceCtorEq,Y1,Y2,Y3,Y4,Y5,Y6,Y7,Y8,Y9,YA,wE]
 refine X1 r1 rfl ?_
 simp only [↓X2,wA,↓reduceIte,reduceIte,reduceCtorEq,Y1,Y2,Y3,Y4,Y5,Y6,Y7,Y8,Y9,YA,wE]
 refine X1 r2 rfl ?_
 simp only [↓X2,wA,↓reduceIte,reduceIte,reduceCtorEq,Y1,Y2,Y3,Y4,Y5,Y6,Y7,Y8,Y9,YA,wE]
 refine X1 c3 rfl ?_
 simp only [↓X2,wA,↓reduceIte,reduceIte,reduceCtorEq,Y1,Y2,Y3,Y4,Y5,Y6,Y7,Y8,Y9,YA,wE]
 have m0:vb ⟨e,e⟩≤2001:=by unfold vb; simp only; omega
 have ba:XH 9 (.row 0 25 (Xp (XD a)))=True:=eq_true (XF (XE a))
 have bb:XH 9 (.row 0 25 (Xp (XD b)))=True:=eq_true (XF (XE b))
 have bf:XH 9 (.con 0 29 (Xp (Q8 f)))=True:=eq_true (fun j _=>X6 (Xd (Qe f) j))
 have bz:XH 9 (.row 0 8 (Xp XN))=True:=eq_true (XF (KW a.rim b.rim f 0))
 have be:XH 9 (.row 0 4 (Xp (tk e)))=True:=eq_true (XF (by simp [tk,X7,X3]))
 have bw:XH 9 (.row 0 8 (Xp (vC ⟨e,e⟩)))=True:=eq_true (XF (by simp [vC,X7,X3]))
 have bl:∀ k,XH 9 (.row 0 8 (Xp (cT a.rim b.rim f e k)))=True:=fun k=>eq_true (XF (SJ a.rim b.rim f e k))
 have bh:∀ k,XH 9 (.row 0 8 (Xp (cR a.rim b.rim f e k)))=True:=fun k=>eq_true (XF (SI a.rim b.rim f e k))
 have bx:Js 9 (Xt (XB a.rim))=True:=eq_true (X6 (Xf _))
 have by':Js 9 (Xt (XB b.rim))=True:=eq_true (X6 (Xf _))
 refine Xe (fun k:Nat=>⟨19,[],[.any,.any,.any,.ref 0 0 0,.ref 1 0 0,.ref 2 0 0,.ref 3 0 0,.ref 4 0 0,.bool false,Xt (XB a.rim),Xt (XB b.rim),.ref 5 0 0,.ref 6 0 0,.ref 7 0 0,.ref 8 0 0,I k,.any,.any,.any],[],[.row 0 25 (Xp (XD a)),.row 0 25 (Xp (XD b)),.con 0 29 (Xp (Q8 f)),.row 0 8 (Xp XN),.row 0 8 (Xp XN),.row 0 4 (Xp (tk e)),.row 0 8 (Xp (vC ⟨e,e⟩)),.row 0 8 (Xp (cT a.rim b.rim f e k)),.row 0 8 (Xp (cR a.rim b.rim f e k))]⟩) (fun k=>k≤N+1) (fun k=>N+1 - k) 0 (by omega)
  (Sub.trans (Qt 2 rfl) (Xa rfl (by simp [Xh,X5,I]) (by simp [Xi]) (by simp [XD,Q8,tk,XN,cT,cR,vC,Xg,Xm,X4,I]))) ?_
 intro k hk next
 have w1:=wj k (by omega)
 by_cases hk2:k<N+1
 ·have nx:=next (k+1)
  have fk:((k:Int)≤f.M)=True:=eq_true (by omega)
  have wx:IntKind.i64.wrap (f.EA+(k:Int))=f.EA+(k:Int):=by rw [IntKind.wrap_i64]; omega
  have wy1:IntKind.i64.wrap (f.EB+1)=f.EB+1:=by rw [IntKind.wrap_i64]; omega
  have wy:IntKind.i64.wrap (f.EB+1 - (k:Int))=f.EB+1 - (k:Int):=by rw [IntKind.wrap_i64]; omega
  have c1:=QS (f.EA+(k:Int)) a.rim.length (by omega) (by omega) (by omega)
  have c2:=QS (f.EB+1 - (k:Int)) b.rim.length (by omega) (by omega) (by omega)
  rw [Mu _ _ _ (by omega)] at c1
  rw [kh _ _ _ (by omega)] at c2
  have hX:=WG a.rim.length f k (by omega)
  have hY:=q7 b.rim.length f k (by omega)
  have vx:=KB ha.near (xK a.rim.length f k)
  have vy:=KB hb.near (yL b.rim.length f k)
  have vr:=Dl f.turn (JB (b.rim.getD (yL b.rim.length f k) (0,0)))
  have c3:=Cn f.turn (JB (b.rim.getD (yL b.rim.length f k) (0,0))) (by unfold vm; omega) (by unfold vm; omega)
  have c4:=JN (JB (a.rim.getD (xK a.rim.length f k) (0,0))) (M5 f.turn (JB (b.rim.getD (yL b.rim.length f k) (0,0)))) (by unfold rm; omega) (by unfold rm; omega)
  rw [show (JB (a.rim.getD (xK a.rim.length f k) (0,0))).sub (M5 f.turn (JB (b.rim.getD (yL b.rim.length f k) (0,0))))=Ae a.rim b.rim f k from rfl] at c4
  have hD:=Bn ha.near hb.near f ht
  have hL:=Cz ha.near hb.near f ht
  have hH:=Cx ha.near hb.near f ht
  have hDk:=hD k
  have c5:=JN (Ae a.rim b.rim f k) ⟨e,e⟩ (by unfold rm; omega) (by unfold rm; omega)
  have c6:=Fw (Ae a.rim b.rim f k) ⟨e,e⟩ (by unfold vm; omega) (by unfold vm; omega)
  have v1:=vF (XB a.rim) (xK a.rim.length f k)
  have v2:=vF (XB b.rim) (yL b.rim.length f k)
  rw [Gv] at v1 v2
  generalize xK a.rim.length f k=X at *
  generalize yL b.rim.length f k=Y at *
  generalize JB (a.rim.getD X (0,0))=PX at *
  generalize JB (b.rim.getD Y (0,0))=PY at *
  generalize M5 f.turn PY=RY at *
  have fX:((X:Int)<a.rim.length)=True:=eq_true (by omega)
  have fX':(X<a.rim.length)=True:=eq_true hX
  have fX8:(X*8+8≤a.rim.length*8)=True:=eq_true (by omega)
  have fY:((Y:Int)<b.rim.length)=True:=eq_true (by omega)
  have fY':(Y<b.rim.length)=True:=eq_true hY
  have fY8:(Y*8+8≤b.rim.length*8)=True:=eq_true (by omega)
  refine X0 1000 ?_
  simp only [Q8,X5,w1,wx,wy1,wy,fk,fX,fX',fX8,fY,fY',fY8,hla,hlb,v1,v2,Int.toNat_natCast,↓X2,wA,↓reduceIte,reduceIte,reduceCtorEq,Y1,Y2,Y3,Y4,Y5,Y6,Y7,Y8,Y9,YA,wE]
  refine X1 c1 rfl ?_
  simp only [Q8,X5,w1,wx,wy1,wy,fk,fX,fX',fX8,fY,fY',fY8,hla,hlb,v1,v2,Int.toNat_natCast,↓X2,wA,↓reduceIte,reduceIte,reduceCtorEq,Y1,Y2,Y3,Y4,Y5,Y6,Y7,Y8,Y9,YA,wE]
  refine X1 c2 rfl ?_
  simp only [Q8,X5,w1,wx,wy1,wy,fk,fX,fX',fX8,fY,fY',fY8,hla,hlb,v1,v2,Int.toNat_natCast,↓X2,wA,↓reduceIte,reduceIte,reduceCtorEq,Y1,Y2,Y3,Y4,Y5,Y6,Y7,Y8,Y9,YA,wE]
  refine X1 c3 rfl ?_
  simp only [Q8,X5,w1,wx,wy1,wy,fk,fX,fX',fX8,fY,fY',fY8,hla,hlb,v1,v2,Int.toNat_natCast,↓X2,wA,↓reduceIte,reduceIte,reduceCtorEq,Y1,Y2,Y3,Y4,Y5,Y6,Y7,Y8,Y9,YA,wE]
  refine X1 c4 rfl ?_
  simp only [Q8,X5,w1,wx,wy1,wy,fk,fX,fX',fX8,fY,fY',fY8,hla,hlb,v1,v2,Int.toNat_natCast,↓X2,wA,↓reduceIte,reduceIte,reduceCtorEq,Y1,Y2,Y3,Y4,Y5,Y6,Y7,Y8,Y9,YA,wE]
  refine X1 c5 rfl ?_
  simp only [Q8,X5,w1,wx,wy1,wy,fk,fX,fX',fX8,fY,fY',fY8,hla,hlb,v1,v2,Int.toNat_natCast,↓X2,wA,↓reduceIte,reduceIte,reduceCtorEq,Y1,Y2,Y3,Y4,Y5,Y6,Y7,Y8,Y9,YA,wE]
  refine X1 c6 rfl ?_
  match k,w1,fk,hk2,hDk,nx with
  | 0,w1,fk,hk2,hDk,nx =>
   have e0:((0:Nat):Int)=0:=rfl
   have w0:IntKind.i64.wrap (0+1)=1:=by decide
   have hL0:cT a.rim b.rim f e 1=vC ((Ae a.rim b.rim f 0).sub ⟨e,e⟩):=rfl
   have hH0:cR a.rim b.rim f e 1=vC ((Ae a.rim b.rim f 0).add ⟨e,e⟩):=rfl
   have bl2:=bl 1; have bh2:=bh 1
   simp only [Nat.zero_add,hL0,hH0] at nx bl2 bh2
   generalize (Ae a.rim b.rim f 0).sub ⟨e,e⟩=FR at *
   generalize (Ae a.rim b.rim f 0).add ⟨e,e⟩=TO at *
   simp only [cT,cR,XN,e0,w0,↓X2,wA,↓reduceIte,reduceIte,reduceCtorEq,Y1,Y2,Y3,Y4,Y5,Y6,Y7,Y8,Y9,YA,wE]
   exact nx _ (by omega) (by omega) (Xz (m:=9) (Nat.zero_le _) rfl (by simp [Xh,X5,hla,hlb,I]) (by simp [Xi]) (by simp [XD,Q8,XN,tk,cT,cR,vC,Xg,Xm,X4,I]) (by simp [Xy,bx,by']) (by simp [Xy]) (by simp [ba,bb,bf,bz,be,bw,bl2,bh2]))
  | j+1,w1,fk,hk2,hDk,nx =>
   have g0:(((j+1:Nat):Int)=0)=False:=eq_false (by omega)
   have g0':((j:Int)+1=0)=False:=eq_false (by omega)
   have g0'':(j+1=0)=False:=eq_false (by omega)
   have hLj:=hL j; have hHj:=hH j
   have hl1:cT a.rim b.rim f e (j+1)=vC ((AL a.rim b.rim f j).sub ⟨e,e⟩):=rfl
   have hh1:cR a.rim b.rim f e (j+1)=vC ((AK a.rim b.rim f j).add ⟨e,e⟩):=rfl
   have hl2:cT a.rim b.rim f e (j+1+1)=vC ((AL a.rim b.rim f (j+1)).sub ⟨e,e⟩):=rfl
   have hh2:cR a.rim b.rim f e (j+1+1)=vC ((AK a.rim b.rim f (j+1)).add ⟨e,e⟩):=rfl
   have ux:=iF (AL a.rim b.rim f j).x (Ae a.rim b.rim f (j+1)).x e
   have uy:=iF (AL a.rim b.rim f j).y (Ae a.rim b.rim f (j+1)).y e
   have ox:=iA (AK a.rim b.rim f j).x (Ae a.rim b.rim f (j+1)).x e
   have oy:=iA (AK a.rim b.rim f j).y (Ae a.rim b.rim f (j+1)).y e
   have z1:=Kd (AL a.rim b.rim f j) ⟨e,e⟩
   have z2:=Bc (AK a.rim b.rim f j) ⟨e,e⟩
   have z3:=Kd (Ae a.rim b.rim f (j+1)) ⟨e,e⟩
   have z4:=Bc (Ae a.rim b.rim f (j+1)) ⟨e,e⟩
   have bl2:=bl (j+1+1); have bh2:=bh (j+1+1)
   simp only [hl2,hh2] at nx bl2 bh2
   rw [hl1,hh1]
   replace ux:(0<XV ((Ae a.rim b.rim f (j+1)).sub ⟨e,e⟩).x ((AL a.rim b.rim f j).sub ⟨e,e⟩).x∧((AL a.rim b.rim f (j+1)).sub ⟨e,e⟩).x=((Ae a.rim b.rim f (j+1)).sub ⟨e,e⟩).x)∨(¬ 0<XV ((Ae a.rim b.rim f (j+1)).sub ⟨e,e⟩).x ((AL a.rim b.rim f j).sub ⟨e,e⟩).x∧((AL a.rim b.rim f (j+1)).sub ⟨e,e⟩).x=((AL a.rim b.rim f j).sub ⟨e,e⟩).x):=ux
   replace uy:(0<XV ((Ae a.rim b.rim f (j+1)).sub ⟨e,e⟩).y ((AL a.rim b.rim f j).sub ⟨e,e⟩).y∧((AL a.rim b.rim f (j+1)).sub ⟨e,e⟩).y=((Ae a.rim b.rim f (j+1)).sub ⟨e,e⟩).y)∨(¬ 0<XV ((Ae a.rim b.rim f (j+1)).sub ⟨e,e⟩).y ((AL a.rim b.rim f j).sub ⟨e,e⟩).y∧((AL a.rim b.rim f (j+1)).sub ⟨e,e⟩).y=((AL a.rim b.rim f j).sub ⟨e,e⟩).y):=uy
   replace ox:(XV ((Ae a.rim b.rim f (j+1)).add ⟨e,e⟩).x ((AK a.rim b.rim f j).add ⟨e,e⟩).x<0∧((AK a.rim b.rim f (j+1)).add ⟨e,e⟩).x=((Ae a.rim b.rim f (j+1)).add ⟨e,e⟩).x)∨(¬ XV ((Ae a.rim b.rim f (j+1)).add ⟨e,e⟩).x ((AK a.rim b.rim f j).add ⟨e,e⟩).x<0∧((AK a.rim b.rim f (j+1)).add ⟨e,e⟩).x=((AK a.rim b.rim f j).add ⟨e,e⟩).x):=ox
   replace oy:(XV ((Ae a.rim b.rim f (j+1)).add ⟨e,e⟩).y ((AK a.rim b.rim f j).add ⟨e,e⟩).y<0∧((AK a.rim b.rim f (j+1)).add ⟨e,e⟩).y=((Ae a.rim b.rim f (j+1)).add ⟨e,e⟩).y)∨(¬ XV ((Ae a.rim b.rim f (j+1)).add ⟨e,e⟩).y ((AK a.rim b.rim f j).add ⟨e,e⟩).y<0∧((AK a.rim b.rim f (j+1)).add ⟨e,e⟩).y=((AK a.rim b.rim f j).add ⟨e,e⟩).y):=oy
   generalize (Ae a.rim b.rim f (j+1)).sub ⟨e,e⟩=FR at *
   generalize (Ae a.rim b.rim f (j+1)).add ⟨e,e⟩=TO at *
   generalize (AL a.rim b.rim f (j+1)).sub ⟨e,e⟩=L2 at *
   generalize (AK a.rim b.rim f (j+1)).add ⟨e,e⟩=H2 at *
   generalize (AL a.rim b.rim f j).sub ⟨e,e⟩=L1 at *
   generalize (AK a.rim b.rim f j).add ⟨e,e⟩=H1 at *
   have:=Qw FR; have:=Qq FR; have:=Qw TO; have:=Qq TO; have:=Qw L1; have:=Qq L1; have:=Qw H1; have:=Qq H1
   have k1:=Jg FR.x L1.x (by unfold rm; omega) (by unfold rm; omega)
   have k2:=Jg FR.y L1.y (by unfold rm; omega) (by unfold rm; omega)
   have k3:=Jg TO.x H1.x (by unfold rm; omega) (by unfold rm; omega)
   have k4:=Jg TO.y H1.y (by unfold rm; omega) (by unfold rm; omega)
   clear c1 c2 c3 c4 c5 c6 hD hL hH bl bh v1 v2
   rcases ux with ⟨px,ex⟩ | ⟨px,ex⟩
   all_goals
    first | replace px:=eq_false px | replace px:=eq_true px
    rcases uy with ⟨py,ey⟩ | ⟨py,ey⟩
    all_goals
     first | replace py:=eq_false py | replace py:=eq_true py
     rcases ox with ⟨sx,gx⟩ | ⟨sx,gx⟩
     all_goals
      first | replace sx:=eq_false sx | replace sx:=eq_true sx
      rcases oy with ⟨sy,gy⟩ | ⟨sy,gy⟩
      all_goals
       first | replace sy:=eq_false sy | replace sy:=eq_true sy
       simp only [g0,g0',g0'',w1,↓X2,wA,↓reduceIte,reduceIte,reduceCtorEq,Y1,Y2,Y3,Y4,Y5,Y6,Y7,Y8,Y9,YA,wE]
       refine X1 k1 rfl ?_
       simp only [px,g0,g0',g0'',w1,↓X2,wA,↓reduceIte,reduceIte,reduceCtorEq,Y1,Y2,Y3,Y4,Y5,Y6,Y7,Y8,Y9,YA,wE]
       refine X1 k2 rfl ?_
       simp only [px,py,g0,g0',g0'',w1,↓X2,wA,↓reduceIte,reduceIte,reduceCtorEq,Y1,Y2,Y3,Y4,Y5,Y6,Y7,Y8,Y9,YA,wE]
       refine X1 k3 rfl ?_
       simp only [px,py,sx,g0,g0',g0'',w1,↓X2,wA,↓reduceIte,reduceIte,reduceCtorEq,Y1,Y2,Y3,Y4,Y5,Y6,Y7,Y8,Y9,YA,wE]
       refine X1 k4 rfl ?_
       simp only [px,py,sx,sy,g0,g0',g0'',w1,↓X2,wA,↓reduceIte,reduceIte,reduceCtorEq,Y1,Y2,Y3,Y4,Y5,Y6,Y7,Y8,Y9,YA,wE]
       exact nx _ (by omega) (by omega) (Xz (m:=9) (Nat.zero_le _) rfl (by simp [Xh,X5,hla,hlb,I]) (by simp [Xi]) (by simp [XD,Q8,XN,tk,cT,cR,vC,Xg,Xm,X4,I,ex,ey,gx,gy]) (by simp [Xy,bx,by']) (by simp [Xy]) (by simp [ba,bb,bf,bz,be,bw,bl2,bh2]))
 obtain rfl:k=N+1:=by omega
 have hL:=Cz ha.near hb.near f ht N
 have hH:=Cx ha.near hb.near f ht N
 have hl1:cT a.rim b.rim f e (N+1)=vC ((AL a.rim b.rim f N).sub ⟨e,e⟩):=rfl
 have hh1:cR a.rim b.rim f e (N+1)=vC ((AK a.rim b.rim f N).add ⟨e,e⟩):=rfl
 rw [hl1,hh1]
 clear bl bh hl1 hh1
 have m1:=Kd (AL a.rim b.rim f N) ⟨e,e⟩
 have m2:=Bc (AK a.rim b.rim f N) ⟨e,e⟩
 generalize (AL a.rim b.rim f N).sub ⟨e,e⟩=A at *
 generalize (AK a.rim b.rim f N).add ⟨e,e⟩=B at *
 have:=Qw A; have:=Qq A; have:=Qw B; have:=Qq B
 have q1:=Jg A.x B.x (by unfold rm; omega) (by unfold rm; omega)
 have q2:=Jg A.y B.y (by unfold rm; omega) (by unfold rm; omega)
 have fk:(((N+1:Nat):Int)≤f.M)=False:=eq_false (by omega)
 refine X0 1000 ?_
 simp only [Q8,fk,↓X2,wA,↓reduceIte,reduceIte,reduceCtorEq,Y1,Y2,Y3,Y4,Y5,Y6,Y7,Y8,Y9,YA,wE]
 refine X1 q1 rfl ?_
 by_cases h1:B.x<A.x
 ·have f1:(0<XV A.x B.x)=True:=eq_true ((JR _ _).2 h1)
  simp only [f1,XN,↓X2,wA,↓reduceIte,reduceIte,reduceCtorEq,Y1,Y2,Y3,Y4,Y5,Y6,Y7,Y8,Y9,YA,wE]
  exact zret rfl rfl rfl rfl rfl (by rw [hRe,if_pos (.inl h1)])
 have f1:(0<XV A.x B.x)=False:=eq_false fun h=>h1 ((JR _ _).1 h)
 simp only [f1,↓X2,wA,↓reduceIte,reduceIte,reduceCtorEq,Y1,Y2,Y3,Y4,Y5,Y6,Y7,Y8,Y9,YA,wE]
 refine X1 q2 rfl ?_
 by_cases h2:B.y<A.y
 ·have f2:(0<XV A.y B.y)=True:=eq_true ((JR _ _).2 h2)
  simp only [f1,f2,XN,↓X2,wA,↓reduceIte,reduceIte,reduceCtorEq,Y1,Y2,Y3,Y4,Y5,Y6,Y7,Y8,Y9,YA,wE]
  exact zret rfl rfl rfl rfl rfl (by rw [hRe,if_pos (.inr h2)])
 have f2:(0<XV A.y B.y)=False:=eq_false fun h=>h2 ((JR _ _).1 h)
 simp only [f1,f2,XN,↓X2,wA,↓reduceIte,reduceIte,reduceCtorEq,Y1,Y2,Y3,Y4,Y5,Y6,Y7,Y8,Y9,YA,wE]
 rw [if_neg fun h=>h.elim h1 h2] at hRe
 subst hRe
 exact IB rfl (Xq Jp rfl rfl rfl) (Xq Jp rfl rfl rfl) (by unfold QA; rfl) (Xs (Xn _) (XT (XS (vC A)))) (Xs (Xn _) (XT (XS (vC B)))) ((X3 _).sees _)
def qs (l:List Rat):AV:=sL qC 4 0 l
theorem Ma (l:List Rat):Settled (qs l):=Cf fun a x hx=>by
 have:∀ x∈qC a,Settled x:=by simp [qC,X7,X3]
 exact this x hx
theorem BL (l:List Rat):qs l=.sl l.length (l.length*4) (Xw qC 4 0 l) false:=nrfl rfl
theorem vE (l:List Rat) (i:Nat):Xw qC 4 0 l (i*4)=.bool (decide ((l.getD i 0).num<0))∧Xw qC 4 0 l (i*4+1)=X9 (Xb (l.getD i 0).num.natAbs)∧Xw qC 4 0 l (i*4+2)=.bool false∧Xw qC 4 0 l (i*4+3)=X9 (Xb (qd (l.getD i 0))):=by
 refine ⟨?_,?_,?_,?_⟩
 ·rw [K6 _ _ _ _ _ (by omega)]; rfl
 all_goals rw [JS _ _ _ _ _ _ (by omega)]; rfl
def Zn (sg:Int) (x:Rat) (l:List Rat):Nat→Rat
 | 0=>x
 | k+1=>if XV (l.getD k 0) (Zn sg x l k)=sg then l.getD k 0 else Zn sg x l k
theorem OS (sg:Int) (x:Rat) (l:List Rat) (c:Nat) (hx:qb x≤c) (hl:∀ k,qb (l.getD k 0)≤c):∀ k,qb (Zn sg x l k)≤c
 | 0=>hx
 | k+1=>by
  simp only [Zn]
  split
  ·exact hl k
  ·exact OS sg x l c hx hl k
def Bd:List AV:=[.bool false,.sl 0 0 (fun _=>.any) true,.bool false,.sl 0 0 (fun _=>.any) true]
theorem CY (sg:Int) (x:Rat) (l:List Rat) (hl:l.length<1000000) (hx:qb x≤vm) (hq:∀ k,qb (l.getD k 0)≤vm):Fn Tryz.prog 286 [I sg,qA x,qs l] (qA (Zn sg x l l.length)):=by
 unfold vm at hx hq
 obtain ⟨R,hR⟩:∃ R,R=qA (Zn sg x l l.length):=⟨_,rfl⟩
 have sR:Settled R:=hR▸Xc _
 have hqc:∀ r:Rat,∀ x∈qC r,Settled x:=fun r=>by simp [qC,X7,X3]
 have bx:∀ r,XH 2 (.row 0 4 (Xp (qC r)))=True:=fun r=>eq_true (XF (hqc r))
 have bl:Js 2 (qs l)=True:=eq_true (X6 (Ma l))
 rw [← hR]
 refine Fq Tryz.call286 Tryz.func286 9 [9,10,11] [] [] (by simp [X8,Xc,Ma]) (X0 1000 ?_)
 simp only [AS.start,BL,↓X2,wA,seval,wE]
 refine Xe (fun k:Nat=>⟨9,[9,10,11],[I sg,.any,.any,.any,.ref 0 0 0,.any,.ref 1 0 0,.any,.any],[(9,qs l),(10,I l.length),(11,I k)],[.row 0 4 (Xp (qC (Zn sg x l k))),.row 0 4 (Xp Bd)]⟩) (fun k=>k≤l.length) (fun k=>l.length - k) 0 (by omega)
  (Xa rfl (by simp [Xh,I]) (by simp [Xi,Xv,BL,I]) rfl) ?_
 intro k hk next
 have w1:=wj k (by omega)
 have he:=OS sg x l 1000000 hx hq k
 by_cases hk2:k<l.length
 ·have f1:((k:Int)<l.length)=True:=eq_true (by omega)
  have f2:(k<l.length)=True:=eq_true hk2
  have f3:(k*4+4≤l.length*4)=True:=eq_true (by omega)
  have v1:=vE l k
  have c1:=QR (l.getD k 0) (Zn sg x l k) (by have:=hq k; unfold rm; omega) (by unfold rm; omega)
  have nx:=next (k+1)
  have hs:Zn sg x l (k+1)=if XV (l.getD k 0) (Zn sg x l k)=sg then l.getD k 0 else Zn sg x l k:=rfl
  generalize Zn sg x l k=E at *
  refine X0 1000 ?_
  simp only [BL,w1,f1,f2,f3,v1,Int.toNat_natCast,↓X2,wA,seval,wE]
  refine X1 c1 rfl ?_
  by_cases h:XV (l.getD k 0) E=sg
  ·have g1:(XV (l.getD k 0) E=sg)=True:=eq_true h
   rw [if_pos h] at hs
   simp only [hs] at nx
   simp only [g1,w1,↓X2,wA,seval,wE]
   exact nx _ (by omega) (by omega) (Xz (m:=2) (Nat.zero_le _) rfl (by simp [Xh,I]) (by simp [Xi,Xv,BL,I]) (by simp [qC,Bd,X4]) (by simp [Xy]) (by simp [Xy,bl]) (by simp [bx,Bd,Xy]))
  ·have g1:(XV (l.getD k 0) E=sg)=False:=eq_false h
   rw [if_neg h] at hs
   simp only [hs] at nx
   simp only [g1,w1,↓X2,wA,seval,wE]
   exact nx _ (by omega) (by omega) (Xz (m:=2) (Nat.zero_le _) rfl (by simp [Xh,I]) (by simp [Xi,Xv,BL,I]) (by simp [qC,Bd,X4]) (by simp [Xy]) (by simp [Xy,bl]) (by simp [bx,Bd,Xy]))
 obtain rfl:k=l.length:=by omega
 refine X0 1000 ?_
 simp only [BL,Bd,Int.lt_irrefl,Nat.lt_irrefl,↓X2,wA,seval,wE]
 exact JE rfl Qc rfl rfl rfl sR (hR.trans rfl)
def Qd (n:V2) (L:List V2):List Rat:=L.map (Qb n)
theorem UM (n:V2) (L:List V2) (i:Nat) (hi:i<L.length):Qd n (L.take i) ++ [Qb n (L.getD i v0)]=Qd n (L.take (i+1)):=by
 rw [AB _ v0 hi]; simp [Qd]
theorem so (a:Rat):∀ j,j<4→((qC a).getD j .any).one=true:=fun j hj=>by
 match j,hj with
 | 0,_=>rfl
 | 1,_=>rfl
 | 2,_=>rfl
 | 3,_=>rfl
 | j+4,h=>omega
theorem HL (n:V2) (L:List V2) (k:Nat) (h:XW L k) (hk:k≤100000) (hl:L.length<1000000) (hn:vb n≤100000):Fn Tryz.prog 285 [vA n,Xt L] (qs (Qd n L)):=by
 have hvc:∀ a:V2,∀ x∈vC a,Settled x:=fun a=>by simp [vC,X7,X3]
 have hqc:∀ r:Rat,∀ x∈qC r,Settled x:=fun r=>by simp [qC,X7,X3]
 have bo:XH 2 (.row 0 8 (Xp (vC n)))=True:=eq_true (XF (hvc n))
 have bv:Js 2 (Xt L)=True:=eq_true (X6 (Xf L))
 have br:∀ i l n,XH 2 (.row i n (Xw qC 4 0 l))=True:=fun i l n=>eq_true fun j _=>X6 (Xd (hqc _) _)
 obtain ⟨R,hR⟩:∃ R,R=qs (Qd n L):=⟨_,rfl⟩
 rw [← hR]
 refine Fq Tryz.call285 Tryz.func285 8 [8,9,10] [] [] (by simp [Xn,Xf]) (X0 1000 ?_)
 simp only [AS.start,X5,↓X2,wA,seval,wE]
 refine Xe (fun i:Nat=>⟨8,[8,9,10],[.any,.any,.ref 0 0 0,.any,.any,.osl 1 i 4 0 i,.any,.any],[(8,Xt L),(9,I L.length),(10,I i)],[.row 0 8 (Xp (vC n)),.row i (i*4) (Xw qC 4 0 (Qd n (L.take i)))]⟩) (fun i=>i≤L.length) (fun i=>L.length - i) 0 (by omega)
  (Sub.trans (Qi 5 4 (Xw qC 4 0 []) rfl) (Xa rfl (by simp [AS.put,Xh,I]) (by simp [AS.put,Xi,Xv,X5,I]) (by simp [AS.put,vC,X4,Qd]))) ?_
 intro i hi next
 have w1:=wj i (by omega)
 by_cases hi2:i<L.length
 ·have f1:((i:Int)<L.length)=True:=eq_true (by omega)
  have f2:(i<L.length)=True:=eq_true hi2
  have f3:(i*8+8≤L.length*8)=True:=eq_true (by omega)
  have v1:=vF L i
  have hb:=h i
  have c1:=Ge n (L.getD i v0) (by unfold vm; omega) (by unfold vm; omega)
  have hap:=Q0 qC 4 0 (Qd n (L.take i)) (Qb n (L.getD i v0)) (by omega)
  rw [UM _ _ _ hi2,show (Qd n (L.take i)).length=i by simp [Qd]; omega] at hap
  refine X0 1000 ?_
  simp only [X5,w1,f1,f2,f3,v1,Int.toNat_natCast,↓X2,wA,seval,wE]
  refine X1 c1 rfl ?_
  simp only [w1,↓X2,wA,seval,wE]
  exact ⟨⟨so _,by omega,by omega⟩,next (i+1) _ (by omega) (by omega) (Xz (m:=2) (Nat.zero_le _) rfl (by simp [Xh]) (by simp [Xi,Xv,X5,I]) (by rw [← hap]; rfl) (by simp [Xy]) (by simp [Xy,bv]) (by simp [bo,br]))⟩
 obtain rfl:i=L.length:=by omega
 refine X0 1000 ?_
 simp only [X5,Int.lt_irrefl,Nat.lt_irrefl,↓X2,wA,seval,wE]
 refine Av rfl ?_
 have hlen:(Qd n L).length=L.length:=by simp [Qd]
 rw [hR,BL,hlen]
 refine QB (n:=L.length) (.inl rfl) (by omega) (fun h=>by rw [h]) fun j hj=>?_
 rw [List.take_length,Nat.zero_add]
 exact (Xd (hqc _) _).sees _
def DG (sg:Int) (l:List Rat):Rat:=Zn sg (l.getD 0 0) (l.drop 1) (l.drop 1).length
def FY (n:V2) (A B:List V2):Rat:=DG (-1) (Qd n B) - DG 1 (Qd n A)
theorem D4 (n:V2) (L:List V2) (k:Nat) (h:XW L k) (i:Nat):qb ((Qd n L).getD i 0)≤2*(vb n+k)+1:=by
 have h0:=h i
 have h1:=A3 n (L.getD i v0)
 have q0:=Bl
 by_cases hi:i<L.length
 ·have e:(Qd n L).getD i 0=Qb n (L.getD i v0):=by
   unfold Qd
   rw [List.getD_eq_getElem?_getD,List.getElem?_map,List.getD_eq_getElem?_getD,List.getElem?_eq_getElem hi]; rfl
  rw [e]; omega
 ·have e:(Qd n L).getD i 0=0:=by
   rw [List.getD_eq_getElem?_getD,List.getElem?_eq_none (by simp [Qd]; omega)]; rfl
  rw [e]; omega
theorem AW (l:List Rat) (i:Nat):(l.drop 1).getD i 0=l.getD (1+i) 0:=by
 rw [List.getD_eq_getElem?_getD,List.getD_eq_getElem?_getD,List.getElem?_drop]
theorem Ix (sg:Int) (l:List Rat) (c:Nat) (h:∀ i,qb (l.getD i 0)≤c):qb (DG sg l)≤c :=
 OS _ _ _ _ (h 0) (fun k=>by rw [AW]; exact h _) _
theorem Mp (l:List Rat) {n m:Nat} {t:Bool} (hn:n=l.length - 1) (hm:(l.length - 1)*4≤m):Weak (.sl n m (fun j=>Xw qC 4 0 l (4+j)) t) (qs (l.drop 1)):=by
 rw [BL]
 refine Ac (by rw [List.length_drop]; exact hn) (by rw [List.length_drop]; exact hm) fun j hj=>?_
 have e:Xw qC 4 0 l (4+j)=Xw qC 4 0 (l.drop 1) j:=by
  unfold Xw
  rw [AW,show (4+j) / 4=1+j / 4 by omega,show (4+j) % 4=j % 4 by omega]
 rw [e]
 exact Weak.rfl' _
theorem rI (n:V2) (A B:List V2) (k:Nat) (ha:XW A k) (hb:XW B k) (hk:k≤10000) (la:A.length<1000000) (lb:B.length<1000000) (pa:0<A.length) (pb:0<B.length) (hn:vb n≤10000):Fn Tryz.prog 271 [vA n,Xt A,Xt B] (qA (FY n A B)):=by
 have c1:=HL n A k ha (by omega) la (by omega)
 have c2:=HL n B k hb (by omega) lb (by omega)
 have qa:=D4 n A k ha
 have qb':=D4 n B k hb
 have hlA:(Qd n A).length=A.length:=by simp [Qd]
 have hlB:(Qd n B).length=B.length:=by simp [Qd]
 have c3:=CY (-1) ((Qd n B).getD 0 0) ((Qd n B).drop 1) (by rw [List.length_drop]; omega) (by have:=qb' 0; unfold vm; omega) (fun i=>by rw [AW]; have:=qb' (1+i); unfold vm; omega)
 have c4:=CY 1 ((Qd n A).getD 0 0) ((Qd n A).drop 1) (by rw [List.length_drop]; omega) (by have:=qa 0; unfold vm; omega) (fun i=>by rw [AW]; have:=qa (1+i); unfold vm; omega)
 have e1:=Ix (-1) (Qd n B) _ qb'
 have e2:=Ix 1 (Qd n A) _ qa
 have c5:=P3 (DG (-1) (Qd n B)) (DG 1 (Qd n A)) (by unfold rm; omega) (by unfold rm; omega)
 rw [show Zn (-1) ((Qd n B).getD 0 0) ((Qd n B).drop 1) ((Qd n B).drop 1).length=DG (-1) (Qd n B) from rfl] at c3
 rw [show Zn 1 ((Qd n A).getD 0 0) ((Qd n A).drop 1) ((Qd n A).drop 1).length=DG 1 (Qd n A) from rfl] at c4
 rw [show DG (-1) (Qd n B) - DG 1 (Qd n A)=FY n A B from rfl] at c5
 have v1:=vE (Qd n A) 0
 have v2:=vE (Qd n B) 0
 obtain ⟨R,hR⟩:∃ R,R=qA (FY n A B):=⟨_,rfl⟩
 have sR:Settled R:=hR▸Xc _
 rw [← hR] at c5 ⊢
 generalize Qd n A=PA at *
 generalize Qd n B=PB at *
 simp only [Nat.zero_mul,Nat.zero_add] at v1 v2
 have f1:(0<PA.length)=True:=eq_true (by omega)
 have f2:(0<PB.length)=True:=eq_true (by omega)
 have f3:((0:Int)<PA.length)=True:=eq_true (by omega)
 have f4:((0:Int)<PB.length)=True:=eq_true (by omega)
 have f5:(4≤PA.length*4)=True:=eq_true (by omega)
 have f6:(4≤PB.length*4)=True:=eq_true (by omega)
 have f7:((1:Int)≤PA.length)=True:=eq_true (by omega)
 have f8:((1:Int)≤PB.length)=True:=eq_true (by omega)
 refine Fq Tryz.call271 Tryz.func271 9 [] [2] [] (by simp [Xn,Xf]) (X0 1000 ?_)
 simp only [AS.start,X5,↓X2,wA,seval,wE]
 refine X1 c1 rfl ?_
 simp only [↓X2,wA,seval,wE]
 refine X1 c2 rfl ?_
 simp only [BL,v1,v2,f1,f2,f3,f4,f5,f6,f7,f8,Int.toNat_zero,Int.reduceLE,↓X2,wA,seval,wE]
 refine Qv c3 ⟨Weak.rfl' _,Weak.rfl' _,Mp PB (by omega) (by omega),trivial⟩ ?_
 simp only [BL,v1,v2,f1,f2,f3,f4,f5,f6,f7,f8,Int.toNat_zero,Int.reduceLE,↓X2,wA,seval,wE]
 refine Qv c4 ⟨Weak.rfl' _,Weak.rfl' _,Mp PA (by omega) (by omega),trivial⟩ ?_
 simp only [↓X2,wA,seval,wE]
 refine X1 c5 rfl ?_
 simp only [hR,↓X2,wA,seval,wE]
 exact JE rfl Qc rfl rfl rfl sR (hR.trans rfl)
def BX (x:Rat):Rat:=if x<0 then -x else x
def KA (n:V2):Rat:=BX n.x+BX n.y
theorem Ew (x:Rat):qb (BX x)=qb x:=by unfold BX; split <;> simp [BK]
theorem Gk (x y:Rat):XV x y=1↔y<x:=by
 rw [← JR]
 unfold XV
 rw [Int.sign_eq_one_iff_pos,Int.sign_pos_iff]
theorem Sg (x y:Rat):XV x y = -1↔x<y:=by
 rw [← Kg]
 unfold XV
 rw [Int.sign_eq_neg_one_iff_neg,Int.sign_neg_iff]
theorem VQ (x:Rat):Zn 1 x [-x] 1=BX x:=by
 show (if XV (-x) x=1 then -x else x)=_
 unfold BX
 by_cases h:x<0
 ·rw [if_pos h,if_pos ((Gk _ _).2 (by grind))]
 ·rw [if_neg h,if_neg fun hh=>h (by have:=(Gk _ _).1 hh; grind)]
theorem Tc (x:Rat) {t:Bool}:Weak (.sl 1 4 (Xp [.bool (decide (x.num<0)),X9 (Xb x.num.natAbs),.bool false,X9 (Xb (qd x))]) t) (qs [x]):=by
 rw [BL]
 refine Ac rfl (Nat.le_refl _) fun j hj=>?_
 match j,hj with
 | 0,_=>exact Weak.rfl' _
 | 1,_=>exact Weak.rfl' _
 | 2,_=>exact Weak.rfl' _
 | 3,_=>exact Weak.rfl' _
 | j+4,h=>exact absurd h (by show ¬ j+4<1*4; omega)
theorem ND (x:Rat) (c:Nat) (hc:1≤c) (h:qb x≤c) (k:Nat):qb (([x]:List Rat).getD k 0)≤c:=by
 have q0:=Bl
 match k with
 | 0=>exact h
 | k+1=>show qb 0≤c; omega
theorem oD (n:V2) (hn:vb n≤100000):Fn Tryz.prog 287 [vA n] (qA (KA n)):=by
 have:=Qw n; have:=Qq n
 have n1:=De n.x
 have n2:=De n.y
 have a1:=Ew n.x; have a2:=Ew n.y
 have c1:=CY 1 n.x [-n.x] (by simp) (by unfold vm; omega) (ND _ _ (by unfold vm; omega) (by rw [BK]; unfold vm; omega))
 have c2:=CY 1 n.y [-n.y] (by simp) (by unfold vm; omega) (ND _ _ (by unfold vm; omega) (by rw [BK]; unfold vm; omega))
 rw [show ([-n.x]:List Rat).length=1 from rfl,VQ] at c1
 rw [show ([-n.y]:List Rat).length=1 from rfl,VQ] at c2
 have c3:=AM (BX n.x) (BX n.y) (by unfold rm; omega) (by unfold rm; omega)
 rw [show BX n.x+BX n.y=KA n from rfl] at c3
 obtain ⟨R,hR⟩:∃ R,R=qA (KA n):=⟨_,rfl⟩
 have sR:Settled R:=hR▸Xc _
 rw [← hR] at c3 ⊢
 refine Fq Tryz.call287 Tryz.func287 3 [] [1,20000001] [] (by simp [wS]) (X0 1000 ?_); simp (config:={ maxSteps:=2000000 }) only [AS.start,↓X2,wA,seval,wE]
 refine X1 n1 rfl ?_
 simp only [↓X2,wA,seval,wE]
 refine Qv c1 ⟨Weak.rfl' _,Weak.rfl' _,Tc _,trivial⟩ ?_
 simp only [↓X2,wA,seval,wE]
 refine X1 n2 rfl ?_
 simp only [↓X2,wA,seval,wE]
 refine Qv c2 ⟨Weak.rfl' _,Weak.rfl' _,Tc _,trivial⟩ ?_
 simp only [↓X2,wA,seval,wE]
 refine X1 c3 rfl ?_
 simp only [hR,↓X2,wA,seval,wE]
 exact JE rfl Qc rfl rfl rfl sR (hR.trans rfl)
theorem Iy (n:V2):qb (KA n)≤2*vb n+1:=by
 have:=Qw n; have:=Qq n
 have a1:=Ew n.x; have a2:=Ew n.y
 have:=Jy (BX n.x) (BX n.y)
 unfold KA; omega
theorem oo (n:V2) (e:Rat) (hn:vb n≤100000) (he:qb e≤100000):Fn Tryz.prog 272 [vA n,qA e] (qA (e*KA n)):=by
 have q:=Iy n
 have c1:=oD n hn
 have c2:=Kx e (KA n) (by unfold rm; omega) (by unfold rm; omega)
 obtain ⟨R,hR⟩:∃ R,R=qA (e*KA n):=⟨_,rfl⟩
 have sR:Settled R:=hR▸Xc _
 rw [← hR] at c2 ⊢
 refine Fq Tryz.call272 Tryz.func272 5 [] [] [] (by simp [wS]) (X0 1000 ?_); simp (config:={ maxSteps:=2000000 }) only [AS.start,↓X2,wA,seval,wE]
 refine X1 c1 rfl ?_
 simp only [↓X2,wA,seval,wE]
 refine X1 c2 rfl ?_
 simp only [hR,↓X2,wA,seval,wE]
 exact JE rfl Qc rfl rfl rfl sR (hR.trans rfl)
def S0 (p q:V2):V2:=⟨(q.sub p).y,-(q.sub p).x⟩
theorem Vf (p q:V2):vb (S0 p q)≤vb p+vb q+1:=by
 have:=Kd q p
 have:=Qw (q.sub p); have:=Qq (q.sub p)
 have:=BK (q.sub p).x
 unfold S0
 show max (qb (q.sub p).y) (qb (-(q.sub p).x))≤_
 omega
theorem IU (p q:V2) (hp:vb p≤100000) (hq:vb q≤100000):Fn Tryz.prog 270 [vA p,vA q] (vA (S0 p q)):=by
 have c1:=D5 q p (by unfold rm; omega) (by unfold rm; omega)
 have c2:=De (q.sub p).x
 obtain ⟨R,hR⟩:∃ R,R=vA (S0 p q):=⟨_,rfl⟩
 have sR:Settled R:=hR▸Xn _
 rw [← hR]
 refine Fq Tryz.call270 Tryz.func270 6 [] [] [] (by simp [wS]) (X0 1000 ?_); simp (config:={ maxSteps:=2000000 }) only [AS.start,↓X2,wA,seval,wE]
 refine X1 c1 rfl ?_
 simp only [↓X2,wA,seval,wE]
 refine X1 c2 rfl ?_
 simp only [↓X2,wA,seval,wE]
 exact Zh rfl Jp rfl rfl rfl sR (hR.trans rfl)
def EK (n:V2) (A B:List V2) (e:Rat):Prop:=e*KA n≤FY n A B
theorem Nm (n:V2) (A B:List V2) (k:Nat) (ha:XW A k) (hb:XW B k):qb (FY n A B)≤4*(vb n+k)+3:=by
 have e1:=Ix (-1) (Qd n B) _ (D4 n B k hb)
 have e2:=Ix 1 (Qd n A) _ (D4 n A k ha)
 have:=Fv (DG (-1) (Qd n B)) (DG 1 (Qd n A))
 unfold FY; omega
theorem P5 (n:V2) (A B:List V2) (e:Rat) (k:Nat) (ha:XW A k) (hb:XW B k) (hk:k≤10000) (la:A.length<1000000) (lb:B.length<1000000) (pa:0<A.length) (pb:0<B.length) (hn:vb n≤10000) (he:qb e≤10000):Fn Tryz.prog 262 [vA n,Xt A,Xt B,qA e] (.bool (decide (EK n A B e))):=by
 have c1:=rI n A B k ha hb hk la lb pa pb hn
 have c2:=oo n e (by omega) (by omega)
 have q1:=Nm n A B k ha hb
 have q2:=Iy n
 have q3:=QE e (KA n)
 have c3:=QR (FY n A B) (e*KA n) (by unfold rm; omega) (by unfold rm; omega)
 have hd:decide (EK n A B e)=decide (0≤XV (FY n A B) (e*KA n)):=decide_eq_decide.2 (D8 _ _).symm
 rw [hd]
 refine Fq Tryz.call262 Tryz.func262 9 [] [] [] (by simp [Xn,Xf,Xc]) (X0 1000 ?_)
 simp only [AS.start,X5,↓X2,wA,seval,wE]
 refine X1 c1 rfl ?_
 simp only [↓X2,wA,seval,wE]
 refine X1 c2 rfl ?_
 simp only [↓X2,wA,seval,wE]
 refine X1 c3 rfl ?_
 simp only [↓X2,wA,seval,wE]
 exact Xr rfl rfl (X3 _) rfl
theorem SB (x:Rat) (h:qb x≤vm):Fn Tryz.prog 298 [qA x] (qA (BX x)):=by
 unfold vm at h
 have c1:=B6 x (by unfold rm; omega)
 have c2:=ZD x (by unfold rm; omega)
 obtain ⟨R,hR⟩:∃ R,R=qA (BX x):=⟨_,rfl⟩
 have sR:Settled R:=hR▸Xc _
 rw [← hR]
 refine Fq Tryz.call298 Tryz.func298 3 [] [] [] (by simp [wS]) (X0 1000 ?_); simp (config:={ maxSteps:=2000000 }) only [AS.start,↓X2,wA,seval,wE]
 refine X1 c1 rfl ?_
 by_cases h0:x<0
 ·have f1:(x.num.sign<0)=True:=eq_true ((Z8 _).2 h0)
  have e:BX x = -x:=if_pos h0
  rw [e] at hR
  simp only [f1,↓X2,wA,seval,wE]
  refine X1 c2 rfl ?_
  simp only [↓X2,wA,seval,wE]
  exact JE rfl Qc rfl rfl rfl sR (hR.trans rfl)
 ·have f1:(x.num.sign<0)=False:=eq_false fun hh=>h0 ((Z8 _).1 hh)
  have e:BX x=x:=if_neg h0
  rw [e] at hR
  simp only [f1,↓X2,wA,seval,wE]
  exact JE rfl Qc rfl rfl rfl sR (hR.trans rfl)
theorem jp (n:V2) (hn:vb n≤100000):Fn Tryz.prog 294 [vA n] (qA (KA n)):=by
 have:=Qw n; have:=Qq n
 have a1:=Ew n.x; have a2:=Ew n.y
 have c1:=SB n.x (by unfold vm; omega)
 have c2:=SB n.y (by unfold vm; omega)
 have c3:=Jz (BX n.x) (BX n.y) (by unfold rm; omega) (by unfold rm; omega)
 rw [show BX n.x+BX n.y=KA n from rfl] at c3
 obtain ⟨R,hR⟩:∃ R,R=qA (KA n):=⟨_,rfl⟩
 have sR:Settled R:=hR▸Xc _
 rw [← hR] at c3 ⊢
 refine Fq Tryz.call294 Tryz.func294 3 [] [] [] (by simp [wS]) (X0 1000 ?_); simp (config:={ maxSteps:=2000000 }) only [AS.start,↓X2,wA,seval,wE]
 refine X1 c1 rfl ?_
 simp only [↓X2,wA,seval,wE]
 refine X1 c2 rfl ?_
 simp only [↓X2,wA,seval,wE]
 refine X1 c3 rfl ?_
 simp only [hR,↓X2,wA,seval,wE]
 exact JE rfl Qc rfl rfl rfl sR (hR.trans rfl)
theorem jo (n:V2) (e:Rat) (hn:vb n≤100000) (he:qb e≤100000):Fn Tryz.prog 284 [vA n,qA e] (qA (e*KA n)):=by
 have q:=Iy n
 have c1:=jp n hn
 have c2:=QW (KA n) e (by unfold rm; omega) (by unfold rm; omega)
 rw [Rat.mul_comm] at c2
 obtain ⟨R,hR⟩:∃ R,R=qA (e*KA n):=⟨_,rfl⟩
 have sR:Settled R:=hR▸Xc _
 rw [← hR] at c2 ⊢
 refine Fq Tryz.call284 Tryz.func284 5 [] [] [] (by simp [wS]) (X0 1000 ?_); simp (config:={ maxSteps:=2000000 }) only [AS.start,↓X2,wA,seval,wE]
 refine X1 c1 rfl ?_
 simp only [↓X2,wA,seval,wE]
 refine X1 c2 rfl ?_
 simp only [hR,↓X2,wA,seval,wE]
 exact JE rfl Qc rfl rfl rfl sR (hR.trans rfl)
theorem M4 (p q:V2) (hp:vb p≤100000) (hq:vb q≤100000):Fn Tryz.prog 281 [vA p,vA q] (vA (S0 p q)):=by
 have:=Qw p; have:=Qq p; have:=Qw q; have:=Qq q
 have c1:=ZE q.y p.y (by unfold rm; omega) (by unfold rm; omega)
 have c2:=ZE p.x q.x (by unfold rm; omega) (by unfold rm; omega)
 have e:S0 p q=⟨q.y - p.y,p.x - q.x⟩:=by
  unfold S0 V2.sub
  rw [V2.ext']
  exact ⟨rfl,by simp only; grind⟩
 rw [e]
 obtain ⟨R,hR⟩:∃ R,R=vA ⟨q.y - p.y,p.x - q.x⟩:=⟨_,rfl⟩
 have sR:Settled R:=hR▸Xn _
 rw [← hR]
 refine Fq Tryz.call281 Tryz.func281 5 [] [] [] (by simp [wS]) (X0 1000 ?_); simp (config:={ maxSteps:=2000000 }) only [AS.start,↓X2,wA,seval,wE]
 refine X1 c1 rfl ?_
 simp only [↓X2,wA,seval,wE]
 refine X1 c2 rfl ?_
 simp only [↓X2,wA,seval,wE]
 exact Zh rfl Jp rfl rfl rfl sR (hR.trans rfl)
theorem P1 (a:V2) (ha:vb a≤vm):Fn Tryz.prog 282 [vA a] (vA (Bk a)):=by
 unfold vm at ha
 have:=Qw a; have:=Qq a
 have c1:=ZD a.x (by unfold rm; omega)
 have c2:=ZD a.y (by unfold rm; omega)
 obtain ⟨R,hR⟩:∃ R,R=vA (Bk a):=⟨_,rfl⟩
 have sR:Settled R:=hR▸Xn _
 rw [← hR]
 refine Fq Tryz.call282 Tryz.func282 3 [] [] [] (by simp [wS]) (X0 1000 ?_); simp (config:={ maxSteps:=2000000 }) only [AS.start,↓X2,wA,seval,wE]
 refine X1 c1 rfl ?_
 simp only [↓X2,wA,seval,wE]
 refine X1 c2 rfl ?_
 simp only [↓X2,wA,seval,wE]
 exact Zh rfl Jp rfl rfl rfl sR (hR.trans rfl)
theorem Rj (x:Rat) (l:List Rat):∀ k,(Zn (-1) x l k≤x∧∀ j,j<k→Zn (-1) x l k≤l.getD j 0)∧(Zn (-1) x l k=x∨∃ j,j<k∧Zn (-1) x l k=l.getD j 0)
 | 0=>⟨⟨Rat.le_refl,fun j hj=>absurd hj (Nat.not_lt_zero j)⟩,.inl rfl⟩
 | k+1=>by
  have ih:=Rj x l k
  simp only [Zn]
  by_cases h:XV (l.getD k 0) (Zn (-1) x l k) = -1
  ·rw [if_pos h]
   have h1:=(Sg _ _).1 h
   exact ⟨⟨Rat.le_trans (Rat.le_of_lt h1) ih.1.1,fun j hj=>by
    by_cases e:j=k
    ·rw [e]; exact Rat.le_refl
    ·exact Rat.le_trans (Rat.le_of_lt h1) (ih.1.2 j (by omega))⟩,.inr ⟨k,by omega,rfl⟩⟩
  ·rw [if_neg h]
   have h1:Zn (-1) x l k≤l.getD k 0:=by rw [← Rat.not_lt]; exact fun hh=>h ((Sg _ _).2 hh)
   refine ⟨⟨ih.1.1,fun j hj=>?_⟩,?_⟩
   ·by_cases e:j=k
    ·rw [e]; exact h1
    ·exact ih.1.2 j (by omega)
   ·rcases ih.2 with h2 | ⟨j,hj,h2⟩
    ·exact .inl h2
    ·exact .inr ⟨j,by omega,h2⟩
theorem Ri (x:Rat) (l:List Rat):∀ k,(x≤Zn 1 x l k∧∀ j,j<k→l.getD j 0≤Zn 1 x l k)∧(Zn 1 x l k=x∨∃ j,j<k∧Zn 1 x l k=l.getD j 0)
 | 0=>⟨⟨Rat.le_refl,fun j hj=>absurd hj (Nat.not_lt_zero j)⟩,.inl rfl⟩
 | k+1=>by
  have ih:=Ri x l k
  simp only [Zn]
  by_cases h:XV (l.getD k 0) (Zn 1 x l k)=1
  ·rw [if_pos h]
   have h1:=(Gk _ _).1 h
   exact ⟨⟨Rat.le_trans ih.1.1 (Rat.le_of_lt h1),fun j hj=>by
    by_cases e:j=k
    ·rw [e]; exact Rat.le_refl
    ·exact Rat.le_trans (ih.1.2 j (by omega)) (Rat.le_of_lt h1)⟩,.inr ⟨k,by omega,rfl⟩⟩
  ·rw [if_neg h]
   have h1:l.getD k 0≤Zn 1 x l k:=by rw [← Rat.not_lt]; exact fun hh=>h ((Gk _ _).2 hh)
   refine ⟨⟨ih.1.1,fun j hj=>?_⟩,?_⟩
   ·by_cases e:j=k
    ·rw [e]; exact h1
    ·exact ih.1.2 j (by omega)
   ·rcases ih.2 with h2 | ⟨j,hj,h2⟩
    ·exact .inl h2
    ·exact .inr ⟨j,by omega,h2⟩
theorem gz (l:List Rat) (h:0<l.length):(∀ j,j<l.length→DG (-1) l≤l.getD j 0)∧∃ j,j<l.length∧DG (-1) l=l.getD j 0:=by
 have hm:=Rj (l.getD 0 0) (l.drop 1) (l.drop 1).length
 rw [show Zn (-1) (l.getD 0 0) (l.drop 1) (l.drop 1).length=DG (-1) l from rfl,List.length_drop] at hm
 refine ⟨fun j hj=>?_,?_⟩
 ·cases j with
  | zero=>exact hm.1.1
  | succ j=>have:=hm.1.2 j (by omega); rwa [AW,Nat.add_comm] at this
 ·rcases hm.2 with h2 | ⟨j,hj,h2⟩
  ·exact ⟨0,h,h2⟩
  ·exact ⟨1+j,by omega,by rw [h2,AW]⟩
theorem gw (l:List Rat) (h:0<l.length):(∀ j,j<l.length→l.getD j 0≤DG 1 l)∧∃ j,j<l.length∧DG 1 l=l.getD j 0:=by
 have hm:=Ri (l.getD 0 0) (l.drop 1) (l.drop 1).length
 rw [show Zn 1 (l.getD 0 0) (l.drop 1) (l.drop 1).length=DG 1 l from rfl,List.length_drop] at hm
 refine ⟨fun j hj=>?_,?_⟩
 ·cases j with
  | zero=>exact hm.1.1
  | succ j=>have:=hm.1.2 j (by omega); rwa [AW,Nat.add_comm] at this
 ·rcases hm.2 with h2 | ⟨j,hj,h2⟩
  ·exact ⟨0,h,h2⟩
  ·exact ⟨1+j,by omega,by rw [h2,AW]⟩
def Rb (n:V2) (A B:List V2) (i k:Nat):Rat:=Qb n ((B.getD k v0).sub (A.getD i v0))
theorem rk (n:V2) (A B:List V2) (i k:Nat):Rb n A B i k=Qb n (B.getD k v0) - Qb n (A.getD i v0):=by unfold Rb Qb V2.sub; grind
theorem Gh (n:V2) (L:List V2) (i:Nat) (h:i<L.length):(Qd n L).getD i 0=Qb n (L.getD i v0):=by
 unfold Qd
 rw [List.getD_eq_getElem?_getD,List.getElem?_map,List.getD_eq_getElem?_getD,List.getElem?_eq_getElem h]; rfl
theorem gS (n:V2) (A B:List V2) (pa:0<A.length) (pb:0<B.length) (g:Rat) (h1:∃ i k,i<A.length∧k<B.length∧g=Rb n A B i k) (h2:∀ i k,i<A.length→k<B.length→g≤Rb n A B i k):g=FY n A B:=by
 have lA:(Qd n A).length=A.length:=by simp [Qd]
 have lB:(Qd n B).length=B.length:=by simp [Qd]
 obtain ⟨u1,j,hj,u2⟩:=gz (Qd n B) (by omega)
 obtain ⟨w1,m,hm,w2⟩:=gw (Qd n A) (by omega)
 obtain ⟨i,k,hi,hk,e⟩:=h1
 rw [lA] at hm; rw [lB] at hj
 have a1:=u1 k (by omega)
 have a2:=w1 i (by omega)
 have a3:=h2 m j hm hj
 rw [Gh _ _ _ hk] at a1
 rw [Gh _ _ _ hi] at a2
 rw [Gh _ _ _ hj] at u2
 rw [Gh _ _ _ hm] at w2
 rw [rk] at e a3
 unfold FY
 apply Rat.le_antisymm <;> grind
theorem Nd (n:V2) (A B:List V2) (k:Nat) (ha:XW A k) (hb:XW B k) (i j:Nat):qb (Rb n A B i j)≤2*(vb n+2*k+1)+1:=by
 have:=Kd (B.getD j v0) (A.getD i v0)
 have:=ha i; have:=hb j
 have:=A3 n ((B.getD j v0).sub (A.getD i v0))
 unfold Rb; omega
theorem ol (n:V2) (A B:List V2) (c:Nat) (ha:XW A c) (hb:XW B c) (hk:c≤10000) (la:A.length<1000000) (lb:B.length<1000000) (pa:0<A.length) (pb:0<B.length) (hn:vb n≤10000):Fn Tryz.prog 283 [vA n,Xt A,Xt B] (qA (FY n A B)):=by
 have hvc:∀ a:V2,∀ x∈vC a,Settled x:=fun a=>by simp [vC,X7,X3]
 have hqc:∀ r:Rat,∀ x∈qC r,Settled x:=fun r=>by simp [qC,X7,X3]
 have bn:XH 3 (.con 0 8 (Xp (vC n)))=True:=eq_true (fun j _=>X6 (Xd (hvc n) j))
 have bq:∀ r,XH 3 (.row 0 4 (Xp (qC r)))=True:=fun r=>eq_true (XF (hqc r))
 have bz:XH 3 (.row 0 4 (Xp Bd))=True:=eq_true (by simp [Bd,Xy])
 have bA:Js 3 (Xt A)=True:=eq_true (X6 (Xf A))
 have bB:Js 3 (Xt B)=True:=eq_true (X6 (Xf B))
 have step:∀ i k,i<A.length→k<B.length→Fn Tryz.prog 104 [vA (B.getD k v0),vA (A.getD i v0)] (vA ((B.getD k v0).sub (A.getD i v0)))∧Fn Tryz.prog 193 [vA n,vA ((B.getD k v0).sub (A.getD i v0))] (qA (Rb n A B i k)):=fun i k hi hk'=>by
  have:=ha i; have:=hb k
  have m:=Kd (B.getD k v0) (A.getD i v0)
  exact ⟨JN _ _ (by unfold rm; omega) (by unfold rm; omega),KS _ _ (by unfold vm; omega) (by unfold vm; omega)⟩
 obtain ⟨d1,d2⟩:=step 0 0 pa pb
 have v1:=vF A 0
 have v2:=vF B 0
 simp only [Nat.zero_mul,Nat.zero_add] at v1 v2
 have f1:(0<A.length)=True:=eq_true pa
 have f2:(0<B.length)=True:=eq_true pb
 have f3:((0:Int)<A.length)=True:=eq_true (by omega)
 have f4:((0:Int)<B.length)=True:=eq_true (by omega)
 have f5:(8≤A.length*8)=True:=eq_true (by omega)
 have f6:(8≤B.length*8)=True:=eq_true (by omega)
 obtain ⟨R,hR⟩:∃ R,R=qA (FY n A B):=⟨_,rfl⟩
 have sR:Settled R:=hR▸Xc _
 rw [← hR]
 refine Fq Tryz.call283 Tryz.func283 11 [] [1,20000003,8,90000003] [] (by simp [Xn,Xf]) (X0 1000 ?_)
 simp only [AS.start,X5,f1,f2,f3,f4,f5,f6,v1,v2,Int.toNat_zero,Int.reduceLE,↓X2,wA,seval,wE]
 refine X1 d1 rfl ?_
 simp only [↓X2,wA,seval,wE]
 refine X1 d2 rfl ?_
 simp only [↓X2,wA,seval,wE]
 refine Xe (fun p:Nat×Rat=>⟨11,[],[.any,Xt A,Xt B,.ref 0 0 0,.any,.any,.ref 1 0 0,.ref 2 0 0,I p.1,.any,.any],[],[.con 0 8 (Xp (vC n)),.row 0 4 (Xp Bd),.row 0 4 (Xp (qC p.2))]⟩) (fun p=>p.1≤A.length∧(∃ i k,i<A.length∧k<B.length∧p.2=Rb n A B i k)∧∀ i k,i<p.1→k<B.length→p.2≤Rb n A B i k) (fun p=>A.length - p.1) (0,Rb n A B 0 0) ⟨by omega,⟨0,0,pa,pb,rfl⟩,fun i k hi=>absurd hi (Nat.not_lt_zero i)⟩
  (Xa rfl (by simp [Xh,X5,I]) (by simp [Xi]) (by simp [vC,qC,Bd,X4])) ?_
 rintro ⟨i,g⟩ ⟨hi,hat,hle⟩ next
 simp only at hi hat hle
 have w1:=wj i (by omega)
 by_cases hi2:i<A.length
 rotate_left
 ·obtain rfl:i=A.length:=by omega
  rw [← gS n A B pa pb g hat (fun i k h1 h2=>hle i k h1 h2)] at hR
  refine X0 1000 ?_
  simp only [X5,Bd,Int.lt_irrefl,Nat.lt_irrefl,↓X2,wA,seval,wE]
  exact JE rfl Qc rfl rfl rfl sR (hR.trans rfl)
 have g1:((i:Int)<A.length)=True:=eq_true (by omega)
 have g2:(i<A.length)=True:=eq_true hi2
 have g3:(i*8+8≤A.length*8)=True:=eq_true (by omega)
 refine X0 1000 ?_
 simp only [X5,w1,g1,g2,↓X2,wA,seval,wE]
 refine Xe (fun p:Nat×Rat=>⟨11,[],[.any,Xt A,Xt B,.ref 0 0 0,.any,.any,.ref 1 0 0,.ref 2 0 0,I i,I p.1,.any],[],[.con 0 8 (Xp (vC n)),.row 0 4 (Xp Bd),.row 0 4 (Xp (qC p.2))]⟩) (fun p=>p.1≤B.length∧(∃ i k,i<A.length∧k<B.length∧p.2=Rb n A B i k)∧(∀ i' k,i'<i→k<B.length→p.2≤Rb n A B i' k)∧∀ k,k<p.1→p.2≤Rb n A B i k) (fun p=>B.length - p.1) (0,g) ⟨by omega,hat,hle,fun k hk=>absurd hk (Nat.not_lt_zero k)⟩
  (Xa rfl (by simp [Xh,X5,I]) (by simp [Xi]) (by simp [vC,qC,X4])) ?_
 rintro ⟨k,q⟩ ⟨hk1,qat,qle,qrow⟩ nextk
 simp only at hk1 qat qle qrow
 have u1:=wj k (by omega)
 by_cases hk2:k<B.length
 rotate_left
 ·obtain rfl:k=B.length:=by omega
  refine X0 1000 ?_
  simp only [X5,w1,Int.lt_irrefl,Nat.lt_irrefl,↓X2,wA,seval,wE]
  refine next (i+1,q) _ ⟨by simp only; omega,qat,fun i' k' h1 h2=>?_⟩ (by simp only; omega) (Xa rfl (by simp [Xh,X5,I]) (by simp [Xi]) (by simp [vC,qC,X4]))
  by_cases e:i'=i
  ·rw [e]; exact qrow k' h2
  ·exact qle i' k' (by simp only at h1; omega) h2
 have h1:((k:Int)<B.length)=True:=eq_true (by omega)
 have h2:(k<B.length)=True:=eq_true hk2
 have h3:(k*8+8≤B.length*8)=True:=eq_true (by omega)
 have x1:=vF A i
 have x2:=vF B k
 obtain ⟨s1,s2⟩:=step i k hi2 hk2
 have hd:=Nd n A B c ha hb i k
 have hq:qb q≤2*(vb n+2*c+1)+1:=by
  obtain ⟨a,b,_,_,e⟩:=qat
  rw [e]; exact Nd n A B c ha hb a b
 have s3:=Jg (Rb n A B i k) q (by unfold rm; omega) (by unfold rm; omega)
 have hnew:(∃ i k,i<A.length∧k<B.length∧Rb n A B i k=Rb n A B i k):=⟨i,k,hi2,hk2,rfl⟩
 obtain ⟨D,hD⟩:∃ D,D=Rb n A B i k:=⟨_,rfl⟩
 rw [← hD] at s2 s3
 refine X0 1000 ?_
 simp only [X5,w1,u1,g1,g2,g3,h1,h2,h3,x1,x2,Int.toNat_natCast,↓X2,wA,seval,wE]
 refine X1 s1 rfl ?_
 simp only [X5,w1,u1,g1,g2,g3,h1,h2,h3,x1,x2,Int.toNat_natCast,↓X2,wA,seval,wE]
 refine X1 s2 rfl ?_
 simp only [X5,w1,u1,g1,g2,g3,h1,h2,h3,x1,x2,Int.toNat_natCast,↓X2,wA,seval,wE]
 refine X1 s3 rfl ?_
 by_cases hc:D<q
 ·have f:(XV D q<0)=True:=eq_true ((Kg _ _).2 hc)
  simp only [f,u1,↓X2,wA,seval,wE]
  refine nextk (k+1,D) _ ⟨by simp only; omega,⟨i,k,hi2,hk2,hD⟩,fun i' k' a b=>Rat.le_trans (Rat.le_of_lt hc) (qle i' k' a b),fun k' a=>?_⟩ (by simp only; omega) (Xz (m:=3) (Nat.zero_le _) rfl (by simp [X5,Xh,I]) (by simp [Xi]) (by simp [vC,qC,X4]) (by simp [Xy,bA,bB]) (by simp [Xy]) (by simp [bn,bq,bz]))
  by_cases e:k'=k
  ·rw [e,← hD]; exact Rat.le_refl
  ·exact Rat.le_trans (Rat.le_of_lt hc) (qrow k' (by simp only at a; omega))
 ·have f:(XV D q<0)=False:=eq_false fun hh=>hc ((Kg _ _).1 hh)
  simp only [f,u1,↓X2,wA,seval,wE]
  refine nextk (k+1,q) _ ⟨by simp only; omega,qat,qle,fun k' a=>?_⟩ (by simp only; omega) (Xz (m:=3) (Nat.zero_le _) rfl (by simp [X5,Xh,I]) (by simp [Xi]) (by simp [vC,qC,X4]) (by simp [Xy,bA,bB]) (by simp [Xy]) (by simp [bn,bq,bz]))
  by_cases e:k'=k
  ·rw [e,← hD]; exact Rat.not_lt.1 hc
  ·exact qrow k' (by simp only at a; omega)
theorem MV (n:V2) (A B:List V2) (e:Rat) (k:Nat) (ha:XW A k) (hb:XW B k) (hk:k≤10000) (la:A.length<1000000) (lb:B.length<1000000) (pa:0<A.length) (pb:0<B.length) (hn:vb n≤10000) (he:qb e≤10000):Fn Tryz.prog 266 [vA n,Xt A,Xt B,qA e] (.bool (decide (EK n A B e))):=by
 have c1:=ol n A B k ha hb hk la lb pa pb hn
 have c2:=jo n e (by omega) (by omega)
 have q1:=Nm n A B k ha hb
 have q2:=Iy n
 have q3:=QE e (KA n)
 have c3:=Jg (FY n A B) (e*KA n) (by unfold rm; omega) (by unfold rm; omega)
 have hd:decide (EK n A B e)=decide (0≤XV (FY n A B) (e*KA n)):=decide_eq_decide.2 (D8 _ _).symm
 rw [hd]
 refine Fq Tryz.call266 Tryz.func266 9 [] [] [] (by simp [Xn,Xf,Xc]) (X0 1000 ?_)
 simp only [AS.start,X5,↓X2,wA,seval,wE]
 refine X1 c1 rfl ?_
 simp only [↓X2,wA,seval,wE]
 refine X1 c2 rfl ?_
 simp only [↓X2,wA,seval,wE]
 refine X1 c3 rfl ?_
 simp only [↓X2,wA,seval,wE]
 exact Xr rfl rfl (X3 _) rfl
end
end Go.Ab.N
