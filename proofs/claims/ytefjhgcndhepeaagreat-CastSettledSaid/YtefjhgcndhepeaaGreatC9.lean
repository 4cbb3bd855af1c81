/- Contracts of functions of these chapters, for every argument that fits, and what they need. -/
import Derived.Test.YtefjhgcndhepeaaGreatC8
set_option linter.unusedSimpArgs false
set_option linter.unusedVariables false
open Nat renaming reducePow → Y1, reduceLT → Y2, reduceLeDiff → Y3, reduceEqDiff → Y4, reduceAdd → Y5, reduceMul → Y6, reduceSub → Y7, reduceBEq → Y8, reduceDiv → Y9, reduceMod → YA
namespace Go.Ab.N
open Go Go.RowKit Go.Proofs
noncomputable section
set_option maxRecDepth 10000
set_option maxHeartbeats 4000000
open Classical
theorem Pt (a b:PV) (f:FV) (hf:Db a.rim.length b.rim.length f) (ha:a.even) (hb:b.even) (ht:vb f.turn≤vm):Fn Tryz.prog 150 [Qd a,Qd b,Ke f] (.bool (decide (MD a b f))):=by
 obtain ⟨⟨s1,s2⟩,⟨s3,s4⟩,s5,s6,s7⟩:=hf
 obtain ⟨N,hN⟩:∃ N:Nat,f.M=N:=⟨f.M.toNat,by omega⟩
 have la:=ha.rim; have lb:=hb.rim
 obtain ⟨V,hV⟩:∃ V,V=decide (MD a b f):=⟨_,rfl⟩
 rw [← hV]
 have fin:∀ {s:AS} {v:Bool},s.get 6=.bool v→v=V→RetOk (Qt Tryz.prog Tryz.f150 [4,50000003,50000004,50000005] [] (.bool V)) s:=fun h e=>Xs rfl h (X3 _) (by rw [e])
 have ba:XI 3 (.con 0 25 (Xq (XD a)))=True:=eq_true (fun j _=>X6 (Xd (XF a) j))
 have bb:XI 3 (.con 0 25 (Xq (XD b)))=True:=eq_true (fun j _=>X6 (Xd (XF b) j))
 have bf:XI 3 (.con 0 29 (Xq (Qc f)))=True:=eq_true (fun j _=>X6 (Xd (Qj f) j))
 refine Fq Tryz.call150 Tryz.func150 10 [] [4,50000003,50000004,50000005] [] (by simp [Xu,XE]) (X0 1000 ?_)
 simp only [AS.start,Qd,XD,Ke,Qc,↓X2,wA,seval,wE]
 refine Xe (fun k:Nat=>⟨10,[],[.any,.any,.any,.ref 0 0 0,.ref 1 0 0,.ref 2 0 0,.bool false,I k,.any,.any],[],[.con 0 25 (Xq (XD a)),.con 0 25 (Xq (XD b)),.con 0 29 (Xq (Qc f))]⟩) (fun k=>k≤N∧∀ j,j<k→¬ ((Ex a b f j).2=true∧(Ex a b f j).1=f.turn)) (fun k=>N - k) 0 ⟨by omega,by omega⟩
  (Sub.trans (Qr 0 rfl) (Sub.trans (Qr 1 rfl) (Sub.trans (Qr 2 rfl) (Xa rfl (by simp [Xh,I]) (by simp [Xi]) (by simp [XD,Qc,Xg,Xn,X4,I]))))) ?_
 rintro k ⟨hk,hok⟩ next
 have w1:=wj k (by omega)
 by_cases hk2:k<N
 rotate_left
 ·have f1:((k:Int)<f.M)=False:=eq_false (by omega)
  refine X0 1000 ?_
  simp only [XD,Qc,f1,↓X2,wA,seval,wE]
  exact fin rfl (by rw [hV,decide_eq_false]; rintro ⟨j,hj,h1,h2⟩; exact hok j (by omega) ⟨h1,h2⟩)
 have f1:((k:Int)<f.M)=True:=eq_true (by omega)
 have wx:IntKind.i64.wrap (f.EA+(k:Int))=f.EA+(k:Int):=by rw [IntKind.wrap_i64]; omega
 have wy:IntKind.i64.wrap (f.EB - (k:Int))=f.EB - (k:Int):=by rw [IntKind.wrap_i64]; omega
 have c1:=Jt (f.EA+(k:Int)) a.rim.length (by omega) (by omega) (by omega)
 have c2:=Jt (f.EB - (k:Int)) b.rim.length (by omega) (by omega) (by omega)
 rw [Mn _ _ _ (by omega)] at c1
 rw [Tb _ _ _ (by omega)] at c2
 have ca:=UJ a b (xK a.rim.length f k) (yK b.rim.length f k) la lb ha.near hb.near
 have hsm:=CI ha.near hb.near (xK a.rim.length f k) (yK b.rim.length f k)
 rw [show J7 a.rim b.rim (xK a.rim.length f k) (yK b.rim.length f k)=Ex a b f k from rfl] at ca hsm
 have ct:=LN (Ex a b f k).1 f.turn (by unfold vm; omega) ht
 have nx:=next (k+1)
 have hyes:(Ex a b f k).2=true→(Ex a b f k).1=f.turn→true=V:=fun h1 h2=>by rw [hV,decide_eq_true]; exact ⟨k,by omega,h1,h2⟩
 have hno:¬ ((Ex a b f k).2=true∧(Ex a b f k).1=f.turn)→∀ j,j<k+1→¬ ((Ex a b f j).2=true∧(Ex a b f j).1=f.turn):=fun h=>JJ.2 ⟨hok,h⟩
 generalize Ex a b f k=X at *
 obtain ⟨t,ok⟩:=X
 refine X0 1000 ?_
 simp only [XD,Qc,Xg,w1,wx,wy,f1,Int.toNat_natCast,↓X2,wA,seval,wE]
 refine X1 c1 rfl ?_
 simp only [XD,Qc,Xg,w1,wx,wy,f1,Int.toNat_natCast,↓X2,wA,seval,wE]
 refine X1 c2 rfl ?_
 simp only [XD,Qc,Xg,Xn,X4,w1,wx,wy,f1,Int.toNat_natCast,↓X2,wA,seval,wE]
 refine X1 ca rfl ?_
 cases ok with
 | false =>
  simp only [XD,Qc,Xg,Xn,X4,w1,↓X2,wA,seval,wE]
  exact nx _ ⟨by omega,hno fun h=>Bool.false_ne_true h.1⟩ (by omega) (Xz (m:=3) (Nat.zero_le _) rfl (by simp [Xh,I]) (by simp [Xi]) (by simp [XD,Qc,Xg,Xn,X4,I]) (by simp [Xy]) (by simp [Xy]) (by simp [ba,bb,bf]))
 | true =>
  simp only [XD,Qc,Xg,Xn,X4,w1,↓X2,wA,seval,wE]
  refine X1 ct rfl ?_
  by_cases he:t=f.turn
  ·rw [decide_eq_true (p:=(t,true).1=f.turn) he]
   simp only [↓X2,wA,seval,wE]
   exact fin rfl (hyes rfl he)
  ·rw [decide_eq_false (p:=(t,true).1=f.turn) he]
   simp only [w1,↓X2,wA,seval,wE]
   exact nx _ ⟨by omega,hno fun h=>he h.2⟩ (by omega) (Xz (m:=3) (Nat.zero_le _) rfl (by simp [Xh,I]) (by simp [Xi]) (by simp [XD,Qc,Xg,Xn,X4,I]) (by simp [Xy]) (by simp [Xy]) (by simp [ba,bb,bf]))
noncomputable def cH (x y:Rat):Rat:=if x<y then y else x
noncomputable def cG (x y:Rat):Rat:=if y<x then y else x
theorem rQ (x y:Rat) (k:Nat) (hx:qb x≤k) (hy:qb y≤k):qb (cH x y)≤k:=by unfold cH; split <;> assumption
theorem rP (x y:Rat) (k:Nat) (hx:qb x≤k) (hy:qb y≤k):qb (cG x y)≤k:=by unfold cG; split <;> assumption
theorem N0 (x y:Rat) (hx:qb x≤rm) (hy:qb y≤rm):Fn Tryz.prog 125 [qA x,qA y] (qA (cH x y)):=by
 have c1:=JH x y hx hy
 obtain ⟨R,hR⟩:∃ R,R=qA (cH x y):=⟨_,rfl⟩
 have sR:Settled R:=hR▸Xc _
 rw [← hR]
 refine Fq Tryz.call125 Tryz.func125 5 [] [] [] (by simp [wS]) (X0 1000 ?_); simp (config:={ maxSteps:=2000000 }) only [AS.start,↓X2,wA,seval,wE]
 refine X1 c1 rfl ?_
 by_cases h:x<y
 ·have f1:(XX x y<0)=True:=eq_true ((Kg x y).2 h)
  simp only [f1,↓X2,wA,seval,wE]
  have e:cH x y=y:=if_pos h
  rw [e] at hR
  exact JD rfl Qa rfl rfl rfl sR (hR.trans rfl)
 ·have f1:(XX x y<0)=False:=eq_false fun hh=>h ((Kg x y).1 hh)
  simp only [f1,↓X2,wA,seval,wE]
  have e:cH x y=x:=if_neg h
  rw [e] at hR
  exact JD rfl Qa rfl rfl rfl sR (hR.trans rfl)
theorem M6 (x y:Rat) (hx:qb x≤rm) (hy:qb y≤rm):Fn Tryz.prog 126 [qA x,qA y] (qA (cG x y)):=by
 have c1:=JH x y hx hy
 obtain ⟨R,hR⟩:∃ R,R=qA (cG x y):=⟨_,rfl⟩
 have sR:Settled R:=hR▸Xc _
 rw [← hR]
 refine Fq Tryz.call126 Tryz.func126 5 [] [] [] (by simp [wS]) (X0 1000 ?_); simp (config:={ maxSteps:=2000000 }) only [AS.start,↓X2,wA,seval,wE]
 refine X1 c1 rfl ?_
 by_cases h:y<x
 ·have f1:(0<XX x y)=True:=eq_true ((JQ x y).2 h)
  simp only [f1,↓X2,wA,seval,wE]
  have e:cG x y=y:=if_pos h
  rw [e] at hR
  exact JD rfl Qa rfl rfl rfl sR (hR.trans rfl)
 ·have f1:(0<XX x y)=False:=eq_false fun hh=>h ((JQ x y).1 hh)
  simp only [f1,↓X2,wA,seval,wE]
  have e:cG x y=x:=if_neg h
  rw [e] at hR
  exact JD rfl Qa rfl rfl rfl sR (hR.trans rfl)
noncomputable def uo (g:Nat→Rat):Nat→Rat
 | 0=>g 0
 | k+1=>cH (uo g k) (g (k+1))
noncomputable def un (g:Nat→Rat):Nat→Rat
 | 0=>g 0
 | k+1=>cG (un g k) (g (k+1))
theorem LJ (g:Nat→Rat) (c:Nat) (h:∀ k,qb (g k)≤c):∀ n,qb (uo g n)≤c
 | 0=>h 0
 | n+1=>rQ _ _ _ (LJ g c h n) (h _)
theorem LI (g:Nat→Rat) (c:Nat) (h:∀ k,qb (g k)≤c):∀ n,qb (un g n)≤c
 | 0=>h 0
 | n+1=>rP _ _ _ (LI g c h n) (h _)
def Ae (a b:List (Int×Int)) (f:FV) (k:Nat):V2 :=
 (JA (a.getD (xK a.length f k) (0,0))).sub (M0 f.turn (JA (b.getD ((f.EB+1 - k) % b.length).toNat (0,0))))
noncomputable def BB (a b:List (Int×Int)) (f:FV) (k:Nat):V2:=⟨uo (fun j=>(Ae a b f j).x) k,uo (fun j=>(Ae a b f j).y) k⟩
noncomputable def Bz (a b:List (Int×Int)) (f:FV) (k:Nat):V2:=⟨un (fun j=>(Ae a b f j).x) k,un (fun j=>(Ae a b f j).y) k⟩
noncomputable def XV (a b:List (Int×Int)) (f:FV) (e:Rat):V2×V2×Bool :=
 if Db a.length b.length f∧Fp f.turn then
  let lo:=(BB a b f f.M.toNat).sub ⟨e,e⟩
  let hi:=(Bz a b f f.M.toNat).add ⟨e,e⟩
  if hi.x<lo.x∨hi.y<lo.y then (v0,v0,false) else (lo,hi,true)
 else (v0,v0,false)
theorem KA {R:List (Int×Int)} (h:QY R) (i:Nat):vb (JA (R.getD i (0,0)))≤3:=by
 have:=DI h i
 have q1:=ZC (R.getD i (0,0)).1 3 (by omega) (QO ⟨by omega,by omega⟩)
 have q2:=ZC (R.getD i (0,0)).2 3 (by omega) (QO ⟨by omega,by omega⟩)
 unfold vb JA
 simp only
 omega
theorem Bj {a b:List (Int×Int)} (ha:QY a) (hb:QY b) (f:FV) (ht:vb f.turn≤1000) (k:Nat):vb (Ae a b f k)≤3000:=by
 have h1:=KA ha (xK a.length f k)
 have h2:=KA hb ((f.EB+1 - k) % b.length).toNat
 unfold Ae
 have h3:=Dd f.turn (JA (b.getD ((f.EB+1 - k) % b.length).toNat (0,0)))
 have h4:=Kd (JA (a.getD (xK a.length f k) (0,0))) (M0 f.turn (JA (b.getD ((f.EB+1 - k) % b.length).toNat (0,0))))
 omega
theorem Cu {a b:List (Int×Int)} (ha:QY a) (hb:QY b) (f:FV) (ht:vb f.turn≤1000) (k:Nat):vb (BB a b f k)≤3000:=by
 have h1:=LJ (fun j=>(Ae a b f j).x) 3000 (fun j=>Nat.le_trans (QB _) (Bj ha hb f ht j)) k
 have h2:=LJ (fun j=>(Ae a b f j).y) 3000 (fun j=>Nat.le_trans (Qu _) (Bj ha hb f ht j)) k
 exact Nat.max_le.2 ⟨h1,h2⟩
theorem Cs {a b:List (Int×Int)} (ha:QY a) (hb:QY b) (f:FV) (ht:vb f.turn≤1000) (k:Nat):vb (Bz a b f k)≤3000:=by
 have h1:=LI (fun j=>(Ae a b f j).x) 3000 (fun j=>Nat.le_trans (QB _) (Bj ha hb f ht j)) k
 have h2:=LI (fun j=>(Ae a b f j).y) 3000 (fun j=>Nat.le_trans (Qu _) (Bj ha hb f ht j)) k
 exact Nat.max_le.2 ⟨h1,h2⟩
theorem Iv {P:Program} {fn:Func} {str hcs:List Nat} {a b c x y z:AV} {s:AS} {r1 r2 r3:ResultVar} (hr:fn.results=#[r1,r2,r3]) (h1:Qp P s r1=some x) (h2:Qp P s r2=some y) (h3:Qp P s r3=some z) (g1:JS s.h x a) (g2:JS s.h y b) (g3:JS s.h z c) :
  RetOk (Qt P fn str hcs (.tup [a,b,c])) s :=
 ⟨.tup [x,y,z],by simp [KT,Lf,CR,hr,QZ,A3,h1,h2,h3],Zs ⟨g1,g2,g3,trivial⟩⟩
def XM:List AV:=[.bool false,.sl 0 0 (fun _=>.any) true,.bool false,.sl 0 0 (fun _=>.any) true,.bool false,.sl 0 0 (fun _=>.any) true,.bool false,.sl 0 0 (fun _=>.any) true]
noncomputable def au (a b:List (Int×Int)) (f:FV):Nat→List AV
 | 0=>XM
 | k+1=>vC (BB a b f k)
noncomputable def aj (a b:List (Int×Int)) (f:FV):Nat→List AV
 | 0=>XM
 | k+1=>vC (Bz a b f k)
theorem KW (a b:List (Int×Int)) (f:FV):∀ k,∀ x∈au a b f k,Settled x
 | 0=>fun x h=>by
  simp only [au,XM,List.mem_cons,List.not_mem_nil,or_false] at h
  rcases h with rfl | rfl | rfl | rfl | rfl | rfl | rfl | rfl <;> first | exact X3 _ | exact J0 (fun j hj=>absurd hj (Nat.not_lt_zero j))
 | k+1=>by simp [au,vC,X7,X3]
theorem SC (a b:List (Int×Int)) (f:FV):∀ k,∀ x∈aj a b f k,Settled x
 | 0=>fun x h=>by
  simp only [aj,XM,List.mem_cons,List.not_mem_nil,or_false] at h
  rcases h with rfl | rfl | rfl | rfl | rfl | rfl | rfl | rfl <;> first | exact X3 _ | exact J0 (fun j hj=>absurd hj (Nat.not_lt_zero j))
 | k+1=>by simp [aj,vC,X7,X3]
def yL (m:Nat) (f:FV) (k:Nat):Nat:=((f.EB+1 - k) % m).toNat
theorem jO (m:Nat) (f:FV) (k:Nat) (h:0<m):(f.EB+1 - k) % (m:Int)=(yL m f k:Int):=by
 have:=Int.emod_nonneg (f.EB+1 - k) (show (m:Int)≠0 by omega)
 unfold yL; omega
theorem pH (m:Nat) (f:FV) (k:Nat) (h:0<m):yL m f k<m:=by
 have:=jO m f k h
 have:=Int.emod_lt_of_pos (f.EB+1 - k) (show (0:Int)<m by omega)
 omega
theorem IE (a b:PV) (f:FV) (ha:a.even) (hb:b.even) (ht:vb f.turn≤1000) {ta tb:Rat} (ea:a.tol=RQ.of ta) (eb:b.tol=RQ.of tb) (qa:qb ta≤1000) (q2:qb tb≤1000) :
  Fn Tryz.prog 46 [Qd a,Qd b,Ke f] (.tup [vA (XV a.rim b.rim f (ta+tb)).1,vA (XV a.rim b.rim f (ta+tb)).2.1,.bool (XV a.rim b.rim f (ta+tb)).2.2]):=by
 have la:=ha.rim; have lb:=hb.rim
 obtain ⟨R,hR⟩:∃ R,R=XV a.rim b.rim f (ta+tb):=⟨_,rfl⟩
 rw [← hR]
 have zret:∀ {s:AS} {i j v w:Nat},s.get 6=.ref i v 0→s.h[i]?=some (.row v 8 (Xq Zd))→s.get 7=.ref j w 0→s.h[j]?=some (.row w 8 (Xq Zd))→s.get 8=.bool false→R=(v0,v0,false)→RetOk (Qt Tryz.prog Tryz.f46 [9,100000005,11,120000015,18,190000012,190000013] [] (.tup [vA R.1,vA R.2.1,.bool R.2.2])) s:=fun h1 h2 h3 h4 h5 h6=>by
  subst h6
  exact Iv rfl (Xp Jn h1 h2 rfl) (Xp Jn h3 h4 rfl) (by unfold Qp; rfl) (Xr (Xm _) (XP Zb)) (Xr (Xm _) (XP Zb)) (by rw [h5]; exact (X3 _).sees _)
 have cs:=Hl a b f la lb
 have ct:=iJ f.turn (by unfold vm; omega)
 refine Fq Tryz.call46 Tryz.func46 16 [40,41] [9,100000005,11,120000015,18,190000012,190000013] [] (by simp [Xu,XE]) (X0 1000 ?_)
 simp only [AS.start,Qd,XD,Ke,Qc,↓X2,wA,↓reduceIte,reduceIte,reduceCtorEq,Y1,Y2,Y3,Y4,Y5,Y6,Y7,Y8,Y9,YA,wE]
 refine X1 cs rfl ?_
 by_cases hf:Db a.rim.length b.rim.length f
 rotate_left
 ·rw [decide_eq_false hf]
  simp only [↓X2,wA,↓reduceIte,reduceIte,reduceCtorEq,Y1,Y2,Y3,Y4,Y5,Y6,Y7,Y8,Y9,YA,wE]
  exact zret rfl rfl rfl rfl rfl (by rw [hR]; unfold XV; rw [if_neg fun h=>hf h.1])
 rw [decide_eq_true hf]
 simp only [↓X2,wA,↓reduceIte,reduceIte,reduceCtorEq,Y1,Y2,Y3,Y4,Y5,Y6,Y7,Y8,Y9,YA,wE]
 refine X1 ct rfl ?_
 by_cases hto:Fp f.turn
 rotate_left
 ·rw [decide_eq_false hto]
  simp only [↓X2,wA,↓reduceIte,reduceIte,reduceCtorEq,Y1,Y2,Y3,Y4,Y5,Y6,Y7,Y8,Y9,YA,wE]
  exact zret rfl rfl rfl rfl rfl (by rw [hR]; unfold XV; rw [if_neg fun h=>hto h.2])
 rw [decide_eq_true hto]
 have hRe:R=if ((Bz a.rim b.rim f f.M.toNat).add ⟨ta+tb,ta+tb⟩).x<((BB a.rim b.rim f f.M.toNat).sub ⟨ta+tb,ta+tb⟩).x∨((Bz a.rim b.rim f f.M.toNat).add ⟨ta+tb,ta+tb⟩).y<((BB a.rim b.rim f f.M.toNat).sub ⟨ta+tb,ta+tb⟩).y then (v0,v0,false) else ((BB a.rim b.rim f f.M.toNat).sub ⟨ta+tb,ta+tb⟩,(Bz a.rim b.rim f f.M.toNat).add ⟨ta+tb,ta+tb⟩,true):=by
  rw [hR]; unfold XV; rw [if_pos ⟨hf,hto⟩]
 clear hR
 obtain ⟨⟨s1,s2⟩,⟨s3,s4⟩,s5,s6,s7⟩:=hf
 obtain ⟨N,hN⟩:∃ N:Nat,f.M=N:=⟨f.M.toNat,by omega⟩
 have hNt:f.M.toNat=N:=by rw [hN]; rfl
 rw [hNt] at hRe
 have r1:=OR a la (AP ha.near)
 have r2:=OR b lb (AP hb.near)
 have hla:(XB a.rim).length=a.rim.length:=by simp [XB]
 have hlb:(XB b.rim).length=b.rim.length:=by simp [XB]
 have c3:Fn Tryz.prog 70 [a.tol.A,b.tol.A] (qA (ta+tb)):=by rw [ea,eb]; exact AG ta tb (by unfold rm; omega) (by unfold rm; omega)
 have qe:=Jx ta tb
 simp only [↓X2,wA,↓reduceIte,reduceIte,reduceCtorEq,Y1,Y2,Y3,Y4,Y5,Y6,Y7,Y8,Y9,YA,wE]
 refine X1 r1 rfl ?_
 simp only [↓X2,wA,↓reduceIte,reduceIte,reduceCtorEq,Y1,Y2,Y3,Y4,Y5,Y6,Y7,Y8,Y9,YA,wE]
 refine X1 r2 rfl ?_
 simp only [↓X2,wA,↓reduceIte,reduceIte,reduceCtorEq,Y1,Y2,Y3,Y4,Y5,Y6,Y7,Y8,Y9,YA,wE]
 refine X1 c3 rfl ?_
 have wM:IntKind.i64.wrap (f.M+1)=((N+1:Nat):Int):=by rw [IntKind.wrap_i64]; omega
 simp only [wM,↓X2,wA,↓reduceIte,reduceIte,reduceCtorEq,Y1,Y2,Y3,Y4,Y5,Y6,Y7,Y8,Y9,YA,wE]
 have ba:XI 8 (.row 0 25 (Xq (XD a)))=True:=eq_true (XG (XF a))
 have bb:XI 8 (.row 0 25 (Xq (XD b)))=True:=eq_true (XG (XF b))
 have bf:XI 8 (.con 0 29 (Xq (Qc f)))=True:=eq_true (fun j _=>X6 (Xd (Qj f) j))
 have bz:XI 8 (.row 0 8 (Xq XM))=True:=eq_true (XG (KW a.rim b.rim f 0))
 have be:XI 8 (.row 0 4 (Xq [.bool (decide ((ta+tb).num<0)),X9 (Xb (ta+tb).num.natAbs),.bool false,X9 (Xb (qd (ta+tb)))]))=True:=eq_true (XG (by simp [X7,X3]))
 have bl:∀ k,XI 8 (.row 0 8 (Xq (au a.rim b.rim f k)))=True:=fun k=>eq_true (XG (KW a.rim b.rim f k))
 have bh:∀ k,XI 8 (.row 0 8 (Xq (aj a.rim b.rim f k)))=True:=fun k=>eq_true (XG (SC a.rim b.rim f k))
 have bx:Jq 8 (Xt (XB a.rim))=True:=eq_true (X6 (Xf _))
 have by':Jq 8 (Xt (XB b.rim))=True:=eq_true (X6 (Xf _))
 refine Xe (fun k:Nat=>⟨16,[40,41],[.any,.any,.any,.ref 0 0 0,.ref 1 0 0,.ref 2 0 0,.ref 3 0 0,.ref 4 0 0,.bool false,Xt (XB a.rim),Xt (XB b.rim),.ref 5 0 0,.ref 6 0 0,.ref 7 0 0,.any,.any],[(40,I ((N+1:Nat):Int)),(41,I k)],[.row 0 25 (Xq (XD a)),.row 0 25 (Xq (XD b)),.con 0 29 (Xq (Qc f)),.row 0 8 (Xq XM),.row 0 8 (Xq XM),.row 0 4 (Xq [.bool (decide ((ta+tb).num<0)),X9 (Xb (ta+tb).num.natAbs),.bool false,X9 (Xb (qd (ta+tb)))]),.row 0 8 (Xq (au a.rim b.rim f k)),.row 0 8 (Xq (aj a.rim b.rim f k))]⟩) (fun k=>k≤N+1) (fun k=>N+1 - k) 0 (by omega)
  (Sub.trans (Qr 2 rfl) (Xa rfl (by simp [Xh,X5,I]) (by simp [Xi,Xv,I]) (by simp [XD,Qc,XM,au,aj,Xg,Xn,X4,I]))) ?_
 intro k hk next
 have w1:=wj k (by omega)
 by_cases hk2:k<N+1
 ·have nx:=next (k+1)
  have fk:((k:Int)<((N+1:Nat):Int))=True:=eq_true (by omega)
  have wx:IntKind.i64.wrap (f.EA+(k:Int))=f.EA+(k:Int):=by rw [IntKind.wrap_i64]; omega
  have wy1:IntKind.i64.wrap (f.EB+1)=f.EB+1:=by rw [IntKind.wrap_i64]; omega
  have wy:IntKind.i64.wrap (f.EB+1 - (k:Int))=f.EB+1 - (k:Int):=by rw [IntKind.wrap_i64]; omega
  have c1:=Am (f.EA+(k:Int)) a.rim.length (by omega) (by omega) (by omega)
  have c2:=Am (f.EB+1 - (k:Int)) b.rim.length (by omega) (by omega) (by omega)
  rw [Mn _ _ _ (by omega)] at c1
  rw [jO _ _ _ (by omega)] at c2
  have hX:=Wx a.rim.length f k (by omega)
  have hY:=pH b.rim.length f k (by omega)
  have vx:=KA ha.near (xK a.rim.length f k)
  have vy:=KA hb.near (yL b.rim.length f k)
  have vr:=Dd f.turn (JA (b.rim.getD (yL b.rim.length f k) (0,0)))
  have c3:=LG f.turn (JA (b.rim.getD (yL b.rim.length f k) (0,0))) (by unfold vm; omega) (by unfold vm; omega)
  have c4:=CX (JA (a.rim.getD (xK a.rim.length f k) (0,0))) (M0 f.turn (JA (b.rim.getD (yL b.rim.length f k) (0,0)))) (by unfold rm; omega) (by unfold rm; omega)
  rw [show (JA (a.rim.getD (xK a.rim.length f k) (0,0))).sub (M0 f.turn (JA (b.rim.getD (yL b.rim.length f k) (0,0))))=Ae a.rim b.rim f k from rfl] at c4
  have hD:=Bj ha.near hb.near f ht
  have hL:=Cu ha.near hb.near f ht
  have hH:=Cs ha.near hb.near f ht
  have v1:=vF (XB a.rim) (xK a.rim.length f k)
  have v2:=vF (XB b.rim) (yL b.rim.length f k)
  rw [Gg] at v1 v2
  generalize xK a.rim.length f k=X at *
  generalize yL b.rim.length f k=Y at *
  generalize JA (a.rim.getD X (0,0))=PX at *
  generalize JA (b.rim.getD Y (0,0))=PY at *
  generalize M0 f.turn PY=RY at *
  have fX:((X:Int)<a.rim.length)=True:=eq_true (by omega)
  have fX':(X<a.rim.length)=True:=eq_true hX
  have fX8:(X*8+8≤a.rim.length*8)=True:=eq_true (by omega)
  have fY:((Y:Int)<b.rim.length)=True:=eq_true (by omega)
  have fY':(Y<b.rim.length)=True:=eq_true hY
  have fY8:(Y*8+8≤b.rim.length*8)=True:=eq_true (by omega)
  refine X0 1000 ?_
  simp only [Qc,X5,w1,wx,wy1,wy,fk,fX,fX',fX8,fY,fY',fY8,hla,hlb,v1,v2,Int.toNat_natCast,↓X2,wA,↓reduceIte,reduceIte,reduceCtorEq,Y1,Y2,Y3,Y4,Y5,Y6,Y7,Y8,Y9,YA,wE]
  refine X1 c1 rfl ?_
  simp only [Qc,X5,w1,wx,wy1,wy,fk,fX,fX',fX8,fY,fY',fY8,hla,hlb,v1,v2,Int.toNat_natCast,↓X2,wA,↓reduceIte,reduceIte,reduceCtorEq,Y1,Y2,Y3,Y4,Y5,Y6,Y7,Y8,Y9,YA,wE]
  refine X1 c2 rfl ?_
  simp only [Qc,X5,w1,wx,wy1,wy,fk,fX,fX',fX8,fY,fY',fY8,hla,hlb,v1,v2,Int.toNat_natCast,↓X2,wA,↓reduceIte,reduceIte,reduceCtorEq,Y1,Y2,Y3,Y4,Y5,Y6,Y7,Y8,Y9,YA,wE]
  refine X1 c3 rfl ?_
  simp only [Qc,X5,w1,wx,wy1,wy,fk,fX,fX',fX8,fY,fY',fY8,hla,hlb,v1,v2,Int.toNat_natCast,↓X2,wA,↓reduceIte,reduceIte,reduceCtorEq,Y1,Y2,Y3,Y4,Y5,Y6,Y7,Y8,Y9,YA,wE]
  refine X1 c4 rfl ?_
  match k,w1,fk,hk2,nx with
  | 0,w1,fk,hk2,nx =>
   have e0:((0:Nat):Int)=0:=rfl
   have hL0:au a.rim b.rim f 1=vC (Ae a.rim b.rim f 0):=rfl
   have hH0:aj a.rim b.rim f 1=vC (Ae a.rim b.rim f 0):=rfl
   simp only [Nat.zero_add,hL0,hH0] at nx
   generalize Ae a.rim b.rim f 0=D at *
   have w0:IntKind.i64.wrap (0+1)=1:=by decide
   have bD:XI 8 (.row 0 8 (Xq (vC D)))=True:=eq_true (XG (by simp [vC,X7,X3]))
   simp only [au,aj,XM,e0,w0,↓X2,wA,↓reduceIte,reduceIte,reduceCtorEq,Y1,Y2,Y3,Y4,Y5,Y6,Y7,Y8,Y9,YA,wE]
   exact nx _ (by omega) (by omega) (Xz (m:=8) (Nat.zero_le _) rfl (by simp [Xh,X5,hla,hlb,I]) (by simp [Xi,Xv,I]) (by simp [XD,Qc,XM,au,aj,vC,Xg,Xn,X4,I]) (by simp [Xy,bx,by']) (by simp [Xy]) (by simp [ba,bb,bf,bz,be,bD,bl,bh]))
  | j+1,w1,fk,hk2,nx =>
   have g0:(((j+1:Nat):Int)=0)=False:=eq_false (by omega)
   have g0':((j:Int)+1=0)=False:=eq_false (by omega)
   have g0'':(j+1=0)=False:=eq_false (by omega)
   have bD:=bl 0
   have hl1:au a.rim b.rim f (j+1)=vC (BB a.rim b.rim f j):=rfl
   have hh1:aj a.rim b.rim f (j+1)=vC (Bz a.rim b.rim f j):=rfl
   have hl2:au a.rim b.rim f (j+1+1)=vC (BB a.rim b.rim f (j+1)):=rfl
   have hh2:aj a.rim b.rim f (j+1+1)=vC (Bz a.rim b.rim f (j+1)):=rfl
   have hDj:=hD (j+1); have hLj:=hL j; have hHj:=hH j
   have k1:=N0 (BB a.rim b.rim f j).x (Ae a.rim b.rim f (j+1)).x (by have:=QB (BB a.rim b.rim f j); unfold rm; omega) (by have:=QB (Ae a.rim b.rim f (j+1)); unfold rm; omega)
   have k2:=N0 (BB a.rim b.rim f j).y (Ae a.rim b.rim f (j+1)).y (by have:=Qu (BB a.rim b.rim f j); unfold rm; omega) (by have:=Qu (Ae a.rim b.rim f (j+1)); unfold rm; omega)
   have k3:=M6 (Bz a.rim b.rim f j).x (Ae a.rim b.rim f (j+1)).x (by have:=QB (Bz a.rim b.rim f j); unfold rm; omega) (by have:=QB (Ae a.rim b.rim f (j+1)); unfold rm; omega)
   have k4:=M6 (Bz a.rim b.rim f j).y (Ae a.rim b.rim f (j+1)).y (by have:=Qu (Bz a.rim b.rim f j); unfold rm; omega) (by have:=Qu (Ae a.rim b.rim f (j+1)); unfold rm; omega)
   rw [show cH (BB a.rim b.rim f j).x (Ae a.rim b.rim f (j+1)).x=(BB a.rim b.rim f (j+1)).x from rfl] at k1
   rw [show cH (BB a.rim b.rim f j).y (Ae a.rim b.rim f (j+1)).y=(BB a.rim b.rim f (j+1)).y from rfl] at k2
   rw [show cG (Bz a.rim b.rim f j).x (Ae a.rim b.rim f (j+1)).x=(Bz a.rim b.rim f (j+1)).x from rfl] at k3
   rw [show cG (Bz a.rim b.rim f j).y (Ae a.rim b.rim f (j+1)).y=(Bz a.rim b.rim f (j+1)).y from rfl] at k4
   have bl2:=bl (j+1+1); have bh2:=bh (j+1+1)
   simp only [hl2,hh2] at nx bl2 bh2
   rw [hl1,hh1]
   clear hD hL hH
   generalize Ae a.rim b.rim f (j+1)=D at *
   generalize BB a.rim b.rim f (j+1)=L2 at *
   generalize Bz a.rim b.rim f (j+1)=H2 at *
   generalize BB a.rim b.rim f j=L1 at *
   generalize Bz a.rim b.rim f j=H1 at *
   simp only [g0,g0',g0'',w1,↓X2,wA,↓reduceIte,reduceIte,reduceCtorEq,Y1,Y2,Y3,Y4,Y5,Y6,Y7,Y8,Y9,YA,wE]
   refine X1 k1 rfl ?_
   simp only [g0,g0',g0'',w1,↓X2,wA,↓reduceIte,reduceIte,reduceCtorEq,Y1,Y2,Y3,Y4,Y5,Y6,Y7,Y8,Y9,YA,wE]
   refine X1 k3 rfl ?_
   simp only [g0,g0',g0'',w1,↓X2,wA,↓reduceIte,reduceIte,reduceCtorEq,Y1,Y2,Y3,Y4,Y5,Y6,Y7,Y8,Y9,YA,wE]
   refine X1 k2 rfl ?_
   simp only [g0,g0',g0'',w1,↓X2,wA,↓reduceIte,reduceIte,reduceCtorEq,Y1,Y2,Y3,Y4,Y5,Y6,Y7,Y8,Y9,YA,wE]
   refine X1 k4 rfl ?_
   simp only [g0,g0',g0'',w1,↓X2,wA,↓reduceIte,reduceIte,reduceCtorEq,Y1,Y2,Y3,Y4,Y5,Y6,Y7,Y8,Y9,YA,wE]
   exact nx _ (by omega) (by omega) (Xz (m:=8) (Nat.zero_le _) rfl (by simp [Xh,X5,hla,hlb,I]) (by simp [Xi,Xv,I]) (by simp [XD,Qc,XM,au,aj,vC,Xg,Xn,X4,I]) (by simp [Xy,bx,by']) (by simp [Xy]) (by simp [ba,bb,bf,bz,be,bD,bl2,bh2]))
 obtain rfl:k=N+1:=by omega
 have hL:=Cu ha.near hb.near f ht N
 have hH:=Cs ha.near hb.near f ht N
 have hl1:au a.rim b.rim f (N+1)=vC (BB a.rim b.rim f N):=rfl
 have hh1:aj a.rim b.rim f (N+1)=vC (Bz a.rim b.rim f N):=rfl
 rw [hl1,hh1]
 clear bl bh hl1 hh1
 generalize BB a.rim b.rim f N=LO at *
 generalize Bz a.rim b.rim f N=HI at *
 have m0:vb ⟨ta+tb,ta+tb⟩≤2001:=by unfold vb; simp only; omega
 have m1:=Kd LO ⟨ta+tb,ta+tb⟩
 have m2:=Ck HI ⟨ta+tb,ta+tb⟩
 have c1:=CX LO ⟨ta+tb,ta+tb⟩ (by unfold rm; omega) (by unfold rm; omega)
 have c2:=OG HI ⟨ta+tb,ta+tb⟩ (by unfold vm; omega) (by unfold vm; omega)
 generalize LO.sub ⟨ta+tb,ta+tb⟩=A at *
 generalize HI.add ⟨ta+tb,ta+tb⟩=B at *
 have:=QB A; have:=Qu A; have:=QB B; have:=Qu B
 have q1:=JH A.x B.x (by unfold rm; omega) (by unfold rm; omega)
 have q2:=JH A.y B.y (by unfold rm; omega) (by unfold rm; omega)
 refine X0 1000 ?_
 simp only [Qc,Int.lt_irrefl,Nat.lt_irrefl,↓X2,wA,↓reduceIte,reduceIte,reduceCtorEq,Y1,Y2,Y3,Y4,Y5,Y6,Y7,Y8,Y9,YA,wE]
 refine X1 c1 rfl ?_
 simp only [↓X2,wA,↓reduceIte,reduceIte,reduceCtorEq,Y1,Y2,Y3,Y4,Y5,Y6,Y7,Y8,Y9,YA,wE]
 refine X1 c2 rfl ?_
 simp only [↓X2,wA,↓reduceIte,reduceIte,reduceCtorEq,Y1,Y2,Y3,Y4,Y5,Y6,Y7,Y8,Y9,YA,wE]
 refine X1 q1 rfl ?_
 by_cases h1:B.x<A.x
 ·have f1:(0<XX A.x B.x)=True:=eq_true ((JQ _ _).2 h1)
  simp only [f1,XM,↓X2,wA,↓reduceIte,reduceIte,reduceCtorEq,Y1,Y2,Y3,Y4,Y5,Y6,Y7,Y8,Y9,YA,wE]
  exact zret rfl rfl rfl rfl rfl (by rw [hRe,if_pos (.inl h1)])
 have f1:(0<XX A.x B.x)=False:=eq_false fun h=>h1 ((JQ _ _).1 h)
 simp only [f1,↓X2,wA,↓reduceIte,reduceIte,reduceCtorEq,Y1,Y2,Y3,Y4,Y5,Y6,Y7,Y8,Y9,YA,wE]
 refine X1 q2 rfl ?_
 by_cases h2:B.y<A.y
 ·have f2:(0<XX A.y B.y)=True:=eq_true ((JQ _ _).2 h2)
  simp only [f1,f2,XM,↓X2,wA,↓reduceIte,reduceIte,reduceCtorEq,Y1,Y2,Y3,Y4,Y5,Y6,Y7,Y8,Y9,YA,wE]
  exact zret rfl rfl rfl rfl rfl (by rw [hRe,if_pos (.inr h2)])
 have f2:(0<XX A.y B.y)=False:=eq_false fun h=>h2 ((JQ _ _).1 h)
 simp only [f1,f2,XM,↓X2,wA,↓reduceIte,reduceIte,reduceCtorEq,Y1,Y2,Y3,Y4,Y5,Y6,Y7,Y8,Y9,YA,wE]
 rw [if_neg fun h=>h.elim h1 h2] at hRe
 subst hRe
 exact Iv rfl (Xp Jn rfl rfl rfl) (Xp Jn rfl rfl rfl) (by unfold Qp; rfl) (Xr (Xm _) (XP (XS (vC A)))) (Xr (Xm _) (XP (XS (vC B)))) ((X3 _).sees _)
def sM (e:Rat):List AV:=[.bool (decide (e.num<0)),X9 (Xb e.num.natAbs),.bool false,X9 (Xb (qd e))]
noncomputable def cF (a b:List (Int×Int)) (f:FV) (e:Rat):Nat→List AV
 | 0=>XM
 | k+1=>vC ((BB a b f k).sub ⟨e,e⟩)
noncomputable def cE (a b:List (Int×Int)) (f:FV) (e:Rat):Nat→List AV
 | 0=>XM
 | k+1=>vC ((Bz a b f k).add ⟨e,e⟩)
theorem SE (a b:List (Int×Int)) (f:FV) (e:Rat):∀ k,∀ x∈cF a b f e k,Settled x
 | 0=>KW a b f 0
 | k+1=>by simp [cF,vC,X7,X3]
theorem SD (a b:List (Int×Int)) (f:FV) (e:Rat):∀ k,∀ x∈cE a b f e k,Settled x
 | 0=>KW a b f 0
 | k+1=>by simp [cE,vC,X7,X3]
theorem il (x y e:Rat):(0<XX (y - e) (x - e)∧cH x y - e=y - e)∨(¬ 0<XX (y - e) (x - e)∧cH x y - e=x - e):=by
 unfold cH
 by_cases h:x<y
 ·exact .inl ⟨(JQ _ _).2 (by grind),by rw [if_pos h]⟩
 ·exact .inr ⟨fun hh=>h (by have:=(JQ _ _).1 hh; grind),by rw [if_neg h]⟩
theorem ic (x y e:Rat):(XX (y+e) (x+e)<0∧cG x y+e=y+e)∨(¬ XX (y+e) (x+e)<0∧cG x y+e=x+e):=by
 unfold cG
 by_cases h:y<x
 ·exact .inl ⟨(Kg _ _).2 (by grind),by rw [if_pos h]⟩
 ·exact .inr ⟨fun hh=>h (by have:=(Kg _ _).1 hh; grind),by rw [if_neg h]⟩
theorem NO (a b:PV) (f:FV) (ha:a.even) (hb:b.even) (ht:vb f.turn≤1000) {ta tb:Rat} (ea:a.tol=RQ.of ta) (eb:b.tol=RQ.of tb) (qa:qb ta≤1000) (q2:qb tb≤1000) :
  Fn Tryz.prog 47 [Qd a,Qd b,Ke f] (.tup [vA (XV a.rim b.rim f (ta+tb)).1,vA (XV a.rim b.rim f (ta+tb)).2.1,.bool (XV a.rim b.rim f (ta+tb)).2.2]):=by
 have la:=ha.rim; have lb:=hb.rim
 obtain ⟨R,hR⟩:∃ R,R=XV a.rim b.rim f (ta+tb):=⟨_,rfl⟩
 rw [← hR]
 have zret:∀ {s:AS} {i j v w:Nat},s.get 6=.ref i v 0→s.h[i]?=some (.row v 8 (Xq Zd))→s.get 7=.ref j w 0→s.h[j]?=some (.row w 8 (Xq Zd))→s.get 8=.bool false→R=(v0,v0,false)→RetOk (Qt Tryz.prog Tryz.f47 [11,120000005,24,250000013,250000014] [] (.tup [vA R.1,vA R.2.1,.bool R.2.2])) s:=fun h1 h2 h3 h4 h5 h6=>by
  subst h6
  exact Iv rfl (Xp Jn h1 h2 rfl) (Xp Jn h3 h4 rfl) (by unfold Qp; rfl) (Xr (Xm _) (XP Zb)) (Xr (Xm _) (XP Zb)) (by rw [h5]; exact (X3 _).sees _)
 have cs:=HF a b f la lb
 have ct:=Sj f.turn (by unfold vm; omega)
 refine Fq Tryz.call47 Tryz.func47 19 [] [11,120000005,24,250000013,250000014] [] (by simp [Xu,XE]) (X0 1000 ?_)
 simp only [AS.start,Qd,XD,Ke,Qc,↓X2,wA,↓reduceIte,reduceIte,reduceCtorEq,Y1,Y2,Y3,Y4,Y5,Y6,Y7,Y8,Y9,YA,wE]
 refine X1 cs rfl ?_
 by_cases hf:Db a.rim.length b.rim.length f
 rotate_left
 ·rw [decide_eq_false hf]
  simp only [↓X2,wA,↓reduceIte,reduceIte,reduceCtorEq,Y1,Y2,Y3,Y4,Y5,Y6,Y7,Y8,Y9,YA,wE]
  exact zret rfl rfl rfl rfl rfl (by rw [hR]; unfold XV; rw [if_neg fun h=>hf h.1])
 rw [decide_eq_true hf]
 simp only [↓X2,wA,↓reduceIte,reduceIte,reduceCtorEq,Y1,Y2,Y3,Y4,Y5,Y6,Y7,Y8,Y9,YA,wE]
 refine X1 ct rfl ?_
 by_cases hto:Fp f.turn
 rotate_left
 ·rw [decide_eq_false hto]
  simp only [↓X2,wA,↓reduceIte,reduceIte,reduceCtorEq,Y1,Y2,Y3,Y4,Y5,Y6,Y7,Y8,Y9,YA,wE]
  exact zret rfl rfl rfl rfl rfl (by rw [hR]; unfold XV; rw [if_neg fun h=>hto h.2])
 rw [decide_eq_true hto]
 have hRe:R=if ((Bz a.rim b.rim f f.M.toNat).add ⟨ta+tb,ta+tb⟩).x<((BB a.rim b.rim f f.M.toNat).sub ⟨ta+tb,ta+tb⟩).x∨((Bz a.rim b.rim f f.M.toNat).add ⟨ta+tb,ta+tb⟩).y<((BB a.rim b.rim f f.M.toNat).sub ⟨ta+tb,ta+tb⟩).y then (v0,v0,false) else ((BB a.rim b.rim f f.M.toNat).sub ⟨ta+tb,ta+tb⟩,(Bz a.rim b.rim f f.M.toNat).add ⟨ta+tb,ta+tb⟩,true):=by
  rw [hR]; unfold XV; rw [if_pos ⟨hf,hto⟩]
 clear hR
 obtain ⟨⟨s1,s2⟩,⟨s3,s4⟩,s5,s6,s7⟩:=hf
 obtain ⟨N,hN⟩:∃ N:Nat,f.M=N:=⟨f.M.toNat,by omega⟩
 have hNt:f.M.toNat=N:=by rw [hN]; rfl
 rw [hNt] at hRe
 have r1:=Gf a la (AP ha.near)
 have r2:=Gf b lb (AP hb.near)
 have hla:(XB a.rim).length=a.rim.length:=by simp [XB]
 have hlb:(XB b.rim).length=b.rim.length:=by simp [XB]
 have c3:Fn Tryz.prog 76 [a.tol.A,b.tol.A] (qA (ta+tb)):=by rw [ea,eb]; exact Jy ta tb (by unfold rm; omega) (by unfold rm; omega)
 have qe:=Jx ta tb
 generalize ta+tb=e at *
 simp only [↓X2,wA,↓reduceIte,reduceIte,reduceCtorEq,Y1,Y2,Y3,Y4,Y5,Y6,Y7,Y8,Y9,YA,wE]
 refine X1 r1 rfl ?_
 simp only [↓X2,wA,↓reduceIte,reduceIte,reduceCtorEq,Y1,Y2,Y3,Y4,Y5,Y6,Y7,Y8,Y9,YA,wE]
 refine X1 r2 rfl ?_
 simp only [↓X2,wA,↓reduceIte,reduceIte,reduceCtorEq,Y1,Y2,Y3,Y4,Y5,Y6,Y7,Y8,Y9,YA,wE]
 refine X1 c3 rfl ?_
 simp only [↓X2,wA,↓reduceIte,reduceIte,reduceCtorEq,Y1,Y2,Y3,Y4,Y5,Y6,Y7,Y8,Y9,YA,wE]
 have m0:vb ⟨e,e⟩≤2001:=by unfold vb; simp only; omega
 have ba:XI 9 (.row 0 25 (Xq (XD a)))=True:=eq_true (XG (XF a))
 have bb:XI 9 (.row 0 25 (Xq (XD b)))=True:=eq_true (XG (XF b))
 have bf:XI 9 (.con 0 29 (Xq (Qc f)))=True:=eq_true (fun j _=>X6 (Xd (Qj f) j))
 have bz:XI 9 (.row 0 8 (Xq XM))=True:=eq_true (XG (KW a.rim b.rim f 0))
 have be:XI 9 (.row 0 4 (Xq (sM e)))=True:=eq_true (XG (by simp [sM,X7,X3]))
 have bw:XI 9 (.row 0 8 (Xq (vC ⟨e,e⟩)))=True:=eq_true (XG (by simp [vC,X7,X3]))
 have bl:∀ k,XI 9 (.row 0 8 (Xq (cF a.rim b.rim f e k)))=True:=fun k=>eq_true (XG (SE a.rim b.rim f e k))
 have bh:∀ k,XI 9 (.row 0 8 (Xq (cE a.rim b.rim f e k)))=True:=fun k=>eq_true (XG (SD a.rim b.rim f e k))
 have bx:Jq 9 (Xt (XB a.rim))=True:=eq_true (X6 (Xf _))
 have by':Jq 9 (Xt (XB b.rim))=True:=eq_true (X6 (Xf _))
 refine Xe (fun k:Nat=>⟨19,[],[.any,.any,.any,.ref 0 0 0,.ref 1 0 0,.ref 2 0 0,.ref 3 0 0,.ref 4 0 0,.bool false,Xt (XB a.rim),Xt (XB b.rim),.ref 5 0 0,.ref 6 0 0,.ref 7 0 0,.ref 8 0 0,I k,.any,.any,.any],[],[.row 0 25 (Xq (XD a)),.row 0 25 (Xq (XD b)),.con 0 29 (Xq (Qc f)),.row 0 8 (Xq XM),.row 0 8 (Xq XM),.row 0 4 (Xq (sM e)),.row 0 8 (Xq (vC ⟨e,e⟩)),.row 0 8 (Xq (cF a.rim b.rim f e k)),.row 0 8 (Xq (cE a.rim b.rim f e k))]⟩) (fun k=>k≤N+1) (fun k=>N+1 - k) 0 (by omega)
  (Sub.trans (Qr 2 rfl) (Xa rfl (by simp [Xh,X5,I]) (by simp [Xi]) (by simp [XD,Qc,sM,XM,cF,cE,vC,Xg,Xn,X4,I]))) ?_
 intro k hk next
 have w1:=wj k (by omega)
 by_cases hk2:k<N+1
 ·have nx:=next (k+1)
  have fk:((k:Int)≤f.M)=True:=eq_true (by omega)
  have wx:IntKind.i64.wrap (f.EA+(k:Int))=f.EA+(k:Int):=by rw [IntKind.wrap_i64]; omega
  have wy1:IntKind.i64.wrap (f.EB+1)=f.EB+1:=by rw [IntKind.wrap_i64]; omega
  have wy:IntKind.i64.wrap (f.EB+1 - (k:Int))=f.EB+1 - (k:Int):=by rw [IntKind.wrap_i64]; omega
  have c1:=Jt (f.EA+(k:Int)) a.rim.length (by omega) (by omega) (by omega)
  have c2:=Jt (f.EB+1 - (k:Int)) b.rim.length (by omega) (by omega) (by omega)
  rw [Mn _ _ _ (by omega)] at c1
  rw [jO _ _ _ (by omega)] at c2
  have hX:=Wx a.rim.length f k (by omega)
  have hY:=pH b.rim.length f k (by omega)
  have vx:=KA ha.near (xK a.rim.length f k)
  have vy:=KA hb.near (yL b.rim.length f k)
  have vr:=Dd f.turn (JA (b.rim.getD (yL b.rim.length f k) (0,0)))
  have c3:=Ch f.turn (JA (b.rim.getD (yL b.rim.length f k) (0,0))) (by unfold vm; omega) (by unfold vm; omega)
  have c4:=JM (JA (a.rim.getD (xK a.rim.length f k) (0,0))) (M0 f.turn (JA (b.rim.getD (yL b.rim.length f k) (0,0)))) (by unfold rm; omega) (by unfold rm; omega)
  rw [show (JA (a.rim.getD (xK a.rim.length f k) (0,0))).sub (M0 f.turn (JA (b.rim.getD (yL b.rim.length f k) (0,0))))=Ae a.rim b.rim f k from rfl] at c4
  have hD:=Bj ha.near hb.near f ht
  have hL:=Cu ha.near hb.near f ht
  have hH:=Cs ha.near hb.near f ht
  have hDk:=hD k
  have c5:=JM (Ae a.rim b.rim f k) ⟨e,e⟩ (by unfold rm; omega) (by unfold rm; omega)
  have c6:=Fh (Ae a.rim b.rim f k) ⟨e,e⟩ (by unfold vm; omega) (by unfold vm; omega)
  have v1:=vF (XB a.rim) (xK a.rim.length f k)
  have v2:=vF (XB b.rim) (yL b.rim.length f k)
  rw [Gg] at v1 v2
  generalize xK a.rim.length f k=X at *
  generalize yL b.rim.length f k=Y at *
  generalize JA (a.rim.getD X (0,0))=PX at *
  generalize JA (b.rim.getD Y (0,0))=PY at *
  generalize M0 f.turn PY=RY at *
  have fX:((X:Int)<a.rim.length)=True:=eq_true (by omega)
  have fX':(X<a.rim.length)=True:=eq_true hX
  have fX8:(X*8+8≤a.rim.length*8)=True:=eq_true (by omega)
  have fY:((Y:Int)<b.rim.length)=True:=eq_true (by omega)
  have fY':(Y<b.rim.length)=True:=eq_true hY
  have fY8:(Y*8+8≤b.rim.length*8)=True:=eq_true (by omega)
  refine X0 1000 ?_
  simp only [Qc,X5,w1,wx,wy1,wy,fk,fX,fX',fX8,fY,fY',fY8,hla,hlb,v1,v2,Int.toNat_natCast,↓X2,wA,↓reduceIte,reduceIte,reduceCtorEq,Y1,Y2,Y3,Y4,Y5,Y6,Y7,Y8,Y9,YA,wE]
  refine X1 c1 rfl ?_
  simp only [Qc,X5,w1,wx,wy1,wy,fk,fX,fX',fX8,fY,fY',fY8,hla,hlb,v1,v2,Int.toNat_natCast,↓X2,wA,↓reduceIte,reduceIte,reduceCtorEq,Y1,Y2,Y3,Y4,Y5,Y6,Y7,Y8,Y9,YA,wE]
  refine X1 c2 rfl ?_
  simp only [Qc,X5,w1,wx,wy1,wy,fk,fX,fX',fX8,fY,fY',fY8,hla,hlb,v1,v2,Int.toNat_natCast,↓X2,wA,↓reduceIte,reduceIte,reduceCtorEq,Y1,Y2,Y3,Y4,Y5,Y6,Y7,Y8,Y9,YA,wE]
  refine X1 c3 rfl ?_
  simp only [Qc,X5,w1,wx,wy1,wy,fk,fX,fX',fX8,fY,fY',fY8,hla,hlb,v1,v2,Int.toNat_natCast,↓X2,wA,↓reduceIte,reduceIte,reduceCtorEq,Y1,Y2,Y3,Y4,Y5,Y6,Y7,Y8,Y9,YA,wE]
  refine X1 c4 rfl ?_
  simp only [Qc,X5,w1,wx,wy1,wy,fk,fX,fX',fX8,fY,fY',fY8,hla,hlb,v1,v2,Int.toNat_natCast,↓X2,wA,↓reduceIte,reduceIte,reduceCtorEq,Y1,Y2,Y3,Y4,Y5,Y6,Y7,Y8,Y9,YA,wE]
  refine X1 c5 rfl ?_
  simp only [Qc,X5,w1,wx,wy1,wy,fk,fX,fX',fX8,fY,fY',fY8,hla,hlb,v1,v2,Int.toNat_natCast,↓X2,wA,↓reduceIte,reduceIte,reduceCtorEq,Y1,Y2,Y3,Y4,Y5,Y6,Y7,Y8,Y9,YA,wE]
  refine X1 c6 rfl ?_
  match k,w1,fk,hk2,hDk,nx with
  | 0,w1,fk,hk2,hDk,nx =>
   have e0:((0:Nat):Int)=0:=rfl
   have w0:IntKind.i64.wrap (0+1)=1:=by decide
   have hL0:cF a.rim b.rim f e 1=vC ((Ae a.rim b.rim f 0).sub ⟨e,e⟩):=rfl
   have hH0:cE a.rim b.rim f e 1=vC ((Ae a.rim b.rim f 0).add ⟨e,e⟩):=rfl
   have bl2:=bl 1; have bh2:=bh 1
   simp only [Nat.zero_add,hL0,hH0] at nx bl2 bh2
   generalize (Ae a.rim b.rim f 0).sub ⟨e,e⟩=FR at *
   generalize (Ae a.rim b.rim f 0).add ⟨e,e⟩=TO at *
   simp only [cF,cE,XM,e0,w0,↓X2,wA,↓reduceIte,reduceIte,reduceCtorEq,Y1,Y2,Y3,Y4,Y5,Y6,Y7,Y8,Y9,YA,wE]
   exact nx _ (by omega) (by omega) (Xz (m:=9) (Nat.zero_le _) rfl (by simp [Xh,X5,hla,hlb,I]) (by simp [Xi]) (by simp [XD,Qc,XM,sM,cF,cE,vC,Xg,Xn,X4,I]) (by simp [Xy,bx,by']) (by simp [Xy]) (by simp [ba,bb,bf,bz,be,bw,bl2,bh2]))
  | j+1,w1,fk,hk2,hDk,nx =>
   have g0:(((j+1:Nat):Int)=0)=False:=eq_false (by omega)
   have g0':((j:Int)+1=0)=False:=eq_false (by omega)
   have g0'':(j+1=0)=False:=eq_false (by omega)
   have hLj:=hL j; have hHj:=hH j
   have hl1:cF a.rim b.rim f e (j+1)=vC ((BB a.rim b.rim f j).sub ⟨e,e⟩):=rfl
   have hh1:cE a.rim b.rim f e (j+1)=vC ((Bz a.rim b.rim f j).add ⟨e,e⟩):=rfl
   have hl2:cF a.rim b.rim f e (j+1+1)=vC ((BB a.rim b.rim f (j+1)).sub ⟨e,e⟩):=rfl
   have hh2:cE a.rim b.rim f e (j+1+1)=vC ((Bz a.rim b.rim f (j+1)).add ⟨e,e⟩):=rfl
   have ux:=il (BB a.rim b.rim f j).x (Ae a.rim b.rim f (j+1)).x e
   have uy:=il (BB a.rim b.rim f j).y (Ae a.rim b.rim f (j+1)).y e
   have ox:=ic (Bz a.rim b.rim f j).x (Ae a.rim b.rim f (j+1)).x e
   have oy:=ic (Bz a.rim b.rim f j).y (Ae a.rim b.rim f (j+1)).y e
   have z1:=Kd (BB a.rim b.rim f j) ⟨e,e⟩
   have z2:=Ck (Bz a.rim b.rim f j) ⟨e,e⟩
   have z3:=Kd (Ae a.rim b.rim f (j+1)) ⟨e,e⟩
   have z4:=Ck (Ae a.rim b.rim f (j+1)) ⟨e,e⟩
   have bl2:=bl (j+1+1); have bh2:=bh (j+1+1)
   simp only [hl2,hh2] at nx bl2 bh2
   rw [hl1,hh1]
   replace ux:(0<XX ((Ae a.rim b.rim f (j+1)).sub ⟨e,e⟩).x ((BB a.rim b.rim f j).sub ⟨e,e⟩).x∧((BB a.rim b.rim f (j+1)).sub ⟨e,e⟩).x=((Ae a.rim b.rim f (j+1)).sub ⟨e,e⟩).x)∨(¬ 0<XX ((Ae a.rim b.rim f (j+1)).sub ⟨e,e⟩).x ((BB a.rim b.rim f j).sub ⟨e,e⟩).x∧((BB a.rim b.rim f (j+1)).sub ⟨e,e⟩).x=((BB a.rim b.rim f j).sub ⟨e,e⟩).x):=ux
   replace uy:(0<XX ((Ae a.rim b.rim f (j+1)).sub ⟨e,e⟩).y ((BB a.rim b.rim f j).sub ⟨e,e⟩).y∧((BB a.rim b.rim f (j+1)).sub ⟨e,e⟩).y=((Ae a.rim b.rim f (j+1)).sub ⟨e,e⟩).y)∨(¬ 0<XX ((Ae a.rim b.rim f (j+1)).sub ⟨e,e⟩).y ((BB a.rim b.rim f j).sub ⟨e,e⟩).y∧((BB a.rim b.rim f (j+1)).sub ⟨e,e⟩).y=((BB a.rim b.rim f j).sub ⟨e,e⟩).y):=uy
   replace ox:(XX ((Ae a.rim b.rim f (j+1)).add ⟨e,e⟩).x ((Bz a.rim b.rim f j).add ⟨e,e⟩).x<0∧((Bz a.rim b.rim f (j+1)).add ⟨e,e⟩).x=((Ae a.rim b.rim f (j+1)).add ⟨e,e⟩).x)∨(¬ XX ((Ae a.rim b.rim f (j+1)).add ⟨e,e⟩).x ((Bz a.rim b.rim f j).add ⟨e,e⟩).x<0∧((Bz a.rim b.rim f (j+1)).add ⟨e,e⟩).x=((Bz a.rim b.rim f j).add ⟨e,e⟩).x):=ox
   replace oy:(XX ((Ae a.rim b.rim f (j+1)).add ⟨e,e⟩).y ((Bz a.rim b.rim f j).add ⟨e,e⟩).y<0∧((Bz a.rim b.rim f (j+1)).add ⟨e,e⟩).y=((Ae a.rim b.rim f (j+1)).add ⟨e,e⟩).y)∨(¬ XX ((Ae a.rim b.rim f (j+1)).add ⟨e,e⟩).y ((Bz a.rim b.rim f j).add ⟨e,e⟩).y<0∧((Bz a.rim b.rim f (j+1)).add ⟨e,e⟩).y=((Bz a.rim b.rim f j).add ⟨e,e⟩).y):=oy
   generalize (Ae a.rim b.rim f (j+1)).sub ⟨e,e⟩=FR at *
   generalize (Ae a.rim b.rim f (j+1)).add ⟨e,e⟩=TO at *
   generalize (BB a.rim b.rim f (j+1)).sub ⟨e,e⟩=L2 at *
   generalize (Bz a.rim b.rim f (j+1)).add ⟨e,e⟩=H2 at *
   generalize (BB a.rim b.rim f j).sub ⟨e,e⟩=L1 at *
   generalize (Bz a.rim b.rim f j).add ⟨e,e⟩=H1 at *
   have:=QB FR; have:=Qu FR; have:=QB TO; have:=Qu TO; have:=QB L1; have:=Qu L1; have:=QB H1; have:=Qu H1
   have k1:=Je FR.x L1.x (by unfold rm; omega) (by unfold rm; omega)
   have k2:=Je FR.y L1.y (by unfold rm; omega) (by unfold rm; omega)
   have k3:=Je TO.x H1.x (by unfold rm; omega) (by unfold rm; omega)
   have k4:=Je TO.y H1.y (by unfold rm; omega) (by unfold rm; omega)
   clear c1 c2 c3 c4 c5 c6 hD hL hH bl bh v1 v2
   rcases ux with ⟨px,ex⟩ | ⟨px,ex⟩
   all_goals
    first | replace px:=eq_false px | replace px:=eq_true px
    rcases uy with ⟨py,ey⟩ | ⟨py,ey⟩
    all_goals
     first | replace py:=eq_false py | replace py:=eq_true py
     rcases ox with ⟨sx,gx⟩ | ⟨sx,gx⟩
     all_goals
      first | replace sx:=eq_false sx | replace sx:=eq_true sx
      rcases oy with ⟨sy,gy⟩ | ⟨sy,gy⟩
      all_goals
       first | replace sy:=eq_false sy | replace sy:=eq_true sy
       simp only [g0,g0',g0'',w1,↓X2,wA,↓reduceIte,reduceIte,reduceCtorEq,Y1,Y2,Y3,Y4,Y5,Y6,Y7,Y8,Y9,YA,wE]
       refine X1 k1 rfl ?_
       simp only [px,g0,g0',g0'',w1,↓X2,wA,↓reduceIte,reduceIte,reduceCtorEq,Y1,Y2,Y3,Y4,Y5,Y6,Y7,Y8,Y9,YA,wE]
       refine X1 k2 rfl ?_
       simp only [px,py,g0,g0',g0'',w1,↓X2,wA,↓reduceIte,reduceIte,reduceCtorEq,Y1,Y2,Y3,Y4,Y5,Y6,Y7,Y8,Y9,YA,wE]
       refine X1 k3 rfl ?_
       simp only [px,py,sx,g0,g0',g0'',w1,↓X2,wA,↓reduceIte,reduceIte,reduceCtorEq,Y1,Y2,Y3,Y4,Y5,Y6,Y7,Y8,Y9,YA,wE]
       refine X1 k4 rfl ?_
       simp only [px,py,sx,sy,g0,g0',g0'',w1,↓X2,wA,↓reduceIte,reduceIte,reduceCtorEq,Y1,Y2,Y3,Y4,Y5,Y6,Y7,Y8,Y9,YA,wE]
       exact nx _ (by omega) (by omega) (Xz (m:=9) (Nat.zero_le _) rfl (by simp [Xh,X5,hla,hlb,I]) (by simp [Xi]) (by simp [XD,Qc,XM,sM,cF,cE,vC,Xg,Xn,X4,I,ex,ey,gx,gy]) (by simp [Xy,bx,by']) (by simp [Xy]) (by simp [ba,bb,bf,bz,be,bw,bl2,bh2]))
 obtain rfl:k=N+1:=by omega
 have hL:=Cu ha.near hb.near f ht N
 have hH:=Cs ha.near hb.near f ht N
 have hl1:cF a.rim b.rim f e (N+1)=vC ((BB a.rim b.rim f N).sub ⟨e,e⟩):=rfl
 have hh1:cE a.rim b.rim f e (N+1)=vC ((Bz a.rim b.rim f N).add ⟨e,e⟩):=rfl
 rw [hl1,hh1]
 clear bl bh hl1 hh1
 have m1:=Kd (BB a.rim b.rim f N) ⟨e,e⟩
 have m2:=Ck (Bz a.rim b.rim f N) ⟨e,e⟩
 generalize (BB a.rim b.rim f N).sub ⟨e,e⟩=A at *
 generalize (Bz a.rim b.rim f N).add ⟨e,e⟩=B at *
 have:=QB A; have:=Qu A; have:=QB B; have:=Qu B
 have q1:=Je A.x B.x (by unfold rm; omega) (by unfold rm; omega)
 have q2:=Je A.y B.y (by unfold rm; omega) (by unfold rm; omega)
 have fk:(((N+1:Nat):Int)≤f.M)=False:=eq_false (by omega)
 refine X0 1000 ?_
 simp only [Qc,fk,↓X2,wA,↓reduceIte,reduceIte,reduceCtorEq,Y1,Y2,Y3,Y4,Y5,Y6,Y7,Y8,Y9,YA,wE]
 refine X1 q1 rfl ?_
 by_cases h1:B.x<A.x
 ·have f1:(0<XX A.x B.x)=True:=eq_true ((JQ _ _).2 h1)
  simp only [f1,XM,↓X2,wA,↓reduceIte,reduceIte,reduceCtorEq,Y1,Y2,Y3,Y4,Y5,Y6,Y7,Y8,Y9,YA,wE]
  exact zret rfl rfl rfl rfl rfl (by rw [hRe,if_pos (.inl h1)])
 have f1:(0<XX A.x B.x)=False:=eq_false fun h=>h1 ((JQ _ _).1 h)
 simp only [f1,↓X2,wA,↓reduceIte,reduceIte,reduceCtorEq,Y1,Y2,Y3,Y4,Y5,Y6,Y7,Y8,Y9,YA,wE]
 refine X1 q2 rfl ?_
 by_cases h2:B.y<A.y
 ·have f2:(0<XX A.y B.y)=True:=eq_true ((JQ _ _).2 h2)
  simp only [f1,f2,XM,↓X2,wA,↓reduceIte,reduceIte,reduceCtorEq,Y1,Y2,Y3,Y4,Y5,Y6,Y7,Y8,Y9,YA,wE]
  exact zret rfl rfl rfl rfl rfl (by rw [hRe,if_pos (.inr h2)])
 have f2:(0<XX A.y B.y)=False:=eq_false fun h=>h2 ((JQ _ _).1 h)
 simp only [f1,f2,XM,↓X2,wA,↓reduceIte,reduceIte,reduceCtorEq,Y1,Y2,Y3,Y4,Y5,Y6,Y7,Y8,Y9,YA,wE]
 rw [if_neg fun h=>h.elim h1 h2] at hRe
 subst hRe
 exact Iv rfl (Xp Jn rfl rfl rfl) (Xp Jn rfl rfl rfl) (by unfold Qp; rfl) (Xr (Xm _) (XP (XS (vC A)))) (Xr (Xm _) (XP (XS (vC B)))) ((X3 _).sees _)
def qs (l:List Rat):AV:=sd qC 4 0 l
theorem M5 (l:List Rat):Settled (qs l):=C9 fun a x hx=>by
 have:∀ x∈qC a,Settled x:=by simp [qC,X7,X3]
 exact this x hx
theorem BI (l:List Rat):qs l=.sl l.length (l.length*4) (Xw qC 4 0 l) false:=nrfl rfl
theorem uQ (l:List Rat) (i:Nat):Xw qC 4 0 l (i*4)=.bool (decide ((l.getD i 0).num<0))∧Xw qC 4 0 l (i*4+1)=X9 (Xb (l.getD i 0).num.natAbs)∧Xw qC 4 0 l (i*4+2)=.bool false∧Xw qC 4 0 l (i*4+3)=X9 (Xb (qd (l.getD i 0))):=by
 refine ⟨?_,?_,?_,?_⟩
 ·rw [K6 _ _ _ _ _ (by omega)]; rfl
 all_goals rw [JR _ _ _ _ _ _ (by omega)]; rfl
def Zm (sg:Int) (x:Rat) (l:List Rat):Nat→Rat
 | 0=>x
 | k+1=>if XX (l.getD k 0) (Zm sg x l k)=sg then l.getD k 0 else Zm sg x l k
theorem OK (sg:Int) (x:Rat) (l:List Rat) (c:Nat) (hx:qb x≤c) (hl:∀ k,qb (l.getD k 0)≤c):∀ k,qb (Zm sg x l k)≤c
 | 0=>hx
 | k+1=>by
  simp only [Zm]
  split
  ·exact hl k
  ·exact OK sg x l c hx hl k
def B8:List AV:=[.bool false,.sl 0 0 (fun _=>.any) true,.bool false,.sl 0 0 (fun _=>.any) true]
theorem CS (sg:Int) (x:Rat) (l:List Rat) (hl:l.length<1000000) (hx:qb x≤vm) (hq:∀ k,qb (l.getD k 0)≤vm):Fn Tryz.prog 286 [I sg,qA x,qs l] (qA (Zm sg x l l.length)):=by
 unfold vm at hx hq
 obtain ⟨R,hR⟩:∃ R,R=qA (Zm sg x l l.length):=⟨_,rfl⟩
 have sR:Settled R:=hR▸Xc _
 have hqc:∀ r:Rat,∀ x∈qC r,Settled x:=fun r=>by simp [qC,X7,X3]
 have bx:∀ r,XI 2 (.row 0 4 (Xq (qC r)))=True:=fun r=>eq_true (XG (hqc r))
 have bl:Jq 2 (qs l)=True:=eq_true (X6 (M5 l))
 rw [← hR]
 refine Fq Tryz.call286 Tryz.func286 9 [9,10,11] [] [] (by simp [X8,Xc,M5]) (X0 1000 ?_)
 simp only [AS.start,BI,↓X2,wA,seval,wE]
 refine Xe (fun k:Nat=>⟨9,[9,10,11],[I sg,.any,.any,.any,.ref 0 0 0,.any,.ref 1 0 0,.any,.any],[(9,qs l),(10,I l.length),(11,I k)],[.row 0 4 (Xq (qC (Zm sg x l k))),.row 0 4 (Xq B8)]⟩) (fun k=>k≤l.length) (fun k=>l.length - k) 0 (by omega)
  (Xa rfl (by simp [Xh,I]) (by simp [Xi,Xv,BI,I]) rfl) ?_
 intro k hk next
 have w1:=wj k (by omega)
 have he:=OK sg x l 1000000 hx hq k
 by_cases hk2:k<l.length
 ·have f1:((k:Int)<l.length)=True:=eq_true (by omega)
  have f2:(k<l.length)=True:=eq_true hk2
  have f3:(k*4+4≤l.length*4)=True:=eq_true (by omega)
  have v1:=uQ l k
  have c1:=JH (l.getD k 0) (Zm sg x l k) (by have:=hq k; unfold rm; omega) (by unfold rm; omega)
  have nx:=next (k+1)
  have hs:Zm sg x l (k+1)=if XX (l.getD k 0) (Zm sg x l k)=sg then l.getD k 0 else Zm sg x l k:=rfl
  generalize Zm sg x l k=E at *
  refine X0 1000 ?_
  simp only [BI,w1,f1,f2,f3,v1,Int.toNat_natCast,↓X2,wA,seval,wE]
  refine X1 c1 rfl ?_
  by_cases h:XX (l.getD k 0) E=sg
  ·have g1:(XX (l.getD k 0) E=sg)=True:=eq_true h
   rw [if_pos h] at hs
   simp only [hs] at nx
   simp only [g1,w1,↓X2,wA,seval,wE]
   exact nx _ (by omega) (by omega) (Xz (m:=2) (Nat.zero_le _) rfl (by simp [Xh,I]) (by simp [Xi,Xv,BI,I]) (by simp [qC,B8,X4]) (by simp [Xy]) (by simp [Xy,bl]) (by simp [bx,B8,Xy]))
  ·have g1:(XX (l.getD k 0) E=sg)=False:=eq_false h
   rw [if_neg h] at hs
   simp only [hs] at nx
   simp only [g1,w1,↓X2,wA,seval,wE]
   exact nx _ (by omega) (by omega) (Xz (m:=2) (Nat.zero_le _) rfl (by simp [Xh,I]) (by simp [Xi,Xv,BI,I]) (by simp [qC,B8,X4]) (by simp [Xy]) (by simp [Xy,bl]) (by simp [bx,B8,Xy]))
 obtain rfl:k=l.length:=by omega
 refine X0 1000 ?_
 simp only [BI,B8,Int.lt_irrefl,Nat.lt_irrefl,↓X2,wA,seval,wE]
 exact JD rfl Qa rfl rfl rfl sR (hR.trans rfl)
def Qb (n:V2) (L:List V2):List Rat:=L.map (Q9 n)
theorem UF (n:V2) (L:List V2) (i:Nat) (hi:i<L.length):Qb n (L.take i) ++ [Q9 n (L.getD i v0)]=Qb n (L.take (i+1)):=by
 rw [Az _ v0 hi]; simp [Qb]
theorem rO (a:Rat):∀ j,j<4→((qC a).getD j .any).one=true:=fun j hj=>by
 match j,hj with
 | 0,_=>rfl
 | 1,_=>rfl
 | 2,_=>rfl
 | 3,_=>rfl
 | j+4,h=>omega
theorem HB (n:V2) (L:List V2) (k:Nat) (h:XU L k) (hk:k≤100000) (hl:L.length<1000000) (hn:vb n≤100000):Fn Tryz.prog 285 [vA n,Xt L] (qs (Qb n L)):=by
 have hvc:∀ a:V2,∀ x∈vC a,Settled x:=fun a=>by simp [vC,X7,X3]
 have hqc:∀ r:Rat,∀ x∈qC r,Settled x:=fun r=>by simp [qC,X7,X3]
 have bo:XI 2 (.row 0 8 (Xq (vC n)))=True:=eq_true (XG (hvc n))
 have bv:Jq 2 (Xt L)=True:=eq_true (X6 (Xf L))
 have br:∀ i l n,XI 2 (.row i n (Xw qC 4 0 l))=True:=fun i l n=>eq_true fun j _=>X6 (Xd (hqc _) _)
 obtain ⟨R,hR⟩:∃ R,R=qs (Qb n L):=⟨_,rfl⟩
 rw [← hR]
 refine Fq Tryz.call285 Tryz.func285 8 [8,9,10] [] [] (by simp [Xm,Xf]) (X0 1000 ?_)
 simp only [AS.start,X5,↓X2,wA,seval,wE]
 refine Xe (fun i:Nat=>⟨8,[8,9,10],[.any,.any,.ref 0 0 0,.any,.any,.osl 1 i 4 0 i,.any,.any],[(8,Xt L),(9,I L.length),(10,I i)],[.row 0 8 (Xq (vC n)),.row i (i*4) (Xw qC 4 0 (Qb n (L.take i)))]⟩) (fun i=>i≤L.length) (fun i=>L.length - i) 0 (by omega)
  (Sub.trans (Qg 5 4 (Xw qC 4 0 []) rfl) (Xa rfl (by simp [AS.put,Xh,I]) (by simp [AS.put,Xi,Xv,X5,I]) (by simp [AS.put,vC,X4,Qb]))) ?_
 intro i hi next
 have w1:=wj i (by omega)
 by_cases hi2:i<L.length
 ·have f1:((i:Int)<L.length)=True:=eq_true (by omega)
  have f2:(i<L.length)=True:=eq_true hi2
  have f3:(i*8+8≤L.length*8)=True:=eq_true (by omega)
  have v1:=vF L i
  have hb:=h i
  have c1:=FZ n (L.getD i v0) (by unfold vm; omega) (by unfold vm; omega)
  have hap:=Q0 qC 4 0 (Qb n (L.take i)) (Q9 n (L.getD i v0)) (by omega)
  rw [UF _ _ _ hi2,show (Qb n (L.take i)).length=i by simp [Qb]; omega] at hap
  refine X0 1000 ?_
  simp only [X5,w1,f1,f2,f3,v1,Int.toNat_natCast,↓X2,wA,seval,wE]
  refine X1 c1 rfl ?_
  simp only [w1,↓X2,wA,seval,wE]
  exact ⟨⟨rO _,by omega,by omega⟩,next (i+1) _ (by omega) (by omega) (Xz (m:=2) (Nat.zero_le _) rfl (by simp [Xh]) (by simp [Xi,Xv,X5,I]) (by rw [← hap]; rfl) (by simp [Xy]) (by simp [Xy,bv]) (by simp [bo,br]))⟩
 obtain rfl:i=L.length:=by omega
 refine X0 1000 ?_
 simp only [X5,Int.lt_irrefl,Nat.lt_irrefl,↓X2,wA,seval,wE]
 refine At rfl ?_
 have hlen:(Qb n L).length=L.length:=by simp [Qb]
 rw [hR,BI,hlen]
 refine Qz (n:=L.length) (.inl rfl) (by omega) (fun h=>by rw [h]) fun j hj=>?_
 rw [List.take_length,Nat.zero_add]
 exact (Xd (hqc _) _).sees _
def Dy (sg:Int) (l:List Rat):Rat:=Zm sg (l.getD 0 0) (l.drop 1) (l.drop 1).length
def FH (n:V2) (A B:List V2):Rat:=Dy (-1) (Qb n B) - Dy 1 (Qb n A)
theorem CW (n:V2) (L:List V2) (k:Nat) (h:XU L k) (i:Nat):qb ((Qb n L).getD i 0)≤2*(vb n+k)+1:=by
 have h0:=h i
 have h1:=A4 n (L.getD i v0)
 have q0:=Bg
 by_cases hi:i<L.length
 ·have e:(Qb n L).getD i 0=Q9 n (L.getD i v0):=by
   unfold Qb
   rw [List.getD_eq_getElem?_getD,List.getElem?_map,List.getD_eq_getElem?_getD,List.getElem?_eq_getElem hi]; rfl
  rw [e]; omega
 ·have e:(Qb n L).getD i 0=0:=by
   rw [List.getD_eq_getElem?_getD,List.getElem?_eq_none (by simp [Qb]; omega)]; rfl
  rw [e]; omega
theorem AN (l:List Rat) (i:Nat):(l.drop 1).getD i 0=l.getD (1+i) 0:=by
 rw [List.getD_eq_getElem?_getD,List.getD_eq_getElem?_getD,List.getElem?_drop]
theorem Ir (sg:Int) (l:List Rat) (c:Nat) (h:∀ i,qb (l.getD i 0)≤c):qb (Dy sg l)≤c :=
 OK _ _ _ _ (h 0) (fun k=>by rw [AN]; exact h _) _
theorem Mk (l:List Rat) {n m:Nat} {t:Bool} (hn:n=l.length - 1) (hm:(l.length - 1)*4≤m):Weak (.sl n m (fun j=>Xw qC 4 0 l (4+j)) t) (qs (l.drop 1)):=by
 rw [BI]
 refine Ac (by rw [List.length_drop]; exact hn) (by rw [List.length_drop]; exact hm) fun j hj=>?_
 have e:Xw qC 4 0 l (4+j)=Xw qC 4 0 (l.drop 1) j:=by
  unfold Xw
  rw [AN,show (4+j) / 4=1+j / 4 by omega,show (4+j) % 4=j % 4 by omega]
 rw [e]
 exact Weak.rfl' _
theorem rk (n:V2) (A B:List V2) (k:Nat) (ha:XU A k) (hb:XU B k) (hk:k≤10000) (la:A.length<1000000) (lb:B.length<1000000) (pa:0<A.length) (pb:0<B.length) (hn:vb n≤10000):Fn Tryz.prog 271 [vA n,Xt A,Xt B] (qA (FH n A B)):=by
 have c1:=HB n A k ha (by omega) la (by omega)
 have c2:=HB n B k hb (by omega) lb (by omega)
 have qa:=CW n A k ha
 have qb':=CW n B k hb
 have hlA:(Qb n A).length=A.length:=by simp [Qb]
 have hlB:(Qb n B).length=B.length:=by simp [Qb]
 have c3:=CS (-1) ((Qb n B).getD 0 0) ((Qb n B).drop 1) (by rw [List.length_drop]; omega) (by have:=qb' 0; unfold vm; omega) (fun i=>by rw [AN]; have:=qb' (1+i); unfold vm; omega)
 have c4:=CS 1 ((Qb n A).getD 0 0) ((Qb n A).drop 1) (by rw [List.length_drop]; omega) (by have:=qa 0; unfold vm; omega) (fun i=>by rw [AN]; have:=qa (1+i); unfold vm; omega)
 have e1:=Ir (-1) (Qb n B) _ qb'
 have e2:=Ir 1 (Qb n A) _ qa
 have c5:=OV (Dy (-1) (Qb n B)) (Dy 1 (Qb n A)) (by unfold rm; omega) (by unfold rm; omega)
 rw [show Zm (-1) ((Qb n B).getD 0 0) ((Qb n B).drop 1) ((Qb n B).drop 1).length=Dy (-1) (Qb n B) from rfl] at c3
 rw [show Zm 1 ((Qb n A).getD 0 0) ((Qb n A).drop 1) ((Qb n A).drop 1).length=Dy 1 (Qb n A) from rfl] at c4
 rw [show Dy (-1) (Qb n B) - Dy 1 (Qb n A)=FH n A B from rfl] at c5
 have v1:=uQ (Qb n A) 0
 have v2:=uQ (Qb n B) 0
 obtain ⟨R,hR⟩:∃ R,R=qA (FH n A B):=⟨_,rfl⟩
 have sR:Settled R:=hR▸Xc _
 rw [← hR] at c5 ⊢
 generalize Qb n A=PA at *
 generalize Qb n B=PB at *
 simp only [Nat.zero_mul,Nat.zero_add] at v1 v2
 have f1:(0<PA.length)=True:=eq_true (by omega)
 have f2:(0<PB.length)=True:=eq_true (by omega)
 have f3:((0:Int)<PA.length)=True:=eq_true (by omega)
 have f4:((0:Int)<PB.length)=True:=eq_true (by omega)
 have f5:(4≤PA.length*4)=True:=eq_true (by omega)
 have f6:(4≤PB.length*4)=True:=eq_true (by omega)
 have f7:((1:Int)≤PA.length)=True:=eq_true (by omega)
 have f8:((1:Int)≤PB.length)=True:=eq_true (by omega)
 refine Fq Tryz.call271 Tryz.func271 9 [] [2] [] (by simp [Xm,Xf]) (X0 1000 ?_)
 simp only [AS.start,X5,↓X2,wA,seval,wE]
 refine X1 c1 rfl ?_
 simp only [↓X2,wA,seval,wE]
 refine X1 c2 rfl ?_
 simp only [BI,v1,v2,f1,f2,f3,f4,f5,f6,f7,f8,Int.toNat_zero,Int.reduceLE,↓X2,wA,seval,wE]
 refine Qm c3 ⟨Weak.rfl' _,Weak.rfl' _,Mk PB (by omega) (by omega),trivial⟩ ?_
 simp only [BI,v1,v2,f1,f2,f3,f4,f5,f6,f7,f8,Int.toNat_zero,Int.reduceLE,↓X2,wA,seval,wE]
 refine Qm c4 ⟨Weak.rfl' _,Weak.rfl' _,Mk PA (by omega) (by omega),trivial⟩ ?_
 simp only [↓X2,wA,seval,wE]
 refine X1 c5 rfl ?_
 simp only [hR,↓X2,wA,seval,wE]
 exact JD rfl Qa rfl rfl rfl sR (hR.trans rfl)
def Cl (x:Rat):Rat:=if x<0 then -x else x
def Zu (n:V2):Rat:=Cl n.x+Cl n.y
theorem En (x:Rat):qb (Cl x)=qb x:=by unfold Cl; split <;> simp [BH]
theorem G6 (x y:Rat):XX x y=1↔y<x:=by
 rw [← JQ]
 unfold XX
 rw [Int.sign_eq_one_iff_pos,Int.sign_pos_iff]
theorem Sa (x y:Rat):XX x y = -1↔x<y:=by
 rw [← Kg]
 unfold XX
 rw [Int.sign_eq_neg_one_iff_neg,Int.sign_neg_iff]
theorem VH (x:Rat):Zm 1 x [-x] 1=Cl x:=by
 show (if XX (-x) x=1 then -x else x)=_
 unfold Cl
 by_cases h:x<0
 ·rw [if_pos h,if_pos ((G6 _ _).2 (by grind))]
 ·rw [if_neg h,if_neg fun hh=>h (by have:=(G6 _ _).1 hh; grind)]
theorem T6 (x:Rat) {t:Bool}:Weak (.sl 1 4 (Xq [.bool (decide (x.num<0)),X9 (Xb x.num.natAbs),.bool false,X9 (Xb (qd x))]) t) (qs [x]):=by
 rw [BI]
 refine Ac rfl (Nat.le_refl _) fun j hj=>?_
 match j,hj with
 | 0,_=>exact Weak.rfl' _
 | 1,_=>exact Weak.rfl' _
 | 2,_=>exact Weak.rfl' _
 | 3,_=>exact Weak.rfl' _
 | j+4,h=>exact absurd h (by show ¬ j+4<1*4; omega)
theorem Ny (x:Rat) (c:Nat) (hc:1≤c) (h:qb x≤c) (k:Nat):qb (([x]:List Rat).getD k 0)≤c:=by
 have q0:=Bg
 match k with
 | 0=>exact h
 | k+1=>show qb 0≤c; omega
theorem oa (n:V2) (hn:vb n≤100000):Fn Tryz.prog 287 [vA n] (qA (Zu n)):=by
 have:=QB n; have:=Qu n
 have n1:=D6 n.x
 have n2:=D6 n.y
 have a1:=En n.x; have a2:=En n.y
 have c1:=CS 1 n.x [-n.x] (by simp) (by unfold vm; omega) (Ny _ _ (by unfold vm; omega) (by rw [BH]; unfold vm; omega))
 have c2:=CS 1 n.y [-n.y] (by simp) (by unfold vm; omega) (Ny _ _ (by unfold vm; omega) (by rw [BH]; unfold vm; omega))
 rw [show ([-n.x]:List Rat).length=1 from rfl,VH] at c1
 rw [show ([-n.y]:List Rat).length=1 from rfl,VH] at c2
 have c3:=AG (Cl n.x) (Cl n.y) (by unfold rm; omega) (by unfold rm; omega)
 rw [show Cl n.x+Cl n.y=Zu n from rfl] at c3
 obtain ⟨R,hR⟩:∃ R,R=qA (Zu n):=⟨_,rfl⟩
 have sR:Settled R:=hR▸Xc _
 rw [← hR] at c3 ⊢
 refine Fq Tryz.call287 Tryz.func287 3 [] [1,20000001] [] (by simp [wS]) (X0 1000 ?_); simp (config:={ maxSteps:=2000000 }) only [AS.start,↓X2,wA,seval,wE]
 refine X1 n1 rfl ?_
 simp only [↓X2,wA,seval,wE]
 refine Qm c1 ⟨Weak.rfl' _,Weak.rfl' _,T6 _,trivial⟩ ?_
 simp only [↓X2,wA,seval,wE]
 refine X1 n2 rfl ?_
 simp only [↓X2,wA,seval,wE]
 refine Qm c2 ⟨Weak.rfl' _,Weak.rfl' _,T6 _,trivial⟩ ?_
 simp only [↓X2,wA,seval,wE]
 refine X1 c3 rfl ?_
 simp only [hR,↓X2,wA,seval,wE]
 exact JD rfl Qa rfl rfl rfl sR (hR.trans rfl)
theorem Is (n:V2):qb (Zu n)≤2*vb n+1:=by
 have:=QB n; have:=Qu n
 have a1:=En n.x; have a2:=En n.y
 have:=Jx (Cl n.x) (Cl n.y)
 unfold Zu; omega
theorem nR (n:V2) (e:Rat) (hn:vb n≤100000) (he:qb e≤100000):Fn Tryz.prog 272 [vA n,qA e] (qA (e*Zu n)):=by
 have q:=Is n
 have c1:=oa n hn
 have c2:=Kx e (Zu n) (by unfold rm; omega) (by unfold rm; omega)
 obtain ⟨R,hR⟩:∃ R,R=qA (e*Zu n):=⟨_,rfl⟩
 have sR:Settled R:=hR▸Xc _
 rw [← hR] at c2 ⊢
 refine Fq Tryz.call272 Tryz.func272 5 [] [] [] (by simp [wS]) (X0 1000 ?_); simp (config:={ maxSteps:=2000000 }) only [AS.start,↓X2,wA,seval,wE]
 refine X1 c1 rfl ?_
 simp only [↓X2,wA,seval,wE]
 refine X1 c2 rfl ?_
 simp only [hR,↓X2,wA,seval,wE]
 exact JD rfl Qa rfl rfl rfl sR (hR.trans rfl)
def RT (p q:V2):V2:=⟨(q.sub p).y,-(q.sub p).x⟩
theorem V6 (p q:V2):vb (RT p q)≤vb p+vb q+1:=by
 have:=Kd q p
 have:=QB (q.sub p); have:=Qu (q.sub p)
 have:=BH (q.sub p).x
 unfold RT
 show max (qb (q.sub p).y) (qb (-(q.sub p).x))≤_
 omega
theorem IK (p q:V2) (hp:vb p≤100000) (hq:vb q≤100000):Fn Tryz.prog 270 [vA p,vA q] (vA (RT p q)):=by
 have c1:=CX q p (by unfold rm; omega) (by unfold rm; omega)
 have c2:=D6 (q.sub p).x
 obtain ⟨R,hR⟩:∃ R,R=vA (RT p q):=⟨_,rfl⟩
 have sR:Settled R:=hR▸Xm _
 rw [← hR]
 refine Fq Tryz.call270 Tryz.func270 6 [] [] [] (by simp [wS]) (X0 1000 ?_); simp (config:={ maxSteps:=2000000 }) only [AS.start,↓X2,wA,seval,wE]
 refine X1 c1 rfl ?_
 simp only [↓X2,wA,seval,wE]
 refine X1 c2 rfl ?_
 simp only [↓X2,wA,seval,wE]
 exact Zg rfl Jn rfl rfl rfl sR (hR.trans rfl)
def H9 (n:V2) (A B:List V2) (e:Rat):Prop:=e*Zu n≤FH n A B
theorem Ni (n:V2) (A B:List V2) (k:Nat) (ha:XU A k) (hb:XU B k):qb (FH n A B)≤4*(vb n+k)+3:=by
 have e1:=Ir (-1) (Qb n B) _ (CW n B k hb)
 have e2:=Ir 1 (Qb n A) _ (CW n A k ha)
 have:=Fg (Dy (-1) (Qb n B)) (Dy 1 (Qb n A))
 unfold FH; omega
theorem OX (n:V2) (A B:List V2) (e:Rat) (k:Nat) (ha:XU A k) (hb:XU B k) (hk:k≤10000) (la:A.length<1000000) (lb:B.length<1000000) (pa:0<A.length) (pb:0<B.length) (hn:vb n≤10000) (he:qb e≤10000):Fn Tryz.prog 262 [vA n,Xt A,Xt B,qA e] (.bool (decide (H9 n A B e))):=by
 have c1:=rk n A B k ha hb hk la lb pa pb hn
 have c2:=nR n e (by omega) (by omega)
 have q1:=Ni n A B k ha hb
 have q2:=Is n
 have q3:=QD e (Zu n)
 have c3:=JH (FH n A B) (e*Zu n) (by unfold rm; omega) (by unfold rm; omega)
 have hd:decide (H9 n A B e)=decide (0≤XX (FH n A B) (e*Zu n)):=decide_eq_decide.2 (G5 _ _).symm
 rw [hd]
 refine Fq Tryz.call262 Tryz.func262 9 [] [] [] (by simp [Xm,Xf,Xc]) (X0 1000 ?_)
 simp only [AS.start,X5,↓X2,wA,seval,wE]
 refine X1 c1 rfl ?_
 simp only [↓X2,wA,seval,wE]
 refine X1 c2 rfl ?_
 simp only [↓X2,wA,seval,wE]
 refine X1 c3 rfl ?_
 simp only [↓X2,wA,seval,wE]
 exact Xs rfl rfl (X3 _) rfl
theorem Su (x:Rat) (h:qb x≤vm):Fn Tryz.prog 298 [qA x] (qA (Cl x)):=by
 unfold vm at h
 have c1:=AX x (by unfold rm; omega)
 have c2:=ZD x (by unfold rm; omega)
 obtain ⟨R,hR⟩:∃ R,R=qA (Cl x):=⟨_,rfl⟩
 have sR:Settled R:=hR▸Xc _
 rw [← hR]
 refine Fq Tryz.call298 Tryz.func298 3 [] [] [] (by simp [wS]) (X0 1000 ?_); simp (config:={ maxSteps:=2000000 }) only [AS.start,↓X2,wA,seval,wE]
 refine X1 c1 rfl ?_
 by_cases h0:x<0
 ·have f1:(x.num.sign<0)=True:=eq_true ((Z9 _).2 h0)
  have e:Cl x = -x:=if_pos h0
  rw [e] at hR
  simp only [f1,↓X2,wA,seval,wE]
  refine X1 c2 rfl ?_
  simp only [↓X2,wA,seval,wE]
  exact JD rfl Qa rfl rfl rfl sR (hR.trans rfl)
 ·have f1:(x.num.sign<0)=False:=eq_false fun hh=>h0 ((Z9 _).1 hh)
  have e:Cl x=x:=if_neg h0
  rw [e] at hR
  simp only [f1,↓X2,wA,seval,wE]
  exact JD rfl Qa rfl rfl rfl sR (hR.trans rfl)
theorem j9 (n:V2) (hn:vb n≤100000):Fn Tryz.prog 294 [vA n] (qA (Zu n)):=by
 have:=QB n; have:=Qu n
 have a1:=En n.x; have a2:=En n.y
 have c1:=Su n.x (by unfold vm; omega)
 have c2:=Su n.y (by unfold vm; omega)
 have c3:=Jy (Cl n.x) (Cl n.y) (by unfold rm; omega) (by unfold rm; omega)
 rw [show Cl n.x+Cl n.y=Zu n from rfl] at c3
 obtain ⟨R,hR⟩:∃ R,R=qA (Zu n):=⟨_,rfl⟩
 have sR:Settled R:=hR▸Xc _
 rw [← hR] at c3 ⊢
 refine Fq Tryz.call294 Tryz.func294 3 [] [] [] (by simp [wS]) (X0 1000 ?_); simp (config:={ maxSteps:=2000000 }) only [AS.start,↓X2,wA,seval,wE]
 refine X1 c1 rfl ?_
 simp only [↓X2,wA,seval,wE]
 refine X1 c2 rfl ?_
 simp only [↓X2,wA,seval,wE]
 refine X1 c3 rfl ?_
 simp only [hR,↓X2,wA,seval,wE]
 exact JD rfl Qa rfl rfl rfl sR (hR.trans rfl)
theorem j8 (n:V2) (e:Rat) (hn:vb n≤100000) (he:qb e≤100000):Fn Tryz.prog 284 [vA n,qA e] (qA (e*Zu n)):=by
 have q:=Is n
 have c1:=j9 n hn
 have c2:=QT (Zu n) e (by unfold rm; omega) (by unfold rm; omega)
 rw [Rat.mul_comm] at c2
 obtain ⟨R,hR⟩:∃ R,R=qA (e*Zu n):=⟨_,rfl⟩
 have sR:Settled R:=hR▸Xc _
 rw [← hR] at c2 ⊢
 refine Fq Tryz.call284 Tryz.func284 5 [] [] [] (by simp [wS]) (X0 1000 ?_); simp (config:={ maxSteps:=2000000 }) only [AS.start,↓X2,wA,seval,wE]
 refine X1 c1 rfl ?_
 simp only [↓X2,wA,seval,wE]
 refine X1 c2 rfl ?_
 simp only [hR,↓X2,wA,seval,wE]
 exact JD rfl Qa rfl rfl rfl sR (hR.trans rfl)
theorem LZ (p q:V2) (hp:vb p≤100000) (hq:vb q≤100000):Fn Tryz.prog 281 [vA p,vA q] (vA (RT p q)):=by
 have:=QB p; have:=Qu p; have:=QB q; have:=Qu q
 have c1:=ZE q.y p.y (by unfold rm; omega) (by unfold rm; omega)
 have c2:=ZE p.x q.x (by unfold rm; omega) (by unfold rm; omega)
 have e:RT p q=⟨q.y - p.y,p.x - q.x⟩:=by
  unfold RT V2.sub
  rw [V2.ext']
  exact ⟨rfl,by simp only; grind⟩
 rw [e]
 obtain ⟨R,hR⟩:∃ R,R=vA ⟨q.y - p.y,p.x - q.x⟩:=⟨_,rfl⟩
 have sR:Settled R:=hR▸Xm _
 rw [← hR]
 refine Fq Tryz.call281 Tryz.func281 5 [] [] [] (by simp [wS]) (X0 1000 ?_); simp (config:={ maxSteps:=2000000 }) only [AS.start,↓X2,wA,seval,wE]
 refine X1 c1 rfl ?_
 simp only [↓X2,wA,seval,wE]
 refine X1 c2 rfl ?_
 simp only [↓X2,wA,seval,wE]
 exact Zg rfl Jn rfl rfl rfl sR (hR.trans rfl)
theorem OT (a:V2) (ha:vb a≤vm):Fn Tryz.prog 282 [vA a] (vA (Bf a)):=by
 unfold vm at ha
 have:=QB a; have:=Qu a
 have c1:=ZD a.x (by unfold rm; omega)
 have c2:=ZD a.y (by unfold rm; omega)
 obtain ⟨R,hR⟩:∃ R,R=vA (Bf a):=⟨_,rfl⟩
 have sR:Settled R:=hR▸Xm _
 rw [← hR]
 refine Fq Tryz.call282 Tryz.func282 3 [] [] [] (by simp [wS]) (X0 1000 ?_); simp (config:={ maxSteps:=2000000 }) only [AS.start,↓X2,wA,seval,wE]
 refine X1 c1 rfl ?_
 simp only [↓X2,wA,seval,wE]
 refine X1 c2 rfl ?_
 simp only [↓X2,wA,seval,wE]
 exact Zg rfl Jn rfl rfl rfl sR (hR.trans rfl)
theorem R9 (x:Rat) (l:List Rat):∀ k,(Zm (-1) x l k≤x∧∀ j,j<k→Zm (-1) x l k≤l.getD j 0)∧(Zm (-1) x l k=x∨∃ j,j<k∧Zm (-1) x l k=l.getD j 0)
 | 0=>⟨⟨Rat.le_refl,fun j hj=>absurd hj (Nat.not_lt_zero j)⟩,.inl rfl⟩
 | k+1=>by
  have ih:=R9 x l k
  simp only [Zm]
  by_cases h:XX (l.getD k 0) (Zm (-1) x l k) = -1
  ·rw [if_pos h]
   have h1:=(Sa _ _).1 h
   exact ⟨⟨Rat.le_trans (Rat.le_of_lt h1) ih.1.1,fun j hj=>by
    by_cases e:j=k
    ·rw [e]; exact Rat.le_refl
    ·exact Rat.le_trans (Rat.le_of_lt h1) (ih.1.2 j (by omega))⟩,.inr ⟨k,by omega,rfl⟩⟩
  ·rw [if_neg h]
   have h1:Zm (-1) x l k≤l.getD k 0:=by rw [← Rat.not_lt]; exact fun hh=>h ((Sa _ _).2 hh)
   refine ⟨⟨ih.1.1,fun j hj=>?_⟩,?_⟩
   ·by_cases e:j=k
    ·rw [e]; exact h1
    ·exact ih.1.2 j (by omega)
   ·rcases ih.2 with h2 | ⟨j,hj,h2⟩
    ·exact .inl h2
    ·exact .inr ⟨j,by omega,h2⟩
theorem R8 (x:Rat) (l:List Rat):∀ k,(x≤Zm 1 x l k∧∀ j,j<k→l.getD j 0≤Zm 1 x l k)∧(Zm 1 x l k=x∨∃ j,j<k∧Zm 1 x l k=l.getD j 0)
 | 0=>⟨⟨Rat.le_refl,fun j hj=>absurd hj (Nat.not_lt_zero j)⟩,.inl rfl⟩
 | k+1=>by
  have ih:=R8 x l k
  simp only [Zm]
  by_cases h:XX (l.getD k 0) (Zm 1 x l k)=1
  ·rw [if_pos h]
   have h1:=(G6 _ _).1 h
   exact ⟨⟨Rat.le_trans ih.1.1 (Rat.le_of_lt h1),fun j hj=>by
    by_cases e:j=k
    ·rw [e]; exact Rat.le_refl
    ·exact Rat.le_trans (ih.1.2 j (by omega)) (Rat.le_of_lt h1)⟩,.inr ⟨k,by omega,rfl⟩⟩
  ·rw [if_neg h]
   have h1:l.getD k 0≤Zm 1 x l k:=by rw [← Rat.not_lt]; exact fun hh=>h ((G6 _ _).2 hh)
   refine ⟨⟨ih.1.1,fun j hj=>?_⟩,?_⟩
   ·by_cases e:j=k
    ·rw [e]; exact h1
    ·exact ih.1.2 j (by omega)
   ·rcases ih.2 with h2 | ⟨j,hj,h2⟩
    ·exact .inl h2
    ·exact .inr ⟨j,by omega,h2⟩
theorem gi (l:List Rat) (h:0<l.length):(∀ j,j<l.length→Dy (-1) l≤l.getD j 0)∧∃ j,j<l.length∧Dy (-1) l=l.getD j 0:=by
 have hm:=R9 (l.getD 0 0) (l.drop 1) (l.drop 1).length
 rw [show Zm (-1) (l.getD 0 0) (l.drop 1) (l.drop 1).length=Dy (-1) l from rfl,List.length_drop] at hm
 refine ⟨fun j hj=>?_,?_⟩
 ·cases j with
  | zero=>exact hm.1.1
  | succ j=>have:=hm.1.2 j (by omega); rwa [AN,Nat.add_comm] at this
 ·rcases hm.2 with h2 | ⟨j,hj,h2⟩
  ·exact ⟨0,h,h2⟩
  ·exact ⟨1+j,by omega,by rw [h2,AN]⟩
theorem gh (l:List Rat) (h:0<l.length):(∀ j,j<l.length→l.getD j 0≤Dy 1 l)∧∃ j,j<l.length∧Dy 1 l=l.getD j 0:=by
 have hm:=R8 (l.getD 0 0) (l.drop 1) (l.drop 1).length
 rw [show Zm 1 (l.getD 0 0) (l.drop 1) (l.drop 1).length=Dy 1 l from rfl,List.length_drop] at hm
 refine ⟨fun j hj=>?_,?_⟩
 ·cases j with
  | zero=>exact hm.1.1
  | succ j=>have:=hm.1.2 j (by omega); rwa [AN,Nat.add_comm] at this
 ·rcases hm.2 with h2 | ⟨j,hj,h2⟩
  ·exact ⟨0,h,h2⟩
  ·exact ⟨1+j,by omega,by rw [h2,AN]⟩
def PZ (n:V2) (A B:List V2) (i k:Nat):Rat:=Q9 n ((B.getD k v0).sub (A.getD i v0))
theorem qT (n:V2) (A B:List V2) (i k:Nat):PZ n A B i k=Q9 n (B.getD k v0) - Q9 n (A.getD i v0):=by unfold PZ Q9 V2.sub; grind
theorem G2 (n:V2) (L:List V2) (i:Nat) (h:i<L.length):(Qb n L).getD i 0=Q9 n (L.getD i v0):=by
 unfold Qb
 rw [List.getD_eq_getElem?_getD,List.getElem?_map,List.getD_eq_getElem?_getD,List.getElem?_eq_getElem h]; rfl
theorem gD (n:V2) (A B:List V2) (pa:0<A.length) (pb:0<B.length) (g:Rat) (h1:∃ i k,i<A.length∧k<B.length∧g=PZ n A B i k) (h2:∀ i k,i<A.length→k<B.length→g≤PZ n A B i k):g=FH n A B:=by
 have lA:(Qb n A).length=A.length:=by simp [Qb]
 have lB:(Qb n B).length=B.length:=by simp [Qb]
 obtain ⟨u1,j,hj,u2⟩:=gi (Qb n B) (by omega)
 obtain ⟨w1,m,hm,w2⟩:=gh (Qb n A) (by omega)
 obtain ⟨i,k,hi,hk,e⟩:=h1
 rw [lA] at hm; rw [lB] at hj
 have a1:=u1 k (by omega)
 have a2:=w1 i (by omega)
 have a3:=h2 m j hm hj
 rw [G2 _ _ _ hk] at a1
 rw [G2 _ _ _ hi] at a2
 rw [G2 _ _ _ hj] at u2
 rw [G2 _ _ _ hm] at w2
 rw [qT] at e a3
 unfold FH
 apply Rat.le_antisymm <;> grind
theorem N9 (n:V2) (A B:List V2) (k:Nat) (ha:XU A k) (hb:XU B k) (i j:Nat):qb (PZ n A B i j)≤2*(vb n+2*k+1)+1:=by
 have:=Kd (B.getD j v0) (A.getD i v0)
 have:=ha i; have:=hb j
 have:=A4 n ((B.getD j v0).sub (A.getD i v0))
 unfold PZ; omega
theorem nQ (n:V2) (A B:List V2) (c:Nat) (ha:XU A c) (hb:XU B c) (hk:c≤10000) (la:A.length<1000000) (lb:B.length<1000000) (pa:0<A.length) (pb:0<B.length) (hn:vb n≤10000):Fn Tryz.prog 283 [vA n,Xt A,Xt B] (qA (FH n A B)):=by
 have hvc:∀ a:V2,∀ x∈vC a,Settled x:=fun a=>by simp [vC,X7,X3]
 have hqc:∀ r:Rat,∀ x∈qC r,Settled x:=fun r=>by simp [qC,X7,X3]
 have bn:XI 3 (.con 0 8 (Xq (vC n)))=True:=eq_true (fun j _=>X6 (Xd (hvc n) j))
 have bq:∀ r,XI 3 (.row 0 4 (Xq (qC r)))=True:=fun r=>eq_true (XG (hqc r))
 have bz:XI 3 (.row 0 4 (Xq B8))=True:=eq_true (by simp [B8,Xy])
 have bA:Jq 3 (Xt A)=True:=eq_true (X6 (Xf A))
 have bB:Jq 3 (Xt B)=True:=eq_true (X6 (Xf B))
 have step:∀ i k,i<A.length→k<B.length→Fn Tryz.prog 104 [vA (B.getD k v0),vA (A.getD i v0)] (vA ((B.getD k v0).sub (A.getD i v0)))∧Fn Tryz.prog 193 [vA n,vA ((B.getD k v0).sub (A.getD i v0))] (qA (PZ n A B i k)):=fun i k hi hk'=>by
  have:=ha i; have:=hb k
  have m:=Kd (B.getD k v0) (A.getD i v0)
  exact ⟨JM _ _ (by unfold rm; omega) (by unfold rm; omega),KS _ _ (by unfold vm; omega) (by unfold vm; omega)⟩
 obtain ⟨d1,d2⟩:=step 0 0 pa pb
 have v1:=vF A 0
 have v2:=vF B 0
 simp only [Nat.zero_mul,Nat.zero_add] at v1 v2
 have f1:(0<A.length)=True:=eq_true pa
 have f2:(0<B.length)=True:=eq_true pb
 have f3:((0:Int)<A.length)=True:=eq_true (by omega)
 have f4:((0:Int)<B.length)=True:=eq_true (by omega)
 have f5:(8≤A.length*8)=True:=eq_true (by omega)
 have f6:(8≤B.length*8)=True:=eq_true (by omega)
 obtain ⟨R,hR⟩:∃ R,R=qA (FH n A B):=⟨_,rfl⟩
 have sR:Settled R:=hR▸Xc _
 rw [← hR]
 refine Fq Tryz.call283 Tryz.func283 11 [] [1,20000003,8,90000003] [] (by simp [Xm,Xf]) (X0 1000 ?_)
 simp only [AS.start,X5,f1,f2,f3,f4,f5,f6,v1,v2,Int.toNat_zero,Int.reduceLE,↓X2,wA,seval,wE]
 refine X1 d1 rfl ?_
 simp only [↓X2,wA,seval,wE]
 refine X1 d2 rfl ?_
 simp only [↓X2,wA,seval,wE]
 refine Xe (fun p:Nat×Rat=>⟨11,[],[.any,Xt A,Xt B,.ref 0 0 0,.any,.any,.ref 1 0 0,.ref 2 0 0,I p.1,.any,.any],[],[.con 0 8 (Xq (vC n)),.row 0 4 (Xq B8),.row 0 4 (Xq (qC p.2))]⟩) (fun p=>p.1≤A.length∧(∃ i k,i<A.length∧k<B.length∧p.2=PZ n A B i k)∧∀ i k,i<p.1→k<B.length→p.2≤PZ n A B i k) (fun p=>A.length - p.1) (0,PZ n A B 0 0) ⟨by omega,⟨0,0,pa,pb,rfl⟩,fun i k hi=>absurd hi (Nat.not_lt_zero i)⟩
  (Xa rfl (by simp [Xh,X5,I]) (by simp [Xi]) (by simp [vC,qC,B8,X4])) ?_
 rintro ⟨i,g⟩ ⟨hi,hat,hle⟩ next
 simp only at hi hat hle
 have w1:=wj i (by omega)
 by_cases hi2:i<A.length
 rotate_left
 ·obtain rfl:i=A.length:=by omega
  rw [← gD n A B pa pb g hat (fun i k h1 h2=>hle i k h1 h2)] at hR
  refine X0 1000 ?_
  simp only [X5,B8,Int.lt_irrefl,Nat.lt_irrefl,↓X2,wA,seval,wE]
  exact JD rfl Qa rfl rfl rfl sR (hR.trans rfl)
 have g1:((i:Int)<A.length)=True:=eq_true (by omega)
 have g2:(i<A.length)=True:=eq_true hi2
 have g3:(i*8+8≤A.length*8)=True:=eq_true (by omega)
 refine X0 1000 ?_
 simp only [X5,w1,g1,g2,↓X2,wA,seval,wE]
 refine Xe (fun p:Nat×Rat=>⟨11,[],[.any,Xt A,Xt B,.ref 0 0 0,.any,.any,.ref 1 0 0,.ref 2 0 0,I i,I p.1,.any],[],[.con 0 8 (Xq (vC n)),.row 0 4 (Xq B8),.row 0 4 (Xq (qC p.2))]⟩) (fun p=>p.1≤B.length∧(∃ i k,i<A.length∧k<B.length∧p.2=PZ n A B i k)∧(∀ i' k,i'<i→k<B.length→p.2≤PZ n A B i' k)∧∀ k,k<p.1→p.2≤PZ n A B i k) (fun p=>B.length - p.1) (0,g) ⟨by omega,hat,hle,fun k hk=>absurd hk (Nat.not_lt_zero k)⟩
  (Xa rfl (by simp [Xh,X5,I]) (by simp [Xi]) (by simp [vC,qC,X4])) ?_
 rintro ⟨k,q⟩ ⟨hk1,qat,qle,qrow⟩ nextk
 simp only at hk1 qat qle qrow
 have u1:=wj k (by omega)
 by_cases hk2:k<B.length
 rotate_left
 ·obtain rfl:k=B.length:=by omega
  refine X0 1000 ?_
  simp only [X5,w1,Int.lt_irrefl,Nat.lt_irrefl,↓X2,wA,seval,wE]
  refine next (i+1,q) _ ⟨by simp only; omega,qat,fun i' k' h1 h2=>?_⟩ (by simp only; omega) (Xa rfl (by simp [Xh,X5,I]) (by simp [Xi]) (by simp [vC,qC,X4]))
  by_cases e:i'=i
  ·rw [e]; exact qrow k' h2
  ·exact qle i' k' (by simp only at h1; omega) h2
 have h1:((k:Int)<B.length)=True:=eq_true (by omega)
 have h2:(k<B.length)=True:=eq_true hk2
 have h3:(k*8+8≤B.length*8)=True:=eq_true (by omega)
 have x1:=vF A i
 have x2:=vF B k
 obtain ⟨s1,s2⟩:=step i k hi2 hk2
 have hd:=N9 n A B c ha hb i k
 have hq:qb q≤2*(vb n+2*c+1)+1:=by
  obtain ⟨a,b,_,_,e⟩:=qat
  rw [e]; exact N9 n A B c ha hb a b
 have s3:=Je (PZ n A B i k) q (by unfold rm; omega) (by unfold rm; omega)
 have hnew:(∃ i k,i<A.length∧k<B.length∧PZ n A B i k=PZ n A B i k):=⟨i,k,hi2,hk2,rfl⟩
 obtain ⟨D,hD⟩:∃ D,D=PZ n A B i k:=⟨_,rfl⟩
 rw [← hD] at s2 s3
 refine X0 1000 ?_
 simp only [X5,w1,u1,g1,g2,g3,h1,h2,h3,x1,x2,Int.toNat_natCast,↓X2,wA,seval,wE]
 refine X1 s1 rfl ?_
 simp only [X5,w1,u1,g1,g2,g3,h1,h2,h3,x1,x2,Int.toNat_natCast,↓X2,wA,seval,wE]
 refine X1 s2 rfl ?_
 simp only [X5,w1,u1,g1,g2,g3,h1,h2,h3,x1,x2,Int.toNat_natCast,↓X2,wA,seval,wE]
 refine X1 s3 rfl ?_
 by_cases hc:D<q
 ·have f:(XX D q<0)=True:=eq_true ((Kg _ _).2 hc)
  simp only [f,u1,↓X2,wA,seval,wE]
  refine nextk (k+1,D) _ ⟨by simp only; omega,⟨i,k,hi2,hk2,hD⟩,fun i' k' a b=>Rat.le_trans (Rat.le_of_lt hc) (qle i' k' a b),fun k' a=>?_⟩ (by simp only; omega) (Xz (m:=3) (Nat.zero_le _) rfl (by simp [X5,Xh,I]) (by simp [Xi]) (by simp [vC,qC,X4]) (by simp [Xy,bA,bB]) (by simp [Xy]) (by simp [bn,bq,bz]))
  by_cases e:k'=k
  ·rw [e,← hD]; exact Rat.le_refl
  ·exact Rat.le_trans (Rat.le_of_lt hc) (qrow k' (by simp only at a; omega))
 ·have f:(XX D q<0)=False:=eq_false fun hh=>hc ((Kg _ _).1 hh)
  simp only [f,u1,↓X2,wA,seval,wE]
  refine nextk (k+1,q) _ ⟨by simp only; omega,qat,qle,fun k' a=>?_⟩ (by simp only; omega) (Xz (m:=3) (Nat.zero_le _) rfl (by simp [X5,Xh,I]) (by simp [Xi]) (by simp [vC,qC,X4]) (by simp [Xy,bA,bB]) (by simp [Xy]) (by simp [bn,bq,bz]))
  by_cases e:k'=k
  ·rw [e,← hD]; exact Rat.not_lt.1 hc
  ·exact qrow k' (by simp only at a; omega)
theorem MQ (n:V2) (A B:List V2) (e:Rat) (k:Nat) (ha:XU A k) (hb:XU B k) (hk:k≤10000) (la:A.length<1000000) (lb:B.length<1000000) (pa:0<A.length) (pb:0<B.length) (hn:vb n≤10000) (he:qb e≤10000):Fn Tryz.prog 266 [vA n,Xt A,Xt B,qA e] (.bool (decide (H9 n A B e))):=by
 have c1:=nQ n A B k ha hb hk la lb pa pb hn
 have c2:=j8 n e (by omega) (by omega)
 have q1:=Ni n A B k ha hb
 have q2:=Is n
 have q3:=QD e (Zu n)
 have c3:=Je (FH n A B) (e*Zu n) (by unfold rm; omega) (by unfold rm; omega)
 have hd:decide (H9 n A B e)=decide (0≤XX (FH n A B) (e*Zu n)):=decide_eq_decide.2 (G5 _ _).symm
 rw [hd]
 refine Fq Tryz.call266 Tryz.func266 9 [] [] [] (by simp [Xm,Xf,Xc]) (X0 1000 ?_)
 simp only [AS.start,X5,↓X2,wA,seval,wE]
 refine X1 c1 rfl ?_
 simp only [↓X2,wA,seval,wE]
 refine X1 c2 rfl ?_
 simp only [↓X2,wA,seval,wE]
 refine X1 c3 rfl ?_
 simp only [↓X2,wA,seval,wE]
 exact Xs rfl rfl (X3 _) rfl
end
end Go.Ab.N
