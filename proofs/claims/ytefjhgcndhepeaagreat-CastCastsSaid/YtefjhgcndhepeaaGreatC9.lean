/- Contracts of functions of these chapters, for every argument that fits, and what they need. -/
import Derived.Test.YtefjhgcndhepeaaGreatC8
set_option linter.unusedSimpArgs false
set_option linter.unusedVariables false
open Nat renaming reducePow → Y1, reduceLT → Y2, reduceLeDiff → Y3, reduceEqDiff → Y4, reduceAdd → Y5, reduceMul → Y6, reduceSub → Y7, reduceBEq → Y8, reduceDiv → Y9, reduceMod → YA
namespace Go.Ab.N
open Go Go.RowKit Go.Proofs
noncomputable section
set_option maxRecDepth 10000
set_option maxHeartbeats 4000000
open Classical
noncomputable def sF (g:Nat→Rat):Nat→Rat
 | 0=>g 0
 | k+1=>av (sF g k) (g (k+1))
noncomputable def sw (g:Nat→Rat):Nat→Rat
 | 0=>g 0
 | k+1=>au (sw g k) (g (k+1))
theorem Lh (g:Nat→Rat) (c:Nat) (h:∀ k,qb (g k)≤c):∀ n,qb (sF g n)≤c
 | 0=>h 0
 | n+1=>ql _ _ _ (Lh g c h n) (h _)
theorem Lg (g:Nat→Rat) (c:Nat) (h:∀ k,qb (g k)≤c):∀ n,qb (sw g n)≤c
 | 0=>h 0
 | n+1=>qk _ _ _ (Lg g c h n) (h _)
def A8 (a b:List (Int×Int)) (f:FV) (k:Nat):V2 :=
 (Js (a.getD (xK a.length f k) (0,0))).sub (Lv f.turn (Js (b.getD ((f.EB+1 - k) % b.length).toNat (0,0))))
noncomputable def Ay (a b:List (Int×Int)) (f:FV) (k:Nat):V2:=⟨sF (fun j=>(A8 a b f j).x) k,sF (fun j=>(A8 a b f j).y) k⟩
noncomputable def Ax (a b:List (Int×Int)) (f:FV) (k:Nat):V2:=⟨sw (fun j=>(A8 a b f j).x) k,sw (fun j=>(A8 a b f j).y) k⟩
noncomputable def XL (a b:List (Int×Int)) (f:FV) (e:Rat):V2×V2×Bool :=
 if C9 a.length b.length f∧CV f.turn then
  let lo:=(Ay a b f f.M.toNat).sub ⟨e,e⟩
  let hi:=(Ax a b f f.M.toNat).add ⟨e,e⟩
  if hi.x<lo.x∨hi.y<lo.y then (v0,v0,false) else (lo,hi,true)
 else (v0,v0,false)
theorem Kz {R:List (Int×Int)} (h:QU R) (i:Nat):vb (Js (R.getD i (0,0)))≤3:=by
 have:=Du h i
 have q1:=Zt (R.getD i (0,0)).1 3 (by omega) (QM ⟨by omega,by omega⟩)
 have q2:=Zt (R.getD i (0,0)).2 3 (by omega) (QM ⟨by omega,by omega⟩)
 unfold vb Js
 simp only
 omega
theorem Bf {a b:List (Int×Int)} (ha:QU a) (hb:QU b) (f:FV) (ht:vb f.turn≤1000) (k:Nat):vb (A8 a b f k)≤3000:=by
 have h1:=Kz ha (xK a.length f k)
 have h2:=Kz hb ((f.EB+1 - k) % b.length).toNat
 unfold A8
 have h3:=CY f.turn (Js (b.getD ((f.EB+1 - k) % b.length).toNat (0,0)))
 have h4:=K5 (Js (a.getD (xK a.length f k) (0,0))) (Lv f.turn (Js (b.getD ((f.EB+1 - k) % b.length).toNat (0,0))))
 omega
theorem Cj {a b:List (Int×Int)} (ha:QU a) (hb:QU b) (f:FV) (ht:vb f.turn≤1000) (k:Nat):vb (Ay a b f k)≤3000:=by
 have h1:=Lh (fun j=>(A8 a b f j).x) 3000 (fun j=>Nat.le_trans (Qw _) (Bf ha hb f ht j)) k
 have h2:=Lh (fun j=>(A8 a b f j).y) 3000 (fun j=>Nat.le_trans (Qr _) (Bf ha hb f ht j)) k
 exact Nat.max_le.2 ⟨h1,h2⟩
theorem Cg {a b:List (Int×Int)} (ha:QU a) (hb:QU b) (f:FV) (ht:vb f.turn≤1000) (k:Nat):vb (Ax a b f k)≤3000:=by
 have h1:=Lg (fun j=>(A8 a b f j).x) 3000 (fun j=>Nat.le_trans (Qw _) (Bf ha hb f ht j)) k
 have h2:=Lg (fun j=>(A8 a b f j).y) 3000 (fun j=>Nat.le_trans (Qr _) (Bf ha hb f ht j)) k
 exact Nat.max_le.2 ⟨h1,h2⟩
theorem I2 {P:Program} {fn:Func} {str hcs:List Nat} {a b c x y z:AV} {s:AS} {r1 r2 r3:ResultVar} (hr:fn.results=#[r1,r2,r3]) (h1:QA P s r1=some x) (h2:QA P s r2=some y) (h3:QA P s r3=some z) (g1:JJ s.h x a) (g2:JJ s.h y b) (g3:JJ s.h z c) :
  RetOk (Qn P fn str hcs (.tup [a,b,c])) s :=
 ⟨.tup [x,y,z],by simp [ZX,IJ,CB,hr,Jl,B5,h1,h2,h3],Zk ⟨g1,g2,g3,trivial⟩⟩
def XT:List AV:=[.bool false,.sl 0 0 (fun _=>.any) true,.bool false,.sl 0 0 (fun _=>.any) true,.bool false,.sl 0 0 (fun _=>.any) true,.bool false,.sl 0 0 (fun _=>.any) true]
noncomputable def Yh (a b:List (Int×Int)) (f:FV):Nat→List AV
 | 0=>XT
 | k+1=>vC (Ay a b f k)
noncomputable def Yc (a b:List (Int×Int)) (f:FV):Nat→List AV
 | 0=>XT
 | k+1=>vC (Ax a b f k)
theorem KQ (a b:List (Int×Int)) (f:FV):∀ k,∀ x∈Yh a b f k,Settled x
 | 0=>fun x h=>by
  simp only [Yh,XT,List.mem_cons,List.not_mem_nil,or_false] at h
  rcases h with rfl | rfl | rfl | rfl | rfl | rfl | rfl | rfl <;> first | exact X3 _ | exact JD (fun j hj=>absurd hj (Nat.not_lt_zero j))
 | k+1=>by simp [Yh,vC,X7,X3]
theorem RP (a b:List (Int×Int)) (f:FV):∀ k,∀ x∈Yc a b f k,Settled x
 | 0=>fun x h=>by
  simp only [Yc,XT,List.mem_cons,List.not_mem_nil,or_false] at h
  rcases h with rfl | rfl | rfl | rfl | rfl | rfl | rfl | rfl <;> first | exact X3 _ | exact JD (fun j hj=>absurd hj (Nat.not_lt_zero j))
 | k+1=>by simp [Yc,vC,X7,X3]
def yL (m:Nat) (f:FV) (k:Nat):Nat:=((f.EB+1 - k) % m).toNat
theorem iK (m:Nat) (f:FV) (k:Nat) (h:0<m):(f.EB+1 - k) % (m:Int)=(yL m f k:Int):=by
 have:=Int.emod_nonneg (f.EB+1 - k) (show (m:Int)≠0 by omega)
 unfold yL; omega
theorem o0 (m:Nat) (f:FV) (k:Nat) (h:0<m):yL m f k<m:=by
 have:=iK m f k h
 have:=Int.emod_lt_of_pos (f.EB+1 - k) (show (0:Int)<m by omega)
 omega
theorem OL (a b:PV) (f:FV) (ha:a.even) (hb:b.even) (ht:vb f.turn≤1000) {ta tb:Rat} (ea:a.tol=RQ.of ta) (eb:b.tol=RQ.of tb) (qa:qb ta≤1000) (q2:qb tb≤1000) :
  Fn Tryz.prog 46 [Q3 a,Q3 b,Kt f] (.tup [vA (XL a.rim b.rim f (ta+tb)).1,vA (XL a.rim b.rim f (ta+tb)).2.1,.bool (XL a.rim b.rim f (ta+tb)).2.2]):=by
 have la:=ha.rim; have lb:=hb.rim
 obtain ⟨R,hR⟩:∃ R,R=XL a.rim b.rim f (ta+tb):=⟨_,rfl⟩
 rw [← hR]
 have zret:∀ {s:AS} {i j v w:Nat},s.get 6=.ref i v 0→s.h[i]?=some (.row v 8 (Xq Ae))→s.get 7=.ref j w 0→s.h[j]?=some (.row w 8 (Xq Ae))→s.get 8=.bool false→R=(v0,v0,false)→RetOk (Qn Tryz.prog Tryz.f46 [9,100000005,11,120000015,18,190000012,190000013] [] (.tup [vA R.1,vA R.2.1,.bool R.2.2])) s:=fun h1 h2 h3 h4 h5 h6=>by
  subst h6
  exact I2 rfl (Xo Jh h1 h2 rfl) (Xo Jh h3 h4 rfl) (by unfold QA; rfl) (Xr (Xn _) (XS Z0)) (Xr (Xn _) (XS Z0)) (by rw [h5]; exact (X3 _).sees _)
 have cs:=H0 a b f la lb
 have ct:=gm f.turn (by unfold vm; omega)
 refine Fq Tryz.call46 Tryz.func46 16 [40,41] [9,100000005,11,120000015,18,190000012,190000013] [] (by simp [Xu,XK]) (X1 1000 ?_)
 simp only [AS.start,Q3,XC,Kt,Qg,↓X2,wA,↓reduceIte,reduceIte,reduceCtorEq,Y1,Y2,Y3,Y4,Y5,Y6,Y7,Y8,Y9,YA,wE]
 refine X0 cs rfl ?_
 by_cases hf:C9 a.rim.length b.rim.length f
 rotate_left
 ·rw [decide_eq_false hf]
  simp only [↓X2,wA,↓reduceIte,reduceIte,reduceCtorEq,Y1,Y2,Y3,Y4,Y5,Y6,Y7,Y8,Y9,YA,wE]
  exact zret rfl rfl rfl rfl rfl (by rw [hR]; unfold XL; rw [if_neg fun h=>hf h.1])
 rw [decide_eq_true hf]
 simp only [↓X2,wA,↓reduceIte,reduceIte,reduceCtorEq,Y1,Y2,Y3,Y4,Y5,Y6,Y7,Y8,Y9,YA,wE]
 refine X0 ct rfl ?_
 by_cases hto:CV f.turn
 rotate_left
 ·rw [decide_eq_false hto]
  simp only [↓X2,wA,↓reduceIte,reduceIte,reduceCtorEq,Y1,Y2,Y3,Y4,Y5,Y6,Y7,Y8,Y9,YA,wE]
  exact zret rfl rfl rfl rfl rfl (by rw [hR]; unfold XL; rw [if_neg fun h=>hto h.2])
 rw [decide_eq_true hto]
 have hRe:R=if ((Ax a.rim b.rim f f.M.toNat).add ⟨ta+tb,ta+tb⟩).x<((Ay a.rim b.rim f f.M.toNat).sub ⟨ta+tb,ta+tb⟩).x∨((Ax a.rim b.rim f f.M.toNat).add ⟨ta+tb,ta+tb⟩).y<((Ay a.rim b.rim f f.M.toNat).sub ⟨ta+tb,ta+tb⟩).y then (v0,v0,false) else ((Ay a.rim b.rim f f.M.toNat).sub ⟨ta+tb,ta+tb⟩,(Ax a.rim b.rim f f.M.toNat).add ⟨ta+tb,ta+tb⟩,true):=by
  rw [hR]; unfold XL; rw [if_pos ⟨hf,hto⟩]
 clear hR
 obtain ⟨⟨s1,s2⟩,⟨s3,s4⟩,s5,s6,s7⟩:=hf
 obtain ⟨N,hN⟩:∃ N:Nat,f.M=N:=⟨f.M.toNat,by omega⟩
 have hNt:f.M.toNat=N:=by rw [hN]; rfl
 rw [hNt] at hRe
 have r1:=Oj a la (AK ha.near)
 have r2:=Oj b lb (AK hb.near)
 have hla:(Xz a.rim).length=a.rim.length:=by simp [Xz]
 have hlb:(Xz b.rim).length=b.rim.length:=by simp [Xz]
 have c3:Fn Tryz.prog 70 [a.tol.A,b.tol.A] (qA (ta+tb)):=by rw [ea,eb]; exact Az ta tb (by unfold rm; omega) (by unfold rm; omega)
 have qe:=Jq ta tb
 simp only [↓X2,wA,↓reduceIte,reduceIte,reduceCtorEq,Y1,Y2,Y3,Y4,Y5,Y6,Y7,Y8,Y9,YA,wE]
 refine X0 r1 rfl ?_
 simp only [↓X2,wA,↓reduceIte,reduceIte,reduceCtorEq,Y1,Y2,Y3,Y4,Y5,Y6,Y7,Y8,Y9,YA,wE]
 refine X0 r2 rfl ?_
 simp only [↓X2,wA,↓reduceIte,reduceIte,reduceCtorEq,Y1,Y2,Y3,Y4,Y5,Y6,Y7,Y8,Y9,YA,wE]
 refine X0 c3 rfl ?_
 have wM:IntKind.i64.wrap (f.M+1)=((N+1:Nat):Int):=by rw [IntKind.wrap_i64]; omega
 simp only [wM,↓X2,wA,↓reduceIte,reduceIte,reduceCtorEq,Y1,Y2,Y3,Y4,Y5,Y6,Y7,Y8,Y9,YA,wE]
 have ba:XI 8 (.row 0 25 (Xq (XC a)))=True:=eq_true (XG (XF a))
 have bb:XI 8 (.row 0 25 (Xq (XC b)))=True:=eq_true (XG (XF b))
 have bf:XI 8 (.con 0 29 (Xq (Qg f)))=True:=eq_true (fun j _=>X6 (Xg (Qt f) j))
 have bz:XI 8 (.row 0 8 (Xq XT))=True:=eq_true (XG (KQ a.rim b.rim f 0))
 have be:XI 8 (.row 0 4 (Xq [.bool (decide ((ta+tb).num<0)),X8 (Xb (ta+tb).num.natAbs),.bool false,X8 (Xb (qd (ta+tb)))]))=True:=eq_true (XG (by simp [X7,X3]))
 have bl:∀ k,XI 8 (.row 0 8 (Xq (Yh a.rim b.rim f k)))=True:=fun k=>eq_true (XG (KQ a.rim b.rim f k))
 have bh:∀ k,XI 8 (.row 0 8 (Xq (Yc a.rim b.rim f k)))=True:=fun k=>eq_true (XG (RP a.rim b.rim f k))
 have bx:Jj 8 (Xp (Xz a.rim))=True:=eq_true (X6 (Xd _))
 have by':Jj 8 (Xp (Xz b.rim))=True:=eq_true (X6 (Xd _))
 refine Xe (fun k:Nat=>⟨16,[40,41],[.any,.any,.any,.ref 0 0 0,.ref 1 0 0,.ref 2 0 0,.ref 3 0 0,.ref 4 0 0,.bool false,Xp (Xz a.rim),Xp (Xz b.rim),.ref 5 0 0,.ref 6 0 0,.ref 7 0 0,.any,.any],[(40,I ((N+1:Nat):Int)),(41,I k)],[.row 0 25 (Xq (XC a)),.row 0 25 (Xq (XC b)),.con 0 29 (Xq (Qg f)),.row 0 8 (Xq XT),.row 0 8 (Xq XT),.row 0 4 (Xq [.bool (decide ((ta+tb).num<0)),X8 (Xb (ta+tb).num.natAbs),.bool false,X8 (Xb (qd (ta+tb)))]),.row 0 8 (Xq (Yh a.rim b.rim f k)),.row 0 8 (Xq (Yc a.rim b.rim f k))]⟩) (fun k=>k≤N+1) (fun k=>N+1 - k) 0 (by omega)
  (Sub.trans (Qp 2 rfl) (Xa rfl (by simp [Xh,X5,I]) (by simp [Xi,Xw,I]) (by simp [XC,Qg,XT,Yh,Yc,Xf,Xl,X4,I]))) ?_
 intro k hk next
 have w1:=wj k (by omega)
 by_cases hk2:k<N+1
 ·have nx:=next (k+1)
  have fk:((k:Int)<((N+1:Nat):Int))=True:=eq_true (by omega)
  have wx:IntKind.i64.wrap (f.EA+(k:Int))=f.EA+(k:Int):=by rw [IntKind.wrap_i64]; omega
  have wy1:IntKind.i64.wrap (f.EB+1)=f.EB+1:=by rw [IntKind.wrap_i64]; omega
  have wy:IntKind.i64.wrap (f.EB+1 - (k:Int))=f.EB+1 - (k:Int):=by rw [IntKind.wrap_i64]; omega
  have c1:=CD (f.EA+(k:Int)) a.rim.length (by omega) (by omega) (by omega)
  have c2:=CD (f.EB+1 - (k:Int)) b.rim.length (by omega) (by omega) (by omega)
  rw [Hz _ _ _ (by omega)] at c1
  rw [iK _ _ _ (by omega)] at c2
  have hX:=VG a.rim.length f k (by omega)
  have hY:=o0 b.rim.length f k (by omega)
  have vx:=Kz ha.near (xK a.rim.length f k)
  have vy:=Kz hb.near (yL b.rim.length f k)
  have vr:=CY f.turn (Js (b.rim.getD (yL b.rim.length f k) (0,0)))
  have c3:=Le f.turn (Js (b.rim.getD (yL b.rim.length f k) (0,0))) (by unfold vm; omega) (by unfold vm; omega)
  have c4:=CI (Js (a.rim.getD (xK a.rim.length f k) (0,0))) (Lv f.turn (Js (b.rim.getD (yL b.rim.length f k) (0,0)))) (by unfold rm; omega) (by unfold rm; omega)
  rw [show (Js (a.rim.getD (xK a.rim.length f k) (0,0))).sub (Lv f.turn (Js (b.rim.getD (yL b.rim.length f k) (0,0))))=A8 a.rim b.rim f k from rfl] at c4
  have hD:=Bf ha.near hb.near f ht
  have hL:=Cj ha.near hb.near f ht
  have hH:=Cg ha.near hb.near f ht
  have v1:=vF (Xz a.rim) (xK a.rim.length f k)
  have v2:=vF (Xz b.rim) (yL b.rim.length f k)
  rw [G5] at v1 v2
  generalize xK a.rim.length f k=X at *
  generalize yL b.rim.length f k=Y at *
  generalize Js (a.rim.getD X (0,0))=PX at *
  generalize Js (b.rim.getD Y (0,0))=PY at *
  generalize Lv f.turn PY=RY at *
  have fX:((X:Int)<a.rim.length)=True:=eq_true (by omega)
  have fX':(X<a.rim.length)=True:=eq_true hX
  have fX8:(X*8+8≤a.rim.length*8)=True:=eq_true (by omega)
  have fY:((Y:Int)<b.rim.length)=True:=eq_true (by omega)
  have fY':(Y<b.rim.length)=True:=eq_true hY
  have fY8:(Y*8+8≤b.rim.length*8)=True:=eq_true (by omega)
  refine X1 1000 ?_
  simp only [Qg,X5,w1,wx,wy1,wy,fk,fX,fX',fX8,fY,fY',fY8,hla,hlb,v1,v2,Int.toNat_natCast,↓X2,wA,↓reduceIte,reduceIte,reduceCtorEq,Y1,Y2,Y3,Y4,Y5,Y6,Y7,Y8,Y9,YA,wE]
  refine X0 c1 rfl ?_
  simp only [Qg,X5,w1,wx,wy1,wy,fk,fX,fX',fX8,fY,fY',fY8,hla,hlb,v1,v2,Int.toNat_natCast,↓X2,wA,↓reduceIte,reduceIte,reduceCtorEq,Y1,Y2,Y3,Y4,Y5,Y6,Y7,Y8,Y9,YA,wE]
  refine X0 c2 rfl ?_
  simp only [Qg,X5,w1,wx,wy1,wy,fk,fX,fX',fX8,fY,fY',fY8,hla,hlb,v1,v2,Int.toNat_natCast,↓X2,wA,↓reduceIte,reduceIte,reduceCtorEq,Y1,Y2,Y3,Y4,Y5,Y6,Y7,Y8,Y9,YA,wE]
  refine X0 c3 rfl ?_
  simp only [Qg,X5,w1,wx,wy1,wy,fk,fX,fX',fX8,fY,fY',fY8,hla,hlb,v1,v2,Int.toNat_natCast,↓X2,wA,↓reduceIte,reduceIte,reduceCtorEq,Y1,Y2,Y3,Y4,Y5,Y6,Y7,Y8,Y9,YA,wE]
  refine X0 c4 rfl ?_
  match k,w1,fk,hk2,nx with
  | 0,w1,fk,hk2,nx =>
   have e0:((0:Nat):Int)=0:=rfl
   have hL0:Yh a.rim b.rim f 1=vC (A8 a.rim b.rim f 0):=rfl
   have hH0:Yc a.rim b.rim f 1=vC (A8 a.rim b.rim f 0):=rfl
   simp only [Nat.zero_add,hL0,hH0] at nx
   generalize A8 a.rim b.rim f 0=D at *
   have w0:IntKind.i64.wrap (0+1)=1:=by decide
   have bD:XI 8 (.row 0 8 (Xq (vC D)))=True:=eq_true (XG (by simp [vC,X7,X3]))
   simp only [Yh,Yc,XT,e0,w0,↓X2,wA,↓reduceIte,reduceIte,reduceCtorEq,Y1,Y2,Y3,Y4,Y5,Y6,Y7,Y8,Y9,YA,wE]
   exact nx _ (by omega) (by omega) (Xy (m:=8) (Nat.zero_le _) rfl (by simp [Xh,X5,hla,hlb,I]) (by simp [Xi,Xw,I]) (by simp [XC,Qg,XT,Yh,Yc,vC,Xf,Xl,X4,I]) (by simp [Xx,bx,by']) (by simp [Xx]) (by simp [ba,bb,bf,bz,be,bD,bl,bh]))
  | j+1,w1,fk,hk2,nx =>
   have g0:(((j+1:Nat):Int)=0)=False:=eq_false (by omega)
   have g0':((j:Int)+1=0)=False:=eq_false (by omega)
   have g0'':(j+1=0)=False:=eq_false (by omega)
   have bD:=bl 0
   have hl1:Yh a.rim b.rim f (j+1)=vC (Ay a.rim b.rim f j):=rfl
   have hh1:Yc a.rim b.rim f (j+1)=vC (Ax a.rim b.rim f j):=rfl
   have hl2:Yh a.rim b.rim f (j+1+1)=vC (Ay a.rim b.rim f (j+1)):=rfl
   have hh2:Yc a.rim b.rim f (j+1+1)=vC (Ax a.rim b.rim f (j+1)):=rfl
   have hDj:=hD (j+1); have hLj:=hL j; have hHj:=hH j
   have k1:=Mu (Ay a.rim b.rim f j).x (A8 a.rim b.rim f (j+1)).x (by have:=Qw (Ay a.rim b.rim f j); unfold rm; omega) (by have:=Qw (A8 a.rim b.rim f (j+1)); unfold rm; omega)
   have k2:=Mu (Ay a.rim b.rim f j).y (A8 a.rim b.rim f (j+1)).y (by have:=Qr (Ay a.rim b.rim f j); unfold rm; omega) (by have:=Qr (A8 a.rim b.rim f (j+1)); unfold rm; omega)
   have k3:=LC (Ax a.rim b.rim f j).x (A8 a.rim b.rim f (j+1)).x (by have:=Qw (Ax a.rim b.rim f j); unfold rm; omega) (by have:=Qw (A8 a.rim b.rim f (j+1)); unfold rm; omega)
   have k4:=LC (Ax a.rim b.rim f j).y (A8 a.rim b.rim f (j+1)).y (by have:=Qr (Ax a.rim b.rim f j); unfold rm; omega) (by have:=Qr (A8 a.rim b.rim f (j+1)); unfold rm; omega)
   rw [show av (Ay a.rim b.rim f j).x (A8 a.rim b.rim f (j+1)).x=(Ay a.rim b.rim f (j+1)).x from rfl] at k1
   rw [show av (Ay a.rim b.rim f j).y (A8 a.rim b.rim f (j+1)).y=(Ay a.rim b.rim f (j+1)).y from rfl] at k2
   rw [show au (Ax a.rim b.rim f j).x (A8 a.rim b.rim f (j+1)).x=(Ax a.rim b.rim f (j+1)).x from rfl] at k3
   rw [show au (Ax a.rim b.rim f j).y (A8 a.rim b.rim f (j+1)).y=(Ax a.rim b.rim f (j+1)).y from rfl] at k4
   have bl2:=bl (j+1+1); have bh2:=bh (j+1+1)
   simp only [hl2,hh2] at nx bl2 bh2
   rw [hl1,hh1]
   clear hD hL hH
   generalize A8 a.rim b.rim f (j+1)=D at *
   generalize Ay a.rim b.rim f (j+1)=L2 at *
   generalize Ax a.rim b.rim f (j+1)=H2 at *
   generalize Ay a.rim b.rim f j=L1 at *
   generalize Ax a.rim b.rim f j=H1 at *
   simp only [g0,g0',g0'',w1,↓X2,wA,↓reduceIte,reduceIte,reduceCtorEq,Y1,Y2,Y3,Y4,Y5,Y6,Y7,Y8,Y9,YA,wE]
   refine X0 k1 rfl ?_
   simp only [g0,g0',g0'',w1,↓X2,wA,↓reduceIte,reduceIte,reduceCtorEq,Y1,Y2,Y3,Y4,Y5,Y6,Y7,Y8,Y9,YA,wE]
   refine X0 k3 rfl ?_
   simp only [g0,g0',g0'',w1,↓X2,wA,↓reduceIte,reduceIte,reduceCtorEq,Y1,Y2,Y3,Y4,Y5,Y6,Y7,Y8,Y9,YA,wE]
   refine X0 k2 rfl ?_
   simp only [g0,g0',g0'',w1,↓X2,wA,↓reduceIte,reduceIte,reduceCtorEq,Y1,Y2,Y3,Y4,Y5,Y6,Y7,Y8,Y9,YA,wE]
   refine X0 k4 rfl ?_
   simp only [g0,g0',g0'',w1,↓X2,wA,↓reduceIte,reduceIte,reduceCtorEq,Y1,Y2,Y3,Y4,Y5,Y6,Y7,Y8,Y9,YA,wE]
   exact nx _ (by omega) (by omega) (Xy (m:=8) (Nat.zero_le _) rfl (by simp [Xh,X5,hla,hlb,I]) (by simp [Xi,Xw,I]) (by simp [XC,Qg,XT,Yh,Yc,vC,Xf,Xl,X4,I]) (by simp [Xx,bx,by']) (by simp [Xx]) (by simp [ba,bb,bf,bz,be,bD,bl2,bh2]))
 obtain rfl:k=N+1:=by omega
 have hL:=Cj ha.near hb.near f ht N
 have hH:=Cg ha.near hb.near f ht N
 have hl1:Yh a.rim b.rim f (N+1)=vC (Ay a.rim b.rim f N):=rfl
 have hh1:Yc a.rim b.rim f (N+1)=vC (Ax a.rim b.rim f N):=rfl
 rw [hl1,hh1]
 clear bl bh hl1 hh1
 generalize Ay a.rim b.rim f N=LO at *
 generalize Ax a.rim b.rim f N=HI at *
 have m0:vb ⟨ta+tb,ta+tb⟩≤2001:=by unfold vb; simp only; omega
 have m1:=K5 LO ⟨ta+tb,ta+tb⟩
 have m2:=Cb HI ⟨ta+tb,ta+tb⟩
 have c1:=CI LO ⟨ta+tb,ta+tb⟩ (by unfold rm; omega) (by unfold rm; omega)
 have c2:=O8 HI ⟨ta+tb,ta+tb⟩ (by unfold vm; omega) (by unfold vm; omega)
 generalize LO.sub ⟨ta+tb,ta+tb⟩=A at *
 generalize HI.add ⟨ta+tb,ta+tb⟩=B at *
 have:=Qw A; have:=Qr A; have:=Qw B; have:=Qr B
 have q1:=Ki A.x B.x (by unfold rm; omega) (by unfold rm; omega)
 have q2:=Ki A.y B.y (by unfold rm; omega) (by unfold rm; omega)
 refine X1 1000 ?_
 simp only [Qg,Int.lt_irrefl,Nat.lt_irrefl,↓X2,wA,↓reduceIte,reduceIte,reduceCtorEq,Y1,Y2,Y3,Y4,Y5,Y6,Y7,Y8,Y9,YA,wE]
 refine X0 c1 rfl ?_
 simp only [↓X2,wA,↓reduceIte,reduceIte,reduceCtorEq,Y1,Y2,Y3,Y4,Y5,Y6,Y7,Y8,Y9,YA,wE]
 refine X0 c2 rfl ?_
 simp only [↓X2,wA,↓reduceIte,reduceIte,reduceCtorEq,Y1,Y2,Y3,Y4,Y5,Y6,Y7,Y8,Y9,YA,wE]
 refine X0 q1 rfl ?_
 by_cases h1:B.x<A.x
 ·have f1:(0<Q6 A.x B.x)=True:=eq_true ((JI _ _).2 h1)
  simp only [f1,XT,↓X2,wA,↓reduceIte,reduceIte,reduceCtorEq,Y1,Y2,Y3,Y4,Y5,Y6,Y7,Y8,Y9,YA,wE]
  exact zret rfl rfl rfl rfl rfl (by rw [hRe,if_pos (.inl h1)])
 have f1:(0<Q6 A.x B.x)=False:=eq_false fun h=>h1 ((JI _ _).1 h)
 simp only [f1,↓X2,wA,↓reduceIte,reduceIte,reduceCtorEq,Y1,Y2,Y3,Y4,Y5,Y6,Y7,Y8,Y9,YA,wE]
 refine X0 q2 rfl ?_
 by_cases h2:B.y<A.y
 ·have f2:(0<Q6 A.y B.y)=True:=eq_true ((JI _ _).2 h2)
  simp only [f1,f2,XT,↓X2,wA,↓reduceIte,reduceIte,reduceCtorEq,Y1,Y2,Y3,Y4,Y5,Y6,Y7,Y8,Y9,YA,wE]
  exact zret rfl rfl rfl rfl rfl (by rw [hRe,if_pos (.inr h2)])
 have f2:(0<Q6 A.y B.y)=False:=eq_false fun h=>h2 ((JI _ _).1 h)
 simp only [f1,f2,XT,↓X2,wA,↓reduceIte,reduceIte,reduceCtorEq,Y1,Y2,Y3,Y4,Y5,Y6,Y7,Y8,Y9,YA,wE]
 rw [if_neg fun h=>h.elim h1 h2] at hRe
 subst hRe
 exact I2 rfl (Xo Jh rfl rfl rfl) (Xo Jh rfl rfl rfl) (by unfold QA; rfl) (Xr (Xn _) (XS (Q9 (vC A)))) (Xr (Xn _) (XS (Q9 (vC B)))) ((X3 _).sees _)
def qY (e:Rat):List AV:=[.bool (decide (e.num<0)),X8 (Xb e.num.natAbs),.bool false,X8 (Xb (qd e))]
noncomputable def ar (a b:List (Int×Int)) (f:FV) (e:Rat):Nat→List AV
 | 0=>XT
 | k+1=>vC ((Ay a b f k).sub ⟨e,e⟩)
noncomputable def aq (a b:List (Int×Int)) (f:FV) (e:Rat):Nat→List AV
 | 0=>XT
 | k+1=>vC ((Ax a b f k).add ⟨e,e⟩)
theorem RT (a b:List (Int×Int)) (f:FV) (e:Rat):∀ k,∀ x∈ar a b f e k,Settled x
 | 0=>KQ a b f 0
 | k+1=>by simp [ar,vC,X7,X3]
theorem RS (a b:List (Int×Int)) (f:FV) (e:Rat):∀ k,∀ x∈aq a b f e k,Settled x
 | 0=>KQ a b f 0
 | k+1=>by simp [aq,vC,X7,X3]
theorem fM (x y e:Rat):(0<Q6 (y - e) (x - e)∧av x y - e=y - e)∨(¬ 0<Q6 (y - e) (x - e)∧av x y - e=x - e):=by
 unfold av
 by_cases h:x<y
 ·exact .inl ⟨(JI _ _).2 (by grind),by rw [if_pos h]⟩
 ·exact .inr ⟨fun hh=>h (by have:=(JI _ _).1 hh; grind),by rw [if_neg h]⟩
theorem fH (x y e:Rat):(Q6 (y+e) (x+e)<0∧au x y+e=y+e)∨(¬ Q6 (y+e) (x+e)<0∧au x y+e=x+e):=by
 unfold au
 by_cases h:y<x
 ·exact .inl ⟨(K7 _ _).2 (by grind),by rw [if_pos h]⟩
 ·exact .inr ⟨fun hh=>h (by have:=(K7 _ _).1 hh; grind),by rw [if_neg h]⟩
theorem GH (a b:PV) (f:FV) (ha:a.even) (hb:b.even) (ht:vb f.turn≤1000) {ta tb:Rat} (ea:a.tol=RQ.of ta) (eb:b.tol=RQ.of tb) (qa:qb ta≤1000) (q2:qb tb≤1000) :
  Fn Tryz.prog 47 [Q3 a,Q3 b,Kt f] (.tup [vA (XL a.rim b.rim f (ta+tb)).1,vA (XL a.rim b.rim f (ta+tb)).2.1,.bool (XL a.rim b.rim f (ta+tb)).2.2]):=by
 have la:=ha.rim; have lb:=hb.rim
 obtain ⟨R,hR⟩:∃ R,R=XL a.rim b.rim f (ta+tb):=⟨_,rfl⟩
 rw [← hR]
 have zret:∀ {s:AS} {i j v w:Nat},s.get 6=.ref i v 0→s.h[i]?=some (.row v 8 (Xq Ae))→s.get 7=.ref j w 0→s.h[j]?=some (.row w 8 (Xq Ae))→s.get 8=.bool false→R=(v0,v0,false)→RetOk (Qn Tryz.prog Tryz.f47 [11,120000005,24,250000013,250000014] [] (.tup [vA R.1,vA R.2.1,.bool R.2.2])) s:=fun h1 h2 h3 h4 h5 h6=>by
  subst h6
  exact I2 rfl (Xo Jh h1 h2 rfl) (Xo Jh h3 h4 rfl) (by unfold QA; rfl) (Xr (Xn _) (XS Z0)) (Xr (Xn _) (XS Z0)) (by rw [h5]; exact (X3 _).sees _)
 have cs:=Hi a b f la lb
 have ct:=Rz f.turn (by unfold vm; omega)
 refine Fq Tryz.call47 Tryz.func47 19 [] [11,120000005,24,250000013,250000014] [] (by simp [Xu,XK]) (X1 1000 ?_)
 simp only [AS.start,Q3,XC,Kt,Qg,↓X2,wA,↓reduceIte,reduceIte,reduceCtorEq,Y1,Y2,Y3,Y4,Y5,Y6,Y7,Y8,Y9,YA,wE]
 refine X0 cs rfl ?_
 by_cases hf:C9 a.rim.length b.rim.length f
 rotate_left
 ·rw [decide_eq_false hf]
  simp only [↓X2,wA,↓reduceIte,reduceIte,reduceCtorEq,Y1,Y2,Y3,Y4,Y5,Y6,Y7,Y8,Y9,YA,wE]
  exact zret rfl rfl rfl rfl rfl (by rw [hR]; unfold XL; rw [if_neg fun h=>hf h.1])
 rw [decide_eq_true hf]
 simp only [↓X2,wA,↓reduceIte,reduceIte,reduceCtorEq,Y1,Y2,Y3,Y4,Y5,Y6,Y7,Y8,Y9,YA,wE]
 refine X0 ct rfl ?_
 by_cases hto:CV f.turn
 rotate_left
 ·rw [decide_eq_false hto]
  simp only [↓X2,wA,↓reduceIte,reduceIte,reduceCtorEq,Y1,Y2,Y3,Y4,Y5,Y6,Y7,Y8,Y9,YA,wE]
  exact zret rfl rfl rfl rfl rfl (by rw [hR]; unfold XL; rw [if_neg fun h=>hto h.2])
 rw [decide_eq_true hto]
 have hRe:R=if ((Ax a.rim b.rim f f.M.toNat).add ⟨ta+tb,ta+tb⟩).x<((Ay a.rim b.rim f f.M.toNat).sub ⟨ta+tb,ta+tb⟩).x∨((Ax a.rim b.rim f f.M.toNat).add ⟨ta+tb,ta+tb⟩).y<((Ay a.rim b.rim f f.M.toNat).sub ⟨ta+tb,ta+tb⟩).y then (v0,v0,false) else ((Ay a.rim b.rim f f.M.toNat).sub ⟨ta+tb,ta+tb⟩,(Ax a.rim b.rim f f.M.toNat).add ⟨ta+tb,ta+tb⟩,true):=by
  rw [hR]; unfold XL; rw [if_pos ⟨hf,hto⟩]
 clear hR
 obtain ⟨⟨s1,s2⟩,⟨s3,s4⟩,s5,s6,s7⟩:=hf
 obtain ⟨N,hN⟩:∃ N:Nat,f.M=N:=⟨f.M.toNat,by omega⟩
 have hNt:f.M.toNat=N:=by rw [hN]; rfl
 rw [hNt] at hRe
 have r1:=G4 a la (AK ha.near)
 have r2:=G4 b lb (AK hb.near)
 have hla:(Xz a.rim).length=a.rim.length:=by simp [Xz]
 have hlb:(Xz b.rim).length=b.rim.length:=by simp [Xz]
 have c3:Fn Tryz.prog 76 [a.tol.A,b.tol.A] (qA (ta+tb)):=by rw [ea,eb]; exact Jr ta tb (by unfold rm; omega) (by unfold rm; omega)
 have qe:=Jq ta tb
 generalize ta+tb=e at *
 simp only [↓X2,wA,↓reduceIte,reduceIte,reduceCtorEq,Y1,Y2,Y3,Y4,Y5,Y6,Y7,Y8,Y9,YA,wE]
 refine X0 r1 rfl ?_
 simp only [↓X2,wA,↓reduceIte,reduceIte,reduceCtorEq,Y1,Y2,Y3,Y4,Y5,Y6,Y7,Y8,Y9,YA,wE]
 refine X0 r2 rfl ?_
 simp only [↓X2,wA,↓reduceIte,reduceIte,reduceCtorEq,Y1,Y2,Y3,Y4,Y5,Y6,Y7,Y8,Y9,YA,wE]
 refine X0 c3 rfl ?_
 simp only [↓X2,wA,↓reduceIte,reduceIte,reduceCtorEq,Y1,Y2,Y3,Y4,Y5,Y6,Y7,Y8,Y9,YA,wE]
 have m0:vb ⟨e,e⟩≤2001:=by unfold vb; simp only; omega
 have ba:XI 9 (.row 0 25 (Xq (XC a)))=True:=eq_true (XG (XF a))
 have bb:XI 9 (.row 0 25 (Xq (XC b)))=True:=eq_true (XG (XF b))
 have bf:XI 9 (.con 0 29 (Xq (Qg f)))=True:=eq_true (fun j _=>X6 (Xg (Qt f) j))
 have bz:XI 9 (.row 0 8 (Xq XT))=True:=eq_true (XG (KQ a.rim b.rim f 0))
 have be:XI 9 (.row 0 4 (Xq (qY e)))=True:=eq_true (XG (by simp [qY,X7,X3]))
 have bw:XI 9 (.row 0 8 (Xq (vC ⟨e,e⟩)))=True:=eq_true (XG (by simp [vC,X7,X3]))
 have bl:∀ k,XI 9 (.row 0 8 (Xq (ar a.rim b.rim f e k)))=True:=fun k=>eq_true (XG (RT a.rim b.rim f e k))
 have bh:∀ k,XI 9 (.row 0 8 (Xq (aq a.rim b.rim f e k)))=True:=fun k=>eq_true (XG (RS a.rim b.rim f e k))
 have bx:Jj 9 (Xp (Xz a.rim))=True:=eq_true (X6 (Xd _))
 have by':Jj 9 (Xp (Xz b.rim))=True:=eq_true (X6 (Xd _))
 refine Xe (fun k:Nat=>⟨19,[],[.any,.any,.any,.ref 0 0 0,.ref 1 0 0,.ref 2 0 0,.ref 3 0 0,.ref 4 0 0,.bool false,Xp (Xz a.rim),Xp (Xz b.rim),.ref 5 0 0,.ref 6 0 0,.ref 7 0 0,.ref 8 0 0,I k,.any,.any,.any],[],[.row 0 25 (Xq (XC a)),.row 0 25 (Xq (XC b)),.con 0 29 (Xq (Qg f)),.row 0 8 (Xq XT),.row 0 8 (Xq XT),.row 0 4 (Xq (qY e)),.row 0 8 (Xq (vC ⟨e,e⟩)),.row 0 8 (Xq (ar a.rim b.rim f e k)),.row 0 8 (Xq (aq a.rim b.rim f e k))]⟩) (fun k=>k≤N+1) (fun k=>N+1 - k) 0 (by omega)
  (Sub.trans (Qp 2 rfl) (Xa rfl (by simp [Xh,X5,I]) (by simp [Xi]) (by simp [XC,Qg,qY,XT,ar,aq,vC,Xf,Xl,X4,I]))) ?_
 intro k hk next
 have w1:=wj k (by omega)
 by_cases hk2:k<N+1
 ·have nx:=next (k+1)
  have fk:((k:Int)≤f.M)=True:=eq_true (by omega)
  have wx:IntKind.i64.wrap (f.EA+(k:Int))=f.EA+(k:Int):=by rw [IntKind.wrap_i64]; omega
  have wy1:IntKind.i64.wrap (f.EB+1)=f.EB+1:=by rw [IntKind.wrap_i64]; omega
  have wy:IntKind.i64.wrap (f.EB+1 - (k:Int))=f.EB+1 - (k:Int):=by rw [IntKind.wrap_i64]; omega
  have c1:=Qj (f.EA+(k:Int)) a.rim.length (by omega) (by omega) (by omega)
  have c2:=Qj (f.EB+1 - (k:Int)) b.rim.length (by omega) (by omega) (by omega)
  rw [Hz _ _ _ (by omega)] at c1
  rw [iK _ _ _ (by omega)] at c2
  have hX:=VG a.rim.length f k (by omega)
  have hY:=o0 b.rim.length f k (by omega)
  have vx:=Kz ha.near (xK a.rim.length f k)
  have vy:=Kz hb.near (yL b.rim.length f k)
  have vr:=CY f.turn (Js (b.rim.getD (yL b.rim.length f k) (0,0)))
  have c3:=C7 f.turn (Js (b.rim.getD (yL b.rim.length f k) (0,0))) (by unfold vm; omega) (by unfold vm; omega)
  have c4:=JB (Js (a.rim.getD (xK a.rim.length f k) (0,0))) (Lv f.turn (Js (b.rim.getD (yL b.rim.length f k) (0,0)))) (by unfold rm; omega) (by unfold rm; omega)
  rw [show (Js (a.rim.getD (xK a.rim.length f k) (0,0))).sub (Lv f.turn (Js (b.rim.getD (yL b.rim.length f k) (0,0))))=A8 a.rim b.rim f k from rfl] at c4
  have hD:=Bf ha.near hb.near f ht
  have hL:=Cj ha.near hb.near f ht
  have hH:=Cg ha.near hb.near f ht
  have hDk:=hD k
  have c5:=JB (A8 a.rim b.rim f k) ⟨e,e⟩ (by unfold rm; omega) (by unfold rm; omega)
  have c6:=F6 (A8 a.rim b.rim f k) ⟨e,e⟩ (by unfold vm; omega) (by unfold vm; omega)
  have v1:=vF (Xz a.rim) (xK a.rim.length f k)
  have v2:=vF (Xz b.rim) (yL b.rim.length f k)
  rw [G5] at v1 v2
  generalize xK a.rim.length f k=X at *
  generalize yL b.rim.length f k=Y at *
  generalize Js (a.rim.getD X (0,0))=PX at *
  generalize Js (b.rim.getD Y (0,0))=PY at *
  generalize Lv f.turn PY=RY at *
  have fX:((X:Int)<a.rim.length)=True:=eq_true (by omega)
  have fX':(X<a.rim.length)=True:=eq_true hX
  have fX8:(X*8+8≤a.rim.length*8)=True:=eq_true (by omega)
  have fY:((Y:Int)<b.rim.length)=True:=eq_true (by omega)
  have fY':(Y<b.rim.length)=True:=eq_true hY
  have fY8:(Y*8+8≤b.rim.length*8)=True:=eq_true (by omega)
  refine X1 1000 ?_
  simp only [Qg,X5,w1,wx,wy1,wy,fk,fX,fX',fX8,fY,fY',fY8,hla,hlb,v1,v2,Int.toNat_natCast,↓X2,wA,↓reduceIte,reduceIte,reduceCtorEq,Y1,Y2,Y3,Y4,Y5,Y6,Y7,Y8,Y9,YA,wE]
  refine X0 c1 rfl ?_
  simp only [Qg,X5,w1,wx,wy1,wy,fk,fX,fX',fX8,fY,fY',fY8,hla,hlb,v1,v2,Int.toNat_natCast,↓X2,wA,↓reduceIte,reduceIte,reduceCtorEq,Y1,Y2,Y3,Y4,Y5,Y6,Y7,Y8,Y9,YA,wE]
  refine X0 c2 rfl ?_
  simp only [Qg,X5,w1,wx,wy1,wy,fk,fX,fX',fX8,fY,fY',fY8,hla,hlb,v1,v2,Int.toNat_natCast,↓X2,wA,↓reduceIte,reduceIte,reduceCtorEq,Y1,Y2,Y3,Y4,Y5,Y6,Y7,Y8,Y9,YA,wE]
  refine X0 c3 rfl ?_
  simp only [Qg,X5,w1,wx,wy1,wy,fk,fX,fX',fX8,fY,fY',fY8,hla,hlb,v1,v2,Int.toNat_natCast,↓X2,wA,↓reduceIte,reduceIte,reduceCtorEq,Y1,Y2,Y3,Y4,Y5,Y6,Y7,Y8,Y9,YA,wE]
  refine X0 c4 rfl ?_
  simp only [Qg,X5,w1,wx,wy1,wy,fk,fX,fX',fX8,fY,fY',fY8,hla,hlb,v1,v2,Int.toNat_natCast,↓X2,wA,↓reduceIte,reduceIte,reduceCtorEq,Y1,Y2,Y3,Y4,Y5,Y6,Y7,Y8,Y9,YA,wE]
  refine X0 c5 rfl ?_
  simp only [Qg,X5,w1,wx,wy1,wy,fk,fX,fX',fX8,fY,fY',fY8,hla,hlb,v1,v2,Int.toNat_natCast,↓X2,wA,↓reduceIte,reduceIte,reduceCtorEq,Y1,Y2,Y3,Y4,Y5,Y6,Y7,Y8,Y9,YA,wE]
  refine X0 c6 rfl ?_
  match k,w1,fk,hk2,hDk,nx with
  | 0,w1,fk,hk2,hDk,nx =>
   have e0:((0:Nat):Int)=0:=rfl
   have w0:IntKind.i64.wrap (0+1)=1:=by decide
   have hL0:ar a.rim b.rim f e 1=vC ((A8 a.rim b.rim f 0).sub ⟨e,e⟩):=rfl
   have hH0:aq a.rim b.rim f e 1=vC ((A8 a.rim b.rim f 0).add ⟨e,e⟩):=rfl
   have bl2:=bl 1; have bh2:=bh 1
   simp only [Nat.zero_add,hL0,hH0] at nx bl2 bh2
   generalize (A8 a.rim b.rim f 0).sub ⟨e,e⟩=FR at *
   generalize (A8 a.rim b.rim f 0).add ⟨e,e⟩=TO at *
   simp only [ar,aq,XT,e0,w0,↓X2,wA,↓reduceIte,reduceIte,reduceCtorEq,Y1,Y2,Y3,Y4,Y5,Y6,Y7,Y8,Y9,YA,wE]
   exact nx _ (by omega) (by omega) (Xy (m:=9) (Nat.zero_le _) rfl (by simp [Xh,X5,hla,hlb,I]) (by simp [Xi]) (by simp [XC,Qg,XT,qY,ar,aq,vC,Xf,Xl,X4,I]) (by simp [Xx,bx,by']) (by simp [Xx]) (by simp [ba,bb,bf,bz,be,bw,bl2,bh2]))
  | j+1,w1,fk,hk2,hDk,nx =>
   have g0:(((j+1:Nat):Int)=0)=False:=eq_false (by omega)
   have g0':((j:Int)+1=0)=False:=eq_false (by omega)
   have g0'':(j+1=0)=False:=eq_false (by omega)
   have hLj:=hL j; have hHj:=hH j
   have hl1:ar a.rim b.rim f e (j+1)=vC ((Ay a.rim b.rim f j).sub ⟨e,e⟩):=rfl
   have hh1:aq a.rim b.rim f e (j+1)=vC ((Ax a.rim b.rim f j).add ⟨e,e⟩):=rfl
   have hl2:ar a.rim b.rim f e (j+1+1)=vC ((Ay a.rim b.rim f (j+1)).sub ⟨e,e⟩):=rfl
   have hh2:aq a.rim b.rim f e (j+1+1)=vC ((Ax a.rim b.rim f (j+1)).add ⟨e,e⟩):=rfl
   have ux:=fM (Ay a.rim b.rim f j).x (A8 a.rim b.rim f (j+1)).x e
   have uy:=fM (Ay a.rim b.rim f j).y (A8 a.rim b.rim f (j+1)).y e
   have ox:=fH (Ax a.rim b.rim f j).x (A8 a.rim b.rim f (j+1)).x e
   have oy:=fH (Ax a.rim b.rim f j).y (A8 a.rim b.rim f (j+1)).y e
   have z1:=K5 (Ay a.rim b.rim f j) ⟨e,e⟩
   have z2:=Cb (Ax a.rim b.rim f j) ⟨e,e⟩
   have z3:=K5 (A8 a.rim b.rim f (j+1)) ⟨e,e⟩
   have z4:=Cb (A8 a.rim b.rim f (j+1)) ⟨e,e⟩
   have bl2:=bl (j+1+1); have bh2:=bh (j+1+1)
   simp only [hl2,hh2] at nx bl2 bh2
   rw [hl1,hh1]
   replace ux:(0<Q6 ((A8 a.rim b.rim f (j+1)).sub ⟨e,e⟩).x ((Ay a.rim b.rim f j).sub ⟨e,e⟩).x∧((Ay a.rim b.rim f (j+1)).sub ⟨e,e⟩).x=((A8 a.rim b.rim f (j+1)).sub ⟨e,e⟩).x)∨(¬ 0<Q6 ((A8 a.rim b.rim f (j+1)).sub ⟨e,e⟩).x ((Ay a.rim b.rim f j).sub ⟨e,e⟩).x∧((Ay a.rim b.rim f (j+1)).sub ⟨e,e⟩).x=((Ay a.rim b.rim f j).sub ⟨e,e⟩).x):=ux
   replace uy:(0<Q6 ((A8 a.rim b.rim f (j+1)).sub ⟨e,e⟩).y ((Ay a.rim b.rim f j).sub ⟨e,e⟩).y∧((Ay a.rim b.rim f (j+1)).sub ⟨e,e⟩).y=((A8 a.rim b.rim f (j+1)).sub ⟨e,e⟩).y)∨(¬ 0<Q6 ((A8 a.rim b.rim f (j+1)).sub ⟨e,e⟩).y ((Ay a.rim b.rim f j).sub ⟨e,e⟩).y∧((Ay a.rim b.rim f (j+1)).sub ⟨e,e⟩).y=((Ay a.rim b.rim f j).sub ⟨e,e⟩).y):=uy
   replace ox:(Q6 ((A8 a.rim b.rim f (j+1)).add ⟨e,e⟩).x ((Ax a.rim b.rim f j).add ⟨e,e⟩).x<0∧((Ax a.rim b.rim f (j+1)).add ⟨e,e⟩).x=((A8 a.rim b.rim f (j+1)).add ⟨e,e⟩).x)∨(¬ Q6 ((A8 a.rim b.rim f (j+1)).add ⟨e,e⟩).x ((Ax a.rim b.rim f j).add ⟨e,e⟩).x<0∧((Ax a.rim b.rim f (j+1)).add ⟨e,e⟩).x=((Ax a.rim b.rim f j).add ⟨e,e⟩).x):=ox
   replace oy:(Q6 ((A8 a.rim b.rim f (j+1)).add ⟨e,e⟩).y ((Ax a.rim b.rim f j).add ⟨e,e⟩).y<0∧((Ax a.rim b.rim f (j+1)).add ⟨e,e⟩).y=((A8 a.rim b.rim f (j+1)).add ⟨e,e⟩).y)∨(¬ Q6 ((A8 a.rim b.rim f (j+1)).add ⟨e,e⟩).y ((Ax a.rim b.rim f j).add ⟨e,e⟩).y<0∧((Ax a.rim b.rim f (j+1)).add ⟨e,e⟩).y=((Ax a.rim b.rim f j).add ⟨e,e⟩).y):=oy
   generalize (A8 a.rim b.rim f (j+1)).sub ⟨e,e⟩=FR at *
   generalize (A8 a.rim b.rim f (j+1)).add ⟨e,e⟩=TO at *
   generalize (Ay a.rim b.rim f (j+1)).sub ⟨e,e⟩=L2 at *
   generalize (Ax a.rim b.rim f (j+1)).add ⟨e,e⟩=H2 at *
   generalize (Ay a.rim b.rim f j).sub ⟨e,e⟩=L1 at *
   generalize (Ax a.rim b.rim f j).add ⟨e,e⟩=H1 at *
   have:=Qw FR; have:=Qr FR; have:=Qw TO; have:=Qr TO; have:=Qw L1; have:=Qr L1; have:=Qw H1; have:=Qr H1
   have k1:=QP FR.x L1.x (by unfold rm; omega) (by unfold rm; omega)
   have k2:=QP FR.y L1.y (by unfold rm; omega) (by unfold rm; omega)
   have k3:=QP TO.x H1.x (by unfold rm; omega) (by unfold rm; omega)
   have k4:=QP TO.y H1.y (by unfold rm; omega) (by unfold rm; omega)
   clear c1 c2 c3 c4 c5 c6 hD hL hH bl bh v1 v2
   rcases ux with ⟨px,ex⟩ | ⟨px,ex⟩
   all_goals
    first | replace px:=eq_false px | replace px:=eq_true px
    rcases uy with ⟨py,ey⟩ | ⟨py,ey⟩
    all_goals
     first | replace py:=eq_false py | replace py:=eq_true py
     rcases ox with ⟨sx,gx⟩ | ⟨sx,gx⟩
     all_goals
      first | replace sx:=eq_false sx | replace sx:=eq_true sx
      rcases oy with ⟨sy,gy⟩ | ⟨sy,gy⟩
      all_goals
       first | replace sy:=eq_false sy | replace sy:=eq_true sy
       simp only [g0,g0',g0'',w1,↓X2,wA,↓reduceIte,reduceIte,reduceCtorEq,Y1,Y2,Y3,Y4,Y5,Y6,Y7,Y8,Y9,YA,wE]
       refine X0 k1 rfl ?_
       simp only [px,g0,g0',g0'',w1,↓X2,wA,↓reduceIte,reduceIte,reduceCtorEq,Y1,Y2,Y3,Y4,Y5,Y6,Y7,Y8,Y9,YA,wE]
       refine X0 k2 rfl ?_
       simp only [px,py,g0,g0',g0'',w1,↓X2,wA,↓reduceIte,reduceIte,reduceCtorEq,Y1,Y2,Y3,Y4,Y5,Y6,Y7,Y8,Y9,YA,wE]
       refine X0 k3 rfl ?_
       simp only [px,py,sx,g0,g0',g0'',w1,↓X2,wA,↓reduceIte,reduceIte,reduceCtorEq,Y1,Y2,Y3,Y4,Y5,Y6,Y7,Y8,Y9,YA,wE]
       refine X0 k4 rfl ?_
       simp only [px,py,sx,sy,g0,g0',g0'',w1,↓X2,wA,↓reduceIte,reduceIte,reduceCtorEq,Y1,Y2,Y3,Y4,Y5,Y6,Y7,Y8,Y9,YA,wE]
       exact nx _ (by omega) (by omega) (Xy (m:=9) (Nat.zero_le _) rfl (by simp [Xh,X5,hla,hlb,I]) (by simp [Xi]) (by simp [XC,Qg,XT,qY,ar,aq,vC,Xf,Xl,X4,I,ex,ey,gx,gy]) (by simp [Xx,bx,by']) (by simp [Xx]) (by simp [ba,bb,bf,bz,be,bw,bl2,bh2]))
 obtain rfl:k=N+1:=by omega
 have hL:=Cj ha.near hb.near f ht N
 have hH:=Cg ha.near hb.near f ht N
 have hl1:ar a.rim b.rim f e (N+1)=vC ((Ay a.rim b.rim f N).sub ⟨e,e⟩):=rfl
 have hh1:aq a.rim b.rim f e (N+1)=vC ((Ax a.rim b.rim f N).add ⟨e,e⟩):=rfl
 rw [hl1,hh1]
 clear bl bh hl1 hh1
 have m1:=K5 (Ay a.rim b.rim f N) ⟨e,e⟩
 have m2:=Cb (Ax a.rim b.rim f N) ⟨e,e⟩
 generalize (Ay a.rim b.rim f N).sub ⟨e,e⟩=A at *
 generalize (Ax a.rim b.rim f N).add ⟨e,e⟩=B at *
 have:=Qw A; have:=Qr A; have:=Qw B; have:=Qr B
 have q1:=QP A.x B.x (by unfold rm; omega) (by unfold rm; omega)
 have q2:=QP A.y B.y (by unfold rm; omega) (by unfold rm; omega)
 have fk:(((N+1:Nat):Int)≤f.M)=False:=eq_false (by omega)
 refine X1 1000 ?_
 simp only [Qg,fk,↓X2,wA,↓reduceIte,reduceIte,reduceCtorEq,Y1,Y2,Y3,Y4,Y5,Y6,Y7,Y8,Y9,YA,wE]
 refine X0 q1 rfl ?_
 by_cases h1:B.x<A.x
 ·have f1:(0<Q6 A.x B.x)=True:=eq_true ((JI _ _).2 h1)
  simp only [f1,XT,↓X2,wA,↓reduceIte,reduceIte,reduceCtorEq,Y1,Y2,Y3,Y4,Y5,Y6,Y7,Y8,Y9,YA,wE]
  exact zret rfl rfl rfl rfl rfl (by rw [hRe,if_pos (.inl h1)])
 have f1:(0<Q6 A.x B.x)=False:=eq_false fun h=>h1 ((JI _ _).1 h)
 simp only [f1,↓X2,wA,↓reduceIte,reduceIte,reduceCtorEq,Y1,Y2,Y3,Y4,Y5,Y6,Y7,Y8,Y9,YA,wE]
 refine X0 q2 rfl ?_
 by_cases h2:B.y<A.y
 ·have f2:(0<Q6 A.y B.y)=True:=eq_true ((JI _ _).2 h2)
  simp only [f1,f2,XT,↓X2,wA,↓reduceIte,reduceIte,reduceCtorEq,Y1,Y2,Y3,Y4,Y5,Y6,Y7,Y8,Y9,YA,wE]
  exact zret rfl rfl rfl rfl rfl (by rw [hRe,if_pos (.inr h2)])
 have f2:(0<Q6 A.y B.y)=False:=eq_false fun h=>h2 ((JI _ _).1 h)
 simp only [f1,f2,XT,↓X2,wA,↓reduceIte,reduceIte,reduceCtorEq,Y1,Y2,Y3,Y4,Y5,Y6,Y7,Y8,Y9,YA,wE]
 rw [if_neg fun h=>h.elim h1 h2] at hRe
 subst hRe
 exact I2 rfl (Xo Jh rfl rfl rfl) (Xo Jh rfl rfl rfl) (by unfold QA; rfl) (Xr (Xn _) (XS (Q9 (vC A)))) (Xr (Xn _) (XS (Q9 (vC B)))) ((X3 _).sees _)
def qs (l:List Rat):AV:=qz qC 4 0 l
theorem LB (l:List Rat):Settled (qs l):=BZ fun a x hx=>by
 have:∀ x∈qC a,Settled x:=by simp [qC,X7,X3]
 exact this x hx
theorem BC (l:List Rat):qs l=.sl l.length (l.length*4) (XB qC 4 0 l) false:=nrfl rfl
theorem tk (l:List Rat) (i:Nat):XB qC 4 0 l (i*4)=.bool (decide ((l.getD i 0).num<0))∧XB qC 4 0 l (i*4+1)=X8 (Xb (l.getD i 0).num.natAbs)∧XB qC 4 0 l (i*4+2)=.bool false∧XB qC 4 0 l (i*4+3)=X8 (Xb (qd (l.getD i 0))):=by
 refine ⟨?_,?_,?_,?_⟩
 ·rw [A1 _ _ _ _ _ (by omega)]; rfl
 all_goals rw [A0 _ _ _ _ _ _ (by omega)]; rfl
def Zf (sg:Int) (x:Rat) (l:List Rat):Nat→Rat
 | 0=>x
 | k+1=>if Q6 (l.getD k 0) (Zf sg x l k)=sg then l.getD k 0 else Zf sg x l k
theorem Oc (sg:Int) (x:Rat) (l:List Rat) (c:Nat) (hx:qb x≤c) (hl:∀ k,qb (l.getD k 0)≤c):∀ k,qb (Zf sg x l k)≤c
 | 0=>hx
 | k+1=>by
  simp only [Zf]
  split
  ·exact hl k
  ·exact Oc sg x l c hx hl k
def AZ:List AV:=[.bool false,.sl 0 0 (fun _=>.any) true,.bool false,.sl 0 0 (fun _=>.any) true]
theorem CC (sg:Int) (x:Rat) (l:List Rat) (hl:l.length<1000000) (hx:qb x≤vm) (hq:∀ k,qb (l.getD k 0)≤vm):Fn Tryz.prog 286 [I sg,qA x,qs l] (qA (Zf sg x l l.length)):=by
 unfold vm at hx hq
 obtain ⟨R,hR⟩:∃ R,R=qA (Zf sg x l l.length):=⟨_,rfl⟩
 have sR:Settled R:=hR▸Xc _
 have hqc:∀ r:Rat,∀ x∈qC r,Settled x:=fun r=>by simp [qC,X7,X3]
 have bx:∀ r,XI 2 (.row 0 4 (Xq (qC r)))=True:=fun r=>eq_true (XG (hqc r))
 have bl:Jj 2 (qs l)=True:=eq_true (X6 (LB l))
 rw [← hR]
 refine Fq Tryz.call286 Tryz.func286 9 [9,10,11] [] [] (by simp [X9,Xc,LB]) (X1 1000 ?_)
 simp only [AS.start,BC,↓X2,wA,seval,wE]
 refine Xe (fun k:Nat=>⟨9,[9,10,11],[I sg,.any,.any,.any,.ref 0 0 0,.any,.ref 1 0 0,.any,.any],[(9,qs l),(10,I l.length),(11,I k)],[.row 0 4 (Xq (qC (Zf sg x l k))),.row 0 4 (Xq AZ)]⟩) (fun k=>k≤l.length) (fun k=>l.length - k) 0 (by omega)
  (Xa rfl (by simp [Xh,I]) (by simp [Xi,Xw,BC,I]) rfl) ?_
 intro k hk next
 have w1:=wj k (by omega)
 have he:=Oc sg x l 1000000 hx hq k
 by_cases hk2:k<l.length
 ·have f1:((k:Int)<l.length)=True:=eq_true (by omega)
  have f2:(k<l.length)=True:=eq_true hk2
  have f3:(k*4+4≤l.length*4)=True:=eq_true (by omega)
  have v1:=tk l k
  have c1:=Ki (l.getD k 0) (Zf sg x l k) (by have:=hq k; unfold rm; omega) (by unfold rm; omega)
  have nx:=next (k+1)
  have hs:Zf sg x l (k+1)=if Q6 (l.getD k 0) (Zf sg x l k)=sg then l.getD k 0 else Zf sg x l k:=rfl
  generalize Zf sg x l k=E at *
  refine X1 1000 ?_
  simp only [BC,w1,f1,f2,f3,v1,Int.toNat_natCast,↓X2,wA,seval,wE]
  refine X0 c1 rfl ?_
  by_cases h:Q6 (l.getD k 0) E=sg
  ·have g1:(Q6 (l.getD k 0) E=sg)=True:=eq_true h
   rw [if_pos h] at hs
   simp only [hs] at nx
   simp only [g1,w1,↓X2,wA,seval,wE]
   exact nx _ (by omega) (by omega) (Xy (m:=2) (Nat.zero_le _) rfl (by simp [Xh,I]) (by simp [Xi,Xw,BC,I]) (by simp [qC,AZ,X4]) (by simp [Xx]) (by simp [Xx,bl]) (by simp [bx,AZ,Xx]))
  ·have g1:(Q6 (l.getD k 0) E=sg)=False:=eq_false h
   rw [if_neg h] at hs
   simp only [hs] at nx
   simp only [g1,w1,↓X2,wA,seval,wE]
   exact nx _ (by omega) (by omega) (Xy (m:=2) (Nat.zero_le _) rfl (by simp [Xh,I]) (by simp [Xi,Xw,BC,I]) (by simp [qC,AZ,X4]) (by simp [Xx]) (by simp [Xx,bl]) (by simp [bx,AZ,Xx]))
 obtain rfl:k=l.length:=by omega
 refine X1 1000 ?_
 simp only [BC,AZ,Int.lt_irrefl,Nat.lt_irrefl,↓X2,wA,seval,wE]
 exact Ju rfl Qb rfl rfl rfl sR (hR.trans rfl)
def Qc (n:V2) (L:List V2):List Rat:=L.map (Qa n)
theorem TR (n:V2) (L:List V2) (i:Nat) (hi:i<L.length):Qc n (L.take i) ++ [Qa n (L.getD i v0)]=Qc n (L.take (i+1)):=by
 rw [As _ v0 hi]; simp [Qc]
theorem qj (a:Rat):∀ j,j<4→((qC a).getD j .any).one=true:=fun j hj=>by
 match j,hj with
 | 0,_=>rfl
 | 1,_=>rfl
 | 2,_=>rfl
 | 3,_=>rfl
 | j+4,h=>omega
theorem Hc (n:V2) (L:List V2) (k:Nat) (h:XV L k) (hk:k≤100000) (hl:L.length<1000000) (hn:vb n≤100000):Fn Tryz.prog 285 [vA n,Xp L] (qs (Qc n L)):=by
 have hvc:∀ a:V2,∀ x∈vC a,Settled x:=fun a=>by simp [vC,X7,X3]
 have hqc:∀ r:Rat,∀ x∈qC r,Settled x:=fun r=>by simp [qC,X7,X3]
 have bo:XI 2 (.row 0 8 (Xq (vC n)))=True:=eq_true (XG (hvc n))
 have bv:Jj 2 (Xp L)=True:=eq_true (X6 (Xd L))
 have br:∀ i l n,XI 2 (.row i n (XB qC 4 0 l))=True:=fun i l n=>eq_true fun j _=>X6 (Xg (hqc _) _)
 obtain ⟨R,hR⟩:∃ R,R=qs (Qc n L):=⟨_,rfl⟩
 rw [← hR]
 refine Fq Tryz.call285 Tryz.func285 8 [8,9,10] [] [] (by simp [Xn,Xd]) (X1 1000 ?_)
 simp only [AS.start,X5,↓X2,wA,seval,wE]
 refine Xe (fun i:Nat=>⟨8,[8,9,10],[.any,.any,.ref 0 0 0,.any,.any,.osl 1 i 4 0 i,.any,.any],[(8,Xp L),(9,I L.length),(10,I i)],[.row 0 8 (Xq (vC n)),.row i (i*4) (XB qC 4 0 (Qc n (L.take i)))]⟩) (fun i=>i≤L.length) (fun i=>L.length - i) 0 (by omega)
  (Sub.trans (Q7 5 4 (XB qC 4 0 []) rfl) (Xa rfl (by simp [AS.put,Xh,I]) (by simp [AS.put,Xi,Xw,X5,I]) (by simp [AS.put,vC,X4,Qc]))) ?_
 intro i hi next
 have w1:=wj i (by omega)
 by_cases hi2:i<L.length
 ·have f1:((i:Int)<L.length)=True:=eq_true (by omega)
  have f2:(i<L.length)=True:=eq_true hi2
  have f3:(i*8+8≤L.length*8)=True:=eq_true (by omega)
  have v1:=vF L i
  have hb:=h i
  have c1:=FJ n (L.getD i v0) (by unfold vm; omega) (by unfold vm; omega)
  have hap:=XQ qC 4 0 (Qc n (L.take i)) (Qa n (L.getD i v0)) (by omega)
  rw [TR _ _ _ hi2,show (Qc n (L.take i)).length=i by simp [Qc]; omega] at hap
  refine X1 1000 ?_
  simp only [X5,w1,f1,f2,f3,v1,Int.toNat_natCast,↓X2,wA,seval,wE]
  refine X0 c1 rfl ?_
  simp only [w1,↓X2,wA,seval,wE]
  exact ⟨⟨qj _,by omega,by omega⟩,next (i+1) _ (by omega) (by omega) (Xy (m:=2) (Nat.zero_le _) rfl (by simp [Xh]) (by simp [Xi,Xw,X5,I]) (by rw [← hap]; rfl) (by simp [Xx]) (by simp [Xx,bv]) (by simp [bo,br]))⟩
 obtain rfl:i=L.length:=by omega
 refine X1 1000 ?_
 simp only [X5,Int.lt_irrefl,Nat.lt_irrefl,↓X2,wA,seval,wE]
 refine AR rfl ?_
 have hlen:(Qc n L).length=L.length:=by simp [Qc]
 rw [hR,BC,hlen]
 refine Qv (n:=L.length) (.inl rfl) (by omega) (fun h=>by rw [h]) fun j hj=>?_
 rw [List.take_length,Nat.zero_add]
 exact (Xg (hqc _) _).sees _
def Dj (sg:Int) (l:List Rat):Rat:=Zf sg (l.getD 0 0) (l.drop 1) (l.drop 1).length
def Ft (n:V2) (A B:List V2):Rat:=Dj (-1) (Qc n B) - Dj 1 (Qc n A)
theorem CH (n:V2) (L:List V2) (k:Nat) (h:XV L k) (i:Nat):qb ((Qc n L).getD i 0)≤2*(vb n+k)+1:=by
 have h0:=h i
 have h1:=ZV n (L.getD i v0)
 have q0:=Bc
 by_cases hi:i<L.length
 ·have e:(Qc n L).getD i 0=Qa n (L.getD i v0):=by
   unfold Qc
   rw [List.getD_eq_getElem?_getD,List.getElem?_map,List.getD_eq_getElem?_getD,List.getElem?_eq_getElem hi]; rfl
  rw [e]; omega
 ·have e:(Qc n L).getD i 0=0:=by
   rw [List.getD_eq_getElem?_getD,List.getElem?_eq_none (by simp [Qc]; omega)]; rfl
  rw [e]; omega
theorem AG (l:List Rat) (i:Nat):(l.drop 1).getD i 0=l.getD (1+i) 0:=by
 rw [List.getD_eq_getElem?_getD,List.getD_eq_getElem?_getD,List.getElem?_drop]
theorem HY (sg:Int) (l:List Rat) (c:Nat) (h:∀ i,qb (l.getD i 0)≤c):qb (Dj sg l)≤c :=
 Oc _ _ _ _ (h 0) (fun k=>by rw [AG]; exact h _) _
theorem LP (l:List Rat) {n m:Nat} {t:Bool} (hn:n=l.length - 1) (hm:(l.length - 1)*4≤m):Weak (.sl n m (fun j=>XB qC 4 0 l (4+j)) t) (qs (l.drop 1)):=by
 rw [BC]
 refine A7 (by rw [List.length_drop]; exact hn) (by rw [List.length_drop]; exact hm) fun j hj=>?_
 have e:XB qC 4 0 l (4+j)=XB qC 4 0 (l.drop 1) j:=by
  unfold XB
  rw [AG,show (4+j) / 4=1+j / 4 by omega,show (4+j) % 4=j % 4 by omega]
 rw [e]
 exact Weak.rfl' _
theorem pM (n:V2) (A B:List V2) (k:Nat) (ha:XV A k) (hb:XV B k) (hk:k≤10000) (la:A.length<1000000) (lb:B.length<1000000) (pa:0<A.length) (pb:0<B.length) (hn:vb n≤10000):Fn Tryz.prog 271 [vA n,Xp A,Xp B] (qA (Ft n A B)):=by
 have c1:=Hc n A k ha (by omega) la (by omega)
 have c2:=Hc n B k hb (by omega) lb (by omega)
 have qa:=CH n A k ha
 have qb':=CH n B k hb
 have hlA:(Qc n A).length=A.length:=by simp [Qc]
 have hlB:(Qc n B).length=B.length:=by simp [Qc]
 have c3:=CC (-1) ((Qc n B).getD 0 0) ((Qc n B).drop 1) (by rw [List.length_drop]; omega) (by have:=qb' 0; unfold vm; omega) (fun i=>by rw [AG]; have:=qb' (1+i); unfold vm; omega)
 have c4:=CC 1 ((Qc n A).getD 0 0) ((Qc n A).drop 1) (by rw [List.length_drop]; omega) (by have:=qa 0; unfold vm; omega) (fun i=>by rw [AG]; have:=qa (1+i); unfold vm; omega)
 have e1:=HY (-1) (Qc n B) _ qb'
 have e2:=HY 1 (Qc n A) _ qa
 have c5:=Om (Dj (-1) (Qc n B)) (Dj 1 (Qc n A)) (by unfold rm; omega) (by unfold rm; omega)
 rw [show Zf (-1) ((Qc n B).getD 0 0) ((Qc n B).drop 1) ((Qc n B).drop 1).length=Dj (-1) (Qc n B) from rfl] at c3
 rw [show Zf 1 ((Qc n A).getD 0 0) ((Qc n A).drop 1) ((Qc n A).drop 1).length=Dj 1 (Qc n A) from rfl] at c4
 rw [show Dj (-1) (Qc n B) - Dj 1 (Qc n A)=Ft n A B from rfl] at c5
 have v1:=tk (Qc n A) 0
 have v2:=tk (Qc n B) 0
 obtain ⟨R,hR⟩:∃ R,R=qA (Ft n A B):=⟨_,rfl⟩
 have sR:Settled R:=hR▸Xc _
 rw [← hR] at c5 ⊢
 generalize Qc n A=PA at *
 generalize Qc n B=PB at *
 simp only [Nat.zero_mul,Nat.zero_add] at v1 v2
 have f1:(0<PA.length)=True:=eq_true (by omega)
 have f2:(0<PB.length)=True:=eq_true (by omega)
 have f3:((0:Int)<PA.length)=True:=eq_true (by omega)
 have f4:((0:Int)<PB.length)=True:=eq_true (by omega)
 have f5:(4≤PA.length*4)=True:=eq_true (by omega)
 have f6:(4≤PB.length*4)=True:=eq_true (by omega)
 have f7:((1:Int)≤PA.length)=True:=eq_true (by omega)
 have f8:((1:Int)≤PB.length)=True:=eq_true (by omega)
 refine Fq Tryz.call271 Tryz.func271 9 [] [2] [] (by simp [Xn,Xd]) (X1 1000 ?_)
 simp only [AS.start,X5,↓X2,wA,seval,wE]
 refine X0 c1 rfl ?_
 simp only [↓X2,wA,seval,wE]
 refine X0 c2 rfl ?_
 simp only [BC,v1,v2,f1,f2,f3,f4,f5,f6,f7,f8,Int.toNat_zero,Int.reduceLE,↓X2,wA,seval,wE]
 refine Qq c3 ⟨Weak.rfl' _,Weak.rfl' _,LP PB (by omega) (by omega),trivial⟩ ?_
 simp only [BC,v1,v2,f1,f2,f3,f4,f5,f6,f7,f8,Int.toNat_zero,Int.reduceLE,↓X2,wA,seval,wE]
 refine Qq c4 ⟨Weak.rfl' _,Weak.rfl' _,LP PA (by omega) (by omega),trivial⟩ ?_
 simp only [↓X2,wA,seval,wE]
 refine X0 c5 rfl ?_
 simp only [hR,↓X2,wA,seval,wE]
 exact Ju rfl Qb rfl rfl rfl sR (hR.trans rfl)
def BM (x:Rat):Rat:=if x<0 then -x else x
def Kx (n:V2):Rat:=BM n.x+BM n.y
theorem Ea (x:Rat):qb (BM x)=qb x:=by unfold BM; split <;> simp [BB]
theorem FS (x y:Rat):Q6 x y=1↔y<x:=by
 rw [← JI]
 unfold Q6
 rw [Int.sign_eq_one_iff_pos,Int.sign_pos_iff]
theorem Rq (x y:Rat):Q6 x y = -1↔x<y:=by
 rw [← K7]
 unfold Q6
 rw [Int.sign_eq_neg_one_iff_neg,Int.sign_neg_iff]
theorem US (x:Rat):Zf 1 x [-x] 1=BM x:=by
 show (if Q6 (-x) x=1 then -x else x)=_
 unfold BM
 by_cases h:x<0
 ·rw [if_pos h,if_pos ((FS _ _).2 (by grind))]
 ·rw [if_neg h,if_neg fun hh=>h (by have:=(FS _ _).1 hh; grind)]
theorem Sm (x:Rat) {t:Bool}:Weak (.sl 1 4 (Xq [.bool (decide (x.num<0)),X8 (Xb x.num.natAbs),.bool false,X8 (Xb (qd x))]) t) (qs [x]):=by
 rw [BC]
 refine A7 rfl (Nat.le_refl _) fun j hj=>?_
 match j,hj with
 | 0,_=>exact Weak.rfl' _
 | 1,_=>exact Weak.rfl' _
 | 2,_=>exact Weak.rfl' _
 | 3,_=>exact Weak.rfl' _
 | j+4,h=>exact absurd h (by show ¬ j+4<1*4; omega)
theorem MZ (x:Rat) (c:Nat) (hc:1≤c) (h:qb x≤c) (k:Nat):qb (([x]:List Rat).getD k 0)≤c:=by
 have q0:=Bc
 match k with
 | 0=>exact h
 | k+1=>show qb 0≤c; omega
theorem mE (n:V2) (hn:vb n≤100000):Fn Tryz.prog 287 [vA n] (qA (Kx n)):=by
 have:=Qw n; have:=Qr n
 have n1:=CP n.x
 have n2:=CP n.y
 have a1:=Ea n.x; have a2:=Ea n.y
 have c1:=CC 1 n.x [-n.x] (by simp) (by unfold vm; omega) (MZ _ _ (by unfold vm; omega) (by rw [BB]; unfold vm; omega))
 have c2:=CC 1 n.y [-n.y] (by simp) (by unfold vm; omega) (MZ _ _ (by unfold vm; omega) (by rw [BB]; unfold vm; omega))
 rw [show ([-n.x]:List Rat).length=1 from rfl,US] at c1
 rw [show ([-n.y]:List Rat).length=1 from rfl,US] at c2
 have c3:=Az (BM n.x) (BM n.y) (by unfold rm; omega) (by unfold rm; omega)
 rw [show BM n.x+BM n.y=Kx n from rfl] at c3
 obtain ⟨R,hR⟩:∃ R,R=qA (Kx n):=⟨_,rfl⟩
 have sR:Settled R:=hR▸Xc _
 rw [← hR] at c3 ⊢
 refine Fq Tryz.call287 Tryz.func287 3 [] [1,20000001] [] (by simp [wS]) (X1 1000 ?_); simp (config:={ maxSteps:=2000000 }) only [AS.start,↓X2,wA,seval,wE]
 refine X0 n1 rfl ?_
 simp only [↓X2,wA,seval,wE]
 refine Qq c1 ⟨Weak.rfl' _,Weak.rfl' _,Sm _,trivial⟩ ?_
 simp only [↓X2,wA,seval,wE]
 refine X0 n2 rfl ?_
 simp only [↓X2,wA,seval,wE]
 refine Qq c2 ⟨Weak.rfl' _,Weak.rfl' _,Sm _,trivial⟩ ?_
 simp only [↓X2,wA,seval,wE]
 refine X0 c3 rfl ?_
 simp only [hR,↓X2,wA,seval,wE]
 exact Ju rfl Qb rfl rfl rfl sR (hR.trans rfl)
theorem HZ (n:V2):qb (Kx n)≤2*vb n+1:=by
 have:=Qw n; have:=Qr n
 have a1:=Ea n.x; have a2:=Ea n.y
 have:=Jq (BM n.x) (BM n.y)
 unfold Kx; omega
theorem mt (n:V2) (e:Rat) (hn:vb n≤100000) (he:qb e≤100000):Fn Tryz.prog 272 [vA n,qA e] (qA (e*Kx n)):=by
 have q:=HZ n
 have c1:=mE n hn
 have c2:=Ks e (Kx n) (by unfold rm; omega) (by unfold rm; omega)
 obtain ⟨R,hR⟩:∃ R,R=qA (e*Kx n):=⟨_,rfl⟩
 have sR:Settled R:=hR▸Xc _
 rw [← hR] at c2 ⊢
 refine Fq Tryz.call272 Tryz.func272 5 [] [] [] (by simp [wS]) (X1 1000 ?_); simp (config:={ maxSteps:=2000000 }) only [AS.start,↓X2,wA,seval,wE]
 refine X0 c1 rfl ?_
 simp only [↓X2,wA,seval,wE]
 refine X0 c2 rfl ?_
 simp only [hR,↓X2,wA,seval,wE]
 exact Ju rfl Qb rfl rfl rfl sR (hR.trans rfl)
def Rb (p q:V2):V2:=⟨(q.sub p).y,-(q.sub p).x⟩
theorem Uk (p q:V2):vb (Rb p q)≤vb p+vb q+1:=by
 have:=K5 q p
 have:=Qw (q.sub p); have:=Qr (q.sub p)
 have:=BB (q.sub p).x
 unfold Rb
 show max (qb (q.sub p).y) (qb (-(q.sub p).x))≤_
 omega
theorem Im (p q:V2) (hp:vb p≤100000) (hq:vb q≤100000):Fn Tryz.prog 270 [vA p,vA q] (vA (Rb p q)):=by
 have c1:=CI q p (by unfold rm; omega) (by unfold rm; omega)
 have c2:=CP (q.sub p).x
 obtain ⟨R,hR⟩:∃ R,R=vA (Rb p q):=⟨_,rfl⟩
 have sR:Settled R:=hR▸Xn _
 rw [← hR]
 refine Fq Tryz.call270 Tryz.func270 6 [] [] [] (by simp [wS]) (X1 1000 ?_); simp (config:={ maxSteps:=2000000 }) only [AS.start,↓X2,wA,seval,wE]
 refine X0 c1 rfl ?_
 simp only [↓X2,wA,seval,wE]
 refine X0 c2 rfl ?_
 simp only [↓X2,wA,seval,wE]
 exact Z7 rfl Jh rfl rfl rfl sR (hR.trans rfl)
def El (n:V2) (A B:List V2) (e:Rat):Prop:=e*Kx n≤Ft n A B
theorem MK (n:V2) (A B:List V2) (k:Nat) (ha:XV A k) (hb:XV B k):qb (Ft n A B)≤4*(vb n+k)+3:=by
 have e1:=HY (-1) (Qc n B) _ (CH n B k hb)
 have e2:=HY 1 (Qc n A) _ (CH n A k ha)
 have:=F5 (Dj (-1) (Qc n B)) (Dj 1 (Qc n A))
 unfold Ft; omega
theorem Oo (n:V2) (A B:List V2) (e:Rat) (k:Nat) (ha:XV A k) (hb:XV B k) (hk:k≤10000) (la:A.length<1000000) (lb:B.length<1000000) (pa:0<A.length) (pb:0<B.length) (hn:vb n≤10000) (he:qb e≤10000):Fn Tryz.prog 262 [vA n,Xp A,Xp B,qA e] (.bool (decide (El n A B e))):=by
 have c1:=pM n A B k ha hb hk la lb pa pb hn
 have c2:=mt n e (by omega) (by omega)
 have q1:=MK n A B k ha hb
 have q2:=HZ n
 have q3:=Qx e (Kx n)
 have c3:=Ki (Ft n A B) (e*Kx n) (by unfold rm; omega) (by unfold rm; omega)
 have hd:decide (El n A B e)=decide (0≤Q6 (Ft n A B) (e*Kx n)):=decide_eq_decide.2 (FQ _ _).symm
 rw [hd]
 refine Fq Tryz.call262 Tryz.func262 9 [] [] [] (by simp [Xn,Xd,Xc]) (X1 1000 ?_)
 simp only [AS.start,X5,↓X2,wA,seval,wE]
 refine X0 c1 rfl ?_
 simp only [↓X2,wA,seval,wE]
 refine X0 c2 rfl ?_
 simp only [↓X2,wA,seval,wE]
 refine X0 c3 rfl ?_
 simp only [↓X2,wA,seval,wE]
 exact Xs rfl rfl (X3 _) rfl
theorem RI (x:Rat) (h:qb x≤vm):Fn Tryz.prog 298 [qA x] (qA (BM x)):=by
 unfold vm at h
 have c1:=AP x (by unfold rm; omega)
 have c2:=Zu x (by unfold rm; omega)
 obtain ⟨R,hR⟩:∃ R,R=qA (BM x):=⟨_,rfl⟩
 have sR:Settled R:=hR▸Xc _
 rw [← hR]
 refine Fq Tryz.call298 Tryz.func298 3 [] [] [] (by simp [wS]) (X1 1000 ?_); simp (config:={ maxSteps:=2000000 }) only [AS.start,↓X2,wA,seval,wE]
 refine X0 c1 rfl ?_
 by_cases h0:x<0
 ·have f1:(x.num.sign<0)=True:=eq_true ((KY _).2 h0)
  have e:BM x = -x:=if_pos h0
  rw [e] at hR
  simp only [f1,↓X2,wA,seval,wE]
  refine X0 c2 rfl ?_
  simp only [↓X2,wA,seval,wE]
  exact Ju rfl Qb rfl rfl rfl sR (hR.trans rfl)
 ·have f1:(x.num.sign<0)=False:=eq_false fun hh=>h0 ((KY _).1 hh)
  have e:BM x=x:=if_neg h0
  rw [e] at hR
  simp only [f1,↓X2,wA,seval,wE]
  exact Ju rfl Qb rfl rfl rfl sR (hR.trans rfl)
theorem gN (n:V2) (hn:vb n≤100000):Fn Tryz.prog 294 [vA n] (qA (Kx n)):=by
 have:=Qw n; have:=Qr n
 have a1:=Ea n.x; have a2:=Ea n.y
 have c1:=RI n.x (by unfold vm; omega)
 have c2:=RI n.y (by unfold vm; omega)
 have c3:=Jr (BM n.x) (BM n.y) (by unfold rm; omega) (by unfold rm; omega)
 rw [show BM n.x+BM n.y=Kx n from rfl] at c3
 obtain ⟨R,hR⟩:∃ R,R=qA (Kx n):=⟨_,rfl⟩
 have sR:Settled R:=hR▸Xc _
 rw [← hR] at c3 ⊢
 refine Fq Tryz.call294 Tryz.func294 3 [] [] [] (by simp [wS]) (X1 1000 ?_); simp (config:={ maxSteps:=2000000 }) only [AS.start,↓X2,wA,seval,wE]
 refine X0 c1 rfl ?_
 simp only [↓X2,wA,seval,wE]
 refine X0 c2 rfl ?_
 simp only [↓X2,wA,seval,wE]
 refine X0 c3 rfl ?_
 simp only [hR,↓X2,wA,seval,wE]
 exact Ju rfl Qb rfl rfl rfl sR (hR.trans rfl)
theorem gM (n:V2) (e:Rat) (hn:vb n≤100000) (he:qb e≤100000):Fn Tryz.prog 284 [vA n,qA e] (qA (e*Kx n)):=by
 have q:=HZ n
 have c1:=gN n hn
 have c2:=QR (Kx n) e (by unfold rm; omega) (by unfold rm; omega)
 rw [Rat.mul_comm] at c2
 obtain ⟨R,hR⟩:∃ R,R=qA (e*Kx n):=⟨_,rfl⟩
 have sR:Settled R:=hR▸Xc _
 rw [← hR] at c2 ⊢
 refine Fq Tryz.call284 Tryz.func284 5 [] [] [] (by simp [wS]) (X1 1000 ?_); simp (config:={ maxSteps:=2000000 }) only [AS.start,↓X2,wA,seval,wE]
 refine X0 c1 rfl ?_
 simp only [↓X2,wA,seval,wE]
 refine X0 c2 rfl ?_
 simp only [hR,↓X2,wA,seval,wE]
 exact Ju rfl Qb rfl rfl rfl sR (hR.trans rfl)
theorem Lu (p q:V2) (hp:vb p≤100000) (hq:vb q≤100000):Fn Tryz.prog 281 [vA p,vA q] (vA (Rb p q)):=by
 have:=Qw p; have:=Qr p; have:=Qw q; have:=Qr q
 have c1:=Zv q.y p.y (by unfold rm; omega) (by unfold rm; omega)
 have c2:=Zv p.x q.x (by unfold rm; omega) (by unfold rm; omega)
 have e:Rb p q=⟨q.y - p.y,p.x - q.x⟩:=by
  unfold Rb V2.sub
  rw [V2.ext']
  exact ⟨rfl,by simp only; grind⟩
 rw [e]
 obtain ⟨R,hR⟩:∃ R,R=vA ⟨q.y - p.y,p.x - q.x⟩:=⟨_,rfl⟩
 have sR:Settled R:=hR▸Xn _
 rw [← hR]
 refine Fq Tryz.call281 Tryz.func281 5 [] [] [] (by simp [wS]) (X1 1000 ?_); simp (config:={ maxSteps:=2000000 }) only [AS.start,↓X2,wA,seval,wE]
 refine X0 c1 rfl ?_
 simp only [↓X2,wA,seval,wE]
 refine X0 c2 rfl ?_
 simp only [↓X2,wA,seval,wE]
 exact Z7 rfl Jh rfl rfl rfl sR (hR.trans rfl)
theorem Ol (a:V2) (ha:vb a≤vm):Fn Tryz.prog 282 [vA a] (vA (Bb a)):=by
 unfold vm at ha
 have:=Qw a; have:=Qr a
 have c1:=Zu a.x (by unfold rm; omega)
 have c2:=Zu a.y (by unfold rm; omega)
 obtain ⟨R,hR⟩:∃ R,R=vA (Bb a):=⟨_,rfl⟩
 have sR:Settled R:=hR▸Xn _
 rw [← hR]
 refine Fq Tryz.call282 Tryz.func282 3 [] [] [] (by simp [wS]) (X1 1000 ?_); simp (config:={ maxSteps:=2000000 }) only [AS.start,↓X2,wA,seval,wE]
 refine X0 c1 rfl ?_
 simp only [↓X2,wA,seval,wE]
 refine X0 c2 rfl ?_
 simp only [↓X2,wA,seval,wE]
 exact Z7 rfl Jh rfl rfl rfl sR (hR.trans rfl)
theorem Py (x:Rat) (l:List Rat):∀ k,(Zf (-1) x l k≤x∧∀ j,j<k→Zf (-1) x l k≤l.getD j 0)∧(Zf (-1) x l k=x∨∃ j,j<k∧Zf (-1) x l k=l.getD j 0)
 | 0=>⟨⟨Rat.le_refl,fun j hj=>absurd hj (Nat.not_lt_zero j)⟩,.inl rfl⟩
 | k+1=>by
  have ih:=Py x l k
  simp only [Zf]
  by_cases h:Q6 (l.getD k 0) (Zf (-1) x l k) = -1
  ·rw [if_pos h]
   have h1:=(Rq _ _).1 h
   exact ⟨⟨Rat.le_trans (Rat.le_of_lt h1) ih.1.1,fun j hj=>by
    by_cases e:j=k
    ·rw [e]; exact Rat.le_refl
    ·exact Rat.le_trans (Rat.le_of_lt h1) (ih.1.2 j (by omega))⟩,.inr ⟨k,by omega,rfl⟩⟩
  ·rw [if_neg h]
   have h1:Zf (-1) x l k≤l.getD k 0:=by rw [← Rat.not_lt]; exact fun hh=>h ((Rq _ _).2 hh)
   refine ⟨⟨ih.1.1,fun j hj=>?_⟩,?_⟩
   ·by_cases e:j=k
    ·rw [e]; exact h1
    ·exact ih.1.2 j (by omega)
   ·rcases ih.2 with h2 | ⟨j,hj,h2⟩
    ·exact .inl h2
    ·exact .inr ⟨j,by omega,h2⟩
theorem Px (x:Rat) (l:List Rat):∀ k,(x≤Zf 1 x l k∧∀ j,j<k→l.getD j 0≤Zf 1 x l k)∧(Zf 1 x l k=x∨∃ j,j<k∧Zf 1 x l k=l.getD j 0)
 | 0=>⟨⟨Rat.le_refl,fun j hj=>absurd hj (Nat.not_lt_zero j)⟩,.inl rfl⟩
 | k+1=>by
  have ih:=Px x l k
  simp only [Zf]
  by_cases h:Q6 (l.getD k 0) (Zf 1 x l k)=1
  ·rw [if_pos h]
   have h1:=(FS _ _).1 h
   exact ⟨⟨Rat.le_trans ih.1.1 (Rat.le_of_lt h1),fun j hj=>by
    by_cases e:j=k
    ·rw [e]; exact Rat.le_refl
    ·exact Rat.le_trans (ih.1.2 j (by omega)) (Rat.le_of_lt h1)⟩,.inr ⟨k,by omega,rfl⟩⟩
  ·rw [if_neg h]
   have h1:l.getD k 0≤Zf 1 x l k:=by rw [← Rat.not_lt]; exact fun hh=>h ((FS _ _).2 hh)
   refine ⟨⟨ih.1.1,fun j hj=>?_⟩,?_⟩
   ·by_cases e:j=k
    ·rw [e]; exact h1
    ·exact ih.1.2 j (by omega)
   ·rcases ih.2 with h2 | ⟨j,hj,h2⟩
    ·exact .inl h2
    ·exact .inr ⟨j,by omega,h2⟩
theorem ek (l:List Rat) (h:0<l.length):(∀ j,j<l.length→Dj (-1) l≤l.getD j 0)∧∃ j,j<l.length∧Dj (-1) l=l.getD j 0:=by
 have hm:=Py (l.getD 0 0) (l.drop 1) (l.drop 1).length
 rw [show Zf (-1) (l.getD 0 0) (l.drop 1) (l.drop 1).length=Dj (-1) l from rfl,List.length_drop] at hm
 refine ⟨fun j hj=>?_,?_⟩
 ·cases j with
  | zero=>exact hm.1.1
  | succ j=>have:=hm.1.2 j (by omega); rwa [AG,Nat.add_comm] at this
 ·rcases hm.2 with h2 | ⟨j,hj,h2⟩
  ·exact ⟨0,h,h2⟩
  ·exact ⟨1+j,by omega,by rw [h2,AG]⟩
theorem ei (l:List Rat) (h:0<l.length):(∀ j,j<l.length→l.getD j 0≤Dj 1 l)∧∃ j,j<l.length∧Dj 1 l=l.getD j 0:=by
 have hm:=Px (l.getD 0 0) (l.drop 1) (l.drop 1).length
 rw [show Zf 1 (l.getD 0 0) (l.drop 1) (l.drop 1).length=Dj 1 l from rfl,List.length_drop] at hm
 refine ⟨fun j hj=>?_,?_⟩
 ·cases j with
  | zero=>exact hm.1.1
  | succ j=>have:=hm.1.2 j (by omega); rwa [AG,Nat.add_comm] at this
 ·rcases hm.2 with h2 | ⟨j,hj,h2⟩
  ·exact ⟨0,h,h2⟩
  ·exact ⟨1+j,by omega,by rw [h2,AG]⟩
def Pp (n:V2) (A B:List V2) (i k:Nat):Rat:=Qa n ((B.getD k v0).sub (A.getD i v0))
theorem po (n:V2) (A B:List V2) (i k:Nat):Pp n A B i k=Qa n (B.getD k v0) - Qa n (A.getD i v0):=by unfold Pp Qa V2.sub; grind
theorem FN (n:V2) (L:List V2) (i:Nat) (h:i<L.length):(Qc n L).getD i 0=Qa n (L.getD i v0):=by
 unfold Qc
 rw [List.getD_eq_getElem?_getD,List.getElem?_map,List.getD_eq_getElem?_getD,List.getElem?_eq_getElem h]; rfl
theorem eP (n:V2) (A B:List V2) (pa:0<A.length) (pb:0<B.length) (g:Rat) (h1:∃ i k,i<A.length∧k<B.length∧g=Pp n A B i k) (h2:∀ i k,i<A.length→k<B.length→g≤Pp n A B i k):g=Ft n A B:=by
 have lA:(Qc n A).length=A.length:=by simp [Qc]
 have lB:(Qc n B).length=B.length:=by simp [Qc]
 obtain ⟨u1,j,hj,u2⟩:=ek (Qc n B) (by omega)
 obtain ⟨w1,m,hm,w2⟩:=ei (Qc n A) (by omega)
 obtain ⟨i,k,hi,hk,e⟩:=h1
 rw [lA] at hm; rw [lB] at hj
 have a1:=u1 k (by omega)
 have a2:=w1 i (by omega)
 have a3:=h2 m j hm hj
 rw [FN _ _ _ hk] at a1
 rw [FN _ _ _ hi] at a2
 rw [FN _ _ _ hj] at u2
 rw [FN _ _ _ hm] at w2
 rw [po] at e a3
 unfold Ft
 apply Rat.le_antisymm <;> grind
theorem MC (n:V2) (A B:List V2) (k:Nat) (ha:XV A k) (hb:XV B k) (i j:Nat):qb (Pp n A B i j)≤2*(vb n+2*k+1)+1:=by
 have:=K5 (B.getD j v0) (A.getD i v0)
 have:=ha i; have:=hb j
 have:=ZV n ((B.getD j v0).sub (A.getD i v0))
 unfold Pp; omega
theorem ms (n:V2) (A B:List V2) (c:Nat) (ha:XV A c) (hb:XV B c) (hk:c≤10000) (la:A.length<1000000) (lb:B.length<1000000) (pa:0<A.length) (pb:0<B.length) (hn:vb n≤10000):Fn Tryz.prog 283 [vA n,Xp A,Xp B] (qA (Ft n A B)):=by
 have hvc:∀ a:V2,∀ x∈vC a,Settled x:=fun a=>by simp [vC,X7,X3]
 have hqc:∀ r:Rat,∀ x∈qC r,Settled x:=fun r=>by simp [qC,X7,X3]
 have bn:XI 3 (.con 0 8 (Xq (vC n)))=True:=eq_true (fun j _=>X6 (Xg (hvc n) j))
 have bq:∀ r,XI 3 (.row 0 4 (Xq (qC r)))=True:=fun r=>eq_true (XG (hqc r))
 have bz:XI 3 (.row 0 4 (Xq AZ))=True:=eq_true (by simp [AZ,Xx])
 have bA:Jj 3 (Xp A)=True:=eq_true (X6 (Xd A))
 have bB:Jj 3 (Xp B)=True:=eq_true (X6 (Xd B))
 have step:∀ i k,i<A.length→k<B.length→Fn Tryz.prog 104 [vA (B.getD k v0),vA (A.getD i v0)] (vA ((B.getD k v0).sub (A.getD i v0)))∧Fn Tryz.prog 193 [vA n,vA ((B.getD k v0).sub (A.getD i v0))] (qA (Pp n A B i k)):=fun i k hi hk'=>by
  have:=ha i; have:=hb k
  have m:=K5 (B.getD k v0) (A.getD i v0)
  exact ⟨JB _ _ (by unfold rm; omega) (by unfold rm; omega),KP _ _ (by unfold vm; omega) (by unfold vm; omega)⟩
 obtain ⟨d1,d2⟩:=step 0 0 pa pb
 have v1:=vF A 0
 have v2:=vF B 0
 simp only [Nat.zero_mul,Nat.zero_add] at v1 v2
 have f1:(0<A.length)=True:=eq_true pa
 have f2:(0<B.length)=True:=eq_true pb
 have f3:((0:Int)<A.length)=True:=eq_true (by omega)
 have f4:((0:Int)<B.length)=True:=eq_true (by omega)
 have f5:(8≤A.length*8)=True:=eq_true (by omega)
 have f6:(8≤B.length*8)=True:=eq_true (by omega)
 obtain ⟨R,hR⟩:∃ R,R=qA (Ft n A B):=⟨_,rfl⟩
 have sR:Settled R:=hR▸Xc _
 rw [← hR]
 refine Fq Tryz.call283 Tryz.func283 11 [] [1,20000003,8,90000003] [] (by simp [Xn,Xd]) (X1 1000 ?_)
 simp only [AS.start,X5,f1,f2,f3,f4,f5,f6,v1,v2,Int.toNat_zero,Int.reduceLE,↓X2,wA,seval,wE]
 refine X0 d1 rfl ?_
 simp only [↓X2,wA,seval,wE]
 refine X0 d2 rfl ?_
 simp only [↓X2,wA,seval,wE]
 refine Xe (fun p:Nat×Rat=>⟨11,[],[.any,Xp A,Xp B,.ref 0 0 0,.any,.any,.ref 1 0 0,.ref 2 0 0,I p.1,.any,.any],[],[.con 0 8 (Xq (vC n)),.row 0 4 (Xq AZ),.row 0 4 (Xq (qC p.2))]⟩) (fun p=>p.1≤A.length∧(∃ i k,i<A.length∧k<B.length∧p.2=Pp n A B i k)∧∀ i k,i<p.1→k<B.length→p.2≤Pp n A B i k) (fun p=>A.length - p.1) (0,Pp n A B 0 0) ⟨by omega,⟨0,0,pa,pb,rfl⟩,fun i k hi=>absurd hi (Nat.not_lt_zero i)⟩
  (Xa rfl (by simp [Xh,X5,I]) (by simp [Xi]) (by simp [vC,qC,AZ,X4])) ?_
 rintro ⟨i,g⟩ ⟨hi,hat,hle⟩ next
 simp only at hi hat hle
 have w1:=wj i (by omega)
 by_cases hi2:i<A.length
 rotate_left
 ·obtain rfl:i=A.length:=by omega
  rw [← eP n A B pa pb g hat (fun i k h1 h2=>hle i k h1 h2)] at hR
  refine X1 1000 ?_
  simp only [X5,AZ,Int.lt_irrefl,Nat.lt_irrefl,↓X2,wA,seval,wE]
  exact Ju rfl Qb rfl rfl rfl sR (hR.trans rfl)
 have g1:((i:Int)<A.length)=True:=eq_true (by omega)
 have g2:(i<A.length)=True:=eq_true hi2
 have g3:(i*8+8≤A.length*8)=True:=eq_true (by omega)
 refine X1 1000 ?_
 simp only [X5,w1,g1,g2,↓X2,wA,seval,wE]
 refine Xe (fun p:Nat×Rat=>⟨11,[],[.any,Xp A,Xp B,.ref 0 0 0,.any,.any,.ref 1 0 0,.ref 2 0 0,I i,I p.1,.any],[],[.con 0 8 (Xq (vC n)),.row 0 4 (Xq AZ),.row 0 4 (Xq (qC p.2))]⟩) (fun p=>p.1≤B.length∧(∃ i k,i<A.length∧k<B.length∧p.2=Pp n A B i k)∧(∀ i' k,i'<i→k<B.length→p.2≤Pp n A B i' k)∧∀ k,k<p.1→p.2≤Pp n A B i k) (fun p=>B.length - p.1) (0,g) ⟨by omega,hat,hle,fun k hk=>absurd hk (Nat.not_lt_zero k)⟩
  (Xa rfl (by simp [Xh,X5,I]) (by simp [Xi]) (by simp [vC,qC,X4])) ?_
 rintro ⟨k,q⟩ ⟨hk1,qat,qle,qrow⟩ nextk
 simp only at hk1 qat qle qrow
 have u1:=wj k (by omega)
 by_cases hk2:k<B.length
 rotate_left
 ·obtain rfl:k=B.length:=by omega
  refine X1 1000 ?_
  simp only [X5,w1,Int.lt_irrefl,Nat.lt_irrefl,↓X2,wA,seval,wE]
  refine next (i+1,q) _ ⟨by simp only; omega,qat,fun i' k' h1 h2=>?_⟩ (by simp only; omega) (Xa rfl (by simp [Xh,X5,I]) (by simp [Xi]) (by simp [vC,qC,X4]))
  by_cases e:i'=i
  ·rw [e]; exact qrow k' h2
  ·exact qle i' k' (by simp only at h1; omega) h2
 have h1:((k:Int)<B.length)=True:=eq_true (by omega)
 have h2:(k<B.length)=True:=eq_true hk2
 have h3:(k*8+8≤B.length*8)=True:=eq_true (by omega)
 have x1:=vF A i
 have x2:=vF B k
 obtain ⟨s1,s2⟩:=step i k hi2 hk2
 have hd:=MC n A B c ha hb i k
 have hq:qb q≤2*(vb n+2*c+1)+1:=by
  obtain ⟨a,b,_,_,e⟩:=qat
  rw [e]; exact MC n A B c ha hb a b
 have s3:=QP (Pp n A B i k) q (by unfold rm; omega) (by unfold rm; omega)
 have hnew:(∃ i k,i<A.length∧k<B.length∧Pp n A B i k=Pp n A B i k):=⟨i,k,hi2,hk2,rfl⟩
 obtain ⟨D,hD⟩:∃ D,D=Pp n A B i k:=⟨_,rfl⟩
 rw [← hD] at s2 s3
 refine X1 1000 ?_
 simp only [X5,w1,u1,g1,g2,g3,h1,h2,h3,x1,x2,Int.toNat_natCast,↓X2,wA,seval,wE]
 refine X0 s1 rfl ?_
 simp only [X5,w1,u1,g1,g2,g3,h1,h2,h3,x1,x2,Int.toNat_natCast,↓X2,wA,seval,wE]
 refine X0 s2 rfl ?_
 simp only [X5,w1,u1,g1,g2,g3,h1,h2,h3,x1,x2,Int.toNat_natCast,↓X2,wA,seval,wE]
 refine X0 s3 rfl ?_
 by_cases hc:D<q
 ·have f:(Q6 D q<0)=True:=eq_true ((K7 _ _).2 hc)
  simp only [f,u1,↓X2,wA,seval,wE]
  refine nextk (k+1,D) _ ⟨by simp only; omega,⟨i,k,hi2,hk2,hD⟩,fun i' k' a b=>Rat.le_trans (Rat.le_of_lt hc) (qle i' k' a b),fun k' a=>?_⟩ (by simp only; omega) (Xy (m:=3) (Nat.zero_le _) rfl (by simp [X5,Xh,I]) (by simp [Xi]) (by simp [vC,qC,X4]) (by simp [Xx,bA,bB]) (by simp [Xx]) (by simp [bn,bq,bz]))
  by_cases e:k'=k
  ·rw [e,← hD]; exact Rat.le_refl
  ·exact Rat.le_trans (Rat.le_of_lt hc) (qrow k' (by simp only at a; omega))
 ·have f:(Q6 D q<0)=False:=eq_false fun hh=>hc ((K7 _ _).1 hh)
  simp only [f,u1,↓X2,wA,seval,wE]
  refine nextk (k+1,q) _ ⟨by simp only; omega,qat,qle,fun k' a=>?_⟩ (by simp only; omega) (Xy (m:=3) (Nat.zero_le _) rfl (by simp [X5,Xh,I]) (by simp [Xi]) (by simp [vC,qC,X4]) (by simp [Xx,bA,bB]) (by simp [Xx]) (by simp [bn,bq,bz]))
  by_cases e:k'=k
  ·rw [e,← hD]; exact Rat.not_lt.1 hc
  ·exact qrow k' (by simp only at a; omega)
theorem Ml (n:V2) (A B:List V2) (e:Rat) (k:Nat) (ha:XV A k) (hb:XV B k) (hk:k≤10000) (la:A.length<1000000) (lb:B.length<1000000) (pa:0<A.length) (pb:0<B.length) (hn:vb n≤10000) (he:qb e≤10000):Fn Tryz.prog 266 [vA n,Xp A,Xp B,qA e] (.bool (decide (El n A B e))):=by
 have c1:=ms n A B k ha hb hk la lb pa pb hn
 have c2:=gM n e (by omega) (by omega)
 have q1:=MK n A B k ha hb
 have q2:=HZ n
 have q3:=Qx e (Kx n)
 have c3:=QP (Ft n A B) (e*Kx n) (by unfold rm; omega) (by unfold rm; omega)
 have hd:decide (El n A B e)=decide (0≤Q6 (Ft n A B) (e*Kx n)):=decide_eq_decide.2 (FQ _ _).symm
 rw [hd]
 refine Fq Tryz.call266 Tryz.func266 9 [] [] [] (by simp [Xn,Xd,Xc]) (X1 1000 ?_)
 simp only [AS.start,X5,↓X2,wA,seval,wE]
 refine X0 c1 rfl ?_
 simp only [↓X2,wA,seval,wE]
 refine X0 c2 rfl ?_
 simp only [↓X2,wA,seval,wE]
 refine X0 c3 rfl ?_
 simp only [↓X2,wA,seval,wE]
 exact Xs rfl rfl (X3 _) rfl
def dA (A:List V2) (i:Nat):V2:=Rb (A.getD i v0) (A.getD ((i+1) % A.length) v0)
def dB (B:List V2) (i:Nat):V2:=Rb (B.getD ((i+1) % B.length) v0) (B.getD i v0)
def GX (A:List V2) (i:Nat):List V2:=(List.range i).map (dA A)
def LX (B:List V2) (i:Nat):List V2:=(List.range i).map (dB B)
def ZS (A B:List V2):List V2:=(GX A A.length ++ LX B B.length) ++ [Js (1,0),Js (0,1),Js (-1,0),Js (0,-1)]
theorem Pk (A:List V2) (i:Nat):GX A (i+1)=GX A i ++ [dA A i]:=by unfold GX; rw [List.range_succ,List.map_append]; rfl
theorem Pm (B:List V2) (i:Nat):LX B (i+1)=LX B i ++ [dB B i]:=by unfold LX; rw [List.range_succ,List.map_append]; rfl
theorem BR (A:List V2) (i:Nat):(GX A i).length=i:=by simp [GX]
theorem DT (B:List V2) (i:Nat):(LX B i).length=i:=by simp [LX]
theorem lY (p q:V2):Bb (Rb p q)=Rb q p:=by
 unfold Bb Rb V2.sub
 rw [V2.ext']
 exact ⟨by simp only; grind,by simp only; grind⟩
theorem rc (L:List V2) (a b c d:V2) (j:Nat) (hj:j<(L.length+4)*8):QK (L.length*8) (XB vC 8 v0 L) 32 (Xq (vC a ++ (vC b ++ (vC c ++ vC d)))) j=XB vC 8 v0 (L ++ [a,b,c,d]) j:=by
 unfold QK
 by_cases h:j<L.length*8
 ·rw [if_pos h]
  unfold XB
  have:j / 8<L.length:=by omega
  have e:(L ++ [a,b,c,d]).getD (j / 8) v0=L.getD (j / 8) v0:=by rw [List.getD_eq_getElem?_getD,List.getD_eq_getElem?_getD,List.getElem?_append_left this]
  rw [e]
 ·rw [if_neg h,if_pos (by omega)]
  obtain ⟨i,rfl⟩:∃ i,j=L.length*8+i:=⟨j - L.length*8,by omega⟩
  have hi:i<32:=by omega
  have e1:L.length*8+i - L.length*8=i:=by omega
  have e2:(L.length*8+i) / 8=L.length+i / 8:=by omega
  have e3:(L.length*8+i) % 8=i % 8:=by omega
  unfold XB
  rw [e1,e2,e3]
  have e4:(L ++ [a,b,c,d]).getD (L.length+i / 8) v0=[a,b,c,d].getD (i / 8) v0:=by
   rw [List.getD_eq_getElem?_getD,List.getD_eq_getElem?_getD,List.getElem?_append_right (by omega)]
   rw [show L.length+i / 8 - L.length=i / 8 by omega]
  rw [e4]
  clear e1 e2 e3 e4 hj h
  match i,hi with
  | 0,_=>rfl
  | 1,_=>rfl
  | 2,_=>rfl
  | 3,_=>rfl
  | 4,_=>rfl
  | 5,_=>rfl
  | 6,_=>rfl
  | 7,_=>rfl
  | 8,_=>rfl
  | 9,_=>rfl
  | 10,_=>rfl
  | 11,_=>rfl
  | 12,_=>rfl
  | 13,_=>rfl
  | 14,_=>rfl
  | 15,_=>rfl
  | 16,_=>rfl
  | 17,_=>rfl
  | 18,_=>rfl
  | 19,_=>rfl
  | 20,_=>rfl
  | 21,_=>rfl
  | 22,_=>rfl
  | 23,_=>rfl
  | 24,_=>rfl
  | 25,_=>rfl
  | 26,_=>rfl
  | 27,_=>rfl
  | 28,_=>rfl
  | 29,_=>rfl
  | 30,_=>rfl
  | 31,_=>rfl
  | i+32,h=>omega
theorem IF (A B:List V2) (k:Nat) (ha:XV A k) (hb:XV B k) (hk:1≤k):∀ x∈ZS A B,vb x≤2*k+3:=by
 intro x hx
 have p4:∀ c:Int×Int,-1≤c.1∧c.1≤1→-1≤c.2∧c.2≤1→vb (Js c)≤3:=fun c h1 h2=>by
  have q1:=Zt c.1 3 (by omega) (QM ⟨by omega,by omega⟩)
  have q2:=Zt c.2 3 (by omega) (QM ⟨by omega,by omega⟩)
  unfold vb Js; simp only; omega
 unfold ZS at hx
 rcases List.mem_append.1 hx with h | h
 ·rcases List.mem_append.1 h with h | h
  ·obtain ⟨i,_,rfl⟩:=List.mem_map.1 h
   have:=Uk (A.getD i v0) (A.getD ((i+1) % A.length) v0)
   have:=ha i; have:=ha ((i+1) % A.length)
   unfold dA; omega
  ·obtain ⟨i,_,rfl⟩:=List.mem_map.1 h
   have:=Uk (B.getD ((i+1) % B.length) v0) (B.getD i v0)
   have:=hb i; have:=hb ((i+1) % B.length)
   unfold dB; omega
 ·simp only [List.mem_cons,List.not_mem_nil,or_false] at h
  rcases h with rfl | rfl | rfl | rfl
  ·exact Nat.le_trans (p4 _ (by decide) (by decide)) (by omega)
  ·exact Nat.le_trans (p4 _ (by decide) (by decide)) (by omega)
  ·exact Nat.le_trans (p4 _ (by decide) (by decide)) (by omega)
  ·exact Nat.le_trans (p4 _ (by decide) (by decide)) (by omega)
theorem s9 (a b c d:V2):∀ j,j<32→((vC a ++ (vC b ++ (vC c ++ vC d))).getD j .any).one=true:=fun j hj=>by
 match j,hj with
 | 0,_=>rfl
 | 1,_=>rfl
 | 2,_=>rfl
 | 3,_=>rfl
 | 4,_=>rfl
 | 5,_=>rfl
 | 6,_=>rfl
 | 7,_=>rfl
 | 8,_=>rfl
 | 9,_=>rfl
 | 10,_=>rfl
 | 11,_=>rfl
 | 12,_=>rfl
 | 13,_=>rfl
 | 14,_=>rfl
 | 15,_=>rfl
 | 16,_=>rfl
 | 17,_=>rfl
 | 18,_=>rfl
 | 19,_=>rfl
 | 20,_=>rfl
 | 21,_=>rfl
 | 22,_=>rfl
 | 23,_=>rfl
 | 24,_=>rfl
 | 25,_=>rfl
 | 26,_=>rfl
 | 27,_=>rfl
 | 28,_=>rfl
 | 29,_=>rfl
 | 30,_=>rfl
 | 31,_=>rfl
 | j+32,h=>omega
theorem bM (A B:List V2) (c:Nat) (ha:XV A c) (hb:XV B c) (hc:c≤10000) (la:A.length<100000) (lb:B.length<100000):Fn Tryz.prog 261 [Xp A,Xp B] (Xp (ZS A B)):=by
 have hvc:∀ a:V2,∀ x∈vC a,Settled x:=fun a=>by simp [vC,X7,X3]
 have bA:Jj 1 (Xp A)=True:=eq_true (X6 (Xd A))
 have bB:Jj 1 (Xp B)=True:=eq_true (X6 (Xd B))
 have br:∀ i l n,XI 1 (.row i n (XB vC 8 v0 l))=True:=fun i l n=>eq_true fun j _=>X6 (Xg (hvc _) _)
 obtain ⟨R,hR⟩:∃ R,R=Xp (ZS A B):=⟨_,rfl⟩
 rw [← hR]
 refine Fq Tryz.call261 Tryz.func261 10 [10,11,12,31,32,33] [5,60000007,10,110000009] [] (by simp [Xd]) (X1 1000 ?_)
 simp only [AS.start,X5,↓X2,wA,seval,wE]
 refine Xe (fun i:Nat=>⟨10,[10,11,12,31,32,33],[Xp A,Xp B,.any,.any,.any,.osl 0 i 8 0 i,.any,.any,.any,.any],[(10,Xp A),(11,I A.length),(12,I i)],[.row i (i*8) (XB vC 8 v0 (GX A i))]⟩) (fun i=>i≤A.length) (fun i=>A.length - i) 0 (by omega)
  (Sub.trans (Q7 5 8 (XB vC 8 v0 []) rfl) (Xa rfl (by simp [AS.put,Xh,X5,I]) (by simp [AS.put,Xi,Xw,X5,I]) (by simp [AS.put,GX]))) ?_
 intro i hi next
 have w1:=wj i (by omega)
 by_cases hi2:i<A.length
 ·have nx:=next (i+1)
  have f1:((i:Int)<A.length)=True:=eq_true (by omega)
  have f2:(i<A.length)=True:=eq_true hi2
  have f3:(i*8+8≤A.length*8)=True:=eq_true (by omega)
  have hm:((i+1:Nat):Int).tmod A.length=(((i+1) % A.length:Nat):Int):=rfl
  have hml:(i+1) % A.length<A.length:=Nat.mod_lt _ (by omega)
  have f4:((i+1) % A.length<A.length)=True:=eq_true hml
  have f5:((i+1) % A.length*8+8≤A.length*8)=True:=eq_true (by omega)
  have f6:((A.length:Int)=0)=False:=eq_false (by omega)
  have f6':(A.length=0)=False:=eq_false (by omega)
  have v1:=vF A i
  have v2:=vF A ((i+1) % A.length)
  have s1:=ha i; have s2:=ha ((i+1) % A.length)
  have hap:=XQ vC 8 v0 (GX A i) (dA A i) (by omega)
  rw [BR,← Pk] at hap
  have c1:=Im (A.getD i v0) (A.getD ((i+1) % A.length) v0) (by omega) (by omega)
  rw [show Rb (A.getD i v0) (A.getD ((i+1) % A.length) v0)=dA A i from rfl] at c1
  refine X1 1000 ?_
  simp only [X5,w1,f1,f2,f3,f4,f5,f6,f6',hm,v1,v2,Int.toNat_natCast,↓X2,wA,seval,wE]
  refine X0 c1 rfl ?_
  simp only [w1,↓X2,wA,seval,wE]
  exact ⟨⟨Z9 _,by omega,by omega⟩,nx _ (by omega) (by omega) (Xy (m:=1) (Nat.zero_le _) rfl (by simp [Xh,X5,I]) (by simp [Xi,Xw,X5,I]) (by rw [← hap]; rfl) (by simp [Xx,bA,bB]) (by simp [Xx,bA,bB]) (by simp [br]))⟩
 obtain rfl:i=A.length:=by omega
 refine X1 1000 ?_
 simp only [X5,Int.lt_irrefl,Nat.lt_irrefl,↓X2,wA,seval,wE]
 refine Xe (fun i:Nat=>⟨10,[10,11,12,31,32,33],[Xp A,Xp B,.any,.any,.any,.osl 0 (A.length+i) 8 0 (A.length+i),.any,.any,.any,.any],[(31,Xp B),(32,I B.length),(33,I i)],[.row (A.length+i) ((A.length+i)*8) (XB vC 8 v0 (GX A A.length ++ LX B i))]⟩) (fun i=>i≤B.length) (fun i=>B.length - i) 0 (by omega)
  (Xa rfl (by simp [Xh,X5,I]) (by simp [Xi,Xw,X5,I]) (by simp [LX])) ?_
 intro i hi next
 have w1:=wj i (by omega)
 by_cases hi2:i<B.length
 ·have nx:=next (i+1)
  have f1:((i:Int)<B.length)=True:=eq_true (by omega)
  have f2:(i<B.length)=True:=eq_true hi2
  have f3:(i*8+8≤B.length*8)=True:=eq_true (by omega)
  have hm:((i+1:Nat):Int).tmod B.length=(((i+1) % B.length:Nat):Int):=rfl
  have hml:(i+1) % B.length<B.length:=Nat.mod_lt _ (by omega)
  have f4:((i+1) % B.length<B.length)=True:=eq_true hml
  have f5:((i+1) % B.length*8+8≤B.length*8)=True:=eq_true (by omega)
  have f6:((B.length:Int)=0)=False:=eq_false (by omega)
  have f6':(B.length=0)=False:=eq_false (by omega)
  have v1:=vF B i
  have v2:=vF B ((i+1) % B.length)
  have s1:=hb i; have s2:=hb ((i+1) % B.length)
  have hap:=XQ vC 8 v0 (GX A A.length ++ LX B i) (dB B i) (by omega)
  rw [List.append_assoc,← Pm,List.length_append,BR,DT] at hap
  have ea:A.length+(i+1)=A.length+i+1:=by omega
  simp only [ea] at nx
  have c1:=Im (B.getD ((i+1) % B.length) v0) (B.getD i v0) (by omega) (by omega)
  rw [show Rb (B.getD ((i+1) % B.length) v0) (B.getD i v0)=dB B i from rfl] at c1
  refine X1 1000 ?_
  simp only [X5,w1,f1,f2,f3,f4,f5,f6,f6',hm,v1,v2,Int.toNat_natCast,↓X2,wA,seval,wE]
  refine X0 c1 rfl ?_
  simp only [w1,↓X2,wA,seval,wE]
  exact ⟨⟨Z9 _,by omega,by omega⟩,nx _ (by omega) (by omega) (Xy (m:=1) (Nat.zero_le _) rfl (by simp [Xh,X5,I]) (by simp [Xi,Xw,X5,I]) (by rw [← hap]; rfl) (by simp [Xx,bA,bB]) (by simp [Xx,bA,bB]) (by simp [br]))⟩
 obtain rfl:i=B.length:=by omega
 have hl:(GX A A.length ++ LX B B.length).length=A.length+B.length:=by rw [List.length_append,BR,DT]
 have h4:=rc (GX A A.length ++ LX B B.length) (Js (1,0)) (Js (0,1)) (Js (-1,0)) (Js (0,-1))
 rw [hl] at h4
 have c1:=GG 1 0 ⟨by omega,by omega⟩ ⟨by omega,by omega⟩
 have c2:=GG 0 1 ⟨by omega,by omega⟩ ⟨by omega,by omega⟩
 have c3:=GG (-1) 0 ⟨by omega,by omega⟩ ⟨by omega,by omega⟩
 have c4:=GG 0 (-1) ⟨by omega,by omega⟩ ⟨by omega,by omega⟩
 have hlen:(ZS A B).length=A.length+B.length+4:=by unfold ZS; rw [List.length_append,hl]; rfl
 rw [show (⟨((1:Int):Rat),((0:Int):Rat)⟩:V2)=Js (1,0) from rfl] at c1
 rw [show (⟨((0:Int):Rat),((1:Int):Rat)⟩:V2)=Js (0,1) from rfl] at c2
 rw [show (⟨((-1:Int):Rat),((0:Int):Rat)⟩:V2)=Js (-1,0) from rfl] at c3
 rw [show (⟨((0:Int):Rat),((-1:Int):Rat)⟩:V2)=Js (0,-1) from rfl] at c4
 have hD:ZS A B=(GX A A.length ++ LX B B.length) ++ [Js (1,0),Js (0,1),Js (-1,0),Js (0,-1)]:=rfl
 generalize Js (1,0)=E1 at *
 generalize Js (0,1)=E2 at *
 generalize Js (-1,0)=E3 at *
 generalize Js (0,-1)=E4 at *
 refine X1 1000 ?_
 simp only [X5,Int.lt_irrefl,Nat.lt_irrefl,↓X2,wA,seval,wE]
 refine X0 c1 rfl ?_
 simp only [↓X2,wA,seval,wE]
 refine X0 c2 rfl ?_
 simp only [↓X2,wA,seval,wE]
 refine X0 c3 rfl ?_
 simp only [↓X2,wA,seval,wE]
 refine X0 c4 rfl ?_
 simp only [↓X2,wA,seval,wE]
 refine ⟨⟨s9 E1 E2 E3 E4,by omega,by omega⟩,?_⟩
 rw [hR]
 refine AR rfl ?_
 rw [X5,hlen]
 refine Qv (n:=A.length+B.length+4) (.inl rfl) (by omega) (fun h=>by omega) fun j hj=>?_
 rw [Nat.zero_add,hD,← h4 j hj]
 have:=Xg (hvc ((GX A A.length ++ LX B B.length ++ [E1,E2,E3,E4]).getD (j / 8) v0)) (j % 8)
 have e:Settled (XB vC 8 v0 (GX A A.length ++ LX B B.length ++ [E1,E2,E3,E4]) j):=this
 rw [← h4 j hj] at e
 exact e.sees _
theorem gG (A B:List V2) (c:Nat) (ha:XV A c) (hb:XV B c) (hc:c≤10000) (la:A.length<100000) (lb:B.length<100000):Fn Tryz.prog 265 [Xp A,Xp B] (Xp (ZS A B)):=by
 have hvc:∀ a:V2,∀ x∈vC a,Settled x:=fun a=>by simp [vC,X7,X3]
 have bA:Jj 1 (Xp A)=True:=eq_true (X6 (Xd A))
 have bB:Jj 1 (Xp B)=True:=eq_true (X6 (Xd B))
 have br:∀ i l n,XI 1 (.row i n (XB vC 8 v0 l))=True:=fun i l n=>eq_true fun j _=>X6 (Xg (hvc _) _)
 obtain ⟨R,hR⟩:∃ R,R=Xp (ZS A B):=⟨_,rfl⟩
 rw [← hR]
 refine Fq Tryz.call265 Tryz.func265 8 [] [5,9] [] (by simp [Xd]) (X1 1000 ?_)
 simp only [AS.start,X5,↓X2,wA,seval,wE]
 refine Xe (fun i:Nat=>⟨8,[],[Xp A,Xp B,.any,.any,.any,.osl 0 i 8 0 i,I i,.any],[],[.row i (i*8) (XB vC 8 v0 (GX A i))]⟩) (fun i=>i≤A.length) (fun i=>A.length - i) 0 (by omega)
  (Sub.trans (Q7 5 8 (XB vC 8 v0 []) rfl) (Xa rfl (by simp [AS.put,Xh,X5,I]) (by simp [AS.put,Xi]) (by simp [AS.put,GX]))) ?_
 intro i hi next
 have w1:=wj i (by omega)
 by_cases hi2:i<A.length
 ·have nx:=next (i+1)
  have f1:((i:Int)<A.length)=True:=eq_true (by omega)
  have f2:(i<A.length)=True:=eq_true hi2
  have f3:(i*8+8≤A.length*8)=True:=eq_true (by omega)
  have hm:((i+1:Nat):Int).tmod A.length=(((i+1) % A.length:Nat):Int):=rfl
  have hml:(i+1) % A.length<A.length:=Nat.mod_lt _ (by omega)
  have f4:((i+1) % A.length<A.length)=True:=eq_true hml
  have f5:((i+1) % A.length*8+8≤A.length*8)=True:=eq_true (by omega)
  have f6:((A.length:Int)=0)=False:=eq_false (by omega)
  have f6':(A.length=0)=False:=eq_false (by omega)
  have v1:=vF A i
  have v2:=vF A ((i+1) % A.length)
  have s1:=ha i; have s2:=ha ((i+1) % A.length)
  have hap:=XQ vC 8 v0 (GX A i) (dA A i) (by omega)
  rw [BR,← Pk] at hap
  have c0:=O4 A i (by omega) hi2
  have c1:=Lu (A.getD i v0) (A.getD ((i+1) % A.length) v0) (by omega) (by omega)
  rw [show Rb (A.getD i v0) (A.getD ((i+1) % A.length) v0)=dA A i from rfl] at c1
  refine X1 1000 ?_
  simp only [X5,w1,f1,f2,f3,f4,f5,f6,f6',hm,v1,v2,Int.toNat_natCast,↓X2,wA,seval,wE]
  refine X0 c0 rfl ?_
  simp only [X5,w1,f1,f2,f3,f4,f5,f6,f6',hm,v1,v2,Int.toNat_natCast,↓X2,wA,seval,wE]
  refine X0 c1 rfl ?_
  simp only [w1,↓X2,wA,seval,wE]
  exact ⟨⟨Z9 _,by omega,by omega⟩,nx _ (by omega) (by omega) (Xy (m:=1) (Nat.zero_le _) rfl (by simp [Xh,X5,I]) (by simp [Xi]) (by rw [← hap]; rfl) (by simp [Xx,bA,bB]) (by simp [Xx,bA,bB]) (by simp [br]))⟩
 obtain rfl:i=A.length:=by omega
 refine X1 1000 ?_
 simp only [X5,Int.lt_irrefl,Nat.lt_irrefl,↓X2,wA,seval,wE]
 refine Xe (fun i:Nat=>⟨8,[],[Xp A,Xp B,.any,.any,.any,.osl 0 (A.length+i) 8 0 (A.length+i),.any,I i],[],[.row (A.length+i) ((A.length+i)*8) (XB vC 8 v0 (GX A A.length ++ LX B i))]⟩) (fun i=>i≤B.length) (fun i=>B.length - i) 0 (by omega)
  (Xa rfl (by simp [Xh,X5,I]) (by simp [Xi]) (by simp [LX])) ?_
 intro i hi next
 have w1:=wj i (by omega)
 by_cases hi2:i<B.length
 ·have nx:=next (i+1)
  have f1:((i:Int)<B.length)=True:=eq_true (by omega)
  have f2:(i<B.length)=True:=eq_true hi2
  have f3:(i*8+8≤B.length*8)=True:=eq_true (by omega)
  have hm:((i+1:Nat):Int).tmod B.length=(((i+1) % B.length:Nat):Int):=rfl
  have hml:(i+1) % B.length<B.length:=Nat.mod_lt _ (by omega)
  have f4:((i+1) % B.length<B.length)=True:=eq_true hml
  have f5:((i+1) % B.length*8+8≤B.length*8)=True:=eq_true (by omega)
  have f6:((B.length:Int)=0)=False:=eq_false (by omega)
  have f6':(B.length=0)=False:=eq_false (by omega)
  have v1:=vF B i
  have v2:=vF B ((i+1) % B.length)
  have s1:=hb i; have s2:=hb ((i+1) % B.length)
  have hap:=XQ vC 8 v0 (GX A A.length ++ LX B i) (dB B i) (by omega)
  rw [List.append_assoc,← Pm,List.length_append,BR,DT] at hap
  have ea:A.length+(i+1)=A.length+i+1:=by omega
  simp only [ea] at nx
  have c0:=O4 B i (by omega) hi2
  have c1:=Lu (B.getD i v0) (B.getD ((i+1) % B.length) v0) (by omega) (by omega)
  have vn:=Uk (B.getD i v0) (B.getD ((i+1) % B.length) v0)
  have c2:=Ol (Rb (B.getD i v0) (B.getD ((i+1) % B.length) v0)) (by unfold vm; omega)
  rw [lY,show Rb (B.getD ((i+1) % B.length) v0) (B.getD i v0)=dB B i from rfl] at c2
  refine X1 1000 ?_
  simp only [X5,w1,f1,f2,f3,f4,f5,f6,f6',hm,v1,v2,Int.toNat_natCast,↓X2,wA,seval,wE]
  refine X0 c0 rfl ?_
  simp only [X5,w1,f1,f2,f3,f4,f5,f6,f6',hm,v1,v2,Int.toNat_natCast,↓X2,wA,seval,wE]
  refine X0 c1 rfl ?_
  simp only [X5,w1,f1,f2,f3,f4,f5,f6,f6',hm,v1,v2,Int.toNat_natCast,↓X2,wA,seval,wE]
  refine X0 c2 rfl ?_
  simp only [w1,↓X2,wA,seval,wE]
  exact ⟨⟨Z9 _,by omega,by omega⟩,nx _ (by omega) (by omega) (Xy (m:=1) (Nat.zero_le _) rfl (by simp [Xh,X5,I]) (by simp [Xi]) (by rw [← hap]; rfl) (by simp [Xx,bA,bB]) (by simp [Xx,bA,bB]) (by simp [br]))⟩
 obtain rfl:i=B.length:=by omega
 have hl:(GX A A.length ++ LX B B.length).length=A.length+B.length:=by rw [List.length_append,BR,DT]
 have h4:=rc (GX A A.length ++ LX B B.length) (Js (1,0)) (Js (0,1)) (Js (-1,0)) (Js (0,-1))
 rw [hl] at h4
 have c1:=An 1 0 ⟨by omega,by omega⟩ ⟨by omega,by omega⟩
 have c2:=An 0 1 ⟨by omega,by omega⟩ ⟨by omega,by omega⟩
 have c3:=An (-1) 0 ⟨by omega,by omega⟩ ⟨by omega,by omega⟩
 have c4:=An 0 (-1) ⟨by omega,by omega⟩ ⟨by omega,by omega⟩
 have hlen:(ZS A B).length=A.length+B.length+4:=by unfold ZS; rw [List.length_append,hl]; rfl
 rw [show (⟨((1:Int):Rat),((0:Int):Rat)⟩:V2)=Js (1,0) from rfl] at c1
 rw [show (⟨((0:Int):Rat),((1:Int):Rat)⟩:V2)=Js (0,1) from rfl] at c2
 rw [show (⟨((-1:Int):Rat),((0:Int):Rat)⟩:V2)=Js (-1,0) from rfl] at c3
 rw [show (⟨((0:Int):Rat),((-1:Int):Rat)⟩:V2)=Js (0,-1) from rfl] at c4
 have hD:ZS A B=(GX A A.length ++ LX B B.length) ++ [Js (1,0),Js (0,1),Js (-1,0),Js (0,-1)]:=rfl
 generalize Js (1,0)=E1 at *
 generalize Js (0,1)=E2 at *
 generalize Js (-1,0)=E3 at *
 generalize Js (0,-1)=E4 at *
 refine X1 1000 ?_
 simp only [X5,Int.lt_irrefl,Nat.lt_irrefl,↓X2,wA,seval,wE]
 refine X0 c1 rfl ?_
 simp only [↓X2,wA,seval,wE]
 refine X0 c2 rfl ?_
 simp only [↓X2,wA,seval,wE]
 refine X0 c3 rfl ?_
 simp only [↓X2,wA,seval,wE]
 refine X0 c4 rfl ?_
 simp only [↓X2,wA,seval,wE]
 refine ⟨⟨s9 E1 E2 E3 E4,by omega,by omega⟩,?_⟩
 rw [hR]
 refine AR rfl ?_
 rw [X5,hlen]
 refine Qv (n:=A.length+B.length+4) (.inl rfl) (by omega) (fun h=>by omega) fun j hj=>?_
 rw [Nat.zero_add,hD,← h4 j hj]
 have:=Xg (hvc ((GX A A.length ++ LX B B.length ++ [E1,E2,E3,E4]).getD (j / 8) v0)) (j % 8)
 have e:Settled (XB vC 8 v0 (GX A A.length ++ LX B B.length ++ [E1,E2,E3,E4]) j):=this
 rw [← h4 j hj] at e
 exact e.sees _
end
end Go.Ab.N
