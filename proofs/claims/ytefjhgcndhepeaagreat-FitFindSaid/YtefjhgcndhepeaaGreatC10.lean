/- Contracts of functions of these chapters, for every argument that fits, and what they need. -/
import Derived.Test.YtefjhgcndhepeaaGreatC9
set_option linter.unusedSimpArgs false
set_option linter.unusedVariables false
open Nat renaming reducePow → Y1, reduceLT → Y2, reduceLeDiff → Y3, reduceEqDiff → Y4, reduceAdd → Y5, reduceMul → Y6, reduceSub → Y7, reduceBEq → Y8, reduceDiv → Y9, reduceMod → YA
namespace Go.Ab.N
open Go Go.RowKit Go.Proofs
noncomputable section
set_option maxRecDepth 10000
set_option maxHeartbeats 4000000
open Classical
def rt (e:Rat):List AV:=[.bool (decide (e.num<0)),X8 (Xb e.num.natAbs),.bool false,X8 (Xb (qd e))]
noncomputable def bH (a b:List (Int×Int)) (f:FV) (e:Rat):Nat→List AV
 | 0=>XP
 | k+1=>vC ((Am a b f k).sub ⟨e,e⟩)
noncomputable def bF (a b:List (Int×Int)) (f:FV) (e:Rat):Nat→List AV
 | 0=>XP
 | k+1=>vC ((Ak a b f k).add ⟨e,e⟩)
theorem So (a b:List (Int×Int)) (f:FV) (e:Rat):∀ k,∀ x∈bH a b f e k,Settled x
 | 0=>KT a b f 0
 | k+1=>by simp [bH,vC,X7,X3]
theorem Sn (a b:List (Int×Int)) (f:FV) (e:Rat):∀ k,∀ x∈bF a b f e k,Settled x
 | 0=>KT a b f 0
 | k+1=>by simp [bF,vC,X7,X3]
theorem gz (x y e:Rat):(0<QA (y - e) (x - e)∧VD x y - e=y - e)∨(¬ 0<QA (y - e) (x - e)∧VD x y - e=x - e):=by
 unfold VD
 by_cases h:x<y
 ·exact .inl ⟨(JL _ _).2 (by grind),by rw [if_pos h]⟩
 ·exact .inr ⟨fun hh=>h (by have:=(JL _ _).1 hh; grind),by rw [if_neg h]⟩
theorem go (x y e:Rat):(QA (y+e) (x+e)<0∧VB x y+e=y+e)∨(¬ QA (y+e) (x+e)<0∧VB x y+e=x+e):=by
 unfold VB
 by_cases h:y<x
 ·exact .inl ⟨(K9 _ _).2 (by grind),by rw [if_pos h]⟩
 ·exact .inr ⟨fun hh=>h (by have:=(K9 _ _).1 hh; grind),by rw [if_neg h]⟩
theorem aC (a b:PV) (f:FV) (ha:a.even) (hb:b.even) (ht:vb f.turn≤1000) {ta tb:Rat} (ea:a.tol=RQ.of ta) (eb:b.tol=RQ.of tb) (qa:qb ta≤1000) (q2:qb tb≤1000) :
  Fn Tryz.prog 47 [QW a,QW b,Zc f] (.tup [vA (XG a.rim b.rim f (ta+tb)).1,vA (XG a.rim b.rim f (ta+tb)).2.1,.bool (XG a.rim b.rim f (ta+tb)).2.2]):=by
 have la:=ha.rim; have lb:=hb.rim
 obtain ⟨R,hR⟩:∃ R,R=XG a.rim b.rim f (ta+tb):=⟨_,rfl⟩
 rw [← hR]
 have zret:∀ {s:AS} {i j v w:Nat},s.get 6=.ref i v 0→s.h[i]?=some (.row v 8 (Xp Z8))→s.get 7=.ref j w 0→s.h[j]?=some (.row w 8 (Xp Z8))→s.get 8=.bool false→R=(v0,v0,false)→RetOk (QR Tryz.prog Tryz.f47 [11,120000005,24,250000013,250000014] [] (.tup [vA R.1,vA R.2.1,.bool R.2.2])) s:=fun h1 h2 h3 h4 h5 h6=>by
  subst h6
  exact Ia rfl (Xr Jq h1 h2 rfl) (Xr Jq h3 h4 rfl) (by unfold QT; rfl) (Xt (Xn _) (XV Zx)) (Xt (Xn _) (XV Zx)) (by rw [h5]; exact (X3 _).sees _)
 have cs:=S0 a b f la lb
 have ct:=S3 f.turn (by unfold vm; omega)
 refine Fq Tryz.call47 Tryz.func47 19 [] [11,120000005,24,250000013,250000014] [] (by simp [Xz,Qg]) (X0 1000 ?_)
 simp only [AS.start,QW,XH,Zc,XW,↓X2,wA,↓reduceIte,reduceIte,reduceCtorEq,Y1,Y2,Y3,Y4,Y5,Y6,Y7,Y8,Y9,YA,wE]
 refine X1 cs rfl ?_
 by_cases hf:Bc a.rim.length b.rim.length f
 rotate_left
 ·rw [decide_eq_false hf]
  simp only [↓X2,wA,↓reduceIte,reduceIte,reduceCtorEq,Y1,Y2,Y3,Y4,Y5,Y6,Y7,Y8,Y9,YA,wE]
  exact zret rfl rfl rfl rfl rfl (by rw [hR]; unfold XG; rw [if_neg fun h=>hf h.1])
 rw [decide_eq_true hf]
 simp only [↓X2,wA,↓reduceIte,reduceIte,reduceCtorEq,Y1,Y2,Y3,Y4,Y5,Y6,Y7,Y8,Y9,YA,wE]
 refine X1 ct rfl ?_
 by_cases hto:D4 f.turn
 rotate_left
 ·rw [decide_eq_false hto]
  simp only [↓X2,wA,↓reduceIte,reduceIte,reduceCtorEq,Y1,Y2,Y3,Y4,Y5,Y6,Y7,Y8,Y9,YA,wE]
  exact zret rfl rfl rfl rfl rfl (by rw [hR]; unfold XG; rw [if_neg fun h=>hto h.2])
 rw [decide_eq_true hto]
 have hRe:R=if ((Ak a.rim b.rim f f.M.toNat).add ⟨ta+tb,ta+tb⟩).x<((Am a.rim b.rim f f.M.toNat).sub ⟨ta+tb,ta+tb⟩).x∨((Ak a.rim b.rim f f.M.toNat).add ⟨ta+tb,ta+tb⟩).y<((Am a.rim b.rim f f.M.toNat).sub ⟨ta+tb,ta+tb⟩).y then (v0,v0,false) else ((Am a.rim b.rim f f.M.toNat).sub ⟨ta+tb,ta+tb⟩,(Ak a.rim b.rim f f.M.toNat).add ⟨ta+tb,ta+tb⟩,true):=by
  rw [hR]; unfold XG; rw [if_pos ⟨hf,hto⟩]
 clear hR
 obtain ⟨⟨s1,s2⟩,⟨s3,s4⟩,s5,s6,s7⟩:=hf
 obtain ⟨N,hN⟩:∃ N:Nat,f.M=N:=⟨f.M.toNat,by omega⟩
 have hNt:f.M.toNat=N:=by rw [hN]; rfl
 rw [hNt] at hRe
 have r1:=DR a la (AE ha.near)
 have r2:=DR b lb (AE hb.near)
 have hla:(XB a.rim).length=a.rim.length:=by simp [XB]
 have hlb:(XB b.rim).length=b.rim.length:=by simp [XB]
 have c3:Fn Tryz.prog 76 [a.tol.A,b.tol.A] (qA (ta+tb)):=by rw [ea,eb]; exact Jx ta tb (by unfold rm; omega) (by unfold rm; omega)
 have qe:=K5 ta tb
 generalize ta+tb=e at *
 simp only [↓X2,wA,↓reduceIte,reduceIte,reduceCtorEq,Y1,Y2,Y3,Y4,Y5,Y6,Y7,Y8,Y9,YA,wE]
 refine X1 r1 rfl ?_
 simp only [↓X2,wA,↓reduceIte,reduceIte,reduceCtorEq,Y1,Y2,Y3,Y4,Y5,Y6,Y7,Y8,Y9,YA,wE]
 refine X1 r2 rfl ?_
 simp only [↓X2,wA,↓reduceIte,reduceIte,reduceCtorEq,Y1,Y2,Y3,Y4,Y5,Y6,Y7,Y8,Y9,YA,wE]
 refine X1 c3 rfl ?_
 simp only [↓X2,wA,↓reduceIte,reduceIte,reduceCtorEq,Y1,Y2,Y3,Y4,Y5,Y6,Y7,Y8,Y9,YA,wE]
 have m0:vb ⟨e,e⟩≤2001:=by unfold vb; simp only; omega
 have ba:XK 9 (.row 0 25 (Xp (XH a)))=True:=eq_true (XE (XA a))
 have bb:XK 9 (.row 0 25 (Xp (XH b)))=True:=eq_true (XE (XA b))
 have bf:XK 9 (.con 0 29 (Xp (XW f)))=True:=eq_true (fun j _=>X6 (Xe (XU f) j))
 have bz:XK 9 (.row 0 8 (Xp XP))=True:=eq_true (XE (KT a.rim b.rim f 0))
 have be:XK 9 (.row 0 4 (Xp (rt e)))=True:=eq_true (XE (by simp [rt,X7,X3]))
 have bw:XK 9 (.row 0 8 (Xp (vC ⟨e,e⟩)))=True:=eq_true (XE (by simp [vC,X7,X3]))
 have bl:∀ k,XK 9 (.row 0 8 (Xp (bH a.rim b.rim f e k)))=True:=fun k=>eq_true (XE (So a.rim b.rim f e k))
 have bh:∀ k,XK 9 (.row 0 8 (Xp (bF a.rim b.rim f e k)))=True:=fun k=>eq_true (XE (Sn a.rim b.rim f e k))
 have bx:JM 9 (Xq (XB a.rim))=True:=eq_true (X6 (Xd _))
 have by':JM 9 (Xq (XB b.rim))=True:=eq_true (X6 (Xd _))
 refine Xg (fun k:Nat=>⟨19,[],[.any,.any,.any,.ref 0 0 0,.ref 1 0 0,.ref 2 0 0,.ref 3 0 0,.ref 4 0 0,.bool false,Xq (XB a.rim),Xq (XB b.rim),.ref 5 0 0,.ref 6 0 0,.ref 7 0 0,.ref 8 0 0,I k,.any,.any,.any],[],[.row 0 25 (Xp (XH a)),.row 0 25 (Xp (XH b)),.con 0 29 (Xp (XW f)),.row 0 8 (Xp XP),.row 0 8 (Xp XP),.row 0 4 (Xp (rt e)),.row 0 8 (Xp (vC ⟨e,e⟩)),.row 0 8 (Xp (bH a.rim b.rim f e k)),.row 0 8 (Xp (bF a.rim b.rim f e k))]⟩) (fun k=>k≤N+1) (fun k=>N+1 - k) 0 (by omega)
  (Sub.trans (Q2 2 rfl) (Xa rfl (by simp [Xh,X5,I]) (by simp [Xi]) (by simp [XH,XW,rt,XP,bH,bF,vC,Xf,Xo,X4,I]))) ?_
 intro k hk next
 have w1:=wj k (by omega)
 by_cases hk2:k<N+1
 ·have nx:=next (k+1)
  have fk:((k:Int)≤f.M)=True:=eq_true (by omega)
  have wx:IntKind.i64.wrap (f.EA+(k:Int))=f.EA+(k:Int):=by rw [IntKind.wrap_i64]; omega
  have wy1:IntKind.i64.wrap (f.EB+1)=f.EB+1:=by rw [IntKind.wrap_i64]; omega
  have wy:IntKind.i64.wrap (f.EB+1 - (k:Int))=f.EB+1 - (k:Int):=by rw [IntKind.wrap_i64]; omega
  have c1:=QM (f.EA+(k:Int)) a.rim.length (by omega) (by omega) (by omega)
  have c2:=QM (f.EB+1 - (k:Int)) b.rim.length (by omega) (by omega) (by omega)
  rw [M1 _ _ _ (by omega)] at c1
  rw [jf _ _ _ (by omega)] at c2
  have hX:=SU a.rim.length f k (by omega)
  have hY:=oB b.rim.length f k (by omega)
  have vx:=KA ha.near (xK a.rim.length f k)
  have vy:=KA hb.near (yL b.rim.length f k)
  have vr:=D5 f.turn (Jz (b.rim.getD (yL b.rim.length f k) (0,0)))
  have c3:=C8 f.turn (Jz (b.rim.getD (yL b.rim.length f k) (0,0))) (by unfold vm; omega) (by unfold vm; omega)
  have c4:=JJ (Jz (a.rim.getD (xK a.rim.length f k) (0,0))) (LB f.turn (Jz (b.rim.getD (yL b.rim.length f k) (0,0)))) (by unfold rm; omega) (by unfold rm; omega)
  rw [show (Jz (a.rim.getD (xK a.rim.length f k) (0,0))).sub (LB f.turn (Jz (b.rim.getD (yL b.rim.length f k) (0,0))))=Zh a.rim b.rim f k from rfl] at c4
  have hD:=Bf ha.near hb.near f ht
  have hL:=Cn ha.near hb.near f ht
  have hH:=Cl ha.near hb.near f ht
  have hDk:=hD k
  have c5:=JJ (Zh a.rim b.rim f k) ⟨e,e⟩ (by unfold rm; omega) (by unfold rm; omega)
  have c6:=Fg (Zh a.rim b.rim f k) ⟨e,e⟩ (by unfold vm; omega) (by unfold vm; omega)
  have v1:=vF (XB a.rim) (xK a.rim.length f k)
  have v2:=vF (XB b.rim) (yL b.rim.length f k)
  rw [Gb] at v1 v2
  generalize xK a.rim.length f k=X at *
  generalize yL b.rim.length f k=Y at *
  generalize Jz (a.rim.getD X (0,0))=PX at *
  generalize Jz (b.rim.getD Y (0,0))=PY at *
  generalize LB f.turn PY=RY at *
  have fX:((X:Int)<a.rim.length)=True:=eq_true (by omega)
  have fX':(X<a.rim.length)=True:=eq_true hX
  have fX8:(X*8+8≤a.rim.length*8)=True:=eq_true (by omega)
  have fY:((Y:Int)<b.rim.length)=True:=eq_true (by omega)
  have fY':(Y<b.rim.length)=True:=eq_true hY
  have fY8:(Y*8+8≤b.rim.length*8)=True:=eq_true (by omega)
  refine X0 1000 ?_
  simp only [XW,X5,w1,wx,wy1,wy,fk,fX,fX',fX8,fY,fY',fY8,hla,hlb,v1,v2,Int.toNat_natCast,↓X2,wA,↓reduceIte,reduceIte,reduceCtorEq,Y1,Y2,Y3,Y4,Y5,Y6,Y7,Y8,Y9,YA,wE]
  refine X1 c1 rfl ?_
  simp only [XW,X5,w1,wx,wy1,wy,fk,fX,fX',fX8,fY,fY',fY8,hla,hlb,v1,v2,Int.toNat_natCast,↓X2,wA,↓reduceIte,reduceIte,reduceCtorEq,Y1,Y2,Y3,Y4,Y5,Y6,Y7,Y8,Y9,YA,wE]
  refine X1 c2 rfl ?_
  simp only [XW,X5,w1,wx,wy1,wy,fk,fX,fX',fX8,fY,fY',fY8,hla,hlb,v1,v2,Int.toNat_natCast,↓X2,wA,↓reduceIte,reduceIte,reduceCtorEq,Y1,Y2,Y3,Y4,Y5,Y6,Y7,Y8,Y9,YA,wE]
  refine X1 c3 rfl ?_
  simp only [XW,X5,w1,wx,wy1,wy,fk,fX,fX',fX8,fY,fY',fY8,hla,hlb,v1,v2,Int.toNat_natCast,↓X2,wA,↓reduceIte,reduceIte,reduceCtorEq,Y1,Y2,Y3,Y4,Y5,Y6,Y7,Y8,Y9,YA,wE]
  refine X1 c4 rfl ?_
  simp only [XW,X5,w1,wx,wy1,wy,fk,fX,fX',fX8,fY,fY',fY8,hla,hlb,v1,v2,Int.toNat_natCast,↓X2,wA,↓reduceIte,reduceIte,reduceCtorEq,Y1,Y2,Y3,Y4,Y5,Y6,Y7,Y8,Y9,YA,wE]
  refine X1 c5 rfl ?_
  simp only [XW,X5,w1,wx,wy1,wy,fk,fX,fX',fX8,fY,fY',fY8,hla,hlb,v1,v2,Int.toNat_natCast,↓X2,wA,↓reduceIte,reduceIte,reduceCtorEq,Y1,Y2,Y3,Y4,Y5,Y6,Y7,Y8,Y9,YA,wE]
  refine X1 c6 rfl ?_
  match k,w1,fk,hk2,hDk,nx with
  | 0,w1,fk,hk2,hDk,nx =>
   have e0:((0:Nat):Int)=0:=rfl
   have w0:IntKind.i64.wrap (0+1)=1:=by decide
   have hL0:bH a.rim b.rim f e 1=vC ((Zh a.rim b.rim f 0).sub ⟨e,e⟩):=rfl
   have hH0:bF a.rim b.rim f e 1=vC ((Zh a.rim b.rim f 0).add ⟨e,e⟩):=rfl
   have bl2:=bl 1; have bh2:=bh 1
   simp only [Nat.zero_add,hL0,hH0] at nx bl2 bh2
   generalize (Zh a.rim b.rim f 0).sub ⟨e,e⟩=FR at *
   generalize (Zh a.rim b.rim f 0).add ⟨e,e⟩=TO at *
   simp only [bH,bF,XP,e0,w0,↓X2,wA,↓reduceIte,reduceIte,reduceCtorEq,Y1,Y2,Y3,Y4,Y5,Y6,Y7,Y8,Y9,YA,wE]
   exact nx _ (by omega) (by omega) (Xv (m:=9) (Nat.zero_le _) rfl (by simp [Xh,X5,hla,hlb,I]) (by simp [Xi]) (by simp [XH,XW,XP,rt,bH,bF,vC,Xf,Xo,X4,I]) (by simp [Xy,bx,by']) (by simp [Xy]) (by simp [ba,bb,bf,bz,be,bw,bl2,bh2]))
  | j+1,w1,fk,hk2,hDk,nx =>
   have g0:(((j+1:Nat):Int)=0)=False:=eq_false (by omega)
   have g0':((j:Int)+1=0)=False:=eq_false (by omega)
   have g0'':(j+1=0)=False:=eq_false (by omega)
   have hLj:=hL j; have hHj:=hH j
   have hl1:bH a.rim b.rim f e (j+1)=vC ((Am a.rim b.rim f j).sub ⟨e,e⟩):=rfl
   have hh1:bF a.rim b.rim f e (j+1)=vC ((Ak a.rim b.rim f j).add ⟨e,e⟩):=rfl
   have hl2:bH a.rim b.rim f e (j+1+1)=vC ((Am a.rim b.rim f (j+1)).sub ⟨e,e⟩):=rfl
   have hh2:bF a.rim b.rim f e (j+1+1)=vC ((Ak a.rim b.rim f (j+1)).add ⟨e,e⟩):=rfl
   have ux:=gz (Am a.rim b.rim f j).x (Zh a.rim b.rim f (j+1)).x e
   have uy:=gz (Am a.rim b.rim f j).y (Zh a.rim b.rim f (j+1)).y e
   have ox:=go (Ak a.rim b.rim f j).x (Zh a.rim b.rim f (j+1)).x e
   have oy:=go (Ak a.rim b.rim f j).y (Zh a.rim b.rim f (j+1)).y e
   have z1:=K7 (Am a.rim b.rim f j) ⟨e,e⟩
   have z2:=Cb (Ak a.rim b.rim f j) ⟨e,e⟩
   have z3:=K7 (Zh a.rim b.rim f (j+1)) ⟨e,e⟩
   have z4:=Cb (Zh a.rim b.rim f (j+1)) ⟨e,e⟩
   have bl2:=bl (j+1+1); have bh2:=bh (j+1+1)
   simp only [hl2,hh2] at nx bl2 bh2
   rw [hl1,hh1]
   replace ux:(0<QA ((Zh a.rim b.rim f (j+1)).sub ⟨e,e⟩).x ((Am a.rim b.rim f j).sub ⟨e,e⟩).x∧((Am a.rim b.rim f (j+1)).sub ⟨e,e⟩).x=((Zh a.rim b.rim f (j+1)).sub ⟨e,e⟩).x)∨(¬ 0<QA ((Zh a.rim b.rim f (j+1)).sub ⟨e,e⟩).x ((Am a.rim b.rim f j).sub ⟨e,e⟩).x∧((Am a.rim b.rim f (j+1)).sub ⟨e,e⟩).x=((Am a.rim b.rim f j).sub ⟨e,e⟩).x):=ux
   replace uy:(0<QA ((Zh a.rim b.rim f (j+1)).sub ⟨e,e⟩).y ((Am a.rim b.rim f j).sub ⟨e,e⟩).y∧((Am a.rim b.rim f (j+1)).sub ⟨e,e⟩).y=((Zh a.rim b.rim f (j+1)).sub ⟨e,e⟩).y)∨(¬ 0<QA ((Zh a.rim b.rim f (j+1)).sub ⟨e,e⟩).y ((Am a.rim b.rim f j).sub ⟨e,e⟩).y∧((Am a.rim b.rim f (j+1)).sub ⟨e,e⟩).y=((Am a.rim b.rim f j).sub ⟨e,e⟩).y):=uy
   replace ox:(QA ((Zh a.rim b.rim f (j+1)).add ⟨e,e⟩).x ((Ak a.rim b.rim f j).add ⟨e,e⟩).x<0∧((Ak a.rim b.rim f (j+1)).add ⟨e,e⟩).x=((Zh a.rim b.rim f (j+1)).add ⟨e,e⟩).x)∨(¬ QA ((Zh a.rim b.rim f (j+1)).add ⟨e,e⟩).x ((Ak a.rim b.rim f j).add ⟨e,e⟩).x<0∧((Ak a.rim b.rim f (j+1)).add ⟨e,e⟩).x=((Ak a.rim b.rim f j).add ⟨e,e⟩).x):=ox
   replace oy:(QA ((Zh a.rim b.rim f (j+1)).add ⟨e,e⟩).y ((Ak a.rim b.rim f j).add ⟨e,e⟩).y<0∧((Ak a.rim b.rim f (j+1)).add ⟨e,e⟩).y=((Zh a.rim b.rim f (j+1)).add ⟨e,e⟩).y)∨(¬ QA ((Zh a.rim b.rim f (j+1)).add ⟨e,e⟩).y ((Ak a.rim b.rim f j).add ⟨e,e⟩).y<0∧((Ak a.rim b.rim f (j+1)).add ⟨e,e⟩).y=((Ak a.rim b.rim f j).add ⟨e,e⟩).y):=oy
   generalize (Zh a.rim b.rim f (j+1)).sub ⟨e,e⟩=FR at *
   generalize (Zh a.rim b.rim f (j+1)).add ⟨e,e⟩=TO at *
   generalize (Am a.rim b.rim f (j+1)).sub ⟨e,e⟩=L2 at *
   generalize (Ak a.rim b.rim f (j+1)).add ⟨e,e⟩=H2 at *
   generalize (Am a.rim b.rim f j).sub ⟨e,e⟩=L1 at *
   generalize (Ak a.rim b.rim f j).add ⟨e,e⟩=H1 at *
   have:=Qu FR; have:=Qp FR; have:=Qu TO; have:=Qp TO; have:=Qu L1; have:=Qp L1; have:=Qu H1; have:=Qp H1
   have k1:=J5 FR.x L1.x (by unfold rm; omega) (by unfold rm; omega)
   have k2:=J5 FR.y L1.y (by unfold rm; omega) (by unfold rm; omega)
   have k3:=J5 TO.x H1.x (by unfold rm; omega) (by unfold rm; omega)
   have k4:=J5 TO.y H1.y (by unfold rm; omega) (by unfold rm; omega)
   clear c1 c2 c3 c4 c5 c6 hD hL hH bl bh v1 v2
   rcases ux with ⟨px,ex⟩ | ⟨px,ex⟩
   all_goals
    first | replace px:=eq_false px | replace px:=eq_true px
    rcases uy with ⟨py,ey⟩ | ⟨py,ey⟩
    all_goals
     first | replace py:=eq_false py | replace py:=eq_true py
     rcases ox with ⟨sx,gx⟩ | ⟨sx,gx⟩
     all_goals
      first | replace sx:=eq_false sx | replace sx:=eq_true sx
      rcases oy with ⟨sy,gy⟩ | ⟨sy,gy⟩
      all_goals
       first | replace sy:=eq_false sy | replace sy:=eq_true sy
       simp only [g0,g0',g0'',w1,↓X2,wA,↓reduceIte,reduceIte,reduceCtorEq,Y1,Y2,Y3,Y4,Y5,Y6,Y7,Y8,Y9,YA,wE]
       refine X1 k1 rfl ?_
       simp only [px,g0,g0',g0'',w1,↓X2,wA,↓reduceIte,reduceIte,reduceCtorEq,Y1,Y2,Y3,Y4,Y5,Y6,Y7,Y8,Y9,YA,wE]
       refine X1 k2 rfl ?_
       simp only [px,py,g0,g0',g0'',w1,↓X2,wA,↓reduceIte,reduceIte,reduceCtorEq,Y1,Y2,Y3,Y4,Y5,Y6,Y7,Y8,Y9,YA,wE]
       refine X1 k3 rfl ?_
       simp only [px,py,sx,g0,g0',g0'',w1,↓X2,wA,↓reduceIte,reduceIte,reduceCtorEq,Y1,Y2,Y3,Y4,Y5,Y6,Y7,Y8,Y9,YA,wE]
       refine X1 k4 rfl ?_
       simp only [px,py,sx,sy,g0,g0',g0'',w1,↓X2,wA,↓reduceIte,reduceIte,reduceCtorEq,Y1,Y2,Y3,Y4,Y5,Y6,Y7,Y8,Y9,YA,wE]
       exact nx _ (by omega) (by omega) (Xv (m:=9) (Nat.zero_le _) rfl (by simp [Xh,X5,hla,hlb,I]) (by simp [Xi]) (by simp [XH,XW,XP,rt,bH,bF,vC,Xf,Xo,X4,I,ex,ey,gx,gy]) (by simp [Xy,bx,by']) (by simp [Xy]) (by simp [ba,bb,bf,bz,be,bw,bl2,bh2]))
 obtain rfl:k=N+1:=by omega
 have hL:=Cn ha.near hb.near f ht N
 have hH:=Cl ha.near hb.near f ht N
 have hl1:bH a.rim b.rim f e (N+1)=vC ((Am a.rim b.rim f N).sub ⟨e,e⟩):=rfl
 have hh1:bF a.rim b.rim f e (N+1)=vC ((Ak a.rim b.rim f N).add ⟨e,e⟩):=rfl
 rw [hl1,hh1]
 clear bl bh hl1 hh1
 have m1:=K7 (Am a.rim b.rim f N) ⟨e,e⟩
 have m2:=Cb (Ak a.rim b.rim f N) ⟨e,e⟩
 generalize (Am a.rim b.rim f N).sub ⟨e,e⟩=A at *
 generalize (Ak a.rim b.rim f N).add ⟨e,e⟩=B at *
 have:=Qu A; have:=Qp A; have:=Qu B; have:=Qp B
 have q1:=J5 A.x B.x (by unfold rm; omega) (by unfold rm; omega)
 have q2:=J5 A.y B.y (by unfold rm; omega) (by unfold rm; omega)
 have fk:(((N+1:Nat):Int)≤f.M)=False:=eq_false (by omega)
 refine X0 1000 ?_
 simp only [XW,fk,↓X2,wA,↓reduceIte,reduceIte,reduceCtorEq,Y1,Y2,Y3,Y4,Y5,Y6,Y7,Y8,Y9,YA,wE]
 refine X1 q1 rfl ?_
 by_cases h1:B.x<A.x
 ·have f1:(0<QA A.x B.x)=True:=eq_true ((JL _ _).2 h1)
  simp only [f1,XP,↓X2,wA,↓reduceIte,reduceIte,reduceCtorEq,Y1,Y2,Y3,Y4,Y5,Y6,Y7,Y8,Y9,YA,wE]
  exact zret rfl rfl rfl rfl rfl (by rw [hRe,if_pos (.inl h1)])
 have f1:(0<QA A.x B.x)=False:=eq_false fun h=>h1 ((JL _ _).1 h)
 simp only [f1,↓X2,wA,↓reduceIte,reduceIte,reduceCtorEq,Y1,Y2,Y3,Y4,Y5,Y6,Y7,Y8,Y9,YA,wE]
 refine X1 q2 rfl ?_
 by_cases h2:B.y<A.y
 ·have f2:(0<QA A.y B.y)=True:=eq_true ((JL _ _).2 h2)
  simp only [f1,f2,XP,↓X2,wA,↓reduceIte,reduceIte,reduceCtorEq,Y1,Y2,Y3,Y4,Y5,Y6,Y7,Y8,Y9,YA,wE]
  exact zret rfl rfl rfl rfl rfl (by rw [hRe,if_pos (.inr h2)])
 have f2:(0<QA A.y B.y)=False:=eq_false fun h=>h2 ((JL _ _).1 h)
 simp only [f1,f2,XP,↓X2,wA,↓reduceIte,reduceIte,reduceCtorEq,Y1,Y2,Y3,Y4,Y5,Y6,Y7,Y8,Y9,YA,wE]
 rw [if_neg fun h=>h.elim h1 h2] at hRe
 subst hRe
 exact Ia rfl (Xr Jq rfl rfl rfl) (Xr Jq rfl rfl rfl) (by unfold QT; rfl) (Xt (Xn _) (XV (Q5 (vC A)))) (Xt (Xn _) (XV (Q5 (vC B)))) ((X3 _).sees _)
def qs (l:List Rat):AV:=ru qC 4 0 l
theorem LH (l:List Rat):Settled (qs l):=DV fun a x hx=>by
 have:∀ x∈qC a,Settled x:=by simp [qC,X7,X3]
 exact this x hx
theorem Bz (l:List Rat):qs l=.sl l.length (l.length*4) (Xs qC 4 0 l) false:=nrfl rfl
theorem tP (l:List Rat) (i:Nat):Xs qC 4 0 l (i*4)=.bool (decide ((l.getD i 0).num<0))∧Xs qC 4 0 l (i*4+1)=X8 (Xb (l.getD i 0).num.natAbs)∧Xs qC 4 0 l (i*4+2)=.bool false∧Xs qC 4 0 l (i*4+3)=X8 (Xb (qd (l.getD i 0))):=by
 refine ⟨?_,?_,?_,?_⟩
 ·rw [Kh _ _ _ _ _ (by omega)]; rfl
 all_goals rw [K0 _ _ _ _ _ _ (by omega)]; rfl
def Zk (sg:Int) (x:Rat) (l:List Rat):Nat→Rat
 | 0=>x
 | k+1=>if QA (l.getD k 0) (Zk sg x l k)=sg then l.getD k 0 else Zk sg x l k
theorem Oq (sg:Int) (x:Rat) (l:List Rat) (c:Nat) (hx:qb x≤c) (hl:∀ k,qb (l.getD k 0)≤c):∀ k,qb (Zk sg x l k)≤c
 | 0=>hx
 | k+1=>by
  simp only [Zk]
  split
  ·exact hl k
  ·exact Oq sg x l c hx hl k
def AY:List AV:=[.bool false,.sl 0 0 (fun _=>.any) true,.bool false,.sl 0 0 (fun _=>.any) true]
theorem CH (sg:Int) (x:Rat) (l:List Rat) (hl:l.length<1000000) (hx:qb x≤vm) (hq:∀ k,qb (l.getD k 0)≤vm):Fn Tryz.prog 286 [I sg,qA x,qs l] (qA (Zk sg x l l.length)):=by
 unfold vm at hx hq
 obtain ⟨R,hR⟩:∃ R,R=qA (Zk sg x l l.length):=⟨_,rfl⟩
 have sR:Settled R:=hR▸Xc _
 have hqc:∀ r:Rat,∀ x∈qC r,Settled x:=fun r=>by simp [qC,X7,X3]
 have bx:∀ r,XK 2 (.row 0 4 (Xp (qC r)))=True:=fun r=>eq_true (XE (hqc r))
 have bl:JM 2 (qs l)=True:=eq_true (X6 (LH l))
 rw [← hR]
 refine Fq Tryz.call286 Tryz.func286 9 [9,10,11] [] [] (by simp [X9,Xc,LH]) (X0 1000 ?_)
 simp only [AS.start,Bz,↓X2,wA,seval,wE]
 refine Xg (fun k:Nat=>⟨9,[9,10,11],[I sg,.any,.any,.any,.ref 0 0 0,.any,.ref 1 0 0,.any,.any],[(9,qs l),(10,I l.length),(11,I k)],[.row 0 4 (Xp (qC (Zk sg x l k))),.row 0 4 (Xp AY)]⟩) (fun k=>k≤l.length) (fun k=>l.length - k) 0 (by omega)
  (Xa rfl (by simp [Xh,I]) (by simp [Xi,Xw,Bz,I]) rfl) ?_
 intro k hk next
 have w1:=wj k (by omega)
 have he:=Oq sg x l 1000000 hx hq k
 by_cases hk2:k<l.length
 ·have f1:((k:Int)<l.length)=True:=eq_true (by omega)
  have f2:(k<l.length)=True:=eq_true hk2
  have f3:(k*4+4≤l.length*4)=True:=eq_true (by omega)
  have v1:=tP l k
  have c1:=Kn (l.getD k 0) (Zk sg x l k) (by have:=hq k; unfold rm; omega) (by unfold rm; omega)
  have nx:=next (k+1)
  have hs:Zk sg x l (k+1)=if QA (l.getD k 0) (Zk sg x l k)=sg then l.getD k 0 else Zk sg x l k:=rfl
  generalize Zk sg x l k=E at *
  refine X0 1000 ?_
  simp only [Bz,w1,f1,f2,f3,v1,Int.toNat_natCast,↓X2,wA,seval,wE]
  refine X1 c1 rfl ?_
  by_cases h:QA (l.getD k 0) E=sg
  ·have g1:(QA (l.getD k 0) E=sg)=True:=eq_true h
   rw [if_pos h] at hs
   simp only [hs] at nx
   simp only [g1,w1,↓X2,wA,seval,wE]
   exact nx _ (by omega) (by omega) (Xv (m:=2) (Nat.zero_le _) rfl (by simp [Xh,I]) (by simp [Xi,Xw,Bz,I]) (by simp [qC,AY,X4]) (by simp [Xy]) (by simp [Xy,bl]) (by simp [bx,AY,Xy]))
  ·have g1:(QA (l.getD k 0) E=sg)=False:=eq_false h
   rw [if_neg h] at hs
   simp only [hs] at nx
   simp only [g1,w1,↓X2,wA,seval,wE]
   exact nx _ (by omega) (by omega) (Xv (m:=2) (Nat.zero_le _) rfl (by simp [Xh,I]) (by simp [Xi,Xw,Bz,I]) (by simp [qC,AY,X4]) (by simp [Xy]) (by simp [Xy,bl]) (by simp [bx,AY,Xy]))
 obtain rfl:k=l.length:=by omega
 refine X0 1000 ?_
 simp only [Bz,AY,Int.lt_irrefl,Nat.lt_irrefl,↓X2,wA,seval,wE]
 exact JC rfl Qd rfl rfl rfl sR (hR.trans rfl)
def Qe (n:V2) (L:List V2):List Rat:=L.map (Q7 n)
theorem Ul (n:V2) (L:List V2) (i:Nat) (hi:i<L.length):Qe n (L.take i) ++ [Q7 n (L.getD i v0)]=Qe n (L.take (i+1)):=by
 rw [BG _ v0 hi]; simp [Qe]
theorem qI (a:Rat):∀ j,j<4→((qC a).getD j .any).one=true:=fun j hj=>by
 match j,hj with
 | 0,_=>rfl
 | 1,_=>rfl
 | 2,_=>rfl
 | 3,_=>rfl
 | j+4,h=>omega
theorem Hk (n:V2) (L:List V2) (k:Nat) (h:XZ L k) (hk:k≤100000) (hl:L.length<1000000) (hn:vb n≤100000):Fn Tryz.prog 285 [vA n,Xq L] (qs (Qe n L)):=by
 have hvc:∀ a:V2,∀ x∈vC a,Settled x:=fun a=>by simp [vC,X7,X3]
 have hqc:∀ r:Rat,∀ x∈qC r,Settled x:=fun r=>by simp [qC,X7,X3]
 have bo:XK 2 (.row 0 8 (Xp (vC n)))=True:=eq_true (XE (hvc n))
 have bv:JM 2 (Xq L)=True:=eq_true (X6 (Xd L))
 have br:∀ i l n,XK 2 (.row i n (Xs qC 4 0 l))=True:=fun i l n=>eq_true fun j _=>X6 (Xe (hqc _) _)
 obtain ⟨R,hR⟩:∃ R,R=qs (Qe n L):=⟨_,rfl⟩
 rw [← hR]
 refine Fq Tryz.call285 Tryz.func285 8 [8,9,10] [] [] (by simp [Xn,Xd]) (X0 1000 ?_)
 simp only [AS.start,X5,↓X2,wA,seval,wE]
 refine Xg (fun i:Nat=>⟨8,[8,9,10],[.any,.any,.ref 0 0 0,.any,.any,.osl 1 i 4 0 i,.any,.any],[(8,Xq L),(9,I L.length),(10,I i)],[.row 0 8 (Xp (vC n)),.row i (i*4) (Xs qC 4 0 (Qe n (L.take i)))]⟩) (fun i=>i≤L.length) (fun i=>L.length - i) 0 (by omega)
  (Sub.trans (Q4 5 4 (Xs qC 4 0 []) rfl) (Xa rfl (by simp [AS.put,Xh,I]) (by simp [AS.put,Xi,Xw,X5,I]) (by simp [AS.put,vC,X4,Qe]))) ?_
 intro i hi next
 have w1:=wj i (by omega)
 by_cases hi2:i<L.length
 ·have f1:((i:Int)<L.length)=True:=eq_true (by omega)
  have f2:(i<L.length)=True:=eq_true hi2
  have f3:(i*8+8≤L.length*8)=True:=eq_true (by omega)
  have v1:=vF L i
  have hb:=h i
  have c1:=FZ n (L.getD i v0) (by unfold vm; omega) (by unfold vm; omega)
  have hap:=XO qC 4 0 (Qe n (L.take i)) (Q7 n (L.getD i v0)) (by omega)
  rw [Ul _ _ _ hi2,show (Qe n (L.take i)).length=i by simp [Qe]; omega] at hap
  refine X0 1000 ?_
  simp only [X5,w1,f1,f2,f3,v1,Int.toNat_natCast,↓X2,wA,seval,wE]
  refine X1 c1 rfl ?_
  simp only [w1,↓X2,wA,seval,wE]
  exact ⟨⟨qI _,by omega,by omega⟩,next (i+1) _ (by omega) (by omega) (Xv (m:=2) (Nat.zero_le _) rfl (by simp [Xh]) (by simp [Xi,Xw,X5,I]) (by rw [← hap]; rfl) (by simp [Xy]) (by simp [Xy,bv]) (by simp [bo,br]))⟩
 obtain rfl:i=L.length:=by omega
 refine X0 1000 ?_
 simp only [X5,Int.lt_irrefl,Nat.lt_irrefl,↓X2,wA,seval,wE]
 refine Ba rfl ?_
 have hlen:(Qe n L).length=L.length:=by simp [Qe]
 rw [hR,Bz,hlen]
 refine Qw (n:=L.length) (.inl rfl) (by omega) (fun h=>by rw [h]) fun j hj=>?_
 rw [List.take_length,Nat.zero_add]
 exact (Xe (hqc _) _).sees _
def Dx (sg:Int) (l:List Rat):Rat:=Zk sg (l.getD 0 0) (l.drop 1) (l.drop 1).length
def F6 (n:V2) (A B:List V2):Rat:=Dx (-1) (Qe n B) - Dx 1 (Qe n A)
theorem CN (n:V2) (L:List V2) (k:Nat) (h:XZ L k) (i:Nat):qb ((Qe n L).getD i 0)≤2*(vb n+k)+1:=by
 have h0:=h i
 have h1:=A3 n (L.getD i v0)
 have q0:=A4
 by_cases hi:i<L.length
 ·have e:(Qe n L).getD i 0=Q7 n (L.getD i v0):=by
   unfold Qe
   rw [List.getD_eq_getElem?_getD,List.getElem?_map,List.getD_eq_getElem?_getD,List.getElem?_eq_getElem hi]; rfl
  rw [e]; omega
 ·have e:(Qe n L).getD i 0=0:=by
   rw [List.getD_eq_getElem?_getD,List.getElem?_eq_none (by simp [Qe]; omega)]; rfl
  rw [e]; omega
theorem AC (l:List Rat) (i:Nat):(l.drop 1).getD i 0=l.getD (1+i) 0:=by
 rw [List.getD_eq_getElem?_getD,List.getD_eq_getElem?_getD,List.getElem?_drop]
theorem I6 (sg:Int) (l:List Rat) (c:Nat) (h:∀ i,qb (l.getD i 0)≤c):qb (Dx sg l)≤c :=
 Oq _ _ _ _ (h 0) (fun k=>by rw [AC]; exact h _) _
theorem LY (l:List Rat) {n m:Nat} {t:Bool} (hn:n=l.length - 1) (hm:(l.length - 1)*4≤m):Weak (.sl n m (fun j=>Xs qC 4 0 l (4+j)) t) (qs (l.drop 1)):=by
 rw [Bz]
 refine AN (by rw [List.length_drop]; exact hn) (by rw [List.length_drop]; exact hm) fun j hj=>?_
 have e:Xs qC 4 0 l (4+j)=Xs qC 4 0 (l.drop 1) j:=by
  unfold Xs
  rw [AC,show (4+j) / 4=1+j / 4 by omega,show (4+j) % 4=j % 4 by omega]
 rw [e]
 exact Weak.rfl' _
theorem q9 (n:V2) (A B:List V2) (k:Nat) (ha:XZ A k) (hb:XZ B k) (hk:k≤10000) (la:A.length<1000000) (lb:B.length<1000000) (pa:0<A.length) (pb:0<B.length) (hn:vb n≤10000):Fn Tryz.prog 271 [vA n,Xq A,Xq B] (qA (F6 n A B)):=by
 have c1:=Hk n A k ha (by omega) la (by omega)
 have c2:=Hk n B k hb (by omega) lb (by omega)
 have qa:=CN n A k ha
 have qb':=CN n B k hb
 have hlA:(Qe n A).length=A.length:=by simp [Qe]
 have hlB:(Qe n B).length=B.length:=by simp [Qe]
 have c3:=CH (-1) ((Qe n B).getD 0 0) ((Qe n B).drop 1) (by rw [List.length_drop]; omega) (by have:=qb' 0; unfold vm; omega) (fun i=>by rw [AC]; have:=qb' (1+i); unfold vm; omega)
 have c4:=CH 1 ((Qe n A).getD 0 0) ((Qe n A).drop 1) (by rw [List.length_drop]; omega) (by have:=qa 0; unfold vm; omega) (fun i=>by rw [AC]; have:=qa (1+i); unfold vm; omega)
 have e1:=I6 (-1) (Qe n B) _ qb'
 have e2:=I6 1 (Qe n A) _ qa
 have c5:=OG (Dx (-1) (Qe n B)) (Dx 1 (Qe n A)) (by unfold rm; omega) (by unfold rm; omega)
 rw [show Zk (-1) ((Qe n B).getD 0 0) ((Qe n B).drop 1) ((Qe n B).drop 1).length=Dx (-1) (Qe n B) from rfl] at c3
 rw [show Zk 1 ((Qe n A).getD 0 0) ((Qe n A).drop 1) ((Qe n A).drop 1).length=Dx 1 (Qe n A) from rfl] at c4
 rw [show Dx (-1) (Qe n B) - Dx 1 (Qe n A)=F6 n A B from rfl] at c5
 have v1:=tP (Qe n A) 0
 have v2:=tP (Qe n B) 0
 obtain ⟨R,hR⟩:∃ R,R=qA (F6 n A B):=⟨_,rfl⟩
 have sR:Settled R:=hR▸Xc _
 rw [← hR] at c5 ⊢
 generalize Qe n A=PA at *
 generalize Qe n B=PB at *
 simp only [Nat.zero_mul,Nat.zero_add] at v1 v2
 have f1:(0<PA.length)=True:=eq_true (by omega)
 have f2:(0<PB.length)=True:=eq_true (by omega)
 have f3:((0:Int)<PA.length)=True:=eq_true (by omega)
 have f4:((0:Int)<PB.length)=True:=eq_true (by omega)
 have f5:(4≤PA.length*4)=True:=eq_true (by omega)
 have f6:(4≤PB.length*4)=True:=eq_true (by omega)
 have f7:((1:Int)≤PA.length)=True:=eq_true (by omega)
 have f8:((1:Int)≤PB.length)=True:=eq_true (by omega)
 refine Fq Tryz.call271 Tryz.func271 9 [] [2] [] (by simp [Xn,Xd]) (X0 1000 ?_)
 simp only [AS.start,X5,↓X2,wA,seval,wE]
 refine X1 c1 rfl ?_
 simp only [↓X2,wA,seval,wE]
 refine X1 c2 rfl ?_
 simp only [Bz,v1,v2,f1,f2,f3,f4,f5,f6,f7,f8,Int.toNat_zero,Int.reduceLE,↓X2,wA,seval,wE]
 refine Q3 c3 ⟨Weak.rfl' _,Weak.rfl' _,LY PB (by omega) (by omega),trivial⟩ ?_
 simp only [Bz,v1,v2,f1,f2,f3,f4,f5,f6,f7,f8,Int.toNat_zero,Int.reduceLE,↓X2,wA,seval,wE]
 refine Q3 c4 ⟨Weak.rfl' _,Weak.rfl' _,LY PA (by omega) (by omega),trivial⟩ ?_
 simp only [↓X2,wA,seval,wE]
 refine X1 c5 rfl ?_
 simp only [hR,↓X2,wA,seval,wE]
 exact JC rfl Qd rfl rfl rfl sR (hR.trans rfl)
def Cg (x:Rat):Rat:=if x<0 then -x else x
def Z5 (n:V2):Rat:=Cg n.x+Cg n.y
theorem Er (x:Rat):qb (Cg x)=qb x:=by unfold Cg; split <;> simp [Bx]
theorem G5 (x y:Rat):QA x y=1↔y<x:=by
 rw [← JL]
 unfold QA
 rw [Int.sign_eq_one_iff_pos,Int.sign_pos_iff]
theorem RP (x y:Rat):QA x y = -1↔x<y:=by
 rw [← K9]
 unfold QA
 rw [Int.sign_eq_neg_one_iff_neg,Int.sign_neg_iff]
theorem Vr (x:Rat):Zk 1 x [-x] 1=Cg x:=by
 show (if QA (-x) x=1 then -x else x)=_
 unfold Cg
 by_cases h:x<0
 ·rw [if_pos h,if_pos ((G5 _ _).2 (by grind))]
 ·rw [if_neg h,if_neg fun hh=>h (by have:=(G5 _ _).1 hh; grind)]
theorem SN (x:Rat) {t:Bool}:Weak (.sl 1 4 (Xp [.bool (decide (x.num<0)),X8 (Xb x.num.natAbs),.bool false,X8 (Xb (qd x))]) t) (qs [x]):=by
 rw [Bz]
 refine AN rfl (Nat.le_refl _) fun j hj=>?_
 match j,hj with
 | 0,_=>exact Weak.rfl' _
 | 1,_=>exact Weak.rfl' _
 | 2,_=>exact Weak.rfl' _
 | 3,_=>exact Weak.rfl' _
 | j+4,h=>exact absurd h (by show ¬ j+4<1*4; omega)
theorem Nd (x:Rat) (c:Nat) (hc:1≤c) (h:qb x≤c) (k:Nat):qb (([x]:List Rat).getD k 0)≤c:=by
 have q0:=A4
 match k with
 | 0=>exact h
 | k+1=>show qb 0≤c; omega
theorem mR (n:V2) (hn:vb n≤100000):Fn Tryz.prog 287 [vA n] (qA (Z5 n)):=by
 have:=Qu n; have:=Qp n
 have n1:=CW n.x
 have n2:=CW n.y
 have a1:=Er n.x; have a2:=Er n.y
 have c1:=CH 1 n.x [-n.x] (by simp) (by unfold vm; omega) (Nd _ _ (by unfold vm; omega) (by rw [Bx]; unfold vm; omega))
 have c2:=CH 1 n.y [-n.y] (by simp) (by unfold vm; omega) (Nd _ _ (by unfold vm; omega) (by rw [Bx]; unfold vm; omega))
 rw [show ([-n.x]:List Rat).length=1 from rfl,Vr] at c1
 rw [show ([-n.y]:List Rat).length=1 from rfl,Vr] at c2
 have c3:=B9 (Cg n.x) (Cg n.y) (by unfold rm; omega) (by unfold rm; omega)
 rw [show Cg n.x+Cg n.y=Z5 n from rfl] at c3
 obtain ⟨R,hR⟩:∃ R,R=qA (Z5 n):=⟨_,rfl⟩
 have sR:Settled R:=hR▸Xc _
 rw [← hR] at c3 ⊢
 refine Fq Tryz.call287 Tryz.func287 3 [] [1,20000001] [] (by simp [wS]) (X0 1000 ?_); simp (config:={ maxSteps:=2000000 }) only [AS.start,↓X2,wA,seval,wE]
 refine X1 n1 rfl ?_
 simp only [↓X2,wA,seval,wE]
 refine Q3 c1 ⟨Weak.rfl' _,Weak.rfl' _,SN _,trivial⟩ ?_
 simp only [↓X2,wA,seval,wE]
 refine X1 n2 rfl ?_
 simp only [↓X2,wA,seval,wE]
 refine Q3 c2 ⟨Weak.rfl' _,Weak.rfl' _,SN _,trivial⟩ ?_
 simp only [↓X2,wA,seval,wE]
 refine X1 c3 rfl ?_
 simp only [hR,↓X2,wA,seval,wE]
 exact JC rfl Qd rfl rfl rfl sR (hR.trans rfl)
theorem I7 (n:V2):qb (Z5 n)≤2*vb n+1:=by
 have:=Qu n; have:=Qp n
 have a1:=Er n.x; have a2:=Er n.y
 have:=K5 (Cg n.x) (Cg n.y)
 unfold Z5; omega
theorem mI (n:V2) (e:Rat) (hn:vb n≤100000) (he:qb e≤100000):Fn Tryz.prog 272 [vA n,qA e] (qA (e*Z5 n)):=by
 have q:=I7 n
 have c1:=mR n hn
 have c2:=Ku e (Z5 n) (by unfold rm; omega) (by unfold rm; omega)
 obtain ⟨R,hR⟩:∃ R,R=qA (e*Z5 n):=⟨_,rfl⟩
 have sR:Settled R:=hR▸Xc _
 rw [← hR] at c2 ⊢
 refine Fq Tryz.call272 Tryz.func272 5 [] [] [] (by simp [wS]) (X0 1000 ?_); simp (config:={ maxSteps:=2000000 }) only [AS.start,↓X2,wA,seval,wE]
 refine X1 c1 rfl ?_
 simp only [↓X2,wA,seval,wE]
 refine X1 c2 rfl ?_
 simp only [hR,↓X2,wA,seval,wE]
 exact JC rfl Qd rfl rfl rfl sR (hR.trans rfl)
def RA (p q:V2):V2:=⟨(q.sub p).y,-(q.sub p).x⟩
theorem UN (p q:V2):vb (RA p q)≤vb p+vb q+1:=by
 have:=K7 q p
 have:=Qu (q.sub p); have:=Qp (q.sub p)
 have:=Bx (q.sub p).x
 unfold RA
 show max (qb (q.sub p).y) (qb (-(q.sub p).x))≤_
 omega
theorem Is (p q:V2) (hp:vb p≤100000) (hq:vb q≤100000):Fn Tryz.prog 270 [vA p,vA q] (vA (RA p q)):=by
 have c1:=CO q p (by unfold rm; omega) (by unfold rm; omega)
 have c2:=CW (q.sub p).x
 obtain ⟨R,hR⟩:∃ R,R=vA (RA p q):=⟨_,rfl⟩
 have sR:Settled R:=hR▸Xn _
 rw [← hR]
 refine Fq Tryz.call270 Tryz.func270 6 [] [] [] (by simp [wS]) (X0 1000 ?_); simp (config:={ maxSteps:=2000000 }) only [AS.start,↓X2,wA,seval,wE]
 refine X1 c1 rfl ?_
 simp only [↓X2,wA,seval,wE]
 refine X1 c2 rfl ?_
 simp only [↓X2,wA,seval,wE]
 exact ZQ rfl Jq rfl rfl rfl sR (hR.trans rfl)
def Gd (n:V2) (A B:List V2) (e:Rat):Prop:=e*Z5 n≤F6 n A B
theorem MZ (n:V2) (A B:List V2) (k:Nat) (ha:XZ A k) (hb:XZ B k):qb (F6 n A B)≤4*(vb n+k)+3:=by
 have e1:=I6 (-1) (Qe n B) _ (CN n B k hb)
 have e2:=I6 1 (Qe n A) _ (CN n A k ha)
 have:=Ff (Dx (-1) (Qe n B)) (Dx 1 (Qe n A))
 unfold F6; omega
theorem OI (n:V2) (A B:List V2) (e:Rat) (k:Nat) (ha:XZ A k) (hb:XZ B k) (hk:k≤10000) (la:A.length<1000000) (lb:B.length<1000000) (pa:0<A.length) (pb:0<B.length) (hn:vb n≤10000) (he:qb e≤10000):Fn Tryz.prog 262 [vA n,Xq A,Xq B,qA e] (.bool (decide (Gd n A B e))):=by
 have c1:=q9 n A B k ha hb hk la lb pa pb hn
 have c2:=mI n e (by omega) (by omega)
 have q1:=MZ n A B k ha hb
 have q2:=I7 n
 have q3:=Qy e (Z5 n)
 have c3:=Kn (F6 n A B) (e*Z5 n) (by unfold rm; omega) (by unfold rm; omega)
 have hd:decide (Gd n A B e)=decide (0≤QA (F6 n A B) (e*Z5 n)):=decide_eq_decide.2 (Ov _ _).symm
 rw [hd]
 refine Fq Tryz.call262 Tryz.func262 9 [] [] [] (by simp [Xn,Xd,Xc]) (X0 1000 ?_)
 simp only [AS.start,X5,↓X2,wA,seval,wE]
 refine X1 c1 rfl ?_
 simp only [↓X2,wA,seval,wE]
 refine X1 c2 rfl ?_
 simp only [↓X2,wA,seval,wE]
 refine X1 c3 rfl ?_
 simp only [↓X2,wA,seval,wE]
 exact Xu rfl rfl (X3 _) rfl
theorem Sd (x:Rat) (h:qb x≤vm):Fn Tryz.prog 298 [qA x] (qA (Cg x)):=by
 unfold vm at h
 have c1:=AJ x (by unfold rm; omega)
 have c2:=ZB x (by unfold rm; omega)
 obtain ⟨R,hR⟩:∃ R,R=qA (Cg x):=⟨_,rfl⟩
 have sR:Settled R:=hR▸Xc _
 rw [← hR]
 refine Fq Tryz.call298 Tryz.func298 3 [] [] [] (by simp [wS]) (X0 1000 ?_); simp (config:={ maxSteps:=2000000 }) only [AS.start,↓X2,wA,seval,wE]
 refine X1 c1 rfl ?_
 by_cases h0:x<0
 ·have f1:(x.num.sign<0)=True:=eq_true ((Id _).2 h0)
  have e:Cg x = -x:=if_pos h0
  rw [e] at hR
  simp only [f1,↓X2,wA,seval,wE]
  refine X1 c2 rfl ?_
  simp only [↓X2,wA,seval,wE]
  exact JC rfl Qd rfl rfl rfl sR (hR.trans rfl)
 ·have f1:(x.num.sign<0)=False:=eq_false fun hh=>h0 ((Id _).1 hh)
  have e:Cg x=x:=if_neg h0
  rw [e] at hR
  simp only [f1,↓X2,wA,seval,wE]
  exact JC rfl Qd rfl rfl rfl sR (hR.trans rfl)
theorem iq (n:V2) (hn:vb n≤100000):Fn Tryz.prog 294 [vA n] (qA (Z5 n)):=by
 have:=Qu n; have:=Qp n
 have a1:=Er n.x; have a2:=Er n.y
 have c1:=Sd n.x (by unfold vm; omega)
 have c2:=Sd n.y (by unfold vm; omega)
 have c3:=Jx (Cg n.x) (Cg n.y) (by unfold rm; omega) (by unfold rm; omega)
 rw [show Cg n.x+Cg n.y=Z5 n from rfl] at c3
 obtain ⟨R,hR⟩:∃ R,R=qA (Z5 n):=⟨_,rfl⟩
 have sR:Settled R:=hR▸Xc _
 rw [← hR] at c3 ⊢
 refine Fq Tryz.call294 Tryz.func294 3 [] [] [] (by simp [wS]) (X0 1000 ?_); simp (config:={ maxSteps:=2000000 }) only [AS.start,↓X2,wA,seval,wE]
 refine X1 c1 rfl ?_
 simp only [↓X2,wA,seval,wE]
 refine X1 c2 rfl ?_
 simp only [↓X2,wA,seval,wE]
 refine X1 c3 rfl ?_
 simp only [hR,↓X2,wA,seval,wE]
 exact JC rfl Qd rfl rfl rfl sR (hR.trans rfl)
theorem io (n:V2) (e:Rat) (hn:vb n≤100000) (he:qb e≤100000):Fn Tryz.prog 284 [vA n,qA e] (qA (e*Z5 n)):=by
 have q:=I7 n
 have c1:=iq n hn
 have c2:=QY (Z5 n) e (by unfold rm; omega) (by unfold rm; omega)
 rw [Rat.mul_comm] at c2
 obtain ⟨R,hR⟩:∃ R,R=qA (e*Z5 n):=⟨_,rfl⟩
 have sR:Settled R:=hR▸Xc _
 rw [← hR] at c2 ⊢
 refine Fq Tryz.call284 Tryz.func284 5 [] [] [] (by simp [wS]) (X0 1000 ?_); simp (config:={ maxSteps:=2000000 }) only [AS.start,↓X2,wA,seval,wE]
 refine X1 c1 rfl ?_
 simp only [↓X2,wA,seval,wE]
 refine X1 c2 rfl ?_
 simp only [hR,↓X2,wA,seval,wE]
 exact JC rfl Qd rfl rfl rfl sR (hR.trans rfl)
theorem LA (p q:V2) (hp:vb p≤100000) (hq:vb q≤100000):Fn Tryz.prog 281 [vA p,vA q] (vA (RA p q)):=by
 have:=Qu p; have:=Qp p; have:=Qu q; have:=Qp q
 have c1:=ZC q.y p.y (by unfold rm; omega) (by unfold rm; omega)
 have c2:=ZC p.x q.x (by unfold rm; omega) (by unfold rm; omega)
 have e:RA p q=⟨q.y - p.y,p.x - q.x⟩:=by
  unfold RA V2.sub
  rw [V2.ext']
  exact ⟨rfl,by simp only; grind⟩
 rw [e]
 obtain ⟨R,hR⟩:∃ R,R=vA ⟨q.y - p.y,p.x - q.x⟩:=⟨_,rfl⟩
 have sR:Settled R:=hR▸Xn _
 rw [← hR]
 refine Fq Tryz.call281 Tryz.func281 5 [] [] [] (by simp [wS]) (X0 1000 ?_); simp (config:={ maxSteps:=2000000 }) only [AS.start,↓X2,wA,seval,wE]
 refine X1 c1 rfl ?_
 simp only [↓X2,wA,seval,wE]
 refine X1 c2 rfl ?_
 simp only [↓X2,wA,seval,wE]
 exact ZQ rfl Jq rfl rfl rfl sR (hR.trans rfl)
theorem OD (a:V2) (ha:vb a≤vm):Fn Tryz.prog 282 [vA a] (vA (KI a)):=by
 unfold vm at ha
 have:=Qu a; have:=Qp a
 have c1:=ZB a.x (by unfold rm; omega)
 have c2:=ZB a.y (by unfold rm; omega)
 obtain ⟨R,hR⟩:∃ R,R=vA (KI a):=⟨_,rfl⟩
 have sR:Settled R:=hR▸Xn _
 rw [← hR]
 refine Fq Tryz.call282 Tryz.func282 3 [] [] [] (by simp [wS]) (X0 1000 ?_); simp (config:={ maxSteps:=2000000 }) only [AS.start,↓X2,wA,seval,wE]
 refine X1 c1 rfl ?_
 simp only [↓X2,wA,seval,wE]
 refine X1 c2 rfl ?_
 simp only [↓X2,wA,seval,wE]
 exact ZQ rfl Jq rfl rfl rfl sR (hR.trans rfl)
theorem PN (x:Rat) (l:List Rat):∀ k,(Zk (-1) x l k≤x∧∀ j,j<k→Zk (-1) x l k≤l.getD j 0)∧(Zk (-1) x l k=x∨∃ j,j<k∧Zk (-1) x l k=l.getD j 0)
 | 0=>⟨⟨Rat.le_refl,fun j hj=>absurd hj (Nat.not_lt_zero j)⟩,.inl rfl⟩
 | k+1=>by
  have ih:=PN x l k
  simp only [Zk]
  by_cases h:QA (l.getD k 0) (Zk (-1) x l k) = -1
  ·rw [if_pos h]
   have h1:=(RP _ _).1 h
   exact ⟨⟨Rat.le_trans (Rat.le_of_lt h1) ih.1.1,fun j hj=>by
    by_cases e:j=k
    ·rw [e]; exact Rat.le_refl
    ·exact Rat.le_trans (Rat.le_of_lt h1) (ih.1.2 j (by omega))⟩,.inr ⟨k,by omega,rfl⟩⟩
  ·rw [if_neg h]
   have h1:Zk (-1) x l k≤l.getD k 0:=by rw [← Rat.not_lt]; exact fun hh=>h ((RP _ _).2 hh)
   refine ⟨⟨ih.1.1,fun j hj=>?_⟩,?_⟩
   ·by_cases e:j=k
    ·rw [e]; exact h1
    ·exact ih.1.2 j (by omega)
   ·rcases ih.2 with h2 | ⟨j,hj,h2⟩
    ·exact .inl h2
    ·exact .inr ⟨j,by omega,h2⟩
theorem PM (x:Rat) (l:List Rat):∀ k,(x≤Zk 1 x l k∧∀ j,j<k→l.getD j 0≤Zk 1 x l k)∧(Zk 1 x l k=x∨∃ j,j<k∧Zk 1 x l k=l.getD j 0)
 | 0=>⟨⟨Rat.le_refl,fun j hj=>absurd hj (Nat.not_lt_zero j)⟩,.inl rfl⟩
 | k+1=>by
  have ih:=PM x l k
  simp only [Zk]
  by_cases h:QA (l.getD k 0) (Zk 1 x l k)=1
  ·rw [if_pos h]
   have h1:=(G5 _ _).1 h
   exact ⟨⟨Rat.le_trans ih.1.1 (Rat.le_of_lt h1),fun j hj=>by
    by_cases e:j=k
    ·rw [e]; exact Rat.le_refl
    ·exact Rat.le_trans (ih.1.2 j (by omega)) (Rat.le_of_lt h1)⟩,.inr ⟨k,by omega,rfl⟩⟩
  ·rw [if_neg h]
   have h1:l.getD k 0≤Zk 1 x l k:=by rw [← Rat.not_lt]; exact fun hh=>h ((G5 _ _).2 hh)
   refine ⟨⟨ih.1.1,fun j hj=>?_⟩,?_⟩
   ·by_cases e:j=k
    ·rw [e]; exact h1
    ·exact ih.1.2 j (by omega)
   ·rcases ih.2 with h2 | ⟨j,hj,h2⟩
    ·exact .inl h2
    ·exact .inr ⟨j,by omega,h2⟩
theorem fm (l:List Rat) (h:0<l.length):(∀ j,j<l.length→Dx (-1) l≤l.getD j 0)∧∃ j,j<l.length∧Dx (-1) l=l.getD j 0:=by
 have hm:=PN (l.getD 0 0) (l.drop 1) (l.drop 1).length
 rw [show Zk (-1) (l.getD 0 0) (l.drop 1) (l.drop 1).length=Dx (-1) l from rfl,List.length_drop] at hm
 refine ⟨fun j hj=>?_,?_⟩
 ·cases j with
  | zero=>exact hm.1.1
  | succ j=>have:=hm.1.2 j (by omega); rwa [AC,Nat.add_comm] at this
 ·rcases hm.2 with h2 | ⟨j,hj,h2⟩
  ·exact ⟨0,h,h2⟩
  ·exact ⟨1+j,by omega,by rw [h2,AC]⟩
theorem fl (l:List Rat) (h:0<l.length):(∀ j,j<l.length→l.getD j 0≤Dx 1 l)∧∃ j,j<l.length∧Dx 1 l=l.getD j 0:=by
 have hm:=PM (l.getD 0 0) (l.drop 1) (l.drop 1).length
 rw [show Zk 1 (l.getD 0 0) (l.drop 1) (l.drop 1).length=Dx 1 l from rfl,List.length_drop] at hm
 refine ⟨fun j hj=>?_,?_⟩
 ·cases j with
  | zero=>exact hm.1.1
  | succ j=>have:=hm.1.2 j (by omega); rwa [AC,Nat.add_comm] at this
 ·rcases hm.2 with h2 | ⟨j,hj,h2⟩
  ·exact ⟨0,h,h2⟩
  ·exact ⟨1+j,by omega,by rw [h2,AC]⟩
def PF (n:V2) (A B:List V2) (i k:Nat):Rat:=Q7 n ((B.getD k v0).sub (A.getD i v0))
theorem pK (n:V2) (A B:List V2) (i k:Nat):PF n A B i k=Q7 n (B.getD k v0) - Q7 n (A.getD i v0):=by unfold PF Q7 V2.sub; grind
theorem G2 (n:V2) (L:List V2) (i:Nat) (h:i<L.length):(Qe n L).getD i 0=Q7 n (L.getD i v0):=by
 unfold Qe
 rw [List.getD_eq_getElem?_getD,List.getElem?_map,List.getD_eq_getElem?_getD,List.getElem?_eq_getElem h]; rfl
theorem fI (n:V2) (A B:List V2) (pa:0<A.length) (pb:0<B.length) (g:Rat) (h1:∃ i k,i<A.length∧k<B.length∧g=PF n A B i k) (h2:∀ i k,i<A.length→k<B.length→g≤PF n A B i k):g=F6 n A B:=by
 have lA:(Qe n A).length=A.length:=by simp [Qe]
 have lB:(Qe n B).length=B.length:=by simp [Qe]
 obtain ⟨u1,j,hj,u2⟩:=fm (Qe n B) (by omega)
 obtain ⟨w1,m,hm,w2⟩:=fl (Qe n A) (by omega)
 obtain ⟨i,k,hi,hk,e⟩:=h1
 rw [lA] at hm; rw [lB] at hj
 have a1:=u1 k (by omega)
 have a2:=w1 i (by omega)
 have a3:=h2 m j hm hj
 rw [G2 _ _ _ hk] at a1
 rw [G2 _ _ _ hi] at a2
 rw [G2 _ _ _ hj] at u2
 rw [G2 _ _ _ hm] at w2
 rw [pK] at e a3
 unfold F6
 apply Rat.le_antisymm <;> grind
theorem MQ (n:V2) (A B:List V2) (k:Nat) (ha:XZ A k) (hb:XZ B k) (i j:Nat):qb (PF n A B i j)≤2*(vb n+2*k+1)+1:=by
 have:=K7 (B.getD j v0) (A.getD i v0)
 have:=ha i; have:=hb j
 have:=A3 n ((B.getD j v0).sub (A.getD i v0))
 unfold PF; omega
theorem mH (n:V2) (A B:List V2) (c:Nat) (ha:XZ A c) (hb:XZ B c) (hk:c≤10000) (la:A.length<1000000) (lb:B.length<1000000) (pa:0<A.length) (pb:0<B.length) (hn:vb n≤10000):Fn Tryz.prog 283 [vA n,Xq A,Xq B] (qA (F6 n A B)):=by
 have hvc:∀ a:V2,∀ x∈vC a,Settled x:=fun a=>by simp [vC,X7,X3]
 have hqc:∀ r:Rat,∀ x∈qC r,Settled x:=fun r=>by simp [qC,X7,X3]
 have bn:XK 3 (.con 0 8 (Xp (vC n)))=True:=eq_true (fun j _=>X6 (Xe (hvc n) j))
 have bq:∀ r,XK 3 (.row 0 4 (Xp (qC r)))=True:=fun r=>eq_true (XE (hqc r))
 have bz:XK 3 (.row 0 4 (Xp AY))=True:=eq_true (by simp [AY,Xy])
 have bA:JM 3 (Xq A)=True:=eq_true (X6 (Xd A))
 have bB:JM 3 (Xq B)=True:=eq_true (X6 (Xd B))
 have step:∀ i k,i<A.length→k<B.length→Fn Tryz.prog 104 [vA (B.getD k v0),vA (A.getD i v0)] (vA ((B.getD k v0).sub (A.getD i v0)))∧Fn Tryz.prog 193 [vA n,vA ((B.getD k v0).sub (A.getD i v0))] (qA (PF n A B i k)):=fun i k hi hk'=>by
  have:=ha i; have:=hb k
  have m:=K7 (B.getD k v0) (A.getD i v0)
  exact ⟨JJ _ _ (by unfold rm; omega) (by unfold rm; omega),KO _ _ (by unfold vm; omega) (by unfold vm; omega)⟩
 obtain ⟨d1,d2⟩:=step 0 0 pa pb
 have v1:=vF A 0
 have v2:=vF B 0
 simp only [Nat.zero_mul,Nat.zero_add] at v1 v2
 have f1:(0<A.length)=True:=eq_true pa
 have f2:(0<B.length)=True:=eq_true pb
 have f3:((0:Int)<A.length)=True:=eq_true (by omega)
 have f4:((0:Int)<B.length)=True:=eq_true (by omega)
 have f5:(8≤A.length*8)=True:=eq_true (by omega)
 have f6:(8≤B.length*8)=True:=eq_true (by omega)
 obtain ⟨R,hR⟩:∃ R,R=qA (F6 n A B):=⟨_,rfl⟩
 have sR:Settled R:=hR▸Xc _
 rw [← hR]
 refine Fq Tryz.call283 Tryz.func283 11 [] [1,20000003,8,90000003] [] (by simp [Xn,Xd]) (X0 1000 ?_)
 simp only [AS.start,X5,f1,f2,f3,f4,f5,f6,v1,v2,Int.toNat_zero,Int.reduceLE,↓X2,wA,seval,wE]
 refine X1 d1 rfl ?_
 simp only [↓X2,wA,seval,wE]
 refine X1 d2 rfl ?_
 simp only [↓X2,wA,seval,wE]
 refine Xg (fun p:Nat×Rat=>⟨11,[],[.any,Xq A,Xq B,.ref 0 0 0,.any,.any,.ref 1 0 0,.ref 2 0 0,I p.1,.any,.any],[],[.con 0 8 (Xp (vC n)),.row 0 4 (Xp AY),.row 0 4 (Xp (qC p.2))]⟩) (fun p=>p.1≤A.length∧(∃ i k,i<A.length∧k<B.length∧p.2=PF n A B i k)∧∀ i k,i<p.1→k<B.length→p.2≤PF n A B i k) (fun p=>A.length - p.1) (0,PF n A B 0 0) ⟨by omega,⟨0,0,pa,pb,rfl⟩,fun i k hi=>absurd hi (Nat.not_lt_zero i)⟩
  (Xa rfl (by simp [Xh,X5,I]) (by simp [Xi]) (by simp [vC,qC,AY,X4])) ?_
 rintro ⟨i,g⟩ ⟨hi,hat,hle⟩ next
 simp only at hi hat hle
 have w1:=wj i (by omega)
 by_cases hi2:i<A.length
 rotate_left
 ·obtain rfl:i=A.length:=by omega
  rw [← fI n A B pa pb g hat (fun i k h1 h2=>hle i k h1 h2)] at hR
  refine X0 1000 ?_
  simp only [X5,AY,Int.lt_irrefl,Nat.lt_irrefl,↓X2,wA,seval,wE]
  exact JC rfl Qd rfl rfl rfl sR (hR.trans rfl)
 have g1:((i:Int)<A.length)=True:=eq_true (by omega)
 have g2:(i<A.length)=True:=eq_true hi2
 have g3:(i*8+8≤A.length*8)=True:=eq_true (by omega)
 refine X0 1000 ?_
 simp only [X5,w1,g1,g2,↓X2,wA,seval,wE]
 refine Xg (fun p:Nat×Rat=>⟨11,[],[.any,Xq A,Xq B,.ref 0 0 0,.any,.any,.ref 1 0 0,.ref 2 0 0,I i,I p.1,.any],[],[.con 0 8 (Xp (vC n)),.row 0 4 (Xp AY),.row 0 4 (Xp (qC p.2))]⟩) (fun p=>p.1≤B.length∧(∃ i k,i<A.length∧k<B.length∧p.2=PF n A B i k)∧(∀ i' k,i'<i→k<B.length→p.2≤PF n A B i' k)∧∀ k,k<p.1→p.2≤PF n A B i k) (fun p=>B.length - p.1) (0,g) ⟨by omega,hat,hle,fun k hk=>absurd hk (Nat.not_lt_zero k)⟩
  (Xa rfl (by simp [Xh,X5,I]) (by simp [Xi]) (by simp [vC,qC,X4])) ?_
 rintro ⟨k,q⟩ ⟨hk1,qat,qle,qrow⟩ nextk
 simp only at hk1 qat qle qrow
 have u1:=wj k (by omega)
 by_cases hk2:k<B.length
 rotate_left
 ·obtain rfl:k=B.length:=by omega
  refine X0 1000 ?_
  simp only [X5,w1,Int.lt_irrefl,Nat.lt_irrefl,↓X2,wA,seval,wE]
  refine next (i+1,q) _ ⟨by simp only; omega,qat,fun i' k' h1 h2=>?_⟩ (by simp only; omega) (Xa rfl (by simp [Xh,X5,I]) (by simp [Xi]) (by simp [vC,qC,X4]))
  by_cases e:i'=i
  ·rw [e]; exact qrow k' h2
  ·exact qle i' k' (by simp only at h1; omega) h2
 have h1:((k:Int)<B.length)=True:=eq_true (by omega)
 have h2:(k<B.length)=True:=eq_true hk2
 have h3:(k*8+8≤B.length*8)=True:=eq_true (by omega)
 have x1:=vF A i
 have x2:=vF B k
 obtain ⟨s1,s2⟩:=step i k hi2 hk2
 have hd:=MQ n A B c ha hb i k
 have hq:qb q≤2*(vb n+2*c+1)+1:=by
  obtain ⟨a,b,_,_,e⟩:=qat
  rw [e]; exact MQ n A B c ha hb a b
 have s3:=J5 (PF n A B i k) q (by unfold rm; omega) (by unfold rm; omega)
 have hnew:(∃ i k,i<A.length∧k<B.length∧PF n A B i k=PF n A B i k):=⟨i,k,hi2,hk2,rfl⟩
 obtain ⟨D,hD⟩:∃ D,D=PF n A B i k:=⟨_,rfl⟩
 rw [← hD] at s2 s3
 refine X0 1000 ?_
 simp only [X5,w1,u1,g1,g2,g3,h1,h2,h3,x1,x2,Int.toNat_natCast,↓X2,wA,seval,wE]
 refine X1 s1 rfl ?_
 simp only [X5,w1,u1,g1,g2,g3,h1,h2,h3,x1,x2,Int.toNat_natCast,↓X2,wA,seval,wE]
 refine X1 s2 rfl ?_
 simp only [X5,w1,u1,g1,g2,g3,h1,h2,h3,x1,x2,Int.toNat_natCast,↓X2,wA,seval,wE]
 refine X1 s3 rfl ?_
 by_cases hc:D<q
 ·have f:(QA D q<0)=True:=eq_true ((K9 _ _).2 hc)
  simp only [f,u1,↓X2,wA,seval,wE]
  refine nextk (k+1,D) _ ⟨by simp only; omega,⟨i,k,hi2,hk2,hD⟩,fun i' k' a b=>Rat.le_trans (Rat.le_of_lt hc) (qle i' k' a b),fun k' a=>?_⟩ (by simp only; omega) (Xv (m:=3) (Nat.zero_le _) rfl (by simp [X5,Xh,I]) (by simp [Xi]) (by simp [vC,qC,X4]) (by simp [Xy,bA,bB]) (by simp [Xy]) (by simp [bn,bq,bz]))
  by_cases e:k'=k
  ·rw [e,← hD]; exact Rat.le_refl
  ·exact Rat.le_trans (Rat.le_of_lt hc) (qrow k' (by simp only at a; omega))
 ·have f:(QA D q<0)=False:=eq_false fun hh=>hc ((K9 _ _).1 hh)
  simp only [f,u1,↓X2,wA,seval,wE]
  refine nextk (k+1,q) _ ⟨by simp only; omega,qat,qle,fun k' a=>?_⟩ (by simp only; omega) (Xv (m:=3) (Nat.zero_le _) rfl (by simp [X5,Xh,I]) (by simp [Xi]) (by simp [vC,qC,X4]) (by simp [Xy,bA,bB]) (by simp [Xy]) (by simp [bn,bq,bz]))
  by_cases e:k'=k
  ·rw [e,← hD]; exact Rat.not_lt.1 hc
  ·exact qrow k' (by simp only at a; omega)
theorem Mt (n:V2) (A B:List V2) (e:Rat) (k:Nat) (ha:XZ A k) (hb:XZ B k) (hk:k≤10000) (la:A.length<1000000) (lb:B.length<1000000) (pa:0<A.length) (pb:0<B.length) (hn:vb n≤10000) (he:qb e≤10000):Fn Tryz.prog 266 [vA n,Xq A,Xq B,qA e] (.bool (decide (Gd n A B e))):=by
 have c1:=mH n A B k ha hb hk la lb pa pb hn
 have c2:=io n e (by omega) (by omega)
 have q1:=MZ n A B k ha hb
 have q2:=I7 n
 have q3:=Qy e (Z5 n)
 have c3:=J5 (F6 n A B) (e*Z5 n) (by unfold rm; omega) (by unfold rm; omega)
 have hd:decide (Gd n A B e)=decide (0≤QA (F6 n A B) (e*Z5 n)):=decide_eq_decide.2 (Ov _ _).symm
 rw [hd]
 refine Fq Tryz.call266 Tryz.func266 9 [] [] [] (by simp [Xn,Xd,Xc]) (X0 1000 ?_)
 simp only [AS.start,X5,↓X2,wA,seval,wE]
 refine X1 c1 rfl ?_
 simp only [↓X2,wA,seval,wE]
 refine X1 c2 rfl ?_
 simp only [↓X2,wA,seval,wE]
 refine X1 c3 rfl ?_
 simp only [↓X2,wA,seval,wE]
 exact Xu rfl rfl (X3 _) rfl
def dA (A:List V2) (i:Nat):V2:=RA (A.getD i v0) (A.getD ((i+1) % A.length) v0)
def dB (B:List V2) (i:Nat):V2:=RA (B.getD ((i+1) % B.length) v0) (B.getD i v0)
def H6 (A:List V2) (i:Nat):List V2:=(List.range i).map (dA A)
def M5 (B:List V2) (i:Nat):List V2:=(List.range i).map (dB B)
def ZF (A B:List V2):List V2:=(H6 A A.length ++ M5 B B.length) ++ [Jz (1,0),Jz (0,1),Jz (-1,0),Jz (0,-1)]
theorem Py (A:List V2) (i:Nat):H6 A (i+1)=H6 A i ++ [dA A i]:=by unfold H6; rw [List.range_succ,List.map_append]; rfl
theorem PC (B:List V2) (i:Nat):M5 B (i+1)=M5 B i ++ [dB B i]:=by unfold M5; rw [List.range_succ,List.map_append]; rfl
theorem BQ (A:List V2) (i:Nat):(H6 A i).length=i:=by simp [H6]
theorem Eb (B:List V2) (i:Nat):(M5 B i).length=i:=by simp [M5]
theorem mf (p q:V2):KI (RA p q)=RA q p:=by
 unfold KI RA V2.sub
 rw [V2.ext']
 exact ⟨by simp only; grind,by simp only; grind⟩
theorem rF (L:List V2) (a b c d:V2) (j:Nat) (hj:j<(L.length+4)*8):QN (L.length*8) (Xs vC 8 v0 L) 32 (Xp (vC a ++ (vC b ++ (vC c ++ vC d)))) j=Xs vC 8 v0 (L ++ [a,b,c,d]) j:=by
 unfold QN
 by_cases h:j<L.length*8
 ·rw [if_pos h]
  unfold Xs
  have:j / 8<L.length:=by omega
  have e:(L ++ [a,b,c,d]).getD (j / 8) v0=L.getD (j / 8) v0:=by rw [List.getD_eq_getElem?_getD,List.getD_eq_getElem?_getD,List.getElem?_append_left this]
  rw [e]
 ·rw [if_neg h,if_pos (by omega)]
  obtain ⟨i,rfl⟩:∃ i,j=L.length*8+i:=⟨j - L.length*8,by omega⟩
  have hi:i<32:=by omega
  have e1:L.length*8+i - L.length*8=i:=by omega
  have e2:(L.length*8+i) / 8=L.length+i / 8:=by omega
  have e3:(L.length*8+i) % 8=i % 8:=by omega
  unfold Xs
  rw [e1,e2,e3]
  have e4:(L ++ [a,b,c,d]).getD (L.length+i / 8) v0=[a,b,c,d].getD (i / 8) v0:=by
   rw [List.getD_eq_getElem?_getD,List.getD_eq_getElem?_getD,List.getElem?_append_right (by omega)]
   rw [show L.length+i / 8 - L.length=i / 8 by omega]
  rw [e4]
  clear e1 e2 e3 e4 hj h
  match i,hi with
  | 0,_=>rfl
  | 1,_=>rfl
  | 2,_=>rfl
  | 3,_=>rfl
  | 4,_=>rfl
  | 5,_=>rfl
  | 6,_=>rfl
  | 7,_=>rfl
  | 8,_=>rfl
  | 9,_=>rfl
  | 10,_=>rfl
  | 11,_=>rfl
  | 12,_=>rfl
  | 13,_=>rfl
  | 14,_=>rfl
  | 15,_=>rfl
  | 16,_=>rfl
  | 17,_=>rfl
  | 18,_=>rfl
  | 19,_=>rfl
  | 20,_=>rfl
  | 21,_=>rfl
  | 22,_=>rfl
  | 23,_=>rfl
  | 24,_=>rfl
  | 25,_=>rfl
  | 26,_=>rfl
  | 27,_=>rfl
  | 28,_=>rfl
  | 29,_=>rfl
  | 30,_=>rfl
  | 31,_=>rfl
  | i+32,h=>omega
theorem IK (A B:List V2) (k:Nat) (ha:XZ A k) (hb:XZ B k) (hk:1≤k):∀ x∈ZF A B,vb x≤2*k+3:=by
 intro x hx
 have p4:∀ c:Int×Int,-1≤c.1∧c.1≤1→-1≤c.2∧c.2≤1→vb (Jz c)≤3:=fun c h1 h2=>by
  have q1:=Ap c.1 3 (by omega) (QO ⟨by omega,by omega⟩)
  have q2:=Ap c.2 3 (by omega) (QO ⟨by omega,by omega⟩)
  unfold vb Jz; simp only; omega
 unfold ZF at hx
 rcases List.mem_append.1 hx with h | h
 ·rcases List.mem_append.1 h with h | h
  ·obtain ⟨i,_,rfl⟩:=List.mem_map.1 h
   have:=UN (A.getD i v0) (A.getD ((i+1) % A.length) v0)
   have:=ha i; have:=ha ((i+1) % A.length)
   unfold dA; omega
  ·obtain ⟨i,_,rfl⟩:=List.mem_map.1 h
   have:=UN (B.getD ((i+1) % B.length) v0) (B.getD i v0)
   have:=hb i; have:=hb ((i+1) % B.length)
   unfold dB; omega
 ·simp only [List.mem_cons,List.not_mem_nil,or_false] at h
  rcases h with rfl | rfl | rfl | rfl
  ·exact Nat.le_trans (p4 _ (by decide) (by decide)) (by omega)
  ·exact Nat.le_trans (p4 _ (by decide) (by decide)) (by omega)
  ·exact Nat.le_trans (p4 _ (by decide) (by decide)) (by omega)
  ·exact Nat.le_trans (p4 _ (by decide) (by decide)) (by omega)
theorem sK (a b c d:V2):∀ j,j<32→((vC a ++ (vC b ++ (vC c ++ vC d))).getD j .any).one=true:=fun j hj=>by
 match j,hj with
 | 0,_=>rfl
 | 1,_=>rfl
 | 2,_=>rfl
 | 3,_=>rfl
 | 4,_=>rfl
 | 5,_=>rfl
 | 6,_=>rfl
 | 7,_=>rfl
 | 8,_=>rfl
 | 9,_=>rfl
 | 10,_=>rfl
 | 11,_=>rfl
 | 12,_=>rfl
 | 13,_=>rfl
 | 14,_=>rfl
 | 15,_=>rfl
 | 16,_=>rfl
 | 17,_=>rfl
 | 18,_=>rfl
 | 19,_=>rfl
 | 20,_=>rfl
 | 21,_=>rfl
 | 22,_=>rfl
 | 23,_=>rfl
 | 24,_=>rfl
 | 25,_=>rfl
 | 26,_=>rfl
 | 27,_=>rfl
 | 28,_=>rfl
 | 29,_=>rfl
 | 30,_=>rfl
 | 31,_=>rfl
 | j+32,h=>omega
theorem de (A B:List V2) (c:Nat) (ha:XZ A c) (hb:XZ B c) (hc:c≤10000) (la:A.length<100000) (lb:B.length<100000):Fn Tryz.prog 261 [Xq A,Xq B] (Xq (ZF A B)):=by
 have hvc:∀ a:V2,∀ x∈vC a,Settled x:=fun a=>by simp [vC,X7,X3]
 have bA:JM 1 (Xq A)=True:=eq_true (X6 (Xd A))
 have bB:JM 1 (Xq B)=True:=eq_true (X6 (Xd B))
 have br:∀ i l n,XK 1 (.row i n (Xs vC 8 v0 l))=True:=fun i l n=>eq_true fun j _=>X6 (Xe (hvc _) _)
 obtain ⟨R,hR⟩:∃ R,R=Xq (ZF A B):=⟨_,rfl⟩
 rw [← hR]
 refine Fq Tryz.call261 Tryz.func261 10 [10,11,12,31,32,33] [5,60000007,10,110000009] [] (by simp [Xd]) (X0 1000 ?_)
 simp only [AS.start,X5,↓X2,wA,seval,wE]
 refine Xg (fun i:Nat=>⟨10,[10,11,12,31,32,33],[Xq A,Xq B,.any,.any,.any,.osl 0 i 8 0 i,.any,.any,.any,.any],[(10,Xq A),(11,I A.length),(12,I i)],[.row i (i*8) (Xs vC 8 v0 (H6 A i))]⟩) (fun i=>i≤A.length) (fun i=>A.length - i) 0 (by omega)
  (Sub.trans (Q4 5 8 (Xs vC 8 v0 []) rfl) (Xa rfl (by simp [AS.put,Xh,X5,I]) (by simp [AS.put,Xi,Xw,X5,I]) (by simp [AS.put,H6]))) ?_
 intro i hi next
 have w1:=wj i (by omega)
 by_cases hi2:i<A.length
 ·have nx:=next (i+1)
  have f1:((i:Int)<A.length)=True:=eq_true (by omega)
  have f2:(i<A.length)=True:=eq_true hi2
  have f3:(i*8+8≤A.length*8)=True:=eq_true (by omega)
  have hm:((i+1:Nat):Int).tmod A.length=(((i+1) % A.length:Nat):Int):=rfl
  have hml:(i+1) % A.length<A.length:=Nat.mod_lt _ (by omega)
  have f4:((i+1) % A.length<A.length)=True:=eq_true hml
  have f5:((i+1) % A.length*8+8≤A.length*8)=True:=eq_true (by omega)
  have f6:((A.length:Int)=0)=False:=eq_false (by omega)
  have f6':(A.length=0)=False:=eq_false (by omega)
  have v1:=vF A i
  have v2:=vF A ((i+1) % A.length)
  have s1:=ha i; have s2:=ha ((i+1) % A.length)
  have hap:=XO vC 8 v0 (H6 A i) (dA A i) (by omega)
  rw [BQ,← Py] at hap
  have c1:=Is (A.getD i v0) (A.getD ((i+1) % A.length) v0) (by omega) (by omega)
  rw [show RA (A.getD i v0) (A.getD ((i+1) % A.length) v0)=dA A i from rfl] at c1
  refine X0 1000 ?_
  simp only [X5,w1,f1,f2,f3,f4,f5,f6,f6',hm,v1,v2,Int.toNat_natCast,↓X2,wA,seval,wE]
  refine X1 c1 rfl ?_
  simp only [w1,↓X2,wA,seval,wE]
  exact ⟨⟨KX _,by omega,by omega⟩,nx _ (by omega) (by omega) (Xv (m:=1) (Nat.zero_le _) rfl (by simp [Xh,X5,I]) (by simp [Xi,Xw,X5,I]) (by rw [← hap]; rfl) (by simp [Xy,bA,bB]) (by simp [Xy,bA,bB]) (by simp [br]))⟩
 obtain rfl:i=A.length:=by omega
 refine X0 1000 ?_
 simp only [X5,Int.lt_irrefl,Nat.lt_irrefl,↓X2,wA,seval,wE]
 refine Xg (fun i:Nat=>⟨10,[10,11,12,31,32,33],[Xq A,Xq B,.any,.any,.any,.osl 0 (A.length+i) 8 0 (A.length+i),.any,.any,.any,.any],[(31,Xq B),(32,I B.length),(33,I i)],[.row (A.length+i) ((A.length+i)*8) (Xs vC 8 v0 (H6 A A.length ++ M5 B i))]⟩) (fun i=>i≤B.length) (fun i=>B.length - i) 0 (by omega)
  (Xa rfl (by simp [Xh,X5,I]) (by simp [Xi,Xw,X5,I]) (by simp [M5])) ?_
 intro i hi next
 have w1:=wj i (by omega)
 by_cases hi2:i<B.length
 ·have nx:=next (i+1)
  have f1:((i:Int)<B.length)=True:=eq_true (by omega)
  have f2:(i<B.length)=True:=eq_true hi2
  have f3:(i*8+8≤B.length*8)=True:=eq_true (by omega)
  have hm:((i+1:Nat):Int).tmod B.length=(((i+1) % B.length:Nat):Int):=rfl
  have hml:(i+1) % B.length<B.length:=Nat.mod_lt _ (by omega)
  have f4:((i+1) % B.length<B.length)=True:=eq_true hml
  have f5:((i+1) % B.length*8+8≤B.length*8)=True:=eq_true (by omega)
  have f6:((B.length:Int)=0)=False:=eq_false (by omega)
  have f6':(B.length=0)=False:=eq_false (by omega)
  have v1:=vF B i
  have v2:=vF B ((i+1) % B.length)
  have s1:=hb i; have s2:=hb ((i+1) % B.length)
  have hap:=XO vC 8 v0 (H6 A A.length ++ M5 B i) (dB B i) (by omega)
  rw [List.append_assoc,← PC,List.length_append,BQ,Eb] at hap
  have ea:A.length+(i+1)=A.length+i+1:=by omega
  simp only [ea] at nx
  have c1:=Is (B.getD ((i+1) % B.length) v0) (B.getD i v0) (by omega) (by omega)
  rw [show RA (B.getD ((i+1) % B.length) v0) (B.getD i v0)=dB B i from rfl] at c1
  refine X0 1000 ?_
  simp only [X5,w1,f1,f2,f3,f4,f5,f6,f6',hm,v1,v2,Int.toNat_natCast,↓X2,wA,seval,wE]
  refine X1 c1 rfl ?_
  simp only [w1,↓X2,wA,seval,wE]
  exact ⟨⟨KX _,by omega,by omega⟩,nx _ (by omega) (by omega) (Xv (m:=1) (Nat.zero_le _) rfl (by simp [Xh,X5,I]) (by simp [Xi,Xw,X5,I]) (by rw [← hap]; rfl) (by simp [Xy,bA,bB]) (by simp [Xy,bA,bB]) (by simp [br]))⟩
 obtain rfl:i=B.length:=by omega
 have hl:(H6 A A.length ++ M5 B B.length).length=A.length+B.length:=by rw [List.length_append,BQ,Eb]
 have h4:=rF (H6 A A.length ++ M5 B B.length) (Jz (1,0)) (Jz (0,1)) (Jz (-1,0)) (Jz (0,-1))
 rw [hl] at h4
 have c1:=GN 1 0 ⟨by omega,by omega⟩ ⟨by omega,by omega⟩
 have c2:=GN 0 1 ⟨by omega,by omega⟩ ⟨by omega,by omega⟩
 have c3:=GN (-1) 0 ⟨by omega,by omega⟩ ⟨by omega,by omega⟩
 have c4:=GN 0 (-1) ⟨by omega,by omega⟩ ⟨by omega,by omega⟩
 have hlen:(ZF A B).length=A.length+B.length+4:=by unfold ZF; rw [List.length_append,hl]; rfl
 rw [show (⟨((1:Int):Rat),((0:Int):Rat)⟩:V2)=Jz (1,0) from rfl] at c1
 rw [show (⟨((0:Int):Rat),((1:Int):Rat)⟩:V2)=Jz (0,1) from rfl] at c2
 rw [show (⟨((-1:Int):Rat),((0:Int):Rat)⟩:V2)=Jz (-1,0) from rfl] at c3
 rw [show (⟨((0:Int):Rat),((-1:Int):Rat)⟩:V2)=Jz (0,-1) from rfl] at c4
 have hD:ZF A B=(H6 A A.length ++ M5 B B.length) ++ [Jz (1,0),Jz (0,1),Jz (-1,0),Jz (0,-1)]:=rfl
 generalize Jz (1,0)=E1 at *
 generalize Jz (0,1)=E2 at *
 generalize Jz (-1,0)=E3 at *
 generalize Jz (0,-1)=E4 at *
 refine X0 1000 ?_
 simp only [X5,Int.lt_irrefl,Nat.lt_irrefl,↓X2,wA,seval,wE]
 refine X1 c1 rfl ?_
 simp only [↓X2,wA,seval,wE]
 refine X1 c2 rfl ?_
 simp only [↓X2,wA,seval,wE]
 refine X1 c3 rfl ?_
 simp only [↓X2,wA,seval,wE]
 refine X1 c4 rfl ?_
 simp only [↓X2,wA,seval,wE]
 refine ⟨⟨sK E1 E2 E3 E4,by omega,by omega⟩,?_⟩
 rw [hR]
 refine Ba rfl ?_
 rw [X5,hlen]
 refine Qw (n:=A.length+B.length+4) (.inl rfl) (by omega) (fun h=>by omega) fun j hj=>?_
 rw [Nat.zero_add,hD,← h4 j hj]
 have:=Xe (hvc ((H6 A A.length ++ M5 B B.length ++ [E1,E2,E3,E4]).getD (j / 8) v0)) (j % 8)
 have e:Settled (Xs vC 8 v0 (H6 A A.length ++ M5 B B.length ++ [E1,E2,E3,E4]) j):=this
 rw [← h4 j hj] at e
 exact e.sees _
theorem ic (A B:List V2) (c:Nat) (ha:XZ A c) (hb:XZ B c) (hc:c≤10000) (la:A.length<100000) (lb:B.length<100000):Fn Tryz.prog 265 [Xq A,Xq B] (Xq (ZF A B)):=by
 have hvc:∀ a:V2,∀ x∈vC a,Settled x:=fun a=>by simp [vC,X7,X3]
 have bA:JM 1 (Xq A)=True:=eq_true (X6 (Xd A))
 have bB:JM 1 (Xq B)=True:=eq_true (X6 (Xd B))
 have br:∀ i l n,XK 1 (.row i n (Xs vC 8 v0 l))=True:=fun i l n=>eq_true fun j _=>X6 (Xe (hvc _) _)
 obtain ⟨R,hR⟩:∃ R,R=Xq (ZF A B):=⟨_,rfl⟩
 rw [← hR]
 refine Fq Tryz.call265 Tryz.func265 8 [] [5,9] [] (by simp [Xd]) (X0 1000 ?_)
 simp only [AS.start,X5,↓X2,wA,seval,wE]
 refine Xg (fun i:Nat=>⟨8,[],[Xq A,Xq B,.any,.any,.any,.osl 0 i 8 0 i,I i,.any],[],[.row i (i*8) (Xs vC 8 v0 (H6 A i))]⟩) (fun i=>i≤A.length) (fun i=>A.length - i) 0 (by omega)
  (Sub.trans (Q4 5 8 (Xs vC 8 v0 []) rfl) (Xa rfl (by simp [AS.put,Xh,X5,I]) (by simp [AS.put,Xi]) (by simp [AS.put,H6]))) ?_
 intro i hi next
 have w1:=wj i (by omega)
 by_cases hi2:i<A.length
 ·have nx:=next (i+1)
  have f1:((i:Int)<A.length)=True:=eq_true (by omega)
  have f2:(i<A.length)=True:=eq_true hi2
  have f3:(i*8+8≤A.length*8)=True:=eq_true (by omega)
  have hm:((i+1:Nat):Int).tmod A.length=(((i+1) % A.length:Nat):Int):=rfl
  have hml:(i+1) % A.length<A.length:=Nat.mod_lt _ (by omega)
  have f4:((i+1) % A.length<A.length)=True:=eq_true hml
  have f5:((i+1) % A.length*8+8≤A.length*8)=True:=eq_true (by omega)
  have f6:((A.length:Int)=0)=False:=eq_false (by omega)
  have f6':(A.length=0)=False:=eq_false (by omega)
  have v1:=vF A i
  have v2:=vF A ((i+1) % A.length)
  have s1:=ha i; have s2:=ha ((i+1) % A.length)
  have hap:=XO vC 8 v0 (H6 A i) (dA A i) (by omega)
  rw [BQ,← Py] at hap
  have c0:=Oh A i (by omega) hi2
  have c1:=LA (A.getD i v0) (A.getD ((i+1) % A.length) v0) (by omega) (by omega)
  rw [show RA (A.getD i v0) (A.getD ((i+1) % A.length) v0)=dA A i from rfl] at c1
  refine X0 1000 ?_
  simp only [X5,w1,f1,f2,f3,f4,f5,f6,f6',hm,v1,v2,Int.toNat_natCast,↓X2,wA,seval,wE]
  refine X1 c0 rfl ?_
  simp only [X5,w1,f1,f2,f3,f4,f5,f6,f6',hm,v1,v2,Int.toNat_natCast,↓X2,wA,seval,wE]
  refine X1 c1 rfl ?_
  simp only [w1,↓X2,wA,seval,wE]
  exact ⟨⟨KX _,by omega,by omega⟩,nx _ (by omega) (by omega) (Xv (m:=1) (Nat.zero_le _) rfl (by simp [Xh,X5,I]) (by simp [Xi]) (by rw [← hap]; rfl) (by simp [Xy,bA,bB]) (by simp [Xy,bA,bB]) (by simp [br]))⟩
 obtain rfl:i=A.length:=by omega
 refine X0 1000 ?_
 simp only [X5,Int.lt_irrefl,Nat.lt_irrefl,↓X2,wA,seval,wE]
 refine Xg (fun i:Nat=>⟨8,[],[Xq A,Xq B,.any,.any,.any,.osl 0 (A.length+i) 8 0 (A.length+i),.any,I i],[],[.row (A.length+i) ((A.length+i)*8) (Xs vC 8 v0 (H6 A A.length ++ M5 B i))]⟩) (fun i=>i≤B.length) (fun i=>B.length - i) 0 (by omega)
  (Xa rfl (by simp [Xh,X5,I]) (by simp [Xi]) (by simp [M5])) ?_
 intro i hi next
 have w1:=wj i (by omega)
 by_cases hi2:i<B.length
 ·have nx:=next (i+1)
  have f1:((i:Int)<B.length)=True:=eq_true (by omega)
  have f2:(i<B.length)=True:=eq_true hi2
  have f3:(i*8+8≤B.length*8)=True:=eq_true (by omega)
  have hm:((i+1:Nat):Int).tmod B.length=(((i+1) % B.length:Nat):Int):=rfl
  have hml:(i+1) % B.length<B.length:=Nat.mod_lt _ (by omega)
  have f4:((i+1) % B.length<B.length)=True:=eq_true hml
  have f5:((i+1) % B.length*8+8≤B.length*8)=True:=eq_true (by omega)
  have f6:((B.length:Int)=0)=False:=eq_false (by omega)
  have f6':(B.length=0)=False:=eq_false (by omega)
  have v1:=vF B i
  have v2:=vF B ((i+1) % B.length)
  have s1:=hb i; have s2:=hb ((i+1) % B.length)
  have hap:=XO vC 8 v0 (H6 A A.length ++ M5 B i) (dB B i) (by omega)
  rw [List.append_assoc,← PC,List.length_append,BQ,Eb] at hap
  have ea:A.length+(i+1)=A.length+i+1:=by omega
  simp only [ea] at nx
  have c0:=Oh B i (by omega) hi2
  have c1:=LA (B.getD i v0) (B.getD ((i+1) % B.length) v0) (by omega) (by omega)
  have vn:=UN (B.getD i v0) (B.getD ((i+1) % B.length) v0)
  have c2:=OD (RA (B.getD i v0) (B.getD ((i+1) % B.length) v0)) (by unfold vm; omega)
  rw [mf,show RA (B.getD ((i+1) % B.length) v0) (B.getD i v0)=dB B i from rfl] at c2
  refine X0 1000 ?_
  simp only [X5,w1,f1,f2,f3,f4,f5,f6,f6',hm,v1,v2,Int.toNat_natCast,↓X2,wA,seval,wE]
  refine X1 c0 rfl ?_
  simp only [X5,w1,f1,f2,f3,f4,f5,f6,f6',hm,v1,v2,Int.toNat_natCast,↓X2,wA,seval,wE]
  refine X1 c1 rfl ?_
  simp only [X5,w1,f1,f2,f3,f4,f5,f6,f6',hm,v1,v2,Int.toNat_natCast,↓X2,wA,seval,wE]
  refine X1 c2 rfl ?_
  simp only [w1,↓X2,wA,seval,wE]
  exact ⟨⟨KX _,by omega,by omega⟩,nx _ (by omega) (by omega) (Xv (m:=1) (Nat.zero_le _) rfl (by simp [Xh,X5,I]) (by simp [Xi]) (by rw [← hap]; rfl) (by simp [Xy,bA,bB]) (by simp [Xy,bA,bB]) (by simp [br]))⟩
 obtain rfl:i=B.length:=by omega
 have hl:(H6 A A.length ++ M5 B B.length).length=A.length+B.length:=by rw [List.length_append,BQ,Eb]
 have h4:=rF (H6 A A.length ++ M5 B B.length) (Jz (1,0)) (Jz (0,1)) (Jz (-1,0)) (Jz (0,-1))
 rw [hl] at h4
 have c1:=ZL 1 0 ⟨by omega,by omega⟩ ⟨by omega,by omega⟩
 have c2:=ZL 0 1 ⟨by omega,by omega⟩ ⟨by omega,by omega⟩
 have c3:=ZL (-1) 0 ⟨by omega,by omega⟩ ⟨by omega,by omega⟩
 have c4:=ZL 0 (-1) ⟨by omega,by omega⟩ ⟨by omega,by omega⟩
 have hlen:(ZF A B).length=A.length+B.length+4:=by unfold ZF; rw [List.length_append,hl]; rfl
 rw [show (⟨((1:Int):Rat),((0:Int):Rat)⟩:V2)=Jz (1,0) from rfl] at c1
 rw [show (⟨((0:Int):Rat),((1:Int):Rat)⟩:V2)=Jz (0,1) from rfl] at c2
 rw [show (⟨((-1:Int):Rat),((0:Int):Rat)⟩:V2)=Jz (-1,0) from rfl] at c3
 rw [show (⟨((0:Int):Rat),((-1:Int):Rat)⟩:V2)=Jz (0,-1) from rfl] at c4
 have hD:ZF A B=(H6 A A.length ++ M5 B B.length) ++ [Jz (1,0),Jz (0,1),Jz (-1,0),Jz (0,-1)]:=rfl
 generalize Jz (1,0)=E1 at *
 generalize Jz (0,1)=E2 at *
 generalize Jz (-1,0)=E3 at *
 generalize Jz (0,-1)=E4 at *
 refine X0 1000 ?_
 simp only [X5,Int.lt_irrefl,Nat.lt_irrefl,↓X2,wA,seval,wE]
 refine X1 c1 rfl ?_
 simp only [↓X2,wA,seval,wE]
 refine X1 c2 rfl ?_
 simp only [↓X2,wA,seval,wE]
 refine X1 c3 rfl ?_
 simp only [↓X2,wA,seval,wE]
 refine X1 c4 rfl ?_
 simp only [↓X2,wA,seval,wE]
 refine ⟨⟨sK E1 E2 E3 E4,by omega,by omega⟩,?_⟩
 rw [hR]
 refine Ba rfl ?_
 rw [X5,hlen]
 refine Qw (n:=A.length+B.length+4) (.inl rfl) (by omega) (fun h=>by omega) fun j hj=>?_
 rw [Nat.zero_add,hD,← h4 j hj]
 have:=Xe (hvc ((H6 A A.length ++ M5 B B.length ++ [E1,E2,E3,E4]).getD (j / 8) v0)) (j % 8)
 have e:Settled (Xs vC 8 v0 (H6 A A.length ++ M5 B B.length ++ [E1,E2,E3,E4]) j):=this
 rw [← h4 j hj] at e
 exact e.sees _
def FE (p:V2→Bool):List V2→V2×Bool
 | []=>(v0,false)
 | x :: l=>if p x=true then (x,true) else FE p l
theorem GH {p:V2→Bool}:∀ {s:List V2} {j:Nat},j<s.length→p (s.getD j v0)=true→(∀ i,i<j→p (s.getD i v0)=false)→FE p s=(s.getD j v0,true)
 | [],j,h,_,_=>absurd h (Nat.not_lt_zero j)
 | x :: l,0,_,h,_=>if_pos h
 | x :: l,j+1,hj,h,hno=>by
  have h0:p x=false:=hno 0 (by omega)
  have ih:=GH (p:=p) (s:=l) (j:=j) (by simpa using hj) h (fun i hi=>hno (i+1) (by omega))
  show (if p x=true then (x,true) else FE p l)=_
  rw [if_neg (by rw [h0]; decide),ih]
  rfl
theorem F4 {p:V2→Bool}:∀ {s:List V2},(∀ i,i<s.length→p (s.getD i v0)=false)→FE p s=(v0,false)
 | [],_=>rfl
 | x :: l,hno=>by
  have h0:p x=false:=hno 0 (by simp)
  have ih:=F4 (p:=p) (s:=l) (fun i hi=>hno (i+1) (by simpa using hi))
  show (if p x=true then (x,true) else FE p l)=_
  rw [if_neg (by rw [h0]; decide),ih]
noncomputable def Zl (A B:List V2) (e:Rat):V2×Bool:=FE (fun d=>decide (Gd d A B e)) (ZF A B)
structure Shp (c:Nat) (A:List V2):Prop where
 small:XZ A c
 pos:0<A.length
 len:A.length<10000
theorem P5 (A B:List V2) (e:Rat) (c:Nat) (ha:Shp c A) (hb:Shp c B) (h1:1≤c) (hc:c≤1000) (he:qb e≤10000):Fn Tryz.prog 244 [Xq A,Xq B,qA e] (.tup [vA (Zl A B e).1,.bool (Zl A B e).2]):=by
 obtain ⟨a1,a2,a3⟩:=ha
 obtain ⟨b1,b2,b3⟩:=hb
 obtain ⟨R,hR⟩:∃ R,R=Zl A B e:=⟨_,rfl⟩
 rw [← hR]
 have cd:=de A B c a1 b1 (by omega) (by omega) (by omega)
 have hds:=IK A B c a1 b1 h1
 unfold Zl at hR
 have hlen:(ZF A B).length=A.length+B.length+4:=by unfold ZF; rw [List.length_append,List.length_append,BQ,Eb]; rfl
 generalize ZF A B=D at *
 have be:XK 2 (.row 0 4 (Xp (qC e)))=True:=eq_true (XE (by simp [qC,X7,X3]))
 have bz:XK 2 (.row 0 8 (Xp XP))=True:=eq_true (XE (KT [] [] ⟨0,0,0,0,0,v0,v0,v0⟩ 0))
 have bA:JM 2 (Xq A)=True:=eq_true (X6 (Xd A))
 have bB:JM 2 (Xq B)=True:=eq_true (X6 (Xd B))
 have bD:JM 2 (Xq D)=True:=eq_true (X6 (Xd D))
 refine Fq Tryz.call244 Tryz.func244 10 [12,13,14] [] [] (by simp [Xd,Xc]) (X0 1000 ?_)
 simp only [AS.start,X5,↓X2,wA,seval,wE]
 refine X1 cd rfl ?_
 simp only [X5,↓X2,wA,seval,wE]
 refine Xg (fun i:Nat=>⟨10,[12,13,14],[Xq A,Xq B,.any,.any,.any,.ref 0 0 0,.ref 1 0 0,.bool false,.any,.any],[(12,Xq D),(13,I D.length),(14,I i)],[.row 0 4 (Xp (qC e)),.row 0 8 (Xp XP)]⟩) (fun i=>i≤D.length∧∀ j,j<i→decide (Gd (D.getD j v0) A B e)=false) (fun i=>D.length - i) 0 ⟨by omega,by omega⟩
  (Xa rfl (by simp [Xh,X5,I]) (by simp [Xi,Xw,X5,I]) (by simp [qC,XP,X4])) ?_
 rintro i ⟨hi,hno⟩ next
 have w1:=wj i (by omega)
 by_cases hi2:i<D.length
 rotate_left
 ·obtain rfl:i=D.length:=by omega
  rw [F4 hno] at hR
  refine X0 1000 ?_
  simp only [X5,XP,Int.lt_irrefl,Nat.lt_irrefl,↓X2,wA,seval,wE]
  subst hR
  exact Jm rfl (Xr Jq rfl rfl rfl) (by unfold QT; rfl) (Xt (Xn _) (XV Zx)) ((X3 _).sees _)
 have f1:((i:Int)<D.length)=True:=eq_true (by omega)
 have f2:(i<D.length)=True:=eq_true hi2
 have f3:(i*8+8≤D.length*8)=True:=eq_true (by omega)
 have v1:=vF D i
 have hs:=hds _ (Ex hi2)
 have cs:=OI (D.getD i v0) A B e c a1 b1 (by omega) (by omega) (by omega) a2 b2 (by omega) he
 have nx:=next (i+1)
 refine X0 1000 ?_
 simp only [X5,w1,f1,f2,f3,v1,Int.toNat_natCast,↓X2,wA,seval,wE]
 refine X1 cs rfl ?_
 by_cases hsep:Gd (D.getD i v0) A B e
 ·have hd:decide (Gd (D.getD i v0) A B e)=true:=decide_eq_true hsep
  rw [hd]
  rw [GH hi2 hd hno] at hR
  simp only [X5,XP,w1,f1,f2,f3,v1,Int.toNat_natCast,↓X2,wA,seval,wE]
  subst hR
  exact Jm rfl (Xr Jq rfl rfl rfl) (by unfold QT; rfl) (Xt (Xn _) (XV (Q5 (vC (D.getD i v0))))) ((X3 _).sees _)
 ·have hd:decide (Gd (D.getD i v0) A B e)=false:=decide_eq_false hsep
  rw [hd]
  simp only [w1,↓X2,wA,seval,wE]
  exact nx _ ⟨by omega,Kw.2 ⟨hno,hd⟩⟩ (by omega) (Xv (m:=2) (Nat.zero_le _) rfl (by simp [Xh,X5,I]) (by simp [Xi,Xw,X5,I]) (by simp [qC,XP,X4]) (by simp [Xy,bA,bB,bD]) (by simp [Xy,bD]) (by simp [be,bz]))
theorem ij (A B:List V2) (e:Rat) (c:Nat) (ha:Shp c A) (hb:Shp c B) (h1:1≤c) (hc:c≤1000) (he:qb e≤10000):Fn Tryz.prog 248 [Xq A,Xq B,qA e] (.tup [vA (Zl A B e).1,.bool (Zl A B e).2]):=by
 obtain ⟨a1,a2,a3⟩:=ha
 obtain ⟨b1,b2,b3⟩:=hb
 obtain ⟨R,hR⟩:∃ R,R=Zl A B e:=⟨_,rfl⟩
 rw [← hR]
 have cd:=ic A B c a1 b1 (by omega) (by omega) (by omega)
 have hds:=IK A B c a1 b1 h1
 unfold Zl at hR
 have hlen:(ZF A B).length=A.length+B.length+4:=by unfold ZF; rw [List.length_append,List.length_append,BQ,Eb]; rfl
 generalize ZF A B=D at *
 have be:XK 2 (.con 0 4 (Xp (qC e)))=True:=eq_true (fun j _=>X6 (Xe (by simp [qC,X7,X3]) j))
 have bz:XK 2 (.row 0 8 (Xp XP))=True:=eq_true (XE (KT [] [] ⟨0,0,0,0,0,v0,v0,v0⟩ 0))
 have bA:JM 2 (Xq A)=True:=eq_true (X6 (Xd A))
 have bB:JM 2 (Xq B)=True:=eq_true (X6 (Xd B))
 have bD:JM 2 (Xq D)=True:=eq_true (X6 (Xd D))
 refine Fq Tryz.call248 Tryz.func248 10 [] [5,60000005] [] (by simp [Xd,Xc]) (X0 1000 ?_)
 simp only [AS.start,X5,↓X2,wA,seval,wE]
 refine X1 cd rfl ?_
 simp only [X5,↓X2,wA,seval,wE]
 refine Xg (fun i:Nat=>⟨10,[],[Xq A,Xq B,.any,.any,.any,.ref 0 0 0,.ref 1 0 0,.bool false,Xq D,I i],[],[.con 0 4 (Xp (qC e)),.row 0 8 (Xp XP)]⟩) (fun i=>i≤D.length∧∀ j,j<i→decide (Gd (D.getD j v0) A B e)=false) (fun i=>D.length - i) 0 ⟨by omega,by omega⟩
  (Sub.trans (Q2 0 rfl) (Xa rfl (by simp [Xh,X5,I]) (by simp [Xi]) (by simp [qC,XP,X4]))) ?_
 rintro i ⟨hi,hno⟩ next
 have w1:=wj i (by omega)
 by_cases hi2:i<D.length
 rotate_left
 ·obtain rfl:i=D.length:=by omega
  rw [F4 hno] at hR
  refine X0 1000 ?_
  simp only [X5,XP,Int.lt_irrefl,Nat.lt_irrefl,↓X2,wA,seval,wE]
  subst hR
  exact Jm rfl (Xr Jq rfl rfl rfl) (by unfold QT; rfl) (Xt (Xn _) (XV Zx)) ((X3 _).sees _)
 have f1:((i:Int)<D.length)=True:=eq_true (by omega)
 have f2:(i<D.length)=True:=eq_true hi2
 have f3:(i*8+8≤D.length*8)=True:=eq_true (by omega)
 have v1:=vF D i
 have hs:=hds _ (Ex hi2)
 have cs:=Mt (D.getD i v0) A B e c a1 b1 (by omega) (by omega) (by omega) a2 b2 (by omega) he
 have nx:=next (i+1)
 refine X0 1000 ?_
 simp only [X5,w1,f1,f2,f3,v1,Int.toNat_natCast,↓X2,wA,seval,wE]
 refine X1 cs rfl ?_
 by_cases hsep:Gd (D.getD i v0) A B e
 ·have hd:decide (Gd (D.getD i v0) A B e)=true:=decide_eq_true hsep
  rw [hd]
  rw [GH hi2 hd hno] at hR
  simp only [X5,XP,w1,f1,f2,f3,v1,Int.toNat_natCast,↓X2,wA,seval,wE]
  subst hR
  exact Jm rfl (Xr Jq rfl rfl rfl) (by unfold QT; rfl) (Xt (Xn _) (XV (Q5 (vC (D.getD i v0))))) ((X3 _).sees _)
 ·have hd:decide (Gd (D.getD i v0) A B e)=false:=decide_eq_false hsep
  rw [hd]
  simp only [w1,↓X2,wA,seval,wE]
  exact nx _ ⟨by omega,Kw.2 ⟨hno,hd⟩⟩ (by omega) (Xv (m:=2) (Nat.zero_le _) rfl (by simp [Xh,X5,I]) (by simp [Xi]) (by simp [qC,XP,X4]) (by simp [Xy,bA,bB,bD]) (by simp [Xy,bD]) (by simp [be,bz]))
noncomputable def Gv (l:List (List V2)):AV:=Qt Xq [] l
theorem XF (l:List (List V2)):Gv l=.sl l.length l.length (Q8 Xq [] l) false:=nrfl rfl
theorem JZ (l:List (List V2)):Settled (Gv l):=J7 fun _ _=>Xd _
theorem oz (l:List (List V2)) (i:Nat):Q8 Xq [] l i=Xq (l.getD i []):=nrfl rfl
noncomputable def Ze (A B:List (List V2)) (e:Rat) (i k:Nat):Bool:=(Zl (A.getD i []) (B.getD k []) e).2
noncomputable def Iq (A B:List (List V2)) (e:Rat) (i:Nat):Bool:=decide (∀ k,k<B.length→Ze A B e i k=true)
noncomputable def HE (A B:List (List V2)) (e:Rat):Bool:=decide (∀ i,i<A.length→Iq A B e i=true)
theorem V0 {A B:List (List V2)} {e:Rat} {i k:Nat} (h:k<B.length) (hp:Ze A B e i k=false):Iq A B e i=false :=
 decide_eq_false fun H=>by rw [H k h] at hp; cases hp
theorem jQ {A B:List (List V2)} {e:Rat} {i:Nat} (h:i<A.length) (hp:Iq A B e i=false):HE A B e=false :=
 decide_eq_false fun H=>by rw [H i h] at hp; cases hp
theorem mC (A B:List (List V2)) (e:Rat) (c:Nat) (ha:∀ i,i<A.length→Shp c (A.getD i [])) (hb:∀ i,i<B.length→Shp c (B.getD i [])) (h1:1≤c) (hc:c≤1000) (he:qb e≤10000) (la:A.length≤1000) (lb:B.length≤1000) :
  Fn Tryz.prog 214 [Gv A,Gv B,qA e] (.tup [.any,.bool (HE A B e)]):=by
 have hvc:∀ a:V2,∀ x∈vC a,Settled x:=fun a=>by simp [vC,X7,X3]
 have be:XK 2 (.con 0 4 (Xp (qC e)))=True:=eq_true (fun j _=>X6 (Xe (by simp [qC,X7,X3]) j))
 have bA:JM 2 (Gv A)=True:=eq_true (X6 (JZ A))
 have bB:JM 2 (Gv B)=True:=eq_true (X6 (JZ B))
 have br:∀ i l n,XK 2 (.row i n (Xs vC 8 v0 l))=True:=fun i l n=>eq_true fun j _=>X6 (Xe (hvc _) _)
 have vA':=fun i=>oz A i
 have vB':=fun i=>oz B i
 refine Fq Tryz.call214 Tryz.func214 13 [] [8,90000005] [] (by simp [JZ,Xc]) (X0 1000 ?_)
 simp only [AS.start,XF,↓X2,wA,seval,wE]
 refine Xg (fun w:Nat×List V2=>⟨13,[],[Gv A,Gv B,.any,.any,.any,.ref 0 0 0,.any,.any,.osl 1 w.2.length 8 0 w.2.length,I w.1,.any,.any,.any],[],[.con 0 4 (Xp (qC e)),.row w.2.length (w.2.length*8) (Xs vC 8 v0 w.2)]⟩) (fun w=>w.1≤A.length∧w.2.length=w.1*B.length∧∀ j,j<w.1→Iq A B e j=true) (fun w=>A.length - w.1) (0,[]) ⟨by simp,by simp,fun j hj=>absurd hj (Nat.not_lt_zero j)⟩
  (Sub.trans (Q2 0 rfl) (Sub.trans (Q4 8 8 (Xs vC 8 v0 []) rfl) (Xa rfl (by simp [AS.put,Xh,XF,I]) (by simp [Xi]) (by simp [qC,X4])))) ?_
 rintro ⟨i,W⟩ ⟨hi,hW,hno⟩ next
 replace hi:i≤A.length:=hi
 replace hW:W.length=i*B.length:=hW
 replace hno:∀ j,j<i→Iq A B e j=true:=hno
 have w1:=wj i (by omega)
 by_cases hi2:i<A.length
 rotate_left
 ·obtain rfl:i=A.length:=by omega
  have hR:HE A B e=true:=decide_eq_true hno
  rw [hR]
  refine X0 1000 ?_
  simp only [XF,Int.lt_irrefl,Nat.lt_irrefl,↓X2,wA,seval,wE]
  exact S7 rfl (Zs ⟨Xt ZM (Gq _),(X3 _).sees _,trivial⟩)
 have f1:((i:Int)<A.length)=True:=eq_true (by omega)
 have f2:(i<A.length)=True:=eq_true hi2
 have f3:(i+1≤A.length)=True:=eq_true (by omega)
 refine X0 1000 ?_
 simp only [XF,w1,f1,f2,f3,↓X2,wA,seval,wE]
 refine Xg (fun w:Nat×List V2=>⟨13,[],[Gv A,Gv B,.any,.any,.any,.ref 0 0 0,.any,.any,.osl 1 w.2.length 8 0 w.2.length,I i,I w.1,.any,.any],[],[.con 0 4 (Xp (qC e)),.row w.2.length (w.2.length*8) (Xs vC 8 v0 w.2)]⟩) (fun w=>w.1≤B.length∧w.2.length=i*B.length+w.1∧∀ k,k<w.1→Ze A B e i k=true) (fun w=>B.length - w.1) (0,W) ⟨by simp,by simpa using hW,fun j hj=>absurd hj (Nat.not_lt_zero j)⟩
  (Xa rfl (by simp [Xh,XF,I]) (by simp [Xi]) (by simp [qC,X4])) ?_
 rintro ⟨k,Y⟩ ⟨hk,hY,hyes⟩ next2
 replace hk:k≤B.length:=hk
 replace hY:Y.length=i*B.length+k:=hY
 replace hyes:∀ j,j<k→Ze A B e i j=true:=hyes
 have w2:=wj k (by omega)
 by_cases hk2:k<B.length
 rotate_left
 ·obtain rfl:k=B.length:=by omega
  have nx:=next (i+1,Y)
  refine X0 1000 ?_
  simp only [XF,w1,Int.lt_irrefl,Nat.lt_irrefl,↓X2,wA,seval,wE]
  exact nx _ ⟨by omega,by simp only; rw [hY,Nat.succ_mul],Kw.2 ⟨hno,decide_eq_true hyes⟩⟩ (by simp only; omega) (Xa rfl (by simp [Xh,XF,I]) (by simp [Xi]) (by simp [qC,X4]))
 have g1:((k:Int)<B.length)=True:=eq_true (by omega)
 have g2:(k<B.length)=True:=eq_true hk2
 have g3:(k+1≤B.length)=True:=eq_true (by omega)
 have cf:=ij (A.getD i []) (B.getD k []) e c (ha i hi2) (hb k hk2) h1 hc he
 have hb1:i*B.length≤1000*1000:=Nat.mul_le_mul (by omega) lb
 have hap:=XO vC 8 v0 Y (Zl (A.getD i []) (B.getD k []) e).1 (by omega)
 refine X0 1000 ?_
 simp only [XF,w1,w2,f1,f2,f3,g1,g2,g3,vA',vB',Int.toNat_natCast,↓X2,wA,seval,wE]
 refine X1 cf rfl ?_
 have hpk:Ze A B e i k=(Zl (A.getD i []) (B.getD k []) e).2:=rfl
 cases hv:(Zl (A.getD i []) (B.getD k []) e).2 with
 | false =>
  have hR:HE A B e=false:=jQ hi2 (V0 hk2 (hpk.trans hv))
  rw [hR]
  simp only [w1,w2,↓X2,wA,seval,wE]
  exact S7 rfl (Zs ⟨Xt ZM (Gq _),(X3 _).sees _,trivial⟩)
 | true =>
  have nx:=next2 (k+1,Y ++ [(Zl (A.getD i []) (B.getD k []) e).1])
  simp only [List.length_append,List.length_singleton] at nx
  simp only [w1,w2,↓X2,wA,seval,wE]
  exact ⟨⟨KX _,by omega,by omega⟩,nx _ ⟨by omega,by omega,Kw.2 ⟨hyes,hpk.trans hv⟩⟩ (by omega) (Xv (m:=2) (Nat.zero_le _) rfl (by simp [Xh,XF,I]) (by simp [Xi]) (by rw [← hap]; rfl) (by simp [Xy,bA,bB]) (by simp [Xy]) (by simp [be,br]))⟩
def Zu (A:List (List V2)):AV:=.ptr 1 (Xp [Gv A]) 0
theorem J1 (A:List (List V2)):Zu A=.ptr 1 (Xp [Gv A]) 0:=nrfl rfl
theorem Ge (A:List (List V2)):Settled (Zu A):=J0 fun j hj=>by
 obtain rfl:j=0:=by omega
 exact JZ A
theorem gN (A B:List (List V2)):Fn Tryz.prog 243 [Gv A,Gv B] (.fn 260 [Zu A,Zu B]):=by
 have hset:Settled (.fn 260 [Zu A,Zu B]):=Jl (by
  intro a ha
  simp only [List.mem_cons,List.not_mem_nil,or_false] at ha
  rcases ha with rfl | rfl <;> exact Ge _)
 refine Fq Tryz.call243 Tryz.func243 5 [] [] [] (by simp [JZ]) (X0 1000 ?_)
 simp only [AS.start,XF,↓X2,wA,seval,wE]
 refine Ba rfl (C1 ⟨KR (.inl rfl) (by omega) fun j hj=>?_,KR (.inl rfl) (by omega) fun j hj=>?_,trivial⟩)
 ·obtain rfl:j=0:=by omega
  exact (JZ A).sees _
 ·obtain rfl:j=0:=by omega
  exact (JZ B).sees _
theorem FG {P:Program} {tok:List Tok} {all:Array Oper} {i:Nat} {s:AS} {o:Oper} {v:AV} {h':List AO} (ho:all[i]?=some o) (hg:o.guard=none) (h:J9 P false none o.op s.ev s.h=some (v,h')) :
  GStep P tok (fun _=>false) true (fun _=>none) all i s (({ s with h:=h' }:AS).putO o.dst v):=⟨o,ho,.inl ⟨by unfold gval; rw [hg],⟨fun _ h=>(by cases h),v,h',.inl h,rfl⟩⟩⟩
def OX (m:Nat) (H:List AO):Prop:=H.length=m∧∀ o∈H,XK m o∧o≠.unborn∧∀ v n f,o≠.con v n f
theorem Ui (A B:List (List V2)) (t:Tok) (m:Nat) (Hs:Nat→List AO) (la:A.length≤1000) (lb:B.length≤1000) (hHs:∀ n,OX m (Hs n)) (hce:t.ce.H.length≤m)
  (hy:∀ i k,i<A.length→k<B.length→YCall Tryz.prog t [Xq (A.getD i []),Xq (B.getD k [])] (Hs (i*B.length+k)) (.bool true) (Hs (i*B.length+k+1))) :
  ICall Tryz.prog t 260 [.yld t.l,Zu A,Zu B] (Hs 0) (Hs (A.length*B.length)):=by
 have vA':=fun i=>oz A i
 have vB':=fun i=>oz B i
 refine ICall.intro (fn:=Tryz.f260) Tryz.call260 Tryz.func260 rfl mixed 8 [8,9,10,14,15,16] [] [] (by kernel_rfl) (Nat.le_of_ble_eq_true rfl) (by rw [(hHs 0).1]; exact hce) (by rw [(hHs 0).1]; exact fun o ho=>((hHs _).2 o ho).1) (X0 1000 ?_)
 simp only [AS.start,J1,XF,↓X2,wA,seval,wE]
 refine Xg (fun i:Nat=>⟨8,[8,9,10,14,15,16],[.yld t.l,Zu A,Zu B,.any,.any,.any,.any,.any],[(8,Gv A),(9,I A.length),(10,I i)],Hs (i*B.length)⟩) (fun i=>i≤A.length) (fun i=>A.length - i) 0 (by omega)
  (Xa rfl (by simp [Xh,J1,XF]) (by simp [Xi,Xw,XF,I]) (by simp)) ?_
 intro i hi next
 have w1:=wj i (by omega)
 by_cases hi2:i<A.length
 rotate_left
 ·obtain rfl:i=A.length:=by omega
  refine X0 1000 ?_
  simp only [J1,XF,Int.lt_irrefl,Nat.lt_irrefl,↓X2,wA,seval,wE]
  exact qQ rfl (by show (Hs _).take (Hs 0).length=_; rw [(hHs 0).1,← (hHs (A.length*B.length)).1,List.take_length])
 have f1:((i:Int)<A.length)=True:=eq_true (by omega)
 have f2:(i<A.length)=True:=eq_true hi2
 have f3:(i+1≤A.length)=True:=eq_true (by omega)
 refine X0 1000 ?_
 simp only [J1,XF,w1,f1,f2,f3,vA',Int.toNat_natCast,↓X2,wA,seval,wE]
 refine Xg (fun k:Nat=>⟨8,[8,9,10,14,15,16],[.yld t.l,Zu A,Zu B,.any,.any,Xq (A.getD i []),.any,.any],[(14,Gv B),(15,I B.length),(16,I k),(8,Gv A),(9,I A.length),(10,I i)],Hs (i*B.length+k)⟩) (fun k=>k≤B.length) (fun k=>B.length - k) 0 (by omega)
  (Xa rfl (by simp [Xh,J1,XF,X5]) (by simp [Xi,Xw,XF,I]) (by simp)) ?_
 intro k hk next2
 have w2:=wj k (by omega)
 by_cases hk2:k<B.length
 rotate_left
 ·obtain rfl:k=B.length:=by omega
  refine X0 1000 ?_
  simp only [J1,XF,w1,Int.lt_irrefl,Nat.lt_irrefl,↓X2,wA,seval,wE]
  exact next (i+1) _ (by omega) (by omega) (Xa rfl (by simp [Xh,J1,XF]) (by simp [Xi,Xw,XF,I]) (by simp [Nat.succ_mul]))
 have g1:((k:Int)<B.length)=True:=eq_true (by omega)
 have g2:(k<B.length)=True:=eq_true hk2
 have g3:(k+1≤B.length)=True:=eq_true (by omega)
 refine X0 1000 ?_
 simp only [J1,XF,w1,w2,g1,g2,g3,vB',Int.toNat_natCast,↓X2,wA,seval,wE]
 obtain ⟨q1,q2⟩:=hHs (i*B.length+k)
 obtain ⟨q3,q4⟩:=hHs (i*B.length+k+1)
 refine CB (t:=t) (H1:=Hs (i*B.length+k)) (H1':=Hs (i*B.length+k+1)) (rest:=[]) rfl rfl (List.mem_singleton.2 rfl) (hy i k hi2 hk2) (List.append_nil _).symm (q3.trans q1.symm) (by rw [q1]; exact hce) ?_ (by rw [q1]; exact fun o ho=>(q2 o ho).1) (fun o ho=>(q2 o ho).2.1) (fun o ho=>(q4 o ho).2.1) (QX (fun o ho=>(q2 o ho).2.2) (fun o ho=>(q4 o ho).2.2)) ⟨Weak.rfl' _,Weak.rfl' _,trivial⟩ ?_
 ·intro a ha
  simp only [List.mem_cons,List.not_mem_nil,or_false] at ha
  rcases ha with rfl | rfl <;> exact X6 (Xd _)
 simp only [J1,XF,w1,w2,↓X2,wA,seval,wE]
 exact next2 (k+1) _ (by omega) (by omega) (Xa rfl (by simp [Xh,J1,XF]) (by simp [Xi,Xw,XF,I]) (by simp [Nat.add_assoc]))
theorem an (A B:List (List V2)) (t:Tok) (m:Nat) (Hs:Nat→List AO) (Hf:List AO) (la:A.length≤1000) (lb:B.length≤1000) (hHs:∀ n,OX m (Hs n)) (hce:t.ce.H.length≤m)
  (i0 k0:Nat) (hi0:i0<A.length) (hk0:k0<B.length) (hy:∀ i k,i<i0∨i=i0∧k<k0→k<B.length→YCall Tryz.prog t [Xq (A.getD i []),Xq (B.getD k [])] (Hs (i*B.length+k)) (.bool true) (Hs (i*B.length+k+1))) (hz:YC Tryz.prog t false [Xq (A.getD i0 []),Xq (B.getD k0 [])] (Hs (i0*B.length+k0)) Hf) (hHf:OX m Hf) :
  ICallQ Tryz.prog t false 260 [.yld t.l,Zu A,Zu B] (Hs 0) Hf:=by
 have vA':=fun i=>oz A i
 have vB':=fun i=>oz B i
 refine ICallQ.intro (fn:=Tryz.f260) Tryz.call260 Tryz.func260 rfl mixed 8 [8,9,10,14,15,16] [] [] (by kernel_rfl) (Nat.le_of_ble_eq_true rfl) (by rw [(hHs 0).1]; exact hce) (by rw [(hHs 0).1]; exact fun o ho=>(hHf.2 o ho).1) (X0 1000 ?_)
 simp only [AS.start,J1,XF,↓X2,wA,seval,wE]
 refine Xg (fun i:Nat=>⟨8,[8,9,10,14,15,16],[.yld t.l,Zu A,Zu B,.any,.any,.any,.any,.any],[(8,Gv A),(9,I A.length),(10,I i)],Hs (i*B.length)⟩) (fun i=>i≤i0) (fun i=>i0 - i) 0 (by omega)
  (Xa rfl (by simp [Xh,J1,XF]) (by simp [Xi,Xw,XF,I]) (by simp)) ?_
 intro i hi next
 have w1:=wj i (by omega)
 have hi2:i<A.length:=by omega
 have f1:((i:Int)<A.length)=True:=eq_true (by omega)
 have f2:(i<A.length)=True:=eq_true hi2
 have f3:(i+1≤A.length)=True:=eq_true (by omega)
 refine X0 1000 ?_
 simp only [J1,XF,w1,f1,f2,f3,vA',Int.toNat_natCast,↓X2,wA,seval,wE]
 refine Xg (fun k:Nat=>⟨8,[8,9,10,14,15,16],[.yld t.l,Zu A,Zu B,.any,.any,Xq (A.getD i []),.any,.any],[(14,Gv B),(15,I B.length),(16,I k),(8,Gv A),(9,I A.length),(10,I i)],Hs (i*B.length+k)⟩) (fun k=>k≤B.length∧(i=i0→k≤k0)) (fun k=>B.length - k) 0 ⟨by omega,by omega⟩
  (Xa rfl (by simp [Xh,J1,XF,X5]) (by simp [Xi,Xw,XF,I]) (by simp)) ?_
 rintro k ⟨hk,hkk⟩ next2
 have w2:=wj k (by omega)
 by_cases hk2:k<B.length
 rotate_left
 ·obtain rfl:k=B.length:=by omega
  refine X0 1000 ?_
  simp only [J1,XF,w1,Int.lt_irrefl,Nat.lt_irrefl,↓X2,wA,seval,wE]
  exact next (i+1) _ (by omega) (by omega) (Xa rfl (by simp [Xh,J1,XF]) (by simp [Xi,Xw,XF,I]) (by simp [Nat.succ_mul]))
 have g1:((k:Int)<B.length)=True:=eq_true (by omega)
 have g2:(k<B.length)=True:=eq_true hk2
 have g3:(k+1≤B.length)=True:=eq_true (by omega)
 by_cases hlast:i=i0∧k=k0
 ·obtain ⟨rfl,rfl⟩:=hlast
  refine X0 20 ?_
  simp only [J1,XF,w1,w2,g1,g2,g3,vB',Int.toNat_natCast,↓X2,wA,seval,wE]
  refine mK (t:=t) (j:=3) (l1:=[0,1,2]) (l2:=[4]) rfl rfl (List.mem_singleton.2 rfl) rfl rfl ⟨_,FG rfl rfl rfl,_,FG rfl rfl rfl,_,FG rfl rfl rfl,rfl⟩ ⟨rfl,_,_,_,[Xq (A.getD i []),Xq (B.getD k [])],Hf,rfl,rfl,⟨Weak.rfl' _,Weak.rfl' _,trivial⟩,hz,rfl⟩ ⟨_,FG rfl rfl rfl,rfl⟩ ?_
  show Run (se Tryz.prog Tryz.f260 [] [] (Hs 0).length Hf) _ _
  refine Run.sub (s':=⟨8,[],[],[(24,.bool true)],Hf⟩) ?_ (Xa rfl trivial ⟨.inr rfl,trivial⟩ rfl)
  refine X0 1000 ?_
  simp only [↓X2,wA,seval,wE]
  exact tS rfl (by show Hf.take (Hs 0).length=_; rw [(hHs 0).1,← hHf.1,List.take_length])
 have hp:i<i0∨i=i0∧k<k0:=by omega
 refine X0 1000 ?_
 simp only [J1,XF,w1,w2,g1,g2,g3,vB',Int.toNat_natCast,↓X2,wA,seval,wE]
 obtain ⟨q1,q2⟩:=hHs (i*B.length+k)
 obtain ⟨q3,q4⟩:=hHs (i*B.length+k+1)
 refine CB (t:=t) (H1:=Hs (i*B.length+k)) (H1':=Hs (i*B.length+k+1)) (rest:=[]) rfl rfl (List.mem_singleton.2 rfl) (hy i k hp hk2) (List.append_nil _).symm (q3.trans q1.symm) (by rw [q1]; exact hce) ?_ (by rw [q1]; exact fun o ho=>(q2 o ho).1) (fun o ho=>(q2 o ho).2.1) (fun o ho=>(q4 o ho).2.1) (QX (fun o ho=>(q2 o ho).2.2) (fun o ho=>(q4 o ho).2.2)) ⟨Weak.rfl' _,Weak.rfl' _,trivial⟩ ?_
 ·intro a ha
  simp only [List.mem_cons,List.not_mem_nil,or_false] at ha
  rcases ha with rfl | rfl <;> exact X6 (Xd _)
 simp only [J1,XF,w1,w2,↓X2,wA,seval,wE]
 exact next2 (k+1) _ ⟨by omega,by omega⟩ (by omega) (Xa rfl (by simp [Xh,J1,XF]) (by simp [Xi,Xw,XF,I]) (by simp [Nat.add_assoc]))
end
end Go.Ab.N
