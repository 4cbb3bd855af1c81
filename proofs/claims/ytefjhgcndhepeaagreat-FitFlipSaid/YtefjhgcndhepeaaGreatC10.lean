/- Own texts. -/
import Derived.Test.YtefjhgcndhepeaaGreatC9
set_option linter.unusedSimpArgs false
set_option linter.unusedVariables false
open Nat renaming reducePow → Y1, reduceLT → Y2, reduceLeDiff → Y3, reduceEqDiff → Y4, reduceAdd → Y5, reduceMul → Y6, reduceSub → Y7, reduceBEq → Y8, reduceDiv → Y9, reduceMod → YA
namespace Go.Ab.N
open Go Go.RowKit Go.Proofs
noncomputable section
set_option maxRecDepth 10000
set_option maxHeartbeats 4000000
open Classical
def tK (e:Rat):List AV:=[.bool (decide (e.num<0)),X7 (X8 e.num.natAbs),.bool false,X7 (X8 (qd e))]
noncomputable def dI (a b:List (Int×Int)) (f:FV) (e:Rat):Nat→List AV
 | 0=>XP
 | k+1=>vC ((At a b f k).sub ⟨e,e⟩)
noncomputable def dG (a b:List (Int×Int)) (f:FV) (e:Rat):Nat→List AV
 | 0=>XP
 | k+1=>vC ((As a b f k).add ⟨e,e⟩)
theorem T0 (a b:List (Int×Int)) (f:FV) (e:Rat):∀ k,∀ x∈dI a b f e k,Settled x
 | 0=>Zb a b f 0
 | k+1=>by simp [dI,vC,X6,X2]
theorem SZ (a b:List (Int×Int)) (f:FV) (e:Rat):∀ k,∀ x∈dG a b f e k,Settled x
 | 0=>Zb a b f 0
 | k+1=>by simp [dG,vC,X6,X2]
theorem jc (x y e:Rat):(0<Qj (y - e) (x - e)∧Sb x y - e=y - e)∨(¬ 0<Qj (y - e) (x - e)∧Sb x y - e=x - e):=by
 unfold Sb
 by_cases h:x<y
 ·exact .inl ⟨(JN _ _).2 (by grind),by rw [if_pos h]⟩
 ·exact .inr ⟨fun hh=>h (by have:=(JN _ _).1 hh; grind),by rw [if_neg h]⟩
theorem iV (x y e:Rat):(Qj (y+e) (x+e)<0∧S8 x y+e=y+e)∨(¬ Qj (y+e) (x+e)<0∧S8 x y+e=x+e):=by
 unfold S8
 by_cases h:y<x
 ·exact .inl ⟨(K7 _ _).2 (by grind),by rw [if_pos h]⟩
 ·exact .inr ⟨fun hh=>h (by have:=(K7 _ _).1 hh; grind),by rw [if_neg h]⟩
theorem NV (a b:PV) (f:FV) (ha:a.even) (hb:b.even) (ht:vb f.turn≤1000) {ta tb:Rat} (ea:a.tol=RQ.of ta) (eb:b.tol=RQ.of tb) (qa:qb ta≤1000) (q2:qb tb≤1000) :
  Fn Tryz.prog 47 [QP a,QP b,Jz f] (.tup [vA (Xv a.rim b.rim f (ta+tb)).1,vA (Xv a.rim b.rim f (ta+tb)).2.1,.bool (Xv a.rim b.rim f (ta+tb)).2.2]):=by
 have la:=ha.rim; have lb:=hb.rim
 obtain ⟨R,hR⟩:∃ R,R=Xv a.rim b.rim f (ta+tb):=⟨_,rfl⟩
 rw [← hR]
 have zret:∀ {s:AS} {i j v w:Nat},s.get 6=.ref i v 0→s.h[i]?=some (.row v 8 (Xn Zt))→s.get 7=.ref j w 0→s.h[j]?=some (.row w 8 (Xn Zt))→s.get 8=.bool false→R=(v0,v0,false)→RetOk (QJ Tryz.prog Tryz.f47 [11,120000005,24,250000013,250000014] [] (.tup [vA R.1,vA R.2.1,.bool R.2.2])) s:=fun h1 h2 h3 h4 h5 h6=>by
  subst h6
  exact IG rfl (Xo Ju h1 h2 rfl) (Xo Ju h3 h4 rfl) (by unfold QH; rfl) (Xr (Xk _) (XO Zp)) (Xr (Xk _) (XO Zp)) (by rw [h5]; exact (X2 _).sees _)
 have cs:=HQ a b f la lb
 have ct:=SF f.turn (by unfold vm; omega)
 refine Fv Tryz.call47 Tryz.func47 19 [] [11,120000005,24,250000013,250000014] [] ?_
 simp only [AS.start,QP,XG,Jz,XJ,↓X1,wA,↓reduceIte,reduceIte,reduceCtorEq,Y1,Y2,Y3,Y4,Y5,Y6,Y7,Y8,Y9,YA,wE]
 refine X0 cs rfl ?_
 by_cases hf:Zd a.rim.length b.rim.length f
 rotate_left
 ·rw [decide_eq_false hf]
  simp only [↓X1,wA,↓reduceIte,reduceIte,reduceCtorEq,Y1,Y2,Y3,Y4,Y5,Y6,Y7,Y8,Y9,YA,wE]
  exact zret rfl rfl rfl rfl rfl (by rw [hR]; unfold Xv; rw [if_neg fun h=>hf h.1])
 rw [decide_eq_true hf]
 simp only [↓X1,wA,↓reduceIte,reduceIte,reduceCtorEq,Y1,Y2,Y3,Y4,Y5,Y6,Y7,Y8,Y9,YA,wE]
 refine X0 ct rfl ?_
 by_cases hto:Jy f.turn
 rotate_left
 ·rw [decide_eq_false hto]
  simp only [↓X1,wA,↓reduceIte,reduceIte,reduceCtorEq,Y1,Y2,Y3,Y4,Y5,Y6,Y7,Y8,Y9,YA,wE]
  exact zret rfl rfl rfl rfl rfl (by rw [hR]; unfold Xv; rw [if_neg fun h=>hto h.2])
 rw [decide_eq_true hto]
 have hRe:R=if ((As a.rim b.rim f f.M.toNat).add ⟨ta+tb,ta+tb⟩).x<((At a.rim b.rim f f.M.toNat).sub ⟨ta+tb,ta+tb⟩).x∨((As a.rim b.rim f f.M.toNat).add ⟨ta+tb,ta+tb⟩).y<((At a.rim b.rim f f.M.toNat).sub ⟨ta+tb,ta+tb⟩).y then (v0,v0,false) else ((At a.rim b.rim f f.M.toNat).sub ⟨ta+tb,ta+tb⟩,(As a.rim b.rim f f.M.toNat).add ⟨ta+tb,ta+tb⟩,true):=by
  rw [hR]; unfold Xv; rw [if_pos ⟨hf,hto⟩]
 clear hR
 obtain ⟨⟨s1,s2⟩,⟨s3,s4⟩,s5,s6,s7⟩:=hf
 obtain ⟨N,hN⟩:∃ N:Nat,f.M=N:=⟨f.M.toNat,by omega⟩
 have hNt:f.M.toNat=N:=by rw [hN]; rfl
 rw [hNt] at hRe
 have r1:=E8 a la (AU ha.near)
 have r2:=E8 b lb (AU hb.near)
 have hla:(Xz a.rim).length=a.rim.length:=by simp [Xz]
 have hlb:(Xz b.rim).length=b.rim.length:=by simp [Xz]
 have c3:Fn Tryz.prog 76 [a.tol.A,b.tol.A] (qA (ta+tb)):=by rw [ea,eb]; exact JG ta tb (by unfold rm; omega) (by unfold rm; omega)
 have qe:=K2 ta tb
 generalize ta+tb=e at *
 simp only [↓X1,wA,↓reduceIte,reduceIte,reduceCtorEq,Y1,Y2,Y3,Y4,Y5,Y6,Y7,Y8,Y9,YA,wE]
 refine X0 r1 rfl ?_
 simp only [↓X1,wA,↓reduceIte,reduceIte,reduceCtorEq,Y1,Y2,Y3,Y4,Y5,Y6,Y7,Y8,Y9,YA,wE]
 refine X0 r2 rfl ?_
 simp only [↓X1,wA,↓reduceIte,reduceIte,reduceCtorEq,Y1,Y2,Y3,Y4,Y5,Y6,Y7,Y8,Y9,YA,wE]
 refine X0 c3 rfl ?_
 simp only [↓X1,wA,↓reduceIte,reduceIte,reduceCtorEq,Y1,Y2,Y3,Y4,Y5,Y6,Y7,Y8,Y9,YA,wE]
 have m0:vb ⟨e,e⟩≤2001:=by unfold vb; simp only; omega
 have ba:XI 9 (.row 0 25 (Xn (XG a)))=True:=eq_true (XD (Xy a))
 have bb:XI 9 (.row 0 25 (Xn (XG b)))=True:=eq_true (XD (Xy b))
 have bf:XI 9 (.con 0 29 (Xn (XJ f)))=True:=eq_true (fun j _=>X5 (Xb (XN f) j))
 have bz:XI 9 (.row 0 8 (Xn XP))=True:=eq_true (XD (Zb a.rim b.rim f 0))
 have be:XI 9 (.row 0 4 (Xn (tK e)))=True:=eq_true (XD (by simp [tK,X6,X2]))
 have bw:XI 9 (.row 0 8 (Xn (vC ⟨e,e⟩)))=True:=eq_true (XD (by simp [vC,X6,X2]))
 have bl:∀ k,XI 9 (.row 0 8 (Xn (dI a.rim b.rim f e k)))=True:=fun k=>eq_true (XD (T0 a.rim b.rim f e k))
 have bh:∀ k,XI 9 (.row 0 8 (Xn (dG a.rim b.rim f e k)))=True:=fun k=>eq_true (XD (SZ a.rim b.rim f e k))
 have bx:JO 9 (Xp (Xz a.rim))=True:=eq_true (X5 (Xc _))
 have by':JO 9 (Xp (Xz b.rim))=True:=eq_true (X5 (Xc _))
 refine Xe (fun k:Nat=>⟨19,[],[.any,.any,.any,.ref 0 0 0,.ref 1 0 0,.ref 2 0 0,.ref 3 0 0,.ref 4 0 0,.bool false,Xp (Xz a.rim),Xp (Xz b.rim),.ref 5 0 0,.ref 6 0 0,.ref 7 0 0,.ref 8 0 0,I k,.any,.any,.any],[],[.row 0 25 (Xn (XG a)),.row 0 25 (Xn (XG b)),.con 0 29 (Xn (XJ f)),.row 0 8 (Xn XP),.row 0 8 (Xn XP),.row 0 4 (Xn (tK e)),.row 0 8 (Xn (vC ⟨e,e⟩)),.row 0 8 (Xn (dI a.rim b.rim f e k)),.row 0 8 (Xn (dG a.rim b.rim f e k))]⟩) (fun k=>k≤N+1) (fun k=>N+1 - k) 0 (by omega)
  (Sub.trans (XX 2 rfl) (Jm (by simp [Xf,X4,I]) (by simp [XG,XJ,tK,XP,dI,dG,vC,Xd,Xm,X3,I]))) ?_
 intro k hk next
 have w1:=wj k (by omega)
 by_cases hk2:k<N+1
 ·have nx:=next (k+1)
  have fk:((k:Int)≤f.M)=True:=eq_true (by omega)
  have wx:IntKind.i64.wrap (f.EA+(k:Int))=f.EA+(k:Int):=by rw [IntKind.wrap_i64]; omega
  have wy1:IntKind.i64.wrap (f.EB+1)=f.EB+1:=by rw [IntKind.wrap_i64]; omega
  have wy:IntKind.i64.wrap (f.EB+1 - (k:Int))=f.EB+1 - (k:Int):=by rw [IntKind.wrap_i64]; omega
  have c1:=Ql (f.EA+(k:Int)) a.rim.length (by omega) (by omega) (by omega)
  have c2:=Ql (f.EB+1 - (k:Int)) b.rim.length (by omega) (by omega) (by omega)
  rw [Mu _ _ _ (by omega)] at c1
  rw [kJ _ _ _ (by omega)] at c2
  have hX:=Tx a.rim.length f k (by omega)
  have hY:=qx b.rim.length f k (by omega)
  have vx:=KQ ha.near (xK a.rim.length f k)
  have vy:=KQ hb.near (yL b.rim.length f k)
  have vr:=Dk f.turn (Jv (b.rim.getD (yL b.rim.length f k) (0,0)))
  have c3:=Cn f.turn (Jv (b.rim.getD (yL b.rim.length f k) (0,0))) (by unfold vm; omega) (by unfold vm; omega)
  have c4:=JW (Jv (a.rim.getD (xK a.rim.length f k) (0,0))) (Co f.turn (Jv (b.rim.getD (yL b.rim.length f k) (0,0)))) (by unfold rm; omega) (by unfold rm; omega)
  rw [show (Jv (a.rim.getD (xK a.rim.length f k) (0,0))).sub (Co f.turn (Jv (b.rim.getD (yL b.rim.length f k) (0,0))))=K5 a.rim b.rim f k from rfl] at c4
  have hD:=Bq ha.near hb.near f ht
  have hL:=CB ha.near hb.near f ht
  have hH:=Cz ha.near hb.near f ht
  have hDk:=hD k
  have c5:=JW (K5 a.rim b.rim f k) ⟨e,e⟩ (by unfold rm; omega) (by unfold rm; omega)
  have c6:=BM (K5 a.rim b.rim f k) ⟨e,e⟩ (by unfold vm; omega) (by unfold vm; omega)
  have v1:=vF (Xz a.rim) (xK a.rim.length f k)
  have v2:=vF (Xz b.rim) (yL b.rim.length f k)
  rw [GC] at v1 v2
  generalize xK a.rim.length f k=X at *
  generalize yL b.rim.length f k=Y at *
  generalize Jv (a.rim.getD X (0,0))=PX at *
  generalize Jv (b.rim.getD Y (0,0))=PY at *
  generalize Co f.turn PY=RY at *
  have fX:((X:Int)<a.rim.length)=True:=eq_true (by omega)
  have fX':(X<a.rim.length)=True:=eq_true hX
  have fX8:(X*8+8≤a.rim.length*8)=True:=eq_true (by omega)
  have fY:((Y:Int)<b.rim.length)=True:=eq_true (by omega)
  have fY':(Y<b.rim.length)=True:=eq_true hY
  have fY8:(Y*8+8≤b.rim.length*8)=True:=eq_true (by omega)
  refine Xl ?_
  simp only [XJ,X4,w1,wx,wy1,wy,fk,fX,fX',fX8,fY,fY',fY8,hla,hlb,v1,v2,Int.toNat_natCast,↓X1,wA,↓reduceIte,reduceIte,reduceCtorEq,Y1,Y2,Y3,Y4,Y5,Y6,Y7,Y8,Y9,YA,wE]
  refine X0 c1 rfl ?_
  simp only [XJ,X4,w1,wx,wy1,wy,fk,fX,fX',fX8,fY,fY',fY8,hla,hlb,v1,v2,Int.toNat_natCast,↓X1,wA,↓reduceIte,reduceIte,reduceCtorEq,Y1,Y2,Y3,Y4,Y5,Y6,Y7,Y8,Y9,YA,wE]
  refine X0 c2 rfl ?_
  simp only [XJ,X4,w1,wx,wy1,wy,fk,fX,fX',fX8,fY,fY',fY8,hla,hlb,v1,v2,Int.toNat_natCast,↓X1,wA,↓reduceIte,reduceIte,reduceCtorEq,Y1,Y2,Y3,Y4,Y5,Y6,Y7,Y8,Y9,YA,wE]
  refine X0 c3 rfl ?_
  simp only [XJ,X4,w1,wx,wy1,wy,fk,fX,fX',fX8,fY,fY',fY8,hla,hlb,v1,v2,Int.toNat_natCast,↓X1,wA,↓reduceIte,reduceIte,reduceCtorEq,Y1,Y2,Y3,Y4,Y5,Y6,Y7,Y8,Y9,YA,wE]
  refine X0 c4 rfl ?_
  simp only [XJ,X4,w1,wx,wy1,wy,fk,fX,fX',fX8,fY,fY',fY8,hla,hlb,v1,v2,Int.toNat_natCast,↓X1,wA,↓reduceIte,reduceIte,reduceCtorEq,Y1,Y2,Y3,Y4,Y5,Y6,Y7,Y8,Y9,YA,wE]
  refine X0 c5 rfl ?_
  simp only [XJ,X4,w1,wx,wy1,wy,fk,fX,fX',fX8,fY,fY',fY8,hla,hlb,v1,v2,Int.toNat_natCast,↓X1,wA,↓reduceIte,reduceIte,reduceCtorEq,Y1,Y2,Y3,Y4,Y5,Y6,Y7,Y8,Y9,YA,wE]
  refine X0 c6 rfl ?_
  match k,w1,fk,hk2,hDk,nx with
  | 0,w1,fk,hk2,hDk,nx =>
   have e0:((0:Nat):Int)=0:=rfl
   have w0:IntKind.i64.wrap (0+1)=1:=by decide
   have hL0:dI a.rim b.rim f e 1=vC ((K5 a.rim b.rim f 0).sub ⟨e,e⟩):=rfl
   have hH0:dG a.rim b.rim f e 1=vC ((K5 a.rim b.rim f 0).add ⟨e,e⟩):=rfl
   have bl2:=bl 1; have bh2:=bh 1
   simp only [Nat.zero_add,hL0,hH0] at nx bl2 bh2
   generalize (K5 a.rim b.rim f 0).sub ⟨e,e⟩=FR at *
   generalize (K5 a.rim b.rim f 0).add ⟨e,e⟩=TO at *
   simp only [dI,dG,XP,e0,w0,↓X1,wA,↓reduceIte,reduceIte,reduceCtorEq,Y1,Y2,Y3,Y4,Y5,Y6,Y7,Y8,Y9,YA,wE]
   exact nx _ (by omega) (by omega) (dK (m:=9) (by simp [Xf,X4,hla,hlb,I]) (by simp [XG,XJ,XP,tK,dI,dG,vC,Xd,Xm,X3,I]) (by simp [XA,bx,by']) (by simp [ba,bb,bf,bz,be,bw,bl2,bh2]))
  | j+1,w1,fk,hk2,hDk,nx =>
   have g0:(((j+1:Nat):Int)=0)=False:=eq_false (by omega)
   have g0':((j:Int)+1=0)=False:=eq_false (by omega)
   have g0'':(j+1=0)=False:=eq_false (by omega)
   have hLj:=hL j; have hHj:=hH j
   have hl1:dI a.rim b.rim f e (j+1)=vC ((At a.rim b.rim f j).sub ⟨e,e⟩):=rfl
   have hh1:dG a.rim b.rim f e (j+1)=vC ((As a.rim b.rim f j).add ⟨e,e⟩):=rfl
   have hl2:dI a.rim b.rim f e (j+1+1)=vC ((At a.rim b.rim f (j+1)).sub ⟨e,e⟩):=rfl
   have hh2:dG a.rim b.rim f e (j+1+1)=vC ((As a.rim b.rim f (j+1)).add ⟨e,e⟩):=rfl
   have ux:=jc (At a.rim b.rim f j).x (K5 a.rim b.rim f (j+1)).x e
   have uy:=jc (At a.rim b.rim f j).y (K5 a.rim b.rim f (j+1)).y e
   have ox:=iV (As a.rim b.rim f j).x (K5 a.rim b.rim f (j+1)).x e
   have oy:=iV (As a.rim b.rim f j).y (K5 a.rim b.rim f (j+1)).y e
   have z1:=Km (At a.rim b.rim f j) ⟨e,e⟩
   have z2:=Be (As a.rim b.rim f j) ⟨e,e⟩
   have z3:=Km (K5 a.rim b.rim f (j+1)) ⟨e,e⟩
   have z4:=Be (K5 a.rim b.rim f (j+1)) ⟨e,e⟩
   have bl2:=bl (j+1+1); have bh2:=bh (j+1+1)
   simp only [hl2,hh2] at nx bl2 bh2
   rw [hl1,hh1]
   replace ux:(0<Qj ((K5 a.rim b.rim f (j+1)).sub ⟨e,e⟩).x ((At a.rim b.rim f j).sub ⟨e,e⟩).x∧((At a.rim b.rim f (j+1)).sub ⟨e,e⟩).x=((K5 a.rim b.rim f (j+1)).sub ⟨e,e⟩).x)∨(¬ 0<Qj ((K5 a.rim b.rim f (j+1)).sub ⟨e,e⟩).x ((At a.rim b.rim f j).sub ⟨e,e⟩).x∧((At a.rim b.rim f (j+1)).sub ⟨e,e⟩).x=((At a.rim b.rim f j).sub ⟨e,e⟩).x):=ux
   replace uy:(0<Qj ((K5 a.rim b.rim f (j+1)).sub ⟨e,e⟩).y ((At a.rim b.rim f j).sub ⟨e,e⟩).y∧((At a.rim b.rim f (j+1)).sub ⟨e,e⟩).y=((K5 a.rim b.rim f (j+1)).sub ⟨e,e⟩).y)∨(¬ 0<Qj ((K5 a.rim b.rim f (j+1)).sub ⟨e,e⟩).y ((At a.rim b.rim f j).sub ⟨e,e⟩).y∧((At a.rim b.rim f (j+1)).sub ⟨e,e⟩).y=((At a.rim b.rim f j).sub ⟨e,e⟩).y):=uy
   replace ox:(Qj ((K5 a.rim b.rim f (j+1)).add ⟨e,e⟩).x ((As a.rim b.rim f j).add ⟨e,e⟩).x<0∧((As a.rim b.rim f (j+1)).add ⟨e,e⟩).x=((K5 a.rim b.rim f (j+1)).add ⟨e,e⟩).x)∨(¬ Qj ((K5 a.rim b.rim f (j+1)).add ⟨e,e⟩).x ((As a.rim b.rim f j).add ⟨e,e⟩).x<0∧((As a.rim b.rim f (j+1)).add ⟨e,e⟩).x=((As a.rim b.rim f j).add ⟨e,e⟩).x):=ox
   replace oy:(Qj ((K5 a.rim b.rim f (j+1)).add ⟨e,e⟩).y ((As a.rim b.rim f j).add ⟨e,e⟩).y<0∧((As a.rim b.rim f (j+1)).add ⟨e,e⟩).y=((K5 a.rim b.rim f (j+1)).add ⟨e,e⟩).y)∨(¬ Qj ((K5 a.rim b.rim f (j+1)).add ⟨e,e⟩).y ((As a.rim b.rim f j).add ⟨e,e⟩).y<0∧((As a.rim b.rim f (j+1)).add ⟨e,e⟩).y=((As a.rim b.rim f j).add ⟨e,e⟩).y):=oy
   generalize (K5 a.rim b.rim f (j+1)).sub ⟨e,e⟩=FR at *
   generalize (K5 a.rim b.rim f (j+1)).add ⟨e,e⟩=TO at *
   generalize (At a.rim b.rim f (j+1)).sub ⟨e,e⟩=L2 at *
   generalize (As a.rim b.rim f (j+1)).add ⟨e,e⟩=H2 at *
   generalize (At a.rim b.rim f j).sub ⟨e,e⟩=L1 at *
   generalize (As a.rim b.rim f j).add ⟨e,e⟩=H1 at *
   have:=Qv FR; have:=Qm FR; have:=Qv TO; have:=Qm TO; have:=Qv L1; have:=Qm L1; have:=Qv H1; have:=Qm H1
   have k1:=J6 FR.x L1.x (by unfold rm; omega) (by unfold rm; omega)
   have k2:=J6 FR.y L1.y (by unfold rm; omega) (by unfold rm; omega)
   have k3:=J6 TO.x H1.x (by unfold rm; omega) (by unfold rm; omega)
   have k4:=J6 TO.y H1.y (by unfold rm; omega) (by unfold rm; omega)
   clear c1 c2 c3 c4 c5 c6 hD hL hH bl bh v1 v2
   rcases ux with ⟨px,ex⟩ | ⟨px,ex⟩
   all_goals
    first | replace px:=eq_false px | replace px:=eq_true px
    rcases uy with ⟨py,ey⟩ | ⟨py,ey⟩
    all_goals
     first | replace py:=eq_false py | replace py:=eq_true py
     rcases ox with ⟨sx,gx⟩ | ⟨sx,gx⟩
     all_goals
      first | replace sx:=eq_false sx | replace sx:=eq_true sx
      rcases oy with ⟨sy,gy⟩ | ⟨sy,gy⟩
      all_goals
       first | replace sy:=eq_false sy | replace sy:=eq_true sy
       simp only [g0,g0',g0'',w1,↓X1,wA,↓reduceIte,reduceIte,reduceCtorEq,Y1,Y2,Y3,Y4,Y5,Y6,Y7,Y8,Y9,YA,wE]
       refine X0 k1 rfl ?_
       simp only [px,g0,g0',g0'',w1,↓X1,wA,↓reduceIte,reduceIte,reduceCtorEq,Y1,Y2,Y3,Y4,Y5,Y6,Y7,Y8,Y9,YA,wE]
       refine X0 k2 rfl ?_
       simp only [px,py,g0,g0',g0'',w1,↓X1,wA,↓reduceIte,reduceIte,reduceCtorEq,Y1,Y2,Y3,Y4,Y5,Y6,Y7,Y8,Y9,YA,wE]
       refine X0 k3 rfl ?_
       simp only [px,py,sx,g0,g0',g0'',w1,↓X1,wA,↓reduceIte,reduceIte,reduceCtorEq,Y1,Y2,Y3,Y4,Y5,Y6,Y7,Y8,Y9,YA,wE]
       refine X0 k4 rfl ?_
       simp only [px,py,sx,sy,g0,g0',g0'',w1,↓X1,wA,↓reduceIte,reduceIte,reduceCtorEq,Y1,Y2,Y3,Y4,Y5,Y6,Y7,Y8,Y9,YA,wE]
       exact nx _ (by omega) (by omega) (dK (m:=9) (by simp [Xf,X4,hla,hlb,I]) (by simp [XG,XJ,XP,tK,dI,dG,vC,Xd,Xm,X3,I,ex,ey,gx,gy]) (by simp [XA,bx,by']) (by simp [ba,bb,bf,bz,be,bw,bl2,bh2]))
 obtain rfl:k=N+1:=by omega
 have hL:=CB ha.near hb.near f ht N
 have hH:=Cz ha.near hb.near f ht N
 have hl1:dI a.rim b.rim f e (N+1)=vC ((At a.rim b.rim f N).sub ⟨e,e⟩):=rfl
 have hh1:dG a.rim b.rim f e (N+1)=vC ((As a.rim b.rim f N).add ⟨e,e⟩):=rfl
 rw [hl1,hh1]
 clear bl bh hl1 hh1
 have m1:=Km (At a.rim b.rim f N) ⟨e,e⟩
 have m2:=Be (As a.rim b.rim f N) ⟨e,e⟩
 generalize (At a.rim b.rim f N).sub ⟨e,e⟩=A at *
 generalize (As a.rim b.rim f N).add ⟨e,e⟩=B at *
 have:=Qv A; have:=Qm A; have:=Qv B; have:=Qm B
 have q1:=J6 A.x B.x (by unfold rm; omega) (by unfold rm; omega)
 have q2:=J6 A.y B.y (by unfold rm; omega) (by unfold rm; omega)
 have fk:(((N+1:Nat):Int)≤f.M)=False:=eq_false (by omega)
 refine Xl ?_
 simp only [XJ,fk,↓X1,wA,↓reduceIte,reduceIte,reduceCtorEq,Y1,Y2,Y3,Y4,Y5,Y6,Y7,Y8,Y9,YA,wE]
 refine X0 q1 rfl ?_
 by_cases h1:B.x<A.x
 ·have f1:(0<Qj A.x B.x)=True:=eq_true ((JN _ _).2 h1)
  simp only [f1,XP,↓X1,wA,↓reduceIte,reduceIte,reduceCtorEq,Y1,Y2,Y3,Y4,Y5,Y6,Y7,Y8,Y9,YA,wE]
  exact zret rfl rfl rfl rfl rfl (by rw [hRe,if_pos (.inl h1)])
 have f1:(0<Qj A.x B.x)=False:=eq_false fun h=>h1 ((JN _ _).1 h)
 simp only [f1,↓X1,wA,↓reduceIte,reduceIte,reduceCtorEq,Y1,Y2,Y3,Y4,Y5,Y6,Y7,Y8,Y9,YA,wE]
 refine X0 q2 rfl ?_
 by_cases h2:B.y<A.y
 ·have f2:(0<Qj A.y B.y)=True:=eq_true ((JN _ _).2 h2)
  simp only [f1,f2,XP,↓X1,wA,↓reduceIte,reduceIte,reduceCtorEq,Y1,Y2,Y3,Y4,Y5,Y6,Y7,Y8,Y9,YA,wE]
  exact zret rfl rfl rfl rfl rfl (by rw [hRe,if_pos (.inr h2)])
 have f2:(0<Qj A.y B.y)=False:=eq_false fun h=>h2 ((JN _ _).1 h)
 simp only [f1,f2,XP,↓X1,wA,↓reduceIte,reduceIte,reduceCtorEq,Y1,Y2,Y3,Y4,Y5,Y6,Y7,Y8,Y9,YA,wE]
 rw [if_neg fun h=>h.elim h1 h2] at hRe
 subst hRe
 exact IG rfl (Xo Ju rfl rfl rfl) (Xo Ju rfl rfl rfl) (by unfold QH; rfl) (Xr (Xk _) (XO (XZ (vC A)))) (Xr (Xk _) (XO (XZ (vC B)))) ((X2 _).sees _)
def qs (l:List Rat):AV:=tL qC 4 0 l
theorem Mb (l:List Rat):Settled (qs l):=Ec fun a x hx=>by
 have:∀ x∈qC a,Settled x:=by simp [qC,X6,X2]
 exact this x hx
theorem BL (l:List Rat):qs l=.sl l.length (l.length*4) (Xs qC 4 0 l) false:=nrfl rfl
theorem w9 (l:List Rat) (i:Nat):Xs qC 4 0 l (i*4)=.bool (decide ((l.getD i 0).num<0))∧Xs qC 4 0 l (i*4+1)=X7 (X8 (l.getD i 0).num.natAbs)∧Xs qC 4 0 l (i*4+2)=.bool false∧Xs qC 4 0 l (i*4+3)=X7 (X8 (qd (l.getD i 0))):=by
 refine ⟨?_,?_,?_,?_⟩
 ·rw [Kv _ _ _ _ _ (by omega)]; rfl
 all_goals rw [Kg _ _ _ _ _ _ (by omega)]; rfl
def Z0 (sg:Int) (x:Rat) (l:List Rat):Nat→Rat
 | 0=>x
 | k+1=>if Qj (l.getD k 0) (Z0 sg x l k)=sg then l.getD k 0 else Z0 sg x l k
theorem P1 (sg:Int) (x:Rat) (l:List Rat) (c:Nat) (hx:qb x≤c) (hl:∀ k,qb (l.getD k 0)≤c):∀ k,qb (Z0 sg x l k)≤c
 | 0=>hx
 | k+1=>by
  simp only [Z0]
  split
  ·exact hl k
  ·exact P1 sg x l c hx hl k
def Bf:List AV:=[.bool false,.sl 0 0 (fun _=>.any) true,.bool false,.sl 0 0 (fun _=>.any) true]
theorem CY (sg:Int) (x:Rat) (l:List Rat) (hl:l.length<1000000) (hx:qb x≤vm) (hq:∀ k,qb (l.getD k 0)≤vm):Fn Tryz.prog 286 [I sg,qA x,qs l] (qA (Z0 sg x l l.length)):=by
 unfold vm at hx hq
 obtain ⟨R,hR⟩:∃ R,R=qA (Z0 sg x l l.length):=⟨_,rfl⟩
 have sR:Settled R:=hR▸Xa _
 have hqc:∀ r:Rat,∀ x∈qC r,Settled x:=fun r=>by simp [qC,X6,X2]
 have bx:∀ r,XI 2 (.row 0 4 (Xn (qC r)))=True:=fun r=>eq_true (XD (hqc r))
 have bl:JO 2 (qs l)=True:=eq_true (X5 (Mb l))
 rw [← hR]
 refine Fq Tryz.call286 Tryz.func286 9 [9,10,11] [] [] (by simp [X9,Xa,Mb]) (Xl ?_)
 simp only [AS.start,BL,↓X1,wF,seval]
 refine Xe (fun k:Nat=>⟨9,[9,10,11],[I sg,.any,.any,.any,.ref 0 0 0,.any,.ref 1 0 0,.any,.any],[(9,qs l),(10,I l.length),(11,I k)],[.row 0 4 (Xn (qC (Z0 sg x l k))),.row 0 4 (Xn Bf)]⟩) (fun k=>k≤l.length) (fun k=>l.length - k) 0 (by omega)
  (Xi rfl (by simp [Xf,I]) (by simp [Xq,Xw,BL,I]) rfl) ?_
 intro k hk next
 have w1:=wj k (by omega)
 have he:=P1 sg x l 1000000 hx hq k
 by_cases hk2:k<l.length
 ·have f1:((k:Int)<l.length)=True:=eq_true (by omega)
  have f2:(k<l.length)=True:=eq_true hk2
  have f3:(k*4+4≤l.length*4)=True:=eq_true (by omega)
  have v1:=w9 l k
  have c1:=KA (l.getD k 0) (Z0 sg x l k) (by have:=hq k; unfold rm; omega) (by unfold rm; omega)
  have nx:=next (k+1)
  have hs:Z0 sg x l (k+1)=if Qj (l.getD k 0) (Z0 sg x l k)=sg then l.getD k 0 else Z0 sg x l k:=rfl
  generalize Z0 sg x l k=E at *
  refine Xl ?_
  simp only [BL,w1,f1,f2,f3,v1,Int.toNat_natCast,↓X1,wF,seval]
  refine X0 c1 rfl ?_
  by_cases h:Qj (l.getD k 0) E=sg
  ·have g1:(Qj (l.getD k 0) E=sg)=True:=eq_true h
   rw [if_pos h] at hs
   simp only [hs] at nx
   simp only [g1,w1,↓X1,wF,seval]
   exact nx _ (by omega) (by omega) (XE (m:=2) (Nat.zero_le _) rfl (by simp [Xf,I]) (by simp [Xq,Xw,BL,I]) (by simp [qC,Bf,X3]) (by simp [XA]) (by simp [XA,bl]) (by simp [bx,Bf,XA]))
  ·have g1:(Qj (l.getD k 0) E=sg)=False:=eq_false h
   rw [if_neg h] at hs
   simp only [hs] at nx
   simp only [g1,w1,↓X1,wF,seval]
   exact nx _ (by omega) (by omega) (XE (m:=2) (Nat.zero_le _) rfl (by simp [Xf,I]) (by simp [Xq,Xw,BL,I]) (by simp [qC,Bf,X3]) (by simp [XA]) (by simp [XA,bl]) (by simp [bx,Bf,XA]))
 obtain rfl:k=l.length:=by omega
 refine Xl ?_
 simp only [BL,Bf,Int.lt_irrefl,Nat.lt_irrefl,↓X1,wF,seval]
 exact JH rfl Qa rfl rfl rfl sR (hR.trans rfl)
def Qb (n:V2) (L:List V2):List Rat:=L.map (XS n)
theorem V5 (n:V2) (L:List V2) (i:Nat) (hi:i<L.length):Qb n (L.take i) ++ [XS n (L.getD i v0)]=Qb n (L.take (i+1)):=by
 rw [BS _ v0 hi]; simp [Qb]
theorem sI (a:Rat):∀ j,j<4→((qC a).getD j .any).one=true:=fun j hj=>by
 match j,hj with
 | 0,_=>rfl
 | 1,_=>rfl
 | 2,_=>rfl
 | 3,_=>rfl
 | j+4,h=>omega
theorem HO (n:V2) (L:List V2) (k:Nat) (h:Q2 L k) (hk:k≤100000) (hl:L.length<1000000) (hn:vb n≤100000):Fn Tryz.prog 285 [vA n,Xp L] (qs (Qb n L)):=by
 have hvc:∀ a:V2,∀ x∈vC a,Settled x:=fun a=>by simp [vC,X6,X2]
 have hqc:∀ r:Rat,∀ x∈qC r,Settled x:=fun r=>by simp [qC,X6,X2]
 have bo:XI 2 (.row 0 8 (Xn (vC n)))=True:=eq_true (XD (hvc n))
 have bv:JO 2 (Xp L)=True:=eq_true (X5 (Xc L))
 have br:∀ i l n,XI 2 (.row i n (Xs qC 4 0 l))=True:=fun i l n=>eq_true fun j _=>X5 (Xb (hqc _) _)
 obtain ⟨R,hR⟩:∃ R,R=qs (Qb n L):=⟨_,rfl⟩
 rw [← hR]
 refine Fq Tryz.call285 Tryz.func285 8 [8,9,10] [] [] (by simp [Xk,Xc]) (Xl ?_)
 simp only [AS.start,X4,↓X1,wF,seval]
 refine Xe (fun i:Nat=>⟨8,[8,9,10],[.any,.any,.ref 0 0 0,.any,.any,.osl 1 i 4 0 i,.any,.any],[(8,Xp L),(9,I L.length),(10,I i)],[.row 0 8 (Xn (vC n)),.row i (i*4) (Xs qC 4 0 (Qb n (L.take i)))]⟩) (fun i=>i≤L.length) (fun i=>L.length - i) 0 (by omega)
  (Sub.trans (Q5 5 4 (Xs qC 4 0 []) rfl) (Xi rfl (by simp [AS.put,Xf,I]) (by simp [AS.put,Xq,Xw,X4,I]) (by simp [AS.put,vC,X3,Qb]))) ?_
 intro i hi next
 have w1:=wj i (by omega)
 by_cases hi2:i<L.length
 ·have f1:((i:Int)<L.length)=True:=eq_true (by omega)
  have f2:(i<L.length)=True:=eq_true hi2
  have f3:(i*8+8≤L.length*8)=True:=eq_true (by omega)
  have v1:=vF L i
  have hb:=h i
  have c1:=Gp n (L.getD i v0) (by unfold vm; omega) (by unfold vm; omega)
  have hap:=XR qC 4 0 (Qb n (L.take i)) (XS n (L.getD i v0)) (by omega)
  rw [V5 _ _ _ hi2,show (Qb n (L.take i)).length=i by simp [Qb]; omega] at hap
  refine Xl ?_
  simp only [X4,w1,f1,f2,f3,v1,Int.toNat_natCast,↓X1,wF,seval]
  refine X0 c1 rfl ?_
  simp only [w1,↓X1,wF,seval]
  exact ⟨⟨sI _,by omega,by omega⟩,next (i+1) _ (by omega) (by omega) (XE (m:=2) (Nat.zero_le _) rfl (by simp [Xf]) (by simp [Xq,Xw,X4,I]) (by rw [← hap]; rfl) (by simp [XA]) (by simp [XA,bv]) (by simp [bo,br]))⟩
 obtain rfl:i=L.length:=by omega
 refine Xl ?_
 simp only [X4,Int.lt_irrefl,Nat.lt_irrefl,↓X1,wF,seval]
 refine Bm rfl ?_
 have hlen:(Qb n L).length=L.length:=by simp [Qb]
 rw [hR,BL,hlen]
 refine Qx (n:=L.length) (.inl rfl) (by omega) (fun h=>by rw [h]) fun j hj=>?_
 rw [List.take_length,Nat.zero_add]
 exact (Xb (hqc _) _).sees _
def Cx (sg:Int) (l:List Rat):Rat:=Z0 sg (l.getD 0 0) (l.drop 1) (l.drop 1).length
def Dw (n:V2) (A B:List V2):Rat:=Cx (-1) (Qb n B) - Cx 1 (Qb n A)
theorem D6 (n:V2) (L:List V2) (k:Nat) (h:Q2 L k) (i:Nat):qb ((Qb n L).getD i 0)≤2*(vb n+k)+1:=by
 have h0:=h i
 have h1:=Ai n (L.getD i v0)
 have q0:=Aj
 by_cases hi:i<L.length
 ·have e:(Qb n L).getD i 0=XS n (L.getD i v0):=by
   unfold Qb
   rw [List.getD_eq_getElem?_getD,List.getElem?_map,List.getD_eq_getElem?_getD,List.getElem?_eq_getElem hi]; rfl
  rw [e]; omega
 ·have e:(Qb n L).getD i 0=0:=by
   rw [List.getD_eq_getElem?_getD,List.getElem?_eq_none (by simp [Qb]; omega)]; rfl
  rw [e]; omega
theorem AQ (l:List Rat) (i:Nat):(l.drop 1).getD i 0=l.getD (1+i) 0:=by
 rw [List.getD_eq_getElem?_getD,List.getD_eq_getElem?_getD,List.getElem?_drop]
theorem IB (sg:Int) (l:List Rat) (c:Nat) (h:∀ i,qb (l.getD i 0)≤c):qb (Cx sg l)≤c :=
 P1 _ _ _ _ (h 0) (fun k=>by rw [AQ]; exact h _) _
theorem Mr (l:List Rat) {n m:Nat} {t:Bool} (hn:n=l.length - 1) (hm:(l.length - 1)*4≤m):Weak (.sl n m (fun j=>Xs qC 4 0 l (4+j)) t) (qs (l.drop 1)):=by
 rw [BL]
 refine Aq (by rw [List.length_drop]; exact hn) (by rw [List.length_drop]; exact hm) fun j hj=>?_
 have e:Xs qC 4 0 l (4+j)=Xs qC 4 0 (l.drop 1) j:=by
  unfold Xs
  rw [AQ,show (4+j) / 4=1+j / 4 by omega,show (4+j) % 4=j % 4 by omega]
 rw [e]
 exact Weak.rfl' _
theorem rX (n:V2) (A B:List V2) (k:Nat) (ha:Q2 A k) (hb:Q2 B k) (hk:k≤10000) (la:A.length<1000000) (lb:B.length<1000000) (pa:0<A.length) (pb:0<B.length) (hn:vb n≤10000):Fn Tryz.prog 271 [vA n,Xp A,Xp B] (qA (Dw n A B)):=by
 have c1:=HO n A k ha (by omega) la (by omega)
 have c2:=HO n B k hb (by omega) lb (by omega)
 have qa:=D6 n A k ha
 have qb':=D6 n B k hb
 have hlA:(Qb n A).length=A.length:=by simp [Qb]
 have hlB:(Qb n B).length=B.length:=by simp [Qb]
 have c3:=CY (-1) ((Qb n B).getD 0 0) ((Qb n B).drop 1) (by rw [List.length_drop]; omega) (by have:=qb' 0; unfold vm; omega) (fun i=>by rw [AQ]; have:=qb' (1+i); unfold vm; omega)
 have c4:=CY 1 ((Qb n A).getD 0 0) ((Qb n A).drop 1) (by rw [List.length_drop]; omega) (by have:=qa 0; unfold vm; omega) (fun i=>by rw [AQ]; have:=qa (1+i); unfold vm; omega)
 have e1:=IB (-1) (Qb n B) _ qb'
 have e2:=IB 1 (Qb n A) _ qa
 have c5:=Pd (Cx (-1) (Qb n B)) (Cx 1 (Qb n A)) (by unfold rm; omega) (by unfold rm; omega)
 rw [show Z0 (-1) ((Qb n B).getD 0 0) ((Qb n B).drop 1) ((Qb n B).drop 1).length=Cx (-1) (Qb n B) from rfl] at c3
 rw [show Z0 1 ((Qb n A).getD 0 0) ((Qb n A).drop 1) ((Qb n A).drop 1).length=Cx 1 (Qb n A) from rfl] at c4
 rw [show Cx (-1) (Qb n B) - Cx 1 (Qb n A)=Dw n A B from rfl] at c5
 have v1:=w9 (Qb n A) 0
 have v2:=w9 (Qb n B) 0
 obtain ⟨R,hR⟩:∃ R,R=qA (Dw n A B):=⟨_,rfl⟩
 have sR:Settled R:=hR▸Xa _
 rw [← hR] at c5 ⊢
 generalize Qb n A=PA at *
 generalize Qb n B=PB at *
 simp only [Nat.zero_mul,Nat.zero_add] at v1 v2
 have f1:(0<PA.length)=True:=eq_true (by omega)
 have f2:(0<PB.length)=True:=eq_true (by omega)
 have f3:((0:Int)<PA.length)=True:=eq_true (by omega)
 have f4:((0:Int)<PB.length)=True:=eq_true (by omega)
 have f5:(4≤PA.length*4)=True:=eq_true (by omega)
 have f6:(4≤PB.length*4)=True:=eq_true (by omega)
 have f7:((1:Int)≤PA.length)=True:=eq_true (by omega)
 have f8:((1:Int)≤PB.length)=True:=eq_true (by omega)
 refine Fq Tryz.call271 Tryz.func271 9 [] [2] [] (by simp [Xk,Xc]) (Xl ?_)
 simp only [AS.start,X4,↓X1,wF,seval]
 refine X0 c1 rfl ?_
 simp only [↓X1,wF,seval]
 refine X0 c2 rfl ?_
 simp only [BL,v1,v2,f1,f2,f3,f4,f5,f6,f7,f8,Int.toNat_zero,Int.reduceLE,↓X1,wF,seval]
 refine XW c3 ⟨Weak.rfl' _,Weak.rfl' _,Mr PB (by omega) (by omega),trivial⟩ ?_
 simp only [BL,v1,v2,f1,f2,f3,f4,f5,f6,f7,f8,Int.toNat_zero,Int.reduceLE,↓X1,wF,seval]
 refine XW c4 ⟨Weak.rfl' _,Weak.rfl' _,Mr PA (by omega) (by omega),trivial⟩ ?_
 simp only [↓X1,wF,seval]
 refine X0 c5 rfl ?_
 simp only [hR,↓X1,wF,seval]
 exact JH rfl Qa rfl rfl rfl sR (hR.trans rfl)
def Bw (x:Rat):Rat:=if x<0 then -x else x
def KN (n:V2):Rat:=Bw n.x+Bw n.y
theorem EJ (x:Rat):qb (Bw x)=qb x:=by unfold Bw; split <;> simp [BK]
theorem Gv (x y:Rat):Qj x y=1↔y<x:=by
 rw [← JN]
 unfold Qj
 rw [Int.sign_eq_one_iff_pos,Int.sign_pos_iff]
theorem Su (x y:Rat):Qj x y = -1↔x<y:=by
 rw [← K7]
 unfold Qj
 rw [Int.sign_eq_neg_one_iff_neg,Int.sign_neg_iff]
theorem We (x:Rat):Z0 1 x [-x] 1=Bw x:=by
 show (if Qj (-x) x=1 then -x else x)=_
 unfold Bw
 by_cases h:x<0
 ·rw [if_pos h,if_pos ((Gv _ _).2 (by grind))]
 ·rw [if_neg h,if_neg fun hh=>h (by have:=(Gv _ _).1 hh; grind)]
theorem Tr (x:Rat) {t:Bool}:Weak (.sl 1 4 (Xn [.bool (decide (x.num<0)),X7 (X8 x.num.natAbs),.bool false,X7 (X8 (qd x))]) t) (qs [x]):=by
 rw [BL]
 refine Aq rfl (Nat.le_refl _) fun j hj=>?_
 match j,hj with
 | 0,_=>exact Weak.rfl' _
 | 1,_=>exact Weak.rfl' _
 | 2,_=>exact Weak.rfl' _
 | 3,_=>exact Weak.rfl' _
 | j+4,h=>exact absurd h (by show ¬ j+4<1*4; omega)
theorem NE (x:Rat) (c:Nat) (hc:1≤c) (h:qb x≤c) (k:Nat):qb (([x]:List Rat).getD k 0)≤c:=by
 have q0:=Aj
 match k with
 | 0=>exact h
 | k+1=>show qb 0≤c; omega
theorem oV (n:V2) (hn:vb n≤100000):Fn Tryz.prog 287 [vA n] (qA (KN n)):=by
 have:=Qv n; have:=Qm n
 have n1:=Cf n.x
 have n2:=Cf n.y
 have a1:=EJ n.x; have a2:=EJ n.y
 have c1:=CY 1 n.x [-n.x] (by simp) (by unfold vm; omega) (NE _ _ (by unfold vm; omega) (by rw [BK]; unfold vm; omega))
 have c2:=CY 1 n.y [-n.y] (by simp) (by unfold vm; omega) (NE _ _ (by unfold vm; omega) (by rw [BK]; unfold vm; omega))
 rw [show ([-n.x]:List Rat).length=1 from rfl,We] at c1
 rw [show ([-n.y]:List Rat).length=1 from rfl,We] at c2
 have c3:=Bl (Bw n.x) (Bw n.y) (by unfold rm; omega) (by unfold rm; omega)
 rw [show Bw n.x+Bw n.y=KN n from rfl] at c3
 obtain ⟨R,hR⟩:∃ R,R=qA (KN n):=⟨_,rfl⟩
 have sR:Settled R:=hR▸Xa _
 rw [← hR] at c3 ⊢
 refine Fr Tryz.call287 Tryz.func287 3 [] [1,20000001] [] ?_; simp (maxSteps:=999999) only [AS.start,↓X1,wF,seval]
 refine X0 n1 rfl ?_
 simp only [↓X1,wF,seval]
 refine XW c1 ⟨Weak.rfl' _,Weak.rfl' _,Tr _,trivial⟩ ?_
 simp only [↓X1,wF,seval]
 refine X0 n2 rfl ?_
 simp only [↓X1,wF,seval]
 refine XW c2 ⟨Weak.rfl' _,Weak.rfl' _,Tr _,trivial⟩ ?_
 simp only [↓X1,wF,seval]
 refine X0 c3 rfl ?_
 simp only [hR,↓X1,wF,seval]
 exact JH rfl Qa rfl rfl rfl sR (hR.trans rfl)
theorem ID (n:V2):qb (KN n)≤2*vb n+1:=by
 have:=Qv n; have:=Qm n
 have a1:=EJ n.x; have a2:=EJ n.y
 have:=K2 (Bw n.x) (Bw n.y)
 unfold KN; omega
theorem oL (n:V2) (e:Rat) (hn:vb n≤100000) (he:qb e≤100000):Fn Tryz.prog 272 [vA n,qA e] (qA (e*KN n)):=by
 have q:=ID n
 have c1:=oV n hn
 have c2:=KH e (KN n) (by unfold rm; omega) (by unfold rm; omega)
 obtain ⟨R,hR⟩:∃ R,R=qA (e*KN n):=⟨_,rfl⟩
 have sR:Settled R:=hR▸Xa _
 rw [← hR] at c2 ⊢
 refine Fr Tryz.call272 Tryz.func272 5 [] [] [] ?_; simp (maxSteps:=999999) only [AS.start,↓X1,wF,seval]
 refine X0 c1 rfl ?_
 simp only [↓X1,wF,seval]
 refine X0 c2 rfl ?_
 simp only [hR,↓X1,wF,seval]
 exact JH rfl Qa rfl rfl rfl sR (hR.trans rfl)
def LI (p q:V2):V2:=⟨(q.sub p).y,-(q.sub p).x⟩
theorem Vz (p q:V2):vb (LI p q)≤vb p+vb q+1:=by
 have:=Km q p
 have:=Qv (q.sub p); have:=Qm (q.sub p)
 have:=BK (q.sub p).x
 unfold LI
 show max (qb (q.sub p).y) (qb (-(q.sub p).x))≤_
 omega
theorem IZ (p q:V2) (hp:vb p≤100000) (hq:vb q≤100000):Fn Tryz.prog 270 [vA p,vA q] (vA (LI p q)):=by
 have c1:=D7 q p (by unfold rm; omega) (by unfold rm; omega)
 have c2:=Cf (q.sub p).x
 obtain ⟨R,hR⟩:∃ R,R=vA (LI p q):=⟨_,rfl⟩
 have sR:Settled R:=hR▸Xk _
 rw [← hR]
 refine Fr Tryz.call270 Tryz.func270 6 [] [] [] ?_; simp (maxSteps:=999999) only [AS.start,↓X1,wF,seval]
 refine X0 c1 rfl ?_
 simp only [↓X1,wF,seval]
 refine X0 c2 rfl ?_
 simp only [↓X1,wF,seval]
 exact Zm rfl Ju rfl rfl rfl sR (hR.trans rfl)
def FE (n:V2) (A B:List V2) (e:Rat):Prop:=e*KN n≤Dw n A B
theorem Nq (n:V2) (A B:List V2) (k:Nat) (ha:Q2 A k) (hb:Q2 B k):qb (Dw n A B)≤4*(vb n+k)+3:=by
 have e1:=IB (-1) (Qb n B) _ (D6 n B k hb)
 have e2:=IB 1 (Qb n A) _ (D6 n A k ha)
 have:=FA (Cx (-1) (Qb n B)) (Cx 1 (Qb n A))
 unfold Dw; omega
theorem Pf (n:V2) (A B:List V2) (e:Rat) (k:Nat) (ha:Q2 A k) (hb:Q2 B k) (hk:k≤10000) (la:A.length<1000000) (lb:B.length<1000000) (pa:0<A.length) (pb:0<B.length) (hn:vb n≤10000) (he:qb e≤10000):Fn Tryz.prog 262 [vA n,Xp A,Xp B,qA e] (.bool (decide (FE n A B e))):=by
 have c1:=rX n A B k ha hb hk la lb pa pb hn
 have c2:=oL n e (by omega) (by omega)
 have q1:=Nq n A B k ha hb
 have q2:=ID n
 have q3:=Qz e (KN n)
 have c3:=KA (Dw n A B) (e*KN n) (by unfold rm; omega) (by unfold rm; omega)
 have hd:decide (FE n A B e)=decide (0≤Qj (Dw n A B) (e*KN n)):=decide_eq_decide.2 (P3 _ _).symm
 rw [hd]
 refine Fq Tryz.call262 Tryz.func262 9 [] [] [] (by simp [Xk,Xc,Xa]) (Xl ?_)
 simp only [AS.start,X4,↓X1,wF,seval]
 refine X0 c1 rfl ?_
 simp only [↓X1,wF,seval]
 refine X0 c2 rfl ?_
 simp only [↓X1,wF,seval]
 refine X0 c3 rfl ?_
 simp only [↓X1,wF,seval]
 exact Xt rfl rfl (X2 _) rfl
theorem SP (x:Rat) (h:qb x≤vm):Fn Tryz.prog 298 [qA x] (qA (Bw x)):=by
 unfold vm at h
 have c1:=B5 x (by unfold rm; omega)
 have c2:=KE x (by unfold rm; omega)
 obtain ⟨R,hR⟩:∃ R,R=qA (Bw x):=⟨_,rfl⟩
 have sR:Settled R:=hR▸Xa _
 rw [← hR]
 refine Fr Tryz.call298 Tryz.func298 3 [] [] [] ?_; simp (maxSteps:=999999) only [AS.start,↓X1,wF,seval]
 refine X0 c1 rfl ?_
 by_cases h0:x<0
 ·have f1:(x.num.sign<0)=True:=eq_true ((IJ _).2 h0)
  have e:Bw x = -x:=if_pos h0
  rw [e] at hR
  simp only [f1,↓X1,wF,seval]
  refine X0 c2 rfl ?_
  simp only [↓X1,wF,seval]
  exact JH rfl Qa rfl rfl rfl sR (hR.trans rfl)
 ·have f1:(x.num.sign<0)=False:=eq_false fun hh=>h0 ((IJ _).1 hh)
  have e:Bw x=x:=if_neg h0
  rw [e] at hR
  simp only [f1,↓X1,wF,seval]
  exact JH rfl Qa rfl rfl rfl sR (hR.trans rfl)
theorem jN (n:V2) (hn:vb n≤100000):Fn Tryz.prog 294 [vA n] (qA (KN n)):=by
 have:=Qv n; have:=Qm n
 have a1:=EJ n.x; have a2:=EJ n.y
 have c1:=SP n.x (by unfold vm; omega)
 have c2:=SP n.y (by unfold vm; omega)
 have c3:=JG (Bw n.x) (Bw n.y) (by unfold rm; omega) (by unfold rm; omega)
 rw [show Bw n.x+Bw n.y=KN n from rfl] at c3
 obtain ⟨R,hR⟩:∃ R,R=qA (KN n):=⟨_,rfl⟩
 have sR:Settled R:=hR▸Xa _
 rw [← hR] at c3 ⊢
 refine Fr Tryz.call294 Tryz.func294 3 [] [] [] ?_; simp (maxSteps:=999999) only [AS.start,↓X1,wF,seval]
 refine X0 c1 rfl ?_
 simp only [↓X1,wF,seval]
 refine X0 c2 rfl ?_
 simp only [↓X1,wF,seval]
 refine X0 c3 rfl ?_
 simp only [hR,↓X1,wF,seval]
 exact JH rfl Qa rfl rfl rfl sR (hR.trans rfl)
theorem jL (n:V2) (e:Rat) (hn:vb n≤100000) (he:qb e≤100000):Fn Tryz.prog 284 [vA n,qA e] (qA (e*KN n)):=by
 have q:=ID n
 have c1:=jN n hn
 have c2:=QY (KN n) e (by unfold rm; omega) (by unfold rm; omega)
 rw [Rat.mul_comm] at c2
 obtain ⟨R,hR⟩:∃ R,R=qA (e*KN n):=⟨_,rfl⟩
 have sR:Settled R:=hR▸Xa _
 rw [← hR] at c2 ⊢
 refine Fr Tryz.call284 Tryz.func284 5 [] [] [] ?_; simp (maxSteps:=999999) only [AS.start,↓X1,wF,seval]
 refine X0 c1 rfl ?_
 simp only [↓X1,wF,seval]
 refine X0 c2 rfl ?_
 simp only [hR,↓X1,wF,seval]
 exact JH rfl Qa rfl rfl rfl sR (hR.trans rfl)
theorem M5 (p q:V2) (hp:vb p≤100000) (hq:vb q≤100000):Fn Tryz.prog 281 [vA p,vA q] (vA (LI p q)):=by
 have:=Qv p; have:=Qm p; have:=Qv q; have:=Qm q
 have c1:=ZT q.y p.y (by unfold rm; omega) (by unfold rm; omega)
 have c2:=ZT p.x q.x (by unfold rm; omega) (by unfold rm; omega)
 have e:LI p q=⟨q.y - p.y,p.x - q.x⟩:=by
  unfold LI V2.sub
  rw [V2.ext']
  exact ⟨rfl,by simp only; grind⟩
 rw [e]
 obtain ⟨R,hR⟩:∃ R,R=vA ⟨q.y - p.y,p.x - q.x⟩:=⟨_,rfl⟩
 have sR:Settled R:=hR▸Xk _
 rw [← hR]
 refine Fr Tryz.call281 Tryz.func281 5 [] [] [] ?_; simp (maxSteps:=999999) only [AS.start,↓X1,wF,seval]
 refine X0 c1 rfl ?_
 simp only [↓X1,wF,seval]
 refine X0 c2 rfl ?_
 simp only [↓X1,wF,seval]
 exact Zm rfl Ju rfl rfl rfl sR (hR.trans rfl)
theorem Pb (a:V2) (ha:vb a≤vm):Fn Tryz.prog 282 [vA a] (vA (Jb a)):=by
 unfold vm at ha
 have:=Qv a; have:=Qm a
 have c1:=KE a.x (by unfold rm; omega)
 have c2:=KE a.y (by unfold rm; omega)
 obtain ⟨R,hR⟩:∃ R,R=vA (Jb a):=⟨_,rfl⟩
 have sR:Settled R:=hR▸Xk _
 rw [← hR]
 refine Fr Tryz.call282 Tryz.func282 3 [] [] [] ?_; simp (maxSteps:=999999) only [AS.start,↓X1,wF,seval]
 refine X0 c1 rfl ?_
 simp only [↓X1,wF,seval]
 refine X0 c2 rfl ?_
 simp only [↓X1,wF,seval]
 exact Zm rfl Ju rfl rfl rfl sR (hR.trans rfl)
theorem Rp (x:Rat) (l:List Rat):∀ k,(Z0 (-1) x l k≤x∧∀ j,j<k→Z0 (-1) x l k≤l.getD j 0)∧(Z0 (-1) x l k=x∨∃ j,j<k∧Z0 (-1) x l k=l.getD j 0)
 | 0=>⟨⟨Rat.le_refl,fun j hj=>absurd hj (Nat.not_lt_zero j)⟩,.inl rfl⟩
 | k+1=>by
  have ih:=Rp x l k
  simp only [Z0]
  by_cases h:Qj (l.getD k 0) (Z0 (-1) x l k) = -1
  ·rw [if_pos h]
   have h1:=(Su _ _).1 h
   exact ⟨⟨Rat.le_trans (Rat.le_of_lt h1) ih.1.1,fun j hj=>by
    by_cases e:j=k
    ·rw [e]; exact Rat.le_refl
    ·exact Rat.le_trans (Rat.le_of_lt h1) (ih.1.2 j (by omega))⟩,.inr ⟨k,by omega,rfl⟩⟩
  ·rw [if_neg h]
   have h1:Z0 (-1) x l k≤l.getD k 0:=by rw [← Rat.not_lt]; exact fun hh=>h ((Su _ _).2 hh)
   refine ⟨⟨ih.1.1,fun j hj=>?_⟩,?_⟩
   ·by_cases e:j=k
    ·rw [e]; exact h1
    ·exact ih.1.2 j (by omega)
   ·rcases ih.2 with h2 | ⟨j,hj,h2⟩
    ·exact .inl h2
    ·exact .inr ⟨j,by omega,h2⟩
theorem Ro (x:Rat) (l:List Rat):∀ k,(x≤Z0 1 x l k∧∀ j,j<k→l.getD j 0≤Z0 1 x l k)∧(Z0 1 x l k=x∨∃ j,j<k∧Z0 1 x l k=l.getD j 0)
 | 0=>⟨⟨Rat.le_refl,fun j hj=>absurd hj (Nat.not_lt_zero j)⟩,.inl rfl⟩
 | k+1=>by
  have ih:=Ro x l k
  simp only [Z0]
  by_cases h:Qj (l.getD k 0) (Z0 1 x l k)=1
  ·rw [if_pos h]
   have h1:=(Gv _ _).1 h
   exact ⟨⟨Rat.le_trans ih.1.1 (Rat.le_of_lt h1),fun j hj=>by
    by_cases e:j=k
    ·rw [e]; exact Rat.le_refl
    ·exact Rat.le_trans (ih.1.2 j (by omega)) (Rat.le_of_lt h1)⟩,.inr ⟨k,by omega,rfl⟩⟩
  ·rw [if_neg h]
   have h1:l.getD k 0≤Z0 1 x l k:=by rw [← Rat.not_lt]; exact fun hh=>h ((Gv _ _).2 hh)
   refine ⟨⟨ih.1.1,fun j hj=>?_⟩,?_⟩
   ·by_cases e:j=k
    ·rw [e]; exact h1
    ·exact ih.1.2 j (by omega)
   ·rcases ih.2 with h2 | ⟨j,hj,h2⟩
    ·exact .inl h2
    ·exact .inr ⟨j,by omega,h2⟩
theorem gS (l:List Rat) (h:0<l.length):(∀ j,j<l.length→Cx (-1) l≤l.getD j 0)∧∃ j,j<l.length∧Cx (-1) l=l.getD j 0:=by
 have hm:=Rp (l.getD 0 0) (l.drop 1) (l.drop 1).length
 rw [show Z0 (-1) (l.getD 0 0) (l.drop 1) (l.drop 1).length=Cx (-1) l from rfl,List.length_drop] at hm
 refine ⟨fun j hj=>?_,?_⟩
 ·cases j with
  | zero=>exact hm.1.1
  | succ j=>have:=hm.1.2 j (by omega); rwa [AQ,Nat.add_comm] at this
 ·rcases hm.2 with h2 | ⟨j,hj,h2⟩
  ·exact ⟨0,h,h2⟩
  ·exact ⟨1+j,by omega,by rw [h2,AQ]⟩
theorem gR (l:List Rat) (h:0<l.length):(∀ j,j<l.length→l.getD j 0≤Cx 1 l)∧∃ j,j<l.length∧Cx 1 l=l.getD j 0:=by
 have hm:=Ro (l.getD 0 0) (l.drop 1) (l.drop 1).length
 rw [show Z0 1 (l.getD 0 0) (l.drop 1) (l.drop 1).length=Cx 1 l from rfl,List.length_drop] at hm
 refine ⟨fun j hj=>?_,?_⟩
 ·cases j with
  | zero=>exact hm.1.1
  | succ j=>have:=hm.1.2 j (by omega); rwa [AQ,Nat.add_comm] at this
 ·rcases hm.2 with h2 | ⟨j,hj,h2⟩
  ·exact ⟨0,h,h2⟩
  ·exact ⟨1+j,by omega,by rw [h2,AQ]⟩
def Rg (n:V2) (A B:List V2) (i k:Nat):Rat:=XS n ((B.getD k v0).sub (A.getD i v0))
theorem rD (n:V2) (A B:List V2) (i k:Nat):Rg n A B i k=XS n (B.getD k v0) - XS n (A.getD i v0):=by unfold Rg XS V2.sub; grind
theorem Gs (n:V2) (L:List V2) (i:Nat) (h:i<L.length):(Qb n L).getD i 0=XS n (L.getD i v0):=by
 unfold Qb
 rw [List.getD_eq_getElem?_getD,List.getElem?_map,List.getD_eq_getElem?_getD,List.getElem?_eq_getElem h]; rfl
theorem ip (n:V2) (A B:List V2) (pa:0<A.length) (pb:0<B.length) (g:Rat) (h1:∃ i k,i<A.length∧k<B.length∧g=Rg n A B i k) (h2:∀ i k,i<A.length→k<B.length→g≤Rg n A B i k):g=Dw n A B:=by
 have lA:(Qb n A).length=A.length:=by simp [Qb]
 have lB:(Qb n B).length=B.length:=by simp [Qb]
 obtain ⟨u1,j,hj,u2⟩:=gS (Qb n B) (by omega)
 obtain ⟨w1,m,hm,w2⟩:=gR (Qb n A) (by omega)
 obtain ⟨i,k,hi,hk,e⟩:=h1
 rw [lA] at hm; rw [lB] at hj
 have a1:=u1 k (by omega)
 have a2:=w1 i (by omega)
 have a3:=h2 m j hm hj
 rw [Gs _ _ _ hk] at a1
 rw [Gs _ _ _ hi] at a2
 rw [Gs _ _ _ hj] at u2
 rw [Gs _ _ _ hm] at w2
 rw [rD] at e a3
 unfold Dw
 apply Rat.le_antisymm <;> grind
theorem Ng (n:V2) (A B:List V2) (k:Nat) (ha:Q2 A k) (hb:Q2 B k) (i j:Nat):qb (Rg n A B i j)≤2*(vb n+2*k+1)+1:=by
 have:=Km (B.getD j v0) (A.getD i v0)
 have:=ha i; have:=hb j
 have:=Ai n ((B.getD j v0).sub (A.getD i v0))
 unfold Rg; omega
theorem oK (n:V2) (A B:List V2) (c:Nat) (ha:Q2 A c) (hb:Q2 B c) (hk:c≤10000) (la:A.length<1000000) (lb:B.length<1000000) (pa:0<A.length) (pb:0<B.length) (hn:vb n≤10000):Fn Tryz.prog 283 [vA n,Xp A,Xp B] (qA (Dw n A B)):=by
 have hvc:∀ a:V2,∀ x∈vC a,Settled x:=fun a=>by simp [vC,X6,X2]
 have hqc:∀ r:Rat,∀ x∈qC r,Settled x:=fun r=>by simp [qC,X6,X2]
 have bn:XI 3 (.con 0 8 (Xn (vC n)))=True:=eq_true (fun j _=>X5 (Xb (hvc n) j))
 have bq:∀ r,XI 3 (.row 0 4 (Xn (qC r)))=True:=fun r=>eq_true (XD (hqc r))
 have bz:XI 3 (.row 0 4 (Xn Bf))=True:=eq_true (by simp [Bf,XA])
 have bA:JO 3 (Xp A)=True:=eq_true (X5 (Xc A))
 have bB:JO 3 (Xp B)=True:=eq_true (X5 (Xc B))
 have step:∀ i k,i<A.length→k<B.length→Fn Tryz.prog 104 [vA (B.getD k v0),vA (A.getD i v0)] (vA ((B.getD k v0).sub (A.getD i v0)))∧Fn Tryz.prog 193 [vA n,vA ((B.getD k v0).sub (A.getD i v0))] (qA (Rg n A B i k)):=fun i k hi hk'=>by
  have:=ha i; have:=hb k
  have m:=Km (B.getD k v0) (A.getD i v0)
  exact ⟨JW _ _ (by unfold rm; omega) (by unfold rm; omega),Z8 _ _ (by unfold vm; omega) (by unfold vm; omega)⟩
 obtain ⟨d1,d2⟩:=step 0 0 pa pb
 have v1:=vF A 0
 have v2:=vF B 0
 simp only [Nat.zero_mul,Nat.zero_add] at v1 v2
 have f1:(0<A.length)=True:=eq_true pa
 have f2:(0<B.length)=True:=eq_true pb
 have f3:((0:Int)<A.length)=True:=eq_true (by omega)
 have f4:((0:Int)<B.length)=True:=eq_true (by omega)
 have f5:(8≤A.length*8)=True:=eq_true (by omega)
 have f6:(8≤B.length*8)=True:=eq_true (by omega)
 obtain ⟨R,hR⟩:∃ R,R=qA (Dw n A B):=⟨_,rfl⟩
 have sR:Settled R:=hR▸Xa _
 rw [← hR]
 refine Fq Tryz.call283 Tryz.func283 11 [] [1,20000003,8,90000003] [] (by simp [Xk,Xc]) (Xl ?_)
 simp only [AS.start,X4,f1,f2,f3,f4,f5,f6,v1,v2,Int.toNat_zero,Int.reduceLE,↓X1,wF,seval]
 refine X0 d1 rfl ?_
 simp only [↓X1,wF,seval]
 refine X0 d2 rfl ?_
 simp only [↓X1,wF,seval]
 refine Xe (fun p:Nat×Rat=>⟨11,[],[.any,Xp A,Xp B,.ref 0 0 0,.any,.any,.ref 1 0 0,.ref 2 0 0,I p.1,.any,.any],[],[.con 0 8 (Xn (vC n)),.row 0 4 (Xn Bf),.row 0 4 (Xn (qC p.2))]⟩) (fun p=>p.1≤A.length∧(∃ i k,i<A.length∧k<B.length∧p.2=Rg n A B i k)∧∀ i k,i<p.1→k<B.length→p.2≤Rg n A B i k) (fun p=>A.length - p.1) (0,Rg n A B 0 0) ⟨by omega,⟨0,0,pa,pb,rfl⟩,fun i k hi=>absurd hi (Nat.not_lt_zero i)⟩
  (Jm (by simp [Xf,X4,I]) (by simp [vC,qC,Bf,X3])) ?_
 rintro ⟨i,g⟩ ⟨hi,hat,hle⟩ next
 simp only at hi hat hle
 have w1:=wj i (by omega)
 by_cases hi2:i<A.length
 rotate_left
 ·obtain rfl:i=A.length:=by omega
  rw [← ip n A B pa pb g hat (fun i k h1 h2=>hle i k h1 h2)] at hR
  refine Xl ?_
  simp only [X4,Bf,Int.lt_irrefl,Nat.lt_irrefl,↓X1,wF,seval]
  exact JH rfl Qa rfl rfl rfl sR (hR.trans rfl)
 have g1:((i:Int)<A.length)=True:=eq_true (by omega)
 have g2:(i<A.length)=True:=eq_true hi2
 have g3:(i*8+8≤A.length*8)=True:=eq_true (by omega)
 refine Xl ?_
 simp only [X4,w1,g1,g2,↓X1,wF,seval]
 refine Xe (fun p:Nat×Rat=>⟨11,[],[.any,Xp A,Xp B,.ref 0 0 0,.any,.any,.ref 1 0 0,.ref 2 0 0,I i,I p.1,.any],[],[.con 0 8 (Xn (vC n)),.row 0 4 (Xn Bf),.row 0 4 (Xn (qC p.2))]⟩) (fun p=>p.1≤B.length∧(∃ i k,i<A.length∧k<B.length∧p.2=Rg n A B i k)∧(∀ i' k,i'<i→k<B.length→p.2≤Rg n A B i' k)∧∀ k,k<p.1→p.2≤Rg n A B i k) (fun p=>B.length - p.1) (0,g) ⟨by omega,hat,hle,fun k hk=>absurd hk (Nat.not_lt_zero k)⟩
  (Jm (by simp [Xf,X4,I]) (by simp [vC,qC,X3])) ?_
 rintro ⟨k,q⟩ ⟨hk1,qat,qle,qrow⟩ nextk
 simp only at hk1 qat qle qrow
 have u1:=wj k (by omega)
 by_cases hk2:k<B.length
 rotate_left
 ·obtain rfl:k=B.length:=by omega
  refine Xl ?_
  simp only [X4,w1,Int.lt_irrefl,Nat.lt_irrefl,↓X1,wF,seval]
  refine next (i+1,q) _ ⟨by simp only; omega,qat,fun i' k' h1 h2=>?_⟩ (by simp only; omega) (Jm (by simp [Xf,X4,I]) (by simp [vC,qC,X3]))
  by_cases e:i'=i
  ·rw [e]; exact qrow k' h2
  ·exact qle i' k' (by simp only at h1; omega) h2
 have h1:((k:Int)<B.length)=True:=eq_true (by omega)
 have h2:(k<B.length)=True:=eq_true hk2
 have h3:(k*8+8≤B.length*8)=True:=eq_true (by omega)
 have x1:=vF A i
 have x2:=vF B k
 obtain ⟨s1,s2⟩:=step i k hi2 hk2
 have hd:=Ng n A B c ha hb i k
 have hq:qb q≤2*(vb n+2*c+1)+1:=by
  obtain ⟨a,b,_,_,e⟩:=qat
  rw [e]; exact Ng n A B c ha hb a b
 have s3:=J6 (Rg n A B i k) q (by unfold rm; omega) (by unfold rm; omega)
 have hnew:(∃ i k,i<A.length∧k<B.length∧Rg n A B i k=Rg n A B i k):=⟨i,k,hi2,hk2,rfl⟩
 obtain ⟨D,hD⟩:∃ D,D=Rg n A B i k:=⟨_,rfl⟩
 rw [← hD] at s2 s3
 refine Xl ?_
 simp only [X4,w1,u1,g1,g2,g3,h1,h2,h3,x1,x2,Int.toNat_natCast,↓X1,wF,seval]
 refine X0 s1 rfl ?_
 simp only [X4,w1,u1,g1,g2,g3,h1,h2,h3,x1,x2,Int.toNat_natCast,↓X1,wF,seval]
 refine X0 s2 rfl ?_
 simp only [X4,w1,u1,g1,g2,g3,h1,h2,h3,x1,x2,Int.toNat_natCast,↓X1,wF,seval]
 refine X0 s3 rfl ?_
 by_cases hc:D<q
 ·have f:(Qj D q<0)=True:=eq_true ((K7 _ _).2 hc)
  simp only [f,u1,↓X1,wF,seval]
  refine nextk (k+1,D) _ ⟨by simp only; omega,⟨i,k,hi2,hk2,hD⟩,fun i' k' a b=>Rat.le_trans (Rat.le_of_lt hc) (qle i' k' a b),fun k' a=>?_⟩ (by simp only; omega) (dK (m:=3) (by simp [X4,Xf,I]) (by simp [vC,qC,X3]) (by simp [XA,bA,bB]) (by simp [bn,bq,bz]))
  by_cases e:k'=k
  ·rw [e,← hD]; exact Rat.le_refl
  ·exact Rat.le_trans (Rat.le_of_lt hc) (qrow k' (by simp only at a; omega))
 ·have f:(Qj D q<0)=False:=eq_false fun hh=>hc ((K7 _ _).1 hh)
  simp only [f,u1,↓X1,wF,seval]
  refine nextk (k+1,q) _ ⟨by simp only; omega,qat,qle,fun k' a=>?_⟩ (by simp only; omega) (dK (m:=3) (by simp [X4,Xf,I]) (by simp [vC,qC,X3]) (by simp [XA,bA,bB]) (by simp [bn,bq,bz]))
  by_cases e:k'=k
  ·rw [e,← hD]; exact Rat.not_lt.1 hc
  ·exact qrow k' (by simp only at a; omega)
theorem MT (n:V2) (A B:List V2) (e:Rat) (k:Nat) (ha:Q2 A k) (hb:Q2 B k) (hk:k≤10000) (la:A.length<1000000) (lb:B.length<1000000) (pa:0<A.length) (pb:0<B.length) (hn:vb n≤10000) (he:qb e≤10000):Fn Tryz.prog 266 [vA n,Xp A,Xp B,qA e] (.bool (decide (FE n A B e))):=by
 have c1:=oK n A B k ha hb hk la lb pa pb hn
 have c2:=jL n e (by omega) (by omega)
 have q1:=Nq n A B k ha hb
 have q2:=ID n
 have q3:=Qz e (KN n)
 have c3:=J6 (Dw n A B) (e*KN n) (by unfold rm; omega) (by unfold rm; omega)
 have hd:decide (FE n A B e)=decide (0≤Qj (Dw n A B) (e*KN n)):=decide_eq_decide.2 (P3 _ _).symm
 rw [hd]
 refine Fq Tryz.call266 Tryz.func266 9 [] [] [] (by simp [Xk,Xc,Xa]) (Xl ?_)
 simp only [AS.start,X4,↓X1,wF,seval]
 refine X0 c1 rfl ?_
 simp only [↓X1,wF,seval]
 refine X0 c2 rfl ?_
 simp only [↓X1,wF,seval]
 refine X0 c3 rfl ?_
 simp only [↓X1,wF,seval]
 exact Xt rfl rfl (X2 _) rfl
def dA (A:List V2) (i:Nat):V2:=LI (A.getD i v0) (A.getD ((i+1) % A.length) v0)
def dB (B:List V2) (i:Nat):V2:=LI (B.getD ((i+1) % B.length) v0) (B.getD i v0)
def GS (A:List V2) (i:Nat):List V2:=(List.range i).map (dA A)
def In (B:List V2) (i:Nat):List V2:=(List.range i).map (dB B)
def Z3 (A B:List V2):List V2:=(GS A A.length ++ In B B.length) ++ [Jv (1,0),Jv (0,1),Jv (-1,0),Jv (0,-1)]
theorem Rb (A:List V2) (i:Nat):GS A (i+1)=GS A i ++ [dA A i]:=by unfold GS; rw [List.range_succ,List.map_append]; rfl
theorem Rd (B:List V2) (i:Nat):In B (i+1)=In B i ++ [dB B i]:=by unfold In; rw [List.range_succ,List.map_append]; rfl
theorem C5 (A:List V2) (i:Nat):(GS A i).length=i:=by simp [GS]
theorem Ep (B:List V2) (i:Nat):(In B i).length=i:=by simp [In]
theorem nX (p q:V2):Jb (LI p q)=LI q p:=by
 unfold Jb LI V2.sub
 rw [V2.ext']
 exact ⟨by simp only; grind,by simp only; grind⟩
theorem tT (L:List V2) (a b c d:V2) (j:Nat) (hj:j<(L.length+4)*8):QR (L.length*8) (Xs vC 8 v0 L) 32 (Xn (vC a ++ (vC b ++ (vC c ++ vC d)))) j=Xs vC 8 v0 (L ++ [a,b,c,d]) j:=by
 unfold QR
 by_cases h:j<L.length*8
 ·rw [if_pos h]
  unfold Xs
  have:j / 8<L.length:=by omega
  have e:(L ++ [a,b,c,d]).getD (j / 8) v0=L.getD (j / 8) v0:=by rw [List.getD_eq_getElem?_getD,List.getD_eq_getElem?_getD,List.getElem?_append_left this]
  rw [e]
 ·rw [if_neg h,if_pos (by omega)]
  obtain ⟨i,rfl⟩:∃ i,j=L.length*8+i:=⟨j - L.length*8,by omega⟩
  have hi:i<32:=by omega
  have e1:L.length*8+i - L.length*8=i:=by omega
  have e2:(L.length*8+i) / 8=L.length+i / 8:=by omega
  have e3:(L.length*8+i) % 8=i % 8:=by omega
  unfold Xs
  rw [e1,e2,e3]
  have e4:(L ++ [a,b,c,d]).getD (L.length+i / 8) v0=[a,b,c,d].getD (i / 8) v0:=by
   rw [List.getD_eq_getElem?_getD,List.getD_eq_getElem?_getD,List.getElem?_append_right (by omega)]
   rw [show L.length+i / 8 - L.length=i / 8 by omega]
  rw [e4]
  clear e1 e2 e3 e4 hj h
  match i,hi with
  | 0,_=>rfl
  | 1,_=>rfl
  | 2,_=>rfl
  | 3,_=>rfl
  | 4,_=>rfl
  | 5,_=>rfl
  | 6,_=>rfl
  | 7,_=>rfl
  | 8,_=>rfl
  | 9,_=>rfl
  | 10,_=>rfl
  | 11,_=>rfl
  | 12,_=>rfl
  | 13,_=>rfl
  | 14,_=>rfl
  | 15,_=>rfl
  | 16,_=>rfl
  | 17,_=>rfl
  | 18,_=>rfl
  | 19,_=>rfl
  | 20,_=>rfl
  | 21,_=>rfl
  | 22,_=>rfl
  | 23,_=>rfl
  | 24,_=>rfl
  | 25,_=>rfl
  | 26,_=>rfl
  | 27,_=>rfl
  | 28,_=>rfl
  | 29,_=>rfl
  | 30,_=>rfl
  | 31,_=>rfl
  | i+32,h=>omega
theorem Lj (A B:List V2) (k:Nat) (ha:Q2 A k) (hb:Q2 B k) (hk:1≤k):∀ x∈Z3 A B,vb x≤2*k+3:=by
 intro x hx
 have p4:∀ c:Int×Int,-1≤c.1∧c.1≤1→-1≤c.2∧c.2≤1→vb (Jv c)≤3:=fun c h1 h2=>by
  have q1:=Z7 c.1 3 (by omega) (Qy ⟨by omega,by omega⟩)
  have q2:=Z7 c.2 3 (by omega) (Qy ⟨by omega,by omega⟩)
  unfold vb Jv; simp only; omega
 unfold Z3 at hx
 rcases List.mem_append.1 hx with h | h
 ·rcases List.mem_append.1 h with h | h
  ·obtain ⟨i,_,rfl⟩:=List.mem_map.1 h
   have:=Vz (A.getD i v0) (A.getD ((i+1) % A.length) v0)
   have:=ha i; have:=ha ((i+1) % A.length)
   unfold dA; omega
  ·obtain ⟨i,_,rfl⟩:=List.mem_map.1 h
   have:=Vz (B.getD ((i+1) % B.length) v0) (B.getD i v0)
   have:=hb i; have:=hb ((i+1) % B.length)
   unfold dB; omega
 ·simp only [List.mem_cons,List.not_mem_nil,or_false] at h
  rcases h with rfl | rfl | rfl | rfl
  ·exact Nat.le_trans (p4 _ (by decide) (by decide)) (by omega)
  ·exact Nat.le_trans (p4 _ (by decide) (by decide)) (by omega)
  ·exact Nat.le_trans (p4 _ (by decide) (by decide)) (by omega)
  ·exact Nat.le_trans (p4 _ (by decide) (by decide)) (by omega)
theorem uP (a b c d:V2):∀ j,j<32→((vC a ++ (vC b ++ (vC c ++ vC d))).getD j .any).one=true:=fun j hj=>by
 match j,hj with
 | 0,_=>rfl
 | 1,_=>rfl
 | 2,_=>rfl
 | 3,_=>rfl
 | 4,_=>rfl
 | 5,_=>rfl
 | 6,_=>rfl
 | 7,_=>rfl
 | 8,_=>rfl
 | 9,_=>rfl
 | 10,_=>rfl
 | 11,_=>rfl
 | 12,_=>rfl
 | 13,_=>rfl
 | 14,_=>rfl
 | 15,_=>rfl
 | 16,_=>rfl
 | 17,_=>rfl
 | 18,_=>rfl
 | 19,_=>rfl
 | 20,_=>rfl
 | 21,_=>rfl
 | 22,_=>rfl
 | 23,_=>rfl
 | 24,_=>rfl
 | 25,_=>rfl
 | 26,_=>rfl
 | 27,_=>rfl
 | 28,_=>rfl
 | 29,_=>rfl
 | 30,_=>rfl
 | 31,_=>rfl
 | j+32,h=>omega
theorem eW (A B:List V2) (c:Nat) (ha:Q2 A c) (hb:Q2 B c) (hc:c≤10000) (la:A.length<100000) (lb:B.length<100000):Fn Tryz.prog 261 [Xp A,Xp B] (Xp (Z3 A B)):=by
 have hvc:∀ a:V2,∀ x∈vC a,Settled x:=fun a=>by simp [vC,X6,X2]
 have bA:JO 1 (Xp A)=True:=eq_true (X5 (Xc A))
 have bB:JO 1 (Xp B)=True:=eq_true (X5 (Xc B))
 have br:∀ i l n,XI 1 (.row i n (Xs vC 8 v0 l))=True:=fun i l n=>eq_true fun j _=>X5 (Xb (hvc _) _)
 obtain ⟨R,hR⟩:∃ R,R=Xp (Z3 A B):=⟨_,rfl⟩
 rw [← hR]
 refine Fq Tryz.call261 Tryz.func261 10 [10,11,12,31,32,33] [5,60000007,10,110000009] [] (by simp [Xc]) (Xl ?_)
 simp only [AS.start,X4,↓X1,wF,seval]
 refine Xe (fun i:Nat=>⟨10,[10,11,12,31,32,33],[Xp A,Xp B,.any,.any,.any,.osl 0 i 8 0 i,.any,.any,.any,.any],[(10,Xp A),(11,I A.length),(12,I i)],[.row i (i*8) (Xs vC 8 v0 (GS A i))]⟩) (fun i=>i≤A.length) (fun i=>A.length - i) 0 (by omega)
  (Sub.trans (Q5 5 8 (Xs vC 8 v0 []) rfl) (Xi rfl (by simp [AS.put,Xf,X4,I]) (by simp [AS.put,Xq,Xw,X4,I]) (by simp [AS.put,GS]))) ?_
 intro i hi next
 have w1:=wj i (by omega)
 by_cases hi2:i<A.length
 ·have nx:=next (i+1)
  have f1:((i:Int)<A.length)=True:=eq_true (by omega)
  have f2:(i<A.length)=True:=eq_true hi2
  have f3:(i*8+8≤A.length*8)=True:=eq_true (by omega)
  have hm:((i+1:Nat):Int).tmod A.length=(((i+1) % A.length:Nat):Int):=rfl
  have hml:(i+1) % A.length<A.length:=Nat.mod_lt _ (by omega)
  have f4:((i+1) % A.length<A.length)=True:=eq_true hml
  have f5:((i+1) % A.length*8+8≤A.length*8)=True:=eq_true (by omega)
  have f6:((A.length:Int)=0)=False:=eq_false (by omega)
  have f6':(A.length=0)=False:=eq_false (by omega)
  have v1:=vF A i
  have v2:=vF A ((i+1) % A.length)
  have s1:=ha i; have s2:=ha ((i+1) % A.length)
  have hap:=XR vC 8 v0 (GS A i) (dA A i) (by omega)
  rw [C5,← Rb] at hap
  have c1:=IZ (A.getD i v0) (A.getD ((i+1) % A.length) v0) (by omega) (by omega)
  rw [show LI (A.getD i v0) (A.getD ((i+1) % A.length) v0)=dA A i from rfl] at c1
  refine Xl ?_
  simp only [X4,w1,f1,f2,f3,f4,f5,f6,f6',hm,v1,v2,Int.toNat_natCast,↓X1,wF,seval]
  refine X0 c1 rfl ?_
  simp only [w1,↓X1,wF,seval]
  exact ⟨⟨Zg _,by omega,by omega⟩,nx _ (by omega) (by omega) (XE (m:=1) (Nat.zero_le _) rfl (by simp [Xf,X4,I]) (by simp [Xq,Xw,X4,I]) (by rw [← hap]; rfl) (by simp [XA,bA,bB]) (by simp [XA,bA,bB]) (by simp [br]))⟩
 obtain rfl:i=A.length:=by omega
 refine Xl ?_
 simp only [X4,Int.lt_irrefl,Nat.lt_irrefl,↓X1,wF,seval]
 refine Xe (fun i:Nat=>⟨10,[10,11,12,31,32,33],[Xp A,Xp B,.any,.any,.any,.osl 0 (A.length+i) 8 0 (A.length+i),.any,.any,.any,.any],[(31,Xp B),(32,I B.length),(33,I i)],[.row (A.length+i) ((A.length+i)*8) (Xs vC 8 v0 (GS A A.length ++ In B i))]⟩) (fun i=>i≤B.length) (fun i=>B.length - i) 0 (by omega)
  (Xi rfl (by simp [Xf,X4,I]) (by simp [Xq,Xw,X4,I]) (by simp [In])) ?_
 intro i hi next
 have w1:=wj i (by omega)
 by_cases hi2:i<B.length
 ·have nx:=next (i+1)
  have f1:((i:Int)<B.length)=True:=eq_true (by omega)
  have f2:(i<B.length)=True:=eq_true hi2
  have f3:(i*8+8≤B.length*8)=True:=eq_true (by omega)
  have hm:((i+1:Nat):Int).tmod B.length=(((i+1) % B.length:Nat):Int):=rfl
  have hml:(i+1) % B.length<B.length:=Nat.mod_lt _ (by omega)
  have f4:((i+1) % B.length<B.length)=True:=eq_true hml
  have f5:((i+1) % B.length*8+8≤B.length*8)=True:=eq_true (by omega)
  have f6:((B.length:Int)=0)=False:=eq_false (by omega)
  have f6':(B.length=0)=False:=eq_false (by omega)
  have v1:=vF B i
  have v2:=vF B ((i+1) % B.length)
  have s1:=hb i; have s2:=hb ((i+1) % B.length)
  have hap:=XR vC 8 v0 (GS A A.length ++ In B i) (dB B i) (by omega)
  rw [List.append_assoc,← Rd,List.length_append,C5,Ep] at hap
  have ea:A.length+(i+1)=A.length+i+1:=by omega
  simp only [ea] at nx
  have c1:=IZ (B.getD ((i+1) % B.length) v0) (B.getD i v0) (by omega) (by omega)
  rw [show LI (B.getD ((i+1) % B.length) v0) (B.getD i v0)=dB B i from rfl] at c1
  refine Xl ?_
  simp only [X4,w1,f1,f2,f3,f4,f5,f6,f6',hm,v1,v2,Int.toNat_natCast,↓X1,wF,seval]
  refine X0 c1 rfl ?_
  simp only [w1,↓X1,wF,seval]
  exact ⟨⟨Zg _,by omega,by omega⟩,nx _ (by omega) (by omega) (XE (m:=1) (Nat.zero_le _) rfl (by simp [Xf,X4,I]) (by simp [Xq,Xw,X4,I]) (by rw [← hap]; rfl) (by simp [XA,bA,bB]) (by simp [XA,bA,bB]) (by simp [br]))⟩
 obtain rfl:i=B.length:=by omega
 have hl:(GS A A.length ++ In B B.length).length=A.length+B.length:=by rw [List.length_append,C5,Ep]
 have h4:=tT (GS A A.length ++ In B B.length) (Jv (1,0)) (Jv (0,1)) (Jv (-1,0)) (Jv (0,-1))
 rw [hl] at h4
 have c1:=Hj 1 0 ⟨by omega,by omega⟩ ⟨by omega,by omega⟩
 have c2:=Hj 0 1 ⟨by omega,by omega⟩ ⟨by omega,by omega⟩
 have c3:=Hj (-1) 0 ⟨by omega,by omega⟩ ⟨by omega,by omega⟩
 have c4:=Hj 0 (-1) ⟨by omega,by omega⟩ ⟨by omega,by omega⟩
 have hlen:(Z3 A B).length=A.length+B.length+4:=by unfold Z3; rw [List.length_append,hl]; rfl
 rw [show (⟨((1:Int):Rat),((0:Int):Rat)⟩:V2)=Jv (1,0) from rfl] at c1
 rw [show (⟨((0:Int):Rat),((1:Int):Rat)⟩:V2)=Jv (0,1) from rfl] at c2
 rw [show (⟨((-1:Int):Rat),((0:Int):Rat)⟩:V2)=Jv (-1,0) from rfl] at c3
 rw [show (⟨((0:Int):Rat),((-1:Int):Rat)⟩:V2)=Jv (0,-1) from rfl] at c4
 have hD:Z3 A B=(GS A A.length ++ In B B.length) ++ [Jv (1,0),Jv (0,1),Jv (-1,0),Jv (0,-1)]:=rfl
 generalize Jv (1,0)=E1 at *
 generalize Jv (0,1)=E2 at *
 generalize Jv (-1,0)=E3 at *
 generalize Jv (0,-1)=E4 at *
 refine Xl ?_
 simp only [X4,Int.lt_irrefl,Nat.lt_irrefl,↓X1,wF,seval]
 refine X0 c1 rfl ?_
 simp only [↓X1,wF,seval]
 refine X0 c2 rfl ?_
 simp only [↓X1,wF,seval]
 refine X0 c3 rfl ?_
 simp only [↓X1,wF,seval]
 refine X0 c4 rfl ?_
 simp only [↓X1,wF,seval]
 refine ⟨⟨uP E1 E2 E3 E4,by omega,by omega⟩,?_⟩
 rw [hR]
 refine Bm rfl ?_
 rw [X4,hlen]
 refine Qx (n:=A.length+B.length+4) (.inl rfl) (by omega) (fun h=>by omega) fun j hj=>?_
 rw [Nat.zero_add,hD,← h4 j hj]
 have:=Xb (hvc ((GS A A.length ++ In B B.length ++ [E1,E2,E3,E4]).getD (j / 8) v0)) (j % 8)
 have e:Settled (Xs vC 8 v0 (GS A A.length ++ In B B.length ++ [E1,E2,E3,E4]) j):=this
 rw [← h4 j hj] at e
 exact e.sees _
theorem jE (A B:List V2) (c:Nat) (ha:Q2 A c) (hb:Q2 B c) (hc:c≤10000) (la:A.length<100000) (lb:B.length<100000):Fn Tryz.prog 265 [Xp A,Xp B] (Xp (Z3 A B)):=by
 have hvc:∀ a:V2,∀ x∈vC a,Settled x:=fun a=>by simp [vC,X6,X2]
 have bA:JO 1 (Xp A)=True:=eq_true (X5 (Xc A))
 have bB:JO 1 (Xp B)=True:=eq_true (X5 (Xc B))
 have br:∀ i l n,XI 1 (.row i n (Xs vC 8 v0 l))=True:=fun i l n=>eq_true fun j _=>X5 (Xb (hvc _) _)
 obtain ⟨R,hR⟩:∃ R,R=Xp (Z3 A B):=⟨_,rfl⟩
 rw [← hR]
 refine Fq Tryz.call265 Tryz.func265 8 [] [5,9] [] (by simp [Xc]) (Xl ?_)
 simp only [AS.start,X4,↓X1,wF,seval]
 refine Xe (fun i:Nat=>⟨8,[],[Xp A,Xp B,.any,.any,.any,.osl 0 i 8 0 i,I i,.any],[],[.row i (i*8) (Xs vC 8 v0 (GS A i))]⟩) (fun i=>i≤A.length) (fun i=>A.length - i) 0 (by omega)
  (Sub.trans (Q5 5 8 (Xs vC 8 v0 []) rfl) (Xi rfl (by simp [AS.put,Xf,X4,I]) (by simp [AS.put,Xq]) (by simp [AS.put,GS]))) ?_
 intro i hi next
 have w1:=wj i (by omega)
 by_cases hi2:i<A.length
 ·have nx:=next (i+1)
  have f1:((i:Int)<A.length)=True:=eq_true (by omega)
  have f2:(i<A.length)=True:=eq_true hi2
  have f3:(i*8+8≤A.length*8)=True:=eq_true (by omega)
  have hm:((i+1:Nat):Int).tmod A.length=(((i+1) % A.length:Nat):Int):=rfl
  have hml:(i+1) % A.length<A.length:=Nat.mod_lt _ (by omega)
  have f4:((i+1) % A.length<A.length)=True:=eq_true hml
  have f5:((i+1) % A.length*8+8≤A.length*8)=True:=eq_true (by omega)
  have f6:((A.length:Int)=0)=False:=eq_false (by omega)
  have f6':(A.length=0)=False:=eq_false (by omega)
  have v1:=vF A i
  have v2:=vF A ((i+1) % A.length)
  have s1:=ha i; have s2:=ha ((i+1) % A.length)
  have hap:=XR vC 8 v0 (GS A i) (dA A i) (by omega)
  rw [C5,← Rb] at hap
  have c0:=OT A i (by omega) hi2
  have c1:=M5 (A.getD i v0) (A.getD ((i+1) % A.length) v0) (by omega) (by omega)
  rw [show LI (A.getD i v0) (A.getD ((i+1) % A.length) v0)=dA A i from rfl] at c1
  refine Xl ?_
  simp only [X4,w1,f1,f2,f3,f4,f5,f6,f6',hm,v1,v2,Int.toNat_natCast,↓X1,wF,seval]
  refine X0 c0 rfl ?_
  simp only [X4,w1,f1,f2,f3,f4,f5,f6,f6',hm,v1,v2,Int.toNat_natCast,↓X1,wF,seval]
  refine X0 c1 rfl ?_
  simp only [w1,↓X1,wF,seval]
  exact ⟨⟨Zg _,by omega,by omega⟩,nx _ (by omega) (by omega) (XE (m:=1) (Nat.zero_le _) rfl (by simp [Xf,X4,I]) (by simp [Xq]) (by rw [← hap]; rfl) (by simp [XA,bA,bB]) (by simp [XA,bA,bB]) (by simp [br]))⟩
 obtain rfl:i=A.length:=by omega
 refine Xl ?_
 simp only [X4,Int.lt_irrefl,Nat.lt_irrefl,↓X1,wF,seval]
 refine Xe (fun i:Nat=>⟨8,[],[Xp A,Xp B,.any,.any,.any,.osl 0 (A.length+i) 8 0 (A.length+i),.any,I i],[],[.row (A.length+i) ((A.length+i)*8) (Xs vC 8 v0 (GS A A.length ++ In B i))]⟩) (fun i=>i≤B.length) (fun i=>B.length - i) 0 (by omega)
  (Jm (by simp [Xf,X4,I]) (by simp [In])) ?_
 intro i hi next
 have w1:=wj i (by omega)
 by_cases hi2:i<B.length
 ·have nx:=next (i+1)
  have f1:((i:Int)<B.length)=True:=eq_true (by omega)
  have f2:(i<B.length)=True:=eq_true hi2
  have f3:(i*8+8≤B.length*8)=True:=eq_true (by omega)
  have hm:((i+1:Nat):Int).tmod B.length=(((i+1) % B.length:Nat):Int):=rfl
  have hml:(i+1) % B.length<B.length:=Nat.mod_lt _ (by omega)
  have f4:((i+1) % B.length<B.length)=True:=eq_true hml
  have f5:((i+1) % B.length*8+8≤B.length*8)=True:=eq_true (by omega)
  have f6:((B.length:Int)=0)=False:=eq_false (by omega)
  have f6':(B.length=0)=False:=eq_false (by omega)
  have v1:=vF B i
  have v2:=vF B ((i+1) % B.length)
  have s1:=hb i; have s2:=hb ((i+1) % B.length)
  have hap:=XR vC 8 v0 (GS A A.length ++ In B i) (dB B i) (by omega)
  rw [List.append_assoc,← Rd,List.length_append,C5,Ep] at hap
  have ea:A.length+(i+1)=A.length+i+1:=by omega
  simp only [ea] at nx
  have c0:=OT B i (by omega) hi2
  have c1:=M5 (B.getD i v0) (B.getD ((i+1) % B.length) v0) (by omega) (by omega)
  have vn:=Vz (B.getD i v0) (B.getD ((i+1) % B.length) v0)
  have c2:=Pb (LI (B.getD i v0) (B.getD ((i+1) % B.length) v0)) (by unfold vm; omega)
  rw [nX,show LI (B.getD ((i+1) % B.length) v0) (B.getD i v0)=dB B i from rfl] at c2
  refine Xl ?_
  simp only [X4,w1,f1,f2,f3,f4,f5,f6,f6',hm,v1,v2,Int.toNat_natCast,↓X1,wF,seval]
  refine X0 c0 rfl ?_
  simp only [X4,w1,f1,f2,f3,f4,f5,f6,f6',hm,v1,v2,Int.toNat_natCast,↓X1,wF,seval]
  refine X0 c1 rfl ?_
  simp only [X4,w1,f1,f2,f3,f4,f5,f6,f6',hm,v1,v2,Int.toNat_natCast,↓X1,wF,seval]
  refine X0 c2 rfl ?_
  simp only [w1,↓X1,wF,seval]
  exact ⟨⟨Zg _,by omega,by omega⟩,nx _ (by omega) (by omega) (XE (m:=1) (Nat.zero_le _) rfl (by simp [Xf,X4,I]) (by simp [Xq]) (by rw [← hap]; rfl) (by simp [XA,bA,bB]) (by simp [XA,bA,bB]) (by simp [br]))⟩
 obtain rfl:i=B.length:=by omega
 have hl:(GS A A.length ++ In B B.length).length=A.length+B.length:=by rw [List.length_append,C5,Ep]
 have h4:=tT (GS A A.length ++ In B B.length) (Jv (1,0)) (Jv (0,1)) (Jv (-1,0)) (Jv (0,-1))
 rw [hl] at h4
 have c1:=KR 1 0 ⟨by omega,by omega⟩ ⟨by omega,by omega⟩
 have c2:=KR 0 1 ⟨by omega,by omega⟩ ⟨by omega,by omega⟩
 have c3:=KR (-1) 0 ⟨by omega,by omega⟩ ⟨by omega,by omega⟩
 have c4:=KR 0 (-1) ⟨by omega,by omega⟩ ⟨by omega,by omega⟩
 have hlen:(Z3 A B).length=A.length+B.length+4:=by unfold Z3; rw [List.length_append,hl]; rfl
 rw [show (⟨((1:Int):Rat),((0:Int):Rat)⟩:V2)=Jv (1,0) from rfl] at c1
 rw [show (⟨((0:Int):Rat),((1:Int):Rat)⟩:V2)=Jv (0,1) from rfl] at c2
 rw [show (⟨((-1:Int):Rat),((0:Int):Rat)⟩:V2)=Jv (-1,0) from rfl] at c3
 rw [show (⟨((0:Int):Rat),((-1:Int):Rat)⟩:V2)=Jv (0,-1) from rfl] at c4
 have hD:Z3 A B=(GS A A.length ++ In B B.length) ++ [Jv (1,0),Jv (0,1),Jv (-1,0),Jv (0,-1)]:=rfl
 generalize Jv (1,0)=E1 at *
 generalize Jv (0,1)=E2 at *
 generalize Jv (-1,0)=E3 at *
 generalize Jv (0,-1)=E4 at *
 refine Xl ?_
 simp only [X4,Int.lt_irrefl,Nat.lt_irrefl,↓X1,wF,seval]
 refine X0 c1 rfl ?_
 simp only [↓X1,wF,seval]
 refine X0 c2 rfl ?_
 simp only [↓X1,wF,seval]
 refine X0 c3 rfl ?_
 simp only [↓X1,wF,seval]
 refine X0 c4 rfl ?_
 simp only [↓X1,wF,seval]
 refine ⟨⟨uP E1 E2 E3 E4,by omega,by omega⟩,?_⟩
 rw [hR]
 refine Bm rfl ?_
 rw [X4,hlen]
 refine Qx (n:=A.length+B.length+4) (.inl rfl) (by omega) (fun h=>by omega) fun j hj=>?_
 rw [Nat.zero_add,hD,← h4 j hj]
 have:=Xb (hvc ((GS A A.length ++ In B B.length ++ [E1,E2,E3,E4]).getD (j / 8) v0)) (j % 8)
 have e:Settled (Xs vC 8 v0 (GS A A.length ++ In B B.length ++ [E1,E2,E3,E4]) j):=this
 rw [← h4 j hj] at e
 exact e.sees _
def G4 (p:V2→Bool):List V2→V2×Bool
 | []=>(v0,false)
 | x :: l=>if p x=true then (x,true) else G4 p l
theorem Ha {p:V2→Bool}:∀ {s:List V2} {j:Nat},j<s.length→p (s.getD j v0)=true→(∀ i,i<j→p (s.getD i v0)=false)→G4 p s=(s.getD j v0,true)
 | [],j,h,_,_=>absurd h (Nat.not_lt_zero j)
 | x :: l,0,_,h,_=>if_pos h
 | x :: l,j+1,hj,h,hno=>by
  have h0:p x=false:=hno 0 (by omega)
  have ih:=Ha (p:=p) (s:=l) (j:=j) (by simpa using hj) h (fun i hi=>hno (i+1) (by omega))
  show (if p x=true then (x,true) else G4 p l)=_
  rw [if_neg (by rw [h0]; decide),ih]
  rfl
theorem Fl {p:V2→Bool}:∀ {s:List V2},(∀ i,i<s.length→p (s.getD i v0)=false)→G4 p s=(v0,false)
 | [],_=>rfl
 | x :: l,hno=>by
  have h0:p x=false:=hno 0 (by simp)
  have ih:=Fl (p:=p) (s:=l) (fun i hi=>hno (i+1) (by simpa using hi))
  show (if p x=true then (x,true) else G4 p l)=_
  rw [if_neg (by rw [h0]; decide),ih]
noncomputable def KK (A B:List V2) (e:Rat):V2×Bool:=G4 (fun d=>decide (FE d A B e)) (Z3 A B)
structure Shp (c:Nat) (A:List V2):Prop where
 small:Q2 A c
 pos:0<A.length
 len:A.length<10000
theorem PD (A B:List V2) (e:Rat) (c:Nat) (ha:Shp c A) (hb:Shp c B) (h1:1≤c) (hc:c≤1000) (he:qb e≤10000):Fn Tryz.prog 244 [Xp A,Xp B,qA e] (.tup [vA (KK A B e).1,.bool (KK A B e).2]):=by
 obtain ⟨a1,a2,a3⟩:=ha
 obtain ⟨b1,b2,b3⟩:=hb
 obtain ⟨R,hR⟩:∃ R,R=KK A B e:=⟨_,rfl⟩
 rw [← hR]
 have cd:=eW A B c a1 b1 (by omega) (by omega) (by omega)
 have hds:=Lj A B c a1 b1 h1
 unfold KK at hR
 have hlen:(Z3 A B).length=A.length+B.length+4:=by unfold Z3; rw [List.length_append,List.length_append,C5,Ep]; rfl
 generalize Z3 A B=D at *
 have be:XI 2 (.row 0 4 (Xn (qC e)))=True:=eq_true (XD (by simp [qC,X6,X2]))
 have bz:XI 2 (.row 0 8 (Xn XP))=True:=eq_true (XD (Zb [] [] ⟨0,0,0,0,0,v0,v0,v0⟩ 0))
 have bA:JO 2 (Xp A)=True:=eq_true (X5 (Xc A))
 have bB:JO 2 (Xp B)=True:=eq_true (X5 (Xc B))
 have bD:JO 2 (Xp D)=True:=eq_true (X5 (Xc D))
 refine Fq Tryz.call244 Tryz.func244 10 [12,13,14] [] [] (by simp [Xc,Xa]) (Xl ?_)
 simp only [AS.start,X4,↓X1,wF,seval]
 refine X0 cd rfl ?_
 simp only [X4,↓X1,wF,seval]
 refine Xe (fun i:Nat=>⟨10,[12,13,14],[Xp A,Xp B,.any,.any,.any,.ref 0 0 0,.ref 1 0 0,.bool false,.any,.any],[(12,Xp D),(13,I D.length),(14,I i)],[.row 0 4 (Xn (qC e)),.row 0 8 (Xn XP)]⟩) (fun i=>i≤D.length∧∀ j,j<i→decide (FE (D.getD j v0) A B e)=false) (fun i=>D.length - i) 0 ⟨by omega,by omega⟩
  (Xi rfl (by simp [Xf,X4,I]) (by simp [Xq,Xw,X4,I]) (by simp [qC,XP,X3])) ?_
 rintro i ⟨hi,hno⟩ next
 have w1:=wj i (by omega)
 by_cases hi2:i<D.length
 rotate_left
 ·obtain rfl:i=D.length:=by omega
  rw [Fl hno] at hR
  refine Xl ?_
  simp only [X4,XP,Int.lt_irrefl,Nat.lt_irrefl,↓X1,wF,seval]
  subst hR
  exact J2 rfl (Xo Ju rfl rfl rfl) (by unfold QH; rfl) (Xr (Xk _) (XO Zp)) ((X2 _).sees _)
 have f1:((i:Int)<D.length)=True:=eq_true (by omega)
 have f2:(i<D.length)=True:=eq_true hi2
 have f3:(i*8+8≤D.length*8)=True:=eq_true (by omega)
 have v1:=vF D i
 have hs:=hds _ (EP hi2)
 have cs:=Pf (D.getD i v0) A B e c a1 b1 (by omega) (by omega) (by omega) a2 b2 (by omega) he
 have nx:=next (i+1)
 refine Xl ?_
 simp only [X4,w1,f1,f2,f3,v1,Int.toNat_natCast,↓X1,wF,seval]
 refine X0 cs rfl ?_
 by_cases hsep:FE (D.getD i v0) A B e
 ·have hd:decide (FE (D.getD i v0) A B e)=true:=decide_eq_true hsep
  rw [hd]
  rw [Ha hi2 hd hno] at hR
  simp only [X4,XP,w1,f1,f2,f3,v1,Int.toNat_natCast,↓X1,wF,seval]
  subst hR
  exact J2 rfl (Xo Ju rfl rfl rfl) (by unfold QH; rfl) (Xr (Xk _) (XO (XZ (vC (D.getD i v0))))) ((X2 _).sees _)
 ·have hd:decide (FE (D.getD i v0) A B e)=false:=decide_eq_false hsep
  rw [hd]
  simp only [w1,↓X1,wF,seval]
  exact nx _ ⟨by omega,KJ.2 ⟨hno,hd⟩⟩ (by omega) (XE (m:=2) (Nat.zero_le _) rfl (by simp [Xf,X4,I]) (by simp [Xq,Xw,X4,I]) (by simp [qC,XP,X3]) (by simp [XA,bA,bB,bD]) (by simp [XA,bD]) (by simp [be,bz]))
theorem jI (A B:List V2) (e:Rat) (c:Nat) (ha:Shp c A) (hb:Shp c B) (h1:1≤c) (hc:c≤1000) (he:qb e≤10000):Fn Tryz.prog 248 [Xp A,Xp B,qA e] (.tup [vA (KK A B e).1,.bool (KK A B e).2]):=by
 obtain ⟨a1,a2,a3⟩:=ha
 obtain ⟨b1,b2,b3⟩:=hb
 obtain ⟨R,hR⟩:∃ R,R=KK A B e:=⟨_,rfl⟩
 rw [← hR]
 have cd:=jE A B c a1 b1 (by omega) (by omega) (by omega)
 have hds:=Lj A B c a1 b1 h1
 unfold KK at hR
 have hlen:(Z3 A B).length=A.length+B.length+4:=by unfold Z3; rw [List.length_append,List.length_append,C5,Ep]; rfl
 generalize Z3 A B=D at *
 have be:XI 2 (.con 0 4 (Xn (qC e)))=True:=eq_true (fun j _=>X5 (Xb (by simp [qC,X6,X2]) j))
 have bz:XI 2 (.row 0 8 (Xn XP))=True:=eq_true (XD (Zb [] [] ⟨0,0,0,0,0,v0,v0,v0⟩ 0))
 have bA:JO 2 (Xp A)=True:=eq_true (X5 (Xc A))
 have bB:JO 2 (Xp B)=True:=eq_true (X5 (Xc B))
 have bD:JO 2 (Xp D)=True:=eq_true (X5 (Xc D))
 refine Fq Tryz.call248 Tryz.func248 10 [] [5,60000005] [] (by simp [Xc,Xa]) (Xl ?_)
 simp only [AS.start,X4,↓X1,wF,seval]
 refine X0 cd rfl ?_
 simp only [X4,↓X1,wF,seval]
 refine Xe (fun i:Nat=>⟨10,[],[Xp A,Xp B,.any,.any,.any,.ref 0 0 0,.ref 1 0 0,.bool false,Xp D,I i],[],[.con 0 4 (Xn (qC e)),.row 0 8 (Xn XP)]⟩) (fun i=>i≤D.length∧∀ j,j<i→decide (FE (D.getD j v0) A B e)=false) (fun i=>D.length - i) 0 ⟨by omega,by omega⟩
  (Sub.trans (XX 0 rfl) (Jm (by simp [Xf,X4,I]) (by simp [qC,XP,X3]))) ?_
 rintro i ⟨hi,hno⟩ next
 have w1:=wj i (by omega)
 by_cases hi2:i<D.length
 rotate_left
 ·obtain rfl:i=D.length:=by omega
  rw [Fl hno] at hR
  refine Xl ?_
  simp only [X4,XP,Int.lt_irrefl,Nat.lt_irrefl,↓X1,wF,seval]
  subst hR
  exact J2 rfl (Xo Ju rfl rfl rfl) (by unfold QH; rfl) (Xr (Xk _) (XO Zp)) ((X2 _).sees _)
 have f1:((i:Int)<D.length)=True:=eq_true (by omega)
 have f2:(i<D.length)=True:=eq_true hi2
 have f3:(i*8+8≤D.length*8)=True:=eq_true (by omega)
 have v1:=vF D i
 have hs:=hds _ (EP hi2)
 have cs:=MT (D.getD i v0) A B e c a1 b1 (by omega) (by omega) (by omega) a2 b2 (by omega) he
 have nx:=next (i+1)
 refine Xl ?_
 simp only [X4,w1,f1,f2,f3,v1,Int.toNat_natCast,↓X1,wF,seval]
 refine X0 cs rfl ?_
 by_cases hsep:FE (D.getD i v0) A B e
 ·have hd:decide (FE (D.getD i v0) A B e)=true:=decide_eq_true hsep
  rw [hd]
  rw [Ha hi2 hd hno] at hR
  simp only [X4,XP,w1,f1,f2,f3,v1,Int.toNat_natCast,↓X1,wF,seval]
  subst hR
  exact J2 rfl (Xo Ju rfl rfl rfl) (by unfold QH; rfl) (Xr (Xk _) (XO (XZ (vC (D.getD i v0))))) ((X2 _).sees _)
 ·have hd:decide (FE (D.getD i v0) A B e)=false:=decide_eq_false hsep
  rw [hd]
  simp only [w1,↓X1,wF,seval]
  exact nx _ ⟨by omega,KJ.2 ⟨hno,hd⟩⟩ (by omega) (XE (m:=2) (Nat.zero_le _) rfl (by simp [Xf,X4,I]) (by simp [Xq]) (by simp [qC,XP,X3]) (by simp [XA,bA,bB,bD]) (by simp [XA,bD]) (by simp [be,bz]))
noncomputable def GU (l:List (List V2)):AV:=Qu Xp [] l
theorem XF (l:List (List V2)):GU l=.sl l.length l.length (Q7 Xp [] l) false:=nrfl rfl
theorem Kf (l:List (List V2)):Settled (GU l):=J8 fun _ _=>Xc _
theorem qu (l:List (List V2)) (i:Nat):Q7 Xp [] l i=Xp (l.getD i []):=nrfl rfl
noncomputable def Zz (A B:List (List V2)) (e:Rat) (i k:Nat):Bool:=(KK (A.getD i []) (B.getD k []) e).2
noncomputable def IX (A B:List (List V2)) (e:Rat) (i:Nat):Bool:=decide (∀ k,k<B.length→Zz A B e i k=true)
noncomputable def F9 (A B:List (List V2)) (e:Rat):Bool:=decide (∀ i,i<A.length→IX A B e i=true)
theorem VN {A B:List (List V2)} {e:Rat} {i k:Nat} (h:k<B.length) (hp:Zz A B e i k=false):IX A B e i=false :=
 decide_eq_false fun H=>by rw [H k h] at hp; cases hp
theorem lD {A B:List (List V2)} {e:Rat} {i:Nat} (h:i<A.length) (hp:IX A B e i=false):F9 A B e=false :=
 decide_eq_false fun H=>by rw [H i h] at hp; cases hp
theorem oF (A B:List (List V2)) (e:Rat) (c:Nat) (ha:∀ i,i<A.length→Shp c (A.getD i [])) (hb:∀ i,i<B.length→Shp c (B.getD i [])) (h1:1≤c) (hc:c≤1000) (he:qb e≤10000) (la:A.length≤1000) (lb:B.length≤1000) :
  Fn Tryz.prog 214 [GU A,GU B,qA e] (.tup [.any,.bool (F9 A B e)]):=by
 have hvc:∀ a:V2,∀ x∈vC a,Settled x:=fun a=>by simp [vC,X6,X2]
 have be:XI 2 (.con 0 4 (Xn (qC e)))=True:=eq_true (fun j _=>X5 (Xb (by simp [qC,X6,X2]) j))
 have bA:JO 2 (GU A)=True:=eq_true (X5 (Kf A))
 have bB:JO 2 (GU B)=True:=eq_true (X5 (Kf B))
 have br:∀ i l n,XI 2 (.row i n (Xs vC 8 v0 l))=True:=fun i l n=>eq_true fun j _=>X5 (Xb (hvc _) _)
 have vA':=fun i=>qu A i
 have vB':=fun i=>qu B i
 refine Fq Tryz.call214 Tryz.func214 13 [] [8,90000005] [] (by simp [Kf,Xa]) (Xl ?_)
 simp only [AS.start,XF,↓X1,wF,seval]
 refine Xe (fun w:Nat×List V2=>⟨13,[],[GU A,GU B,.any,.any,.any,.ref 0 0 0,.any,.any,.osl 1 w.2.length 8 0 w.2.length,I w.1,.any,.any,.any],[],[.con 0 4 (Xn (qC e)),.row w.2.length (w.2.length*8) (Xs vC 8 v0 w.2)]⟩) (fun w=>w.1≤A.length∧w.2.length=w.1*B.length∧∀ j,j<w.1→IX A B e j=true) (fun w=>A.length - w.1) (0,[]) ⟨by simp,by simp,fun j hj=>absurd hj (Nat.not_lt_zero j)⟩
  (Sub.trans (XX 0 rfl) (Sub.trans (Q5 8 8 (Xs vC 8 v0 []) rfl) (Jm (by simp [AS.put,Xf,XF,I]) (by simp [qC,X3])))) ?_
 rintro ⟨i,W⟩ ⟨hi,hW,hno⟩ next
 replace hi:i≤A.length:=hi
 replace hW:W.length=i*B.length:=hW
 replace hno:∀ j,j<i→IX A B e j=true:=hno
 have w1:=wj i (by omega)
 by_cases hi2:i<A.length
 rotate_left
 ·obtain rfl:i=A.length:=by omega
  have hR:F9 A B e=true:=decide_eq_true hno
  rw [hR]
  refine Xl ?_
  simp only [XF,Int.lt_irrefl,Nat.lt_irrefl,↓X1,wF,seval]
  exact SJ rfl (ZL ⟨Xr A3 (GO _),(X2 _).sees _,trivial⟩)
 have f1:((i:Int)<A.length)=True:=eq_true (by omega)
 have f2:(i<A.length)=True:=eq_true hi2
 have f3:(i+1≤A.length)=True:=eq_true (by omega)
 refine Xl ?_
 simp only [XF,w1,f1,f2,f3,↓X1,wF,seval]
 refine Xe (fun w:Nat×List V2=>⟨13,[],[GU A,GU B,.any,.any,.any,.ref 0 0 0,.any,.any,.osl 1 w.2.length 8 0 w.2.length,I i,I w.1,.any,.any],[],[.con 0 4 (Xn (qC e)),.row w.2.length (w.2.length*8) (Xs vC 8 v0 w.2)]⟩) (fun w=>w.1≤B.length∧w.2.length=i*B.length+w.1∧∀ k,k<w.1→Zz A B e i k=true) (fun w=>B.length - w.1) (0,W) ⟨by simp,by simpa using hW,fun j hj=>absurd hj (Nat.not_lt_zero j)⟩
  (Jm (by simp [Xf,XF,I]) (by simp [qC,X3])) ?_
 rintro ⟨k,Y⟩ ⟨hk,hY,hyes⟩ next2
 replace hk:k≤B.length:=hk
 replace hY:Y.length=i*B.length+k:=hY
 replace hyes:∀ j,j<k→Zz A B e i j=true:=hyes
 have w2:=wj k (by omega)
 by_cases hk2:k<B.length
 rotate_left
 ·obtain rfl:k=B.length:=by omega
  have nx:=next (i+1,Y)
  refine Xl ?_
  simp only [XF,w1,Int.lt_irrefl,Nat.lt_irrefl,↓X1,wF,seval]
  exact nx _ ⟨by omega,by simp only; rw [hY,Nat.succ_mul],KJ.2 ⟨hno,decide_eq_true hyes⟩⟩ (by simp only; omega) (Jm (by simp [Xf,XF,I]) (by simp [qC,X3]))
 have g1:((k:Int)<B.length)=True:=eq_true (by omega)
 have g2:(k<B.length)=True:=eq_true hk2
 have g3:(k+1≤B.length)=True:=eq_true (by omega)
 have cf:=jI (A.getD i []) (B.getD k []) e c (ha i hi2) (hb k hk2) h1 hc he
 have hb1:i*B.length≤1000*1000:=Nat.mul_le_mul (by omega) lb
 have hap:=XR vC 8 v0 Y (KK (A.getD i []) (B.getD k []) e).1 (by omega)
 refine Xl ?_
 simp only [XF,w1,w2,f1,f2,f3,g1,g2,g3,vA',vB',Int.toNat_natCast,↓X1,wF,seval]
 refine X0 cf rfl ?_
 have hpk:Zz A B e i k=(KK (A.getD i []) (B.getD k []) e).2:=rfl
 cases hv:(KK (A.getD i []) (B.getD k []) e).2 with
 | false =>
  have hR:F9 A B e=false:=lD hi2 (VN hk2 (hpk.trans hv))
  rw [hR]
  simp only [w1,w2,↓X1,wF,seval]
  exact SJ rfl (ZL ⟨Xr A3 (GO _),(X2 _).sees _,trivial⟩)
 | true =>
  have nx:=next2 (k+1,Y ++ [(KK (A.getD i []) (B.getD k []) e).1])
  simp only [List.length_append,List.length_singleton] at nx
  simp only [w1,w2,↓X1,wF,seval]
  exact ⟨⟨Zg _,by omega,by omega⟩,nx _ ⟨by omega,by omega,KJ.2 ⟨hyes,hpk.trans hv⟩⟩ (by omega) (dK (m:=2) (by simp [Xf,XF,I]) (by rw [← hap]; rfl) (by simp [XA,bA,bB]) (by simp [be,br]))⟩
def ZN (A:List (List V2)):AV:=.ptr 1 (Xn [GU A]) 0
theorem J1 (A:List (List V2)):ZN A=.ptr 1 (Xn [GU A]) 0:=nrfl rfl
theorem GE (A:List (List V2)):Settled (ZN A):=J0 fun j hj=>by
 obtain rfl:j=0:=by omega
 exact Kf A
theorem jn (A B:List (List V2)):Fn Tryz.prog 243 [GU A,GU B] (.fn 260 [ZN A,ZN B]):=by
 have hset:Settled (.fn 260 [ZN A,ZN B]):=Jq (by
  intro a ha
  simp only [List.mem_cons,List.not_mem_nil,or_false] at ha
  rcases ha with rfl | rfl <;> exact GE _)
 refine Fq Tryz.call243 Tryz.func243 5 [] [] [] (by simp [Kf]) (Xl ?_)
 simp only [AS.start,XF,↓X1,wF,seval]
 refine Bm rfl (Cg ⟨Za (.inl rfl) (by omega) fun j hj=>?_,Za (.inl rfl) (by omega) fun j hj=>?_,trivial⟩)
 ·obtain rfl:j=0:=by omega
  exact (Kf A).sees _
 ·obtain rfl:j=0:=by omega
  exact (Kf B).sees _
theorem G9 {P:Program} {tok:List Tok} {all:Array Oper} {i:Nat} {s:AS} {o:Oper} {v:AV} {h':List AO} (ho:all[i]?=some o) (hg:o.guard=none) (h:Ja P false none o.op s.ev s.h=some (v,h')) :
  GStep P tok (fun _=>false) true (fun _=>none) all i s (({ s with h:=h' }:AS).putO o.dst v):=⟨o,ho,.inl ⟨by unfold gval; rw [hg],⟨fun _ h=>(by cases h),v,h',.inl h,rfl⟩⟩⟩
def Pt (m:Nat) (H:List AO):Prop:=H.length=m∧∀ o∈H,XI m o∧o≠.unborn∧∀ v n f,o≠.con v n f
theorem V1 (A B:List (List V2)) (t:Tok) (m:Nat) (Hs:Nat→List AO) (la:A.length≤1000) (lb:B.length≤1000) (hHs:∀ n,Pt m (Hs n)) (hce:t.ce.H.length≤m)
  (hy:∀ i k,i<A.length→k<B.length→YCall Tryz.prog t [Xp (A.getD i []),Xp (B.getD k [])] (Hs (i*B.length+k)) (.bool true) (Hs (i*B.length+k+1))) :
  ICall Tryz.prog t 260 [.yld t.l,ZN A,ZN B] (Hs 0) (Hs (A.length*B.length)):=by
 have vA':=fun i=>qu A i
 have vB':=fun i=>qu B i
 refine ICall.intro (fn:=Tryz.f260) Tryz.call260 Tryz.func260 rfl mixed 8 [8,9,10,14,15,16] [] [] (by kernel_rfl) (Nat.le_of_ble_eq_true rfl) (by rw [(hHs 0).1]; exact hce) (by rw [(hHs 0).1]; exact fun o ho=>((hHs _).2 o ho).1) (Xl ?_)
 simp only [AS.start,J1,XF,↓X1,wF,seval]
 refine Xe (fun i:Nat=>⟨8,[8,9,10,14,15,16],[.yld t.l,ZN A,ZN B,.any,.any,.any,.any,.any],[(8,GU A),(9,I A.length),(10,I i)],Hs (i*B.length)⟩) (fun i=>i≤A.length) (fun i=>A.length - i) 0 (by omega)
  (Xi rfl (by simp [Xf,J1,XF]) (by simp [Xq,Xw,XF,I]) (by simp)) ?_
 intro i hi next
 have w1:=wj i (by omega)
 by_cases hi2:i<A.length
 rotate_left
 ·obtain rfl:i=A.length:=by omega
  refine Xl ?_
  simp only [J1,XF,Int.lt_irrefl,Nat.lt_irrefl,↓X1,wF,seval]
  exact sT rfl (by show (Hs _).take (Hs 0).length=_; rw [(hHs 0).1,← (hHs (A.length*B.length)).1,List.take_length])
 have f1:((i:Int)<A.length)=True:=eq_true (by omega)
 have f2:(i<A.length)=True:=eq_true hi2
 have f3:(i+1≤A.length)=True:=eq_true (by omega)
 refine Xl ?_
 simp only [J1,XF,w1,f1,f2,f3,vA',Int.toNat_natCast,↓X1,wF,seval]
 refine Xe (fun k:Nat=>⟨8,[8,9,10,14,15,16],[.yld t.l,ZN A,ZN B,.any,.any,Xp (A.getD i []),.any,.any],[(14,GU B),(15,I B.length),(16,I k),(8,GU A),(9,I A.length),(10,I i)],Hs (i*B.length+k)⟩) (fun k=>k≤B.length) (fun k=>B.length - k) 0 (by omega)
  (Xi rfl (by simp [Xf,J1,XF,X4]) (by simp [Xq,Xw,XF,I]) (by simp)) ?_
 intro k hk next2
 have w2:=wj k (by omega)
 by_cases hk2:k<B.length
 rotate_left
 ·obtain rfl:k=B.length:=by omega
  refine Xl ?_
  simp only [J1,XF,w1,Int.lt_irrefl,Nat.lt_irrefl,↓X1,wF,seval]
  exact next (i+1) _ (by omega) (by omega) (Xi rfl (by simp [Xf,J1,XF]) (by simp [Xq,Xw,XF,I]) (by simp [Nat.succ_mul]))
 have g1:((k:Int)<B.length)=True:=eq_true (by omega)
 have g2:(k<B.length)=True:=eq_true hk2
 have g3:(k+1≤B.length)=True:=eq_true (by omega)
 refine Xl ?_
 simp only [J1,XF,w1,w2,g1,g2,g3,vB',Int.toNat_natCast,↓X1,wF,seval]
 obtain ⟨q1,q2⟩:=hHs (i*B.length+k)
 obtain ⟨q3,q4⟩:=hHs (i*B.length+k+1)
 refine CS (t:=t) (H1:=Hs (i*B.length+k)) (H1':=Hs (i*B.length+k+1)) (rest:=[]) rfl rfl (List.mem_singleton.2 rfl) (hy i k hi2 hk2) (List.append_nil _).symm (q3.trans q1.symm) (by rw [q1]; exact hce) ?_ (by rw [q1]; exact fun o ho=>(q2 o ho).1) (fun o ho=>(q2 o ho).2.1) (fun o ho=>(q4 o ho).2.1) (QX (fun o ho=>(q2 o ho).2.2) (fun o ho=>(q4 o ho).2.2)) ⟨Weak.rfl' _,Weak.rfl' _,trivial⟩ ?_
 ·intro a ha
  simp only [List.mem_cons,List.not_mem_nil,or_false] at ha
  rcases ha with rfl | rfl <;> exact X5 (Xc _)
 simp only [J1,XF,w1,w2,↓X1,wF,seval]
 exact next2 (k+1) _ (by omega) (by omega) (Xi rfl (by simp [Xf,J1,XF]) (by simp [Xq,Xw,XF,I]) (by simp [Nat.add_assoc]))
theorem bV (A B:List (List V2)) (t:Tok) (m:Nat) (Hs:Nat→List AO) (Hf:List AO) (la:A.length≤1000) (lb:B.length≤1000) (hHs:∀ n,Pt m (Hs n)) (hce:t.ce.H.length≤m)
  (i0 k0:Nat) (hi0:i0<A.length) (hk0:k0<B.length) (hy:∀ i k,i<i0∨i=i0∧k<k0→k<B.length→YCall Tryz.prog t [Xp (A.getD i []),Xp (B.getD k [])] (Hs (i*B.length+k)) (.bool true) (Hs (i*B.length+k+1))) (hz:YC Tryz.prog t false [Xp (A.getD i0 []),Xp (B.getD k0 [])] (Hs (i0*B.length+k0)) Hf) (hHf:Pt m Hf) :
  ICallQ Tryz.prog t false 260 [.yld t.l,ZN A,ZN B] (Hs 0) Hf:=by
 have vA':=fun i=>qu A i
 have vB':=fun i=>qu B i
 refine ICallQ.intro (fn:=Tryz.f260) Tryz.call260 Tryz.func260 rfl mixed 8 [8,9,10,14,15,16] [] [] (by kernel_rfl) (Nat.le_of_ble_eq_true rfl) (by rw [(hHs 0).1]; exact hce) (by rw [(hHs 0).1]; exact fun o ho=>(hHf.2 o ho).1) (Xl ?_)
 simp only [AS.start,J1,XF,↓X1,wF,seval]
 refine Xe (fun i:Nat=>⟨8,[8,9,10,14,15,16],[.yld t.l,ZN A,ZN B,.any,.any,.any,.any,.any],[(8,GU A),(9,I A.length),(10,I i)],Hs (i*B.length)⟩) (fun i=>i≤i0) (fun i=>i0 - i) 0 (by omega)
  (Xi rfl (by simp [Xf,J1,XF]) (by simp [Xq,Xw,XF,I]) (by simp)) ?_
 intro i hi next
 have w1:=wj i (by omega)
 have hi2:i<A.length:=by omega
 have f1:((i:Int)<A.length)=True:=eq_true (by omega)
 have f2:(i<A.length)=True:=eq_true hi2
 have f3:(i+1≤A.length)=True:=eq_true (by omega)
 refine Xl ?_
 simp only [J1,XF,w1,f1,f2,f3,vA',Int.toNat_natCast,↓X1,wF,seval]
 refine Xe (fun k:Nat=>⟨8,[8,9,10,14,15,16],[.yld t.l,ZN A,ZN B,.any,.any,Xp (A.getD i []),.any,.any],[(14,GU B),(15,I B.length),(16,I k),(8,GU A),(9,I A.length),(10,I i)],Hs (i*B.length+k)⟩) (fun k=>k≤B.length∧(i=i0→k≤k0)) (fun k=>B.length - k) 0 ⟨by omega,by omega⟩
  (Xi rfl (by simp [Xf,J1,XF,X4]) (by simp [Xq,Xw,XF,I]) (by simp)) ?_
 rintro k ⟨hk,hkk⟩ next2
 have w2:=wj k (by omega)
 by_cases hk2:k<B.length
 rotate_left
 ·obtain rfl:k=B.length:=by omega
  refine Xl ?_
  simp only [J1,XF,w1,Int.lt_irrefl,Nat.lt_irrefl,↓X1,wF,seval]
  exact next (i+1) _ (by omega) (by omega) (Xi rfl (by simp [Xf,J1,XF]) (by simp [Xq,Xw,XF,I]) (by simp [Nat.succ_mul]))
 have g1:((k:Int)<B.length)=True:=eq_true (by omega)
 have g2:(k<B.length)=True:=eq_true hk2
 have g3:(k+1≤B.length)=True:=eq_true (by omega)
 by_cases hlast:i=i0∧k=k0
 ·obtain ⟨rfl,rfl⟩:=hlast
  refine Hv 20 ?_
  simp only [J1,XF,w1,w2,g1,g2,g3,vB',Int.toNat_natCast,↓X1,wF,seval]
  refine oN (t:=t) (j:=3) (l1:=[0,1,2]) (l2:=[4]) rfl rfl (List.mem_singleton.2 rfl) rfl rfl ⟨_,G9 rfl rfl rfl,_,G9 rfl rfl rfl,_,G9 rfl rfl rfl,rfl⟩ ⟨rfl,_,_,_,[Xp (A.getD i []),Xp (B.getD k [])],Hf,rfl,rfl,⟨Weak.rfl' _,Weak.rfl' _,trivial⟩,hz,rfl⟩ ⟨_,G9 rfl rfl rfl,rfl⟩ ?_
  show Run (uu Tryz.prog Tryz.f260 [] [] (Hs 0).length Hf) _ _
  refine Run.sub (s':=⟨8,[],[],[(24,.bool true)],Hf⟩) ?_ (Xi rfl trivial ⟨.inr rfl,trivial⟩ rfl)
  refine Xl ?_
  simp only [↓X1,wF,seval]
  exact we rfl (by show Hf.take (Hs 0).length=_; rw [(hHs 0).1,← hHf.1,List.take_length])
 have hp:i<i0∨i=i0∧k<k0:=by omega
 refine Xl ?_
 simp only [J1,XF,w1,w2,g1,g2,g3,vB',Int.toNat_natCast,↓X1,wF,seval]
 obtain ⟨q1,q2⟩:=hHs (i*B.length+k)
 obtain ⟨q3,q4⟩:=hHs (i*B.length+k+1)
 refine CS (t:=t) (H1:=Hs (i*B.length+k)) (H1':=Hs (i*B.length+k+1)) (rest:=[]) rfl rfl (List.mem_singleton.2 rfl) (hy i k hp hk2) (List.append_nil _).symm (q3.trans q1.symm) (by rw [q1]; exact hce) ?_ (by rw [q1]; exact fun o ho=>(q2 o ho).1) (fun o ho=>(q2 o ho).2.1) (fun o ho=>(q4 o ho).2.1) (QX (fun o ho=>(q2 o ho).2.2) (fun o ho=>(q4 o ho).2.2)) ⟨Weak.rfl' _,Weak.rfl' _,trivial⟩ ?_
 ·intro a ha
  simp only [List.mem_cons,List.not_mem_nil,or_false] at ha
  rcases ha with rfl | rfl <;> exact X5 (Xc _)
 simp only [J1,XF,w1,w2,↓X1,wF,seval]
 exact next2 (k+1) _ ⟨by omega,by omega⟩ (by omega) (Xi rfl (by simp [Xf,J1,XF]) (by simp [Xq,Xw,XF,I]) (by simp [Nat.add_assoc]))
end
end Go.Ab.N
