/- Contracts of functions, for arguments that fit. -/
import Derived.Test.YtefjhgcndhepeaaGreatC9
set_option linter.unusedSimpArgs false
set_option linter.unusedVariables false
open Nat renaming reducePow → Y1, reduceLT → Y2, reduceLeDiff → Y3, reduceEqDiff → Y4, reduceAdd → Y5, reduceMul → Y6, reduceSub → Y7, reduceBEq → Y8, reduceDiv → Y9, reduceMod → YA
namespace Go.Ab.N
open Go Go.RowKit Go.Proofs
noncomputable section
set_option maxRecDepth 10000
set_option maxHeartbeats 4000000
open Classical
def sw (e:Rat):List AV:=[.bool (decide (e.num<0)),X8 (Xb e.num.natAbs),.bool false,X8 (Xb (qd e))]
noncomputable def cN (a b:List (Int×Int)) (f:FV) (e:Rat):Nat→List AV
 | 0=>XQ
 | k+1=>vC ((Av a b f k).sub ⟨e,e⟩)
noncomputable def cL (a b:List (Int×Int)) (f:FV) (e:Rat):Nat→List AV
 | 0=>XQ
 | k+1=>vC ((At a b f k).add ⟨e,e⟩)
theorem SQ (a b:List (Int×Int)) (f:FV) (e:Rat):∀ k,∀ x∈cN a b f e k,Settled x
 | 0=>Z3 a b f 0
 | k+1=>by simp [cN,vC,X7,X3]
theorem SP (a b:List (Int×Int)) (f:FV) (e:Rat):∀ k,∀ x∈cL a b f e k,Settled x
 | 0=>Z3 a b f 0
 | k+1=>by simp [cL,vC,X7,X3]
theorem iu (x y e:Rat):(0<QC (y - e) (x - e)∧W1 x y - e=y - e)∨(¬ 0<QC (y - e) (x - e)∧W1 x y - e=x - e):=by
 unfold W1
 by_cases h:x<y
 ·exact .inl ⟨(JQ _ _).2 (by grind),by rw [if_pos h]⟩
 ·exact .inr ⟨fun hh=>h (by have:=(JQ _ _).1 hh; grind),by rw [if_neg h]⟩
theorem ij (x y e:Rat):(QC (y+e) (x+e)<0∧VZ x y+e=y+e)∨(¬ QC (y+e) (x+e)<0∧VZ x y+e=x+e):=by
 unfold VZ
 by_cases h:y<x
 ·exact .inl ⟨(Ke _ _).2 (by grind),by rw [if_pos h]⟩
 ·exact .inr ⟨fun hh=>h (by have:=(Ke _ _).1 hh; grind),by rw [if_neg h]⟩
theorem Hg (a b:PV) (f:FV) (ha:a.even) (hb:b.even) (ht:vb f.turn≤1000) {ta tb:Rat} (ea:a.tol=RQ.of ta) (eb:b.tol=RQ.of tb) (qa:qb ta≤1000) (q2:qb tb≤1000) :
  Fn Tryz.prog 47 [QH a,QH b,Jx f] (.tup [vA (XE a.rim b.rim f (ta+tb)).1,vA (XE a.rim b.rim f (ta+tb)).2.1,.bool (XE a.rim b.rim f (ta+tb)).2.2]):=by
 have la:=ha.rim; have lb:=hb.rim
 obtain ⟨R,hR⟩:∃ R,R=XE a.rim b.rim f (ta+tb):=⟨_,rfl⟩
 rw [← hR]
 have zret:∀ {s:AS} {i j v w:Nat},s.get 6=.ref i v 0→s.h[i]?=some (.row v 8 (Xo Zj))→s.get 7=.ref j w 0→s.h[j]?=some (.row w 8 (Xo Zj))→s.get 8=.bool false→R=(v0,v0,false)→RetOk (QI Tryz.prog Tryz.f47 [11,120000005,24,250000013,250000014] [] (.tup [vA R.1,vA R.2.1,.bool R.2.2])) s:=fun h1 h2 h3 h4 h5 h6=>by
  subst h6
  exact Iy rfl (Xq Jr h1 h2 rfl) (Xq Jr h3 h4 rfl) (by unfold QU; rfl) (Xu (Xm _) (XW ZJ)) (Xu (Xm _) (XW ZJ)) (by rw [h5]; exact (X3 _).sees _)
 have cs:=E5 a b f la lb
 have ct:=Sx f.turn (by unfold vm; omega)
 refine Fq Tryz.call47 Tryz.func47 19 [] [11,120000005,24,250000013,250000014] [] (by simp [Xx,XP]) (X0 1000 ?_)
 simp only [AS.start,QH,XD,Jx,XJ,↓X2,wA,↓reduceIte,reduceIte,reduceCtorEq,Y1,Y2,Y3,Y4,Y5,Y6,Y7,Y8,Y9,YA,wE]
 refine X1 cs rfl ?_
 by_cases hf:AB a.rim.length b.rim.length f
 rotate_left
 ·rw [decide_eq_false hf]
  simp only [↓X2,wA,↓reduceIte,reduceIte,reduceCtorEq,Y1,Y2,Y3,Y4,Y5,Y6,Y7,Y8,Y9,YA,wE]
  exact zret rfl rfl rfl rfl rfl (by rw [hR]; unfold XE; rw [if_neg fun h=>hf h.1])
 rw [decide_eq_true hf]
 simp only [↓X2,wA,↓reduceIte,reduceIte,reduceCtorEq,Y1,Y2,Y3,Y4,Y5,Y6,Y7,Y8,Y9,YA,wE]
 refine X1 ct rfl ?_
 by_cases hto:Df f.turn
 rotate_left
 ·rw [decide_eq_false hto]
  simp only [↓X2,wA,↓reduceIte,reduceIte,reduceCtorEq,Y1,Y2,Y3,Y4,Y5,Y6,Y7,Y8,Y9,YA,wE]
  exact zret rfl rfl rfl rfl rfl (by rw [hR]; unfold XE; rw [if_neg fun h=>hto h.2])
 rw [decide_eq_true hto]
 have hRe:R=if ((At a.rim b.rim f f.M.toNat).add ⟨ta+tb,ta+tb⟩).x<((Av a.rim b.rim f f.M.toNat).sub ⟨ta+tb,ta+tb⟩).x∨((At a.rim b.rim f f.M.toNat).add ⟨ta+tb,ta+tb⟩).y<((Av a.rim b.rim f f.M.toNat).sub ⟨ta+tb,ta+tb⟩).y then (v0,v0,false) else ((Av a.rim b.rim f f.M.toNat).sub ⟨ta+tb,ta+tb⟩,(At a.rim b.rim f f.M.toNat).add ⟨ta+tb,ta+tb⟩,true):=by
  rw [hR]; unfold XE; rw [if_pos ⟨hf,hto⟩]
 clear hR
 obtain ⟨⟨s1,s2⟩,⟨s3,s4⟩,s5,s6,s7⟩:=hf
 obtain ⟨N,hN⟩:∃ N:Nat,f.M=N:=⟨f.M.toNat,by omega⟩
 have hNt:f.M.toNat=N:=by rw [hN]; rfl
 rw [hNt] at hRe
 have r1:=E8 a la (AN ha.near)
 have r2:=E8 b lb (AN hb.near)
 have hla:(XC a.rim).length=a.rim.length:=by simp [XC]
 have hlb:(XC b.rim).length=b.rim.length:=by simp [XC]
 have c3:Fn Tryz.prog 76 [a.tol.A,b.tol.A] (qA (ta+tb)):=by rw [ea,eb]; exact JA ta tb (by unfold rm; omega) (by unfold rm; omega)
 have qe:=JL ta tb
 generalize ta+tb=e at *
 simp only [↓X2,wA,↓reduceIte,reduceIte,reduceCtorEq,Y1,Y2,Y3,Y4,Y5,Y6,Y7,Y8,Y9,YA,wE]
 refine X1 r1 rfl ?_
 simp only [↓X2,wA,↓reduceIte,reduceIte,reduceCtorEq,Y1,Y2,Y3,Y4,Y5,Y6,Y7,Y8,Y9,YA,wE]
 refine X1 r2 rfl ?_
 simp only [↓X2,wA,↓reduceIte,reduceIte,reduceCtorEq,Y1,Y2,Y3,Y4,Y5,Y6,Y7,Y8,Y9,YA,wE]
 refine X1 c3 rfl ?_
 simp only [↓X2,wA,↓reduceIte,reduceIte,reduceCtorEq,Y1,Y2,Y3,Y4,Y5,Y6,Y7,Y8,Y9,YA,wE]
 have m0:vb ⟨e,e⟩≤2001:=by unfold vb; simp only; omega
 have ba:XK 9 (.row 0 25 (Xo (XD a)))=True:=eq_true (XH (Xy a))
 have bb:XK 9 (.row 0 25 (Xo (XD b)))=True:=eq_true (XH (Xy b))
 have bf:XK 9 (.con 0 29 (Xo (XJ f)))=True:=eq_true (fun j _=>X6 (Xc (XM f) j))
 have bz:XK 9 (.row 0 8 (Xo XQ))=True:=eq_true (XH (Z3 a.rim b.rim f 0))
 have be:XK 9 (.row 0 4 (Xo (sw e)))=True:=eq_true (XH (by simp [sw,X7,X3]))
 have bw:XK 9 (.row 0 8 (Xo (vC ⟨e,e⟩)))=True:=eq_true (XH (by simp [vC,X7,X3]))
 have bl:∀ k,XK 9 (.row 0 8 (Xo (cN a.rim b.rim f e k)))=True:=fun k=>eq_true (XH (SQ a.rim b.rim f e k))
 have bh:∀ k,XK 9 (.row 0 8 (Xo (cL a.rim b.rim f e k)))=True:=fun k=>eq_true (XH (SP a.rim b.rim f e k))
 have bx:JJ 9 (Xp (XC a.rim))=True:=eq_true (X6 (Xf _))
 have by':JJ 9 (Xp (XC b.rim))=True:=eq_true (X6 (Xf _))
 refine Xg (fun k:Nat=>⟨19,[],[.any,.any,.any,.ref 0 0 0,.ref 1 0 0,.ref 2 0 0,.ref 3 0 0,.ref 4 0 0,.bool false,Xp (XC a.rim),Xp (XC b.rim),.ref 5 0 0,.ref 6 0 0,.ref 7 0 0,.ref 8 0 0,I k,.any,.any,.any],[],[.row 0 25 (Xo (XD a)),.row 0 25 (Xo (XD b)),.con 0 29 (Xo (XJ f)),.row 0 8 (Xo XQ),.row 0 8 (Xo XQ),.row 0 4 (Xo (sw e)),.row 0 8 (Xo (vC ⟨e,e⟩)),.row 0 8 (Xo (cN a.rim b.rim f e k)),.row 0 8 (Xo (cL a.rim b.rim f e k))]⟩) (fun k=>k≤N+1) (fun k=>N+1 - k) 0 (by omega)
  (Sub.trans (XR 2 rfl) (Xa rfl (by simp [Xh,X5,I]) (by simp [Xi]) (by simp [XD,XJ,sw,XQ,cN,cL,vC,Xe,Xl,X4,I]))) ?_
 intro k hk next
 have w1:=wj k (by omega)
 by_cases hk2:k<N+1
 ·have nx:=next (k+1)
  have fk:((k:Int)≤f.M)=True:=eq_true (by omega)
  have wx:IntKind.i64.wrap (f.EA+(k:Int))=f.EA+(k:Int):=by rw [IntKind.wrap_i64]; omega
  have wy1:IntKind.i64.wrap (f.EB+1)=f.EB+1:=by rw [IntKind.wrap_i64]; omega
  have wy:IntKind.i64.wrap (f.EB+1 - (k:Int))=f.EB+1 - (k:Int):=by rw [IntKind.wrap_i64]; omega
  have c1:=Q4 (f.EA+(k:Int)) a.rim.length (by omega) (by omega) (by omega)
  have c2:=Q4 (f.EB+1 - (k:Int)) b.rim.length (by omega) (by omega) (by omega)
  rw [GS _ _ _ (by omega)] at c1
  rw [jR _ _ _ (by omega)] at c2
  have hX:=O7 a.rim.length f k (by omega)
  have hY:=pC b.rim.length f k (by omega)
  have vx:=KH ha.near (xK a.rim.length f k)
  have vy:=KH hb.near (yL b.rim.length f k)
  have vr:=Dg f.turn (JD (b.rim.getD (yL b.rim.length f k) (0,0)))
  have c3:=Ch f.turn (JD (b.rim.getD (yL b.rim.length f k) (0,0))) (by unfold vm; omega) (by unfold vm; omega)
  have c4:=JO (JD (a.rim.getD (xK a.rim.length f k) (0,0))) (LY f.turn (JD (b.rim.getD (yL b.rim.length f k) (0,0)))) (by unfold rm; omega) (by unfold rm; omega)
  rw [show (JD (a.rim.getD (xK a.rim.length f k) (0,0))).sub (LY f.turn (JD (b.rim.getD (yL b.rim.length f k) (0,0))))=Zr a.rim b.rim f k from rfl] at c4
  have hD:=Bp ha.near hb.near f ht
  have hL:=Cx ha.near hb.near f ht
  have hH:=Cv ha.near hb.near f ht
  have hDk:=hD k
  have c5:=JO (Zr a.rim b.rim f k) ⟨e,e⟩ (by unfold rm; omega) (by unfold rm; omega)
  have c6:=BK (Zr a.rim b.rim f k) ⟨e,e⟩ (by unfold vm; omega) (by unfold vm; omega)
  have v1:=vF (XC a.rim) (xK a.rim.length f k)
  have v2:=vF (XC b.rim) (yL b.rim.length f k)
  rw [GA] at v1 v2
  generalize xK a.rim.length f k=X at *
  generalize yL b.rim.length f k=Y at *
  generalize JD (a.rim.getD X (0,0))=PX at *
  generalize JD (b.rim.getD Y (0,0))=PY at *
  generalize LY f.turn PY=RY at *
  have fX:((X:Int)<a.rim.length)=True:=eq_true (by omega)
  have fX':(X<a.rim.length)=True:=eq_true hX
  have fX8:(X*8+8≤a.rim.length*8)=True:=eq_true (by omega)
  have fY:((Y:Int)<b.rim.length)=True:=eq_true (by omega)
  have fY':(Y<b.rim.length)=True:=eq_true hY
  have fY8:(Y*8+8≤b.rim.length*8)=True:=eq_true (by omega)
  refine X0 1000 ?_
  simp only [XJ,X5,w1,wx,wy1,wy,fk,fX,fX',fX8,fY,fY',fY8,hla,hlb,v1,v2,Int.toNat_natCast,↓X2,wA,↓reduceIte,reduceIte,reduceCtorEq,Y1,Y2,Y3,Y4,Y5,Y6,Y7,Y8,Y9,YA,wE]
  refine X1 c1 rfl ?_
  simp only [XJ,X5,w1,wx,wy1,wy,fk,fX,fX',fX8,fY,fY',fY8,hla,hlb,v1,v2,Int.toNat_natCast,↓X2,wA,↓reduceIte,reduceIte,reduceCtorEq,Y1,Y2,Y3,Y4,Y5,Y6,Y7,Y8,Y9,YA,wE]
  refine X1 c2 rfl ?_
  simp only [XJ,X5,w1,wx,wy1,wy,fk,fX,fX',fX8,fY,fY',fY8,hla,hlb,v1,v2,Int.toNat_natCast,↓X2,wA,↓reduceIte,reduceIte,reduceCtorEq,Y1,Y2,Y3,Y4,Y5,Y6,Y7,Y8,Y9,YA,wE]
  refine X1 c3 rfl ?_
  simp only [XJ,X5,w1,wx,wy1,wy,fk,fX,fX',fX8,fY,fY',fY8,hla,hlb,v1,v2,Int.toNat_natCast,↓X2,wA,↓reduceIte,reduceIte,reduceCtorEq,Y1,Y2,Y3,Y4,Y5,Y6,Y7,Y8,Y9,YA,wE]
  refine X1 c4 rfl ?_
  simp only [XJ,X5,w1,wx,wy1,wy,fk,fX,fX',fX8,fY,fY',fY8,hla,hlb,v1,v2,Int.toNat_natCast,↓X2,wA,↓reduceIte,reduceIte,reduceCtorEq,Y1,Y2,Y3,Y4,Y5,Y6,Y7,Y8,Y9,YA,wE]
  refine X1 c5 rfl ?_
  simp only [XJ,X5,w1,wx,wy1,wy,fk,fX,fX',fX8,fY,fY',fY8,hla,hlb,v1,v2,Int.toNat_natCast,↓X2,wA,↓reduceIte,reduceIte,reduceCtorEq,Y1,Y2,Y3,Y4,Y5,Y6,Y7,Y8,Y9,YA,wE]
  refine X1 c6 rfl ?_
  match k,w1,fk,hk2,hDk,nx with
  | 0,w1,fk,hk2,hDk,nx =>
   have e0:((0:Nat):Int)=0:=rfl
   have w0:IntKind.i64.wrap (0+1)=1:=by decide
   have hL0:cN a.rim b.rim f e 1=vC ((Zr a.rim b.rim f 0).sub ⟨e,e⟩):=rfl
   have hH0:cL a.rim b.rim f e 1=vC ((Zr a.rim b.rim f 0).add ⟨e,e⟩):=rfl
   have bl2:=bl 1; have bh2:=bh 1
   simp only [Nat.zero_add,hL0,hH0] at nx bl2 bh2
   generalize (Zr a.rim b.rim f 0).sub ⟨e,e⟩=FR at *
   generalize (Zr a.rim b.rim f 0).add ⟨e,e⟩=TO at *
   simp only [cN,cL,XQ,e0,w0,↓X2,wA,↓reduceIte,reduceIte,reduceCtorEq,Y1,Y2,Y3,Y4,Y5,Y6,Y7,Y8,Y9,YA,wE]
   exact nx _ (by omega) (by omega) (Xr (m:=9) (Nat.zero_le _) rfl (by simp [Xh,X5,hla,hlb,I]) (by simp [Xi]) (by simp [XD,XJ,XQ,sw,cN,cL,vC,Xe,Xl,X4,I]) (by simp [Xv,bx,by']) (by simp [Xv]) (by simp [ba,bb,bf,bz,be,bw,bl2,bh2]))
  | j+1,w1,fk,hk2,hDk,nx =>
   have g0:(((j+1:Nat):Int)=0)=False:=eq_false (by omega)
   have g0':((j:Int)+1=0)=False:=eq_false (by omega)
   have g0'':(j+1=0)=False:=eq_false (by omega)
   have hLj:=hL j; have hHj:=hH j
   have hl1:cN a.rim b.rim f e (j+1)=vC ((Av a.rim b.rim f j).sub ⟨e,e⟩):=rfl
   have hh1:cL a.rim b.rim f e (j+1)=vC ((At a.rim b.rim f j).add ⟨e,e⟩):=rfl
   have hl2:cN a.rim b.rim f e (j+1+1)=vC ((Av a.rim b.rim f (j+1)).sub ⟨e,e⟩):=rfl
   have hh2:cL a.rim b.rim f e (j+1+1)=vC ((At a.rim b.rim f (j+1)).add ⟨e,e⟩):=rfl
   have ux:=iu (Av a.rim b.rim f j).x (Zr a.rim b.rim f (j+1)).x e
   have uy:=iu (Av a.rim b.rim f j).y (Zr a.rim b.rim f (j+1)).y e
   have ox:=ij (At a.rim b.rim f j).x (Zr a.rim b.rim f (j+1)).x e
   have oy:=ij (At a.rim b.rim f j).y (Zr a.rim b.rim f (j+1)).y e
   have z1:=Kc (Av a.rim b.rim f j) ⟨e,e⟩
   have z2:=Bb (At a.rim b.rim f j) ⟨e,e⟩
   have z3:=Kc (Zr a.rim b.rim f (j+1)) ⟨e,e⟩
   have z4:=Bb (Zr a.rim b.rim f (j+1)) ⟨e,e⟩
   have bl2:=bl (j+1+1); have bh2:=bh (j+1+1)
   simp only [hl2,hh2] at nx bl2 bh2
   rw [hl1,hh1]
   replace ux:(0<QC ((Zr a.rim b.rim f (j+1)).sub ⟨e,e⟩).x ((Av a.rim b.rim f j).sub ⟨e,e⟩).x∧((Av a.rim b.rim f (j+1)).sub ⟨e,e⟩).x=((Zr a.rim b.rim f (j+1)).sub ⟨e,e⟩).x)∨(¬ 0<QC ((Zr a.rim b.rim f (j+1)).sub ⟨e,e⟩).x ((Av a.rim b.rim f j).sub ⟨e,e⟩).x∧((Av a.rim b.rim f (j+1)).sub ⟨e,e⟩).x=((Av a.rim b.rim f j).sub ⟨e,e⟩).x):=ux
   replace uy:(0<QC ((Zr a.rim b.rim f (j+1)).sub ⟨e,e⟩).y ((Av a.rim b.rim f j).sub ⟨e,e⟩).y∧((Av a.rim b.rim f (j+1)).sub ⟨e,e⟩).y=((Zr a.rim b.rim f (j+1)).sub ⟨e,e⟩).y)∨(¬ 0<QC ((Zr a.rim b.rim f (j+1)).sub ⟨e,e⟩).y ((Av a.rim b.rim f j).sub ⟨e,e⟩).y∧((Av a.rim b.rim f (j+1)).sub ⟨e,e⟩).y=((Av a.rim b.rim f j).sub ⟨e,e⟩).y):=uy
   replace ox:(QC ((Zr a.rim b.rim f (j+1)).add ⟨e,e⟩).x ((At a.rim b.rim f j).add ⟨e,e⟩).x<0∧((At a.rim b.rim f (j+1)).add ⟨e,e⟩).x=((Zr a.rim b.rim f (j+1)).add ⟨e,e⟩).x)∨(¬ QC ((Zr a.rim b.rim f (j+1)).add ⟨e,e⟩).x ((At a.rim b.rim f j).add ⟨e,e⟩).x<0∧((At a.rim b.rim f (j+1)).add ⟨e,e⟩).x=((At a.rim b.rim f j).add ⟨e,e⟩).x):=ox
   replace oy:(QC ((Zr a.rim b.rim f (j+1)).add ⟨e,e⟩).y ((At a.rim b.rim f j).add ⟨e,e⟩).y<0∧((At a.rim b.rim f (j+1)).add ⟨e,e⟩).y=((Zr a.rim b.rim f (j+1)).add ⟨e,e⟩).y)∨(¬ QC ((Zr a.rim b.rim f (j+1)).add ⟨e,e⟩).y ((At a.rim b.rim f j).add ⟨e,e⟩).y<0∧((At a.rim b.rim f (j+1)).add ⟨e,e⟩).y=((At a.rim b.rim f j).add ⟨e,e⟩).y):=oy
   generalize (Zr a.rim b.rim f (j+1)).sub ⟨e,e⟩=FR at *
   generalize (Zr a.rim b.rim f (j+1)).add ⟨e,e⟩=TO at *
   generalize (Av a.rim b.rim f (j+1)).sub ⟨e,e⟩=L2 at *
   generalize (At a.rim b.rim f (j+1)).add ⟨e,e⟩=H2 at *
   generalize (Av a.rim b.rim f j).sub ⟨e,e⟩=L1 at *
   generalize (At a.rim b.rim f j).add ⟨e,e⟩=H1 at *
   have:=Qv FR; have:=Qn FR; have:=Qv TO; have:=Qn TO; have:=Qv L1; have:=Qn L1; have:=Qv H1; have:=Qn H1
   have k1:=J7 FR.x L1.x (by unfold rm; omega) (by unfold rm; omega)
   have k2:=J7 FR.y L1.y (by unfold rm; omega) (by unfold rm; omega)
   have k3:=J7 TO.x H1.x (by unfold rm; omega) (by unfold rm; omega)
   have k4:=J7 TO.y H1.y (by unfold rm; omega) (by unfold rm; omega)
   clear c1 c2 c3 c4 c5 c6 hD hL hH bl bh v1 v2
   rcases ux with ⟨px,ex⟩ | ⟨px,ex⟩
   all_goals
    first | replace px:=eq_false px | replace px:=eq_true px
    rcases uy with ⟨py,ey⟩ | ⟨py,ey⟩
    all_goals
     first | replace py:=eq_false py | replace py:=eq_true py
     rcases ox with ⟨sx,gx⟩ | ⟨sx,gx⟩
     all_goals
      first | replace sx:=eq_false sx | replace sx:=eq_true sx
      rcases oy with ⟨sy,gy⟩ | ⟨sy,gy⟩
      all_goals
       first | replace sy:=eq_false sy | replace sy:=eq_true sy
       simp only [g0,g0',g0'',w1,↓X2,wA,↓reduceIte,reduceIte,reduceCtorEq,Y1,Y2,Y3,Y4,Y5,Y6,Y7,Y8,Y9,YA,wE]
       refine X1 k1 rfl ?_
       simp only [px,g0,g0',g0'',w1,↓X2,wA,↓reduceIte,reduceIte,reduceCtorEq,Y1,Y2,Y3,Y4,Y5,Y6,Y7,Y8,Y9,YA,wE]
       refine X1 k2 rfl ?_
       simp only [px,py,g0,g0',g0'',w1,↓X2,wA,↓reduceIte,reduceIte,reduceCtorEq,Y1,Y2,Y3,Y4,Y5,Y6,Y7,Y8,Y9,YA,wE]
       refine X1 k3 rfl ?_
       simp only [px,py,sx,g0,g0',g0'',w1,↓X2,wA,↓reduceIte,reduceIte,reduceCtorEq,Y1,Y2,Y3,Y4,Y5,Y6,Y7,Y8,Y9,YA,wE]
       refine X1 k4 rfl ?_
       simp only [px,py,sx,sy,g0,g0',g0'',w1,↓X2,wA,↓reduceIte,reduceIte,reduceCtorEq,Y1,Y2,Y3,Y4,Y5,Y6,Y7,Y8,Y9,YA,wE]
       exact nx _ (by omega) (by omega) (Xr (m:=9) (Nat.zero_le _) rfl (by simp [Xh,X5,hla,hlb,I]) (by simp [Xi]) (by simp [XD,XJ,XQ,sw,cN,cL,vC,Xe,Xl,X4,I,ex,ey,gx,gy]) (by simp [Xv,bx,by']) (by simp [Xv]) (by simp [ba,bb,bf,bz,be,bw,bl2,bh2]))
 obtain rfl:k=N+1:=by omega
 have hL:=Cx ha.near hb.near f ht N
 have hH:=Cv ha.near hb.near f ht N
 have hl1:cN a.rim b.rim f e (N+1)=vC ((Av a.rim b.rim f N).sub ⟨e,e⟩):=rfl
 have hh1:cL a.rim b.rim f e (N+1)=vC ((At a.rim b.rim f N).add ⟨e,e⟩):=rfl
 rw [hl1,hh1]
 clear bl bh hl1 hh1
 have m1:=Kc (Av a.rim b.rim f N) ⟨e,e⟩
 have m2:=Bb (At a.rim b.rim f N) ⟨e,e⟩
 generalize (Av a.rim b.rim f N).sub ⟨e,e⟩=A at *
 generalize (At a.rim b.rim f N).add ⟨e,e⟩=B at *
 have:=Qv A; have:=Qn A; have:=Qv B; have:=Qn B
 have q1:=J7 A.x B.x (by unfold rm; omega) (by unfold rm; omega)
 have q2:=J7 A.y B.y (by unfold rm; omega) (by unfold rm; omega)
 have fk:(((N+1:Nat):Int)≤f.M)=False:=eq_false (by omega)
 refine X0 1000 ?_
 simp only [XJ,fk,↓X2,wA,↓reduceIte,reduceIte,reduceCtorEq,Y1,Y2,Y3,Y4,Y5,Y6,Y7,Y8,Y9,YA,wE]
 refine X1 q1 rfl ?_
 by_cases h1:B.x<A.x
 ·have f1:(0<QC A.x B.x)=True:=eq_true ((JQ _ _).2 h1)
  simp only [f1,XQ,↓X2,wA,↓reduceIte,reduceIte,reduceCtorEq,Y1,Y2,Y3,Y4,Y5,Y6,Y7,Y8,Y9,YA,wE]
  exact zret rfl rfl rfl rfl rfl (by rw [hRe,if_pos (.inl h1)])
 have f1:(0<QC A.x B.x)=False:=eq_false fun h=>h1 ((JQ _ _).1 h)
 simp only [f1,↓X2,wA,↓reduceIte,reduceIte,reduceCtorEq,Y1,Y2,Y3,Y4,Y5,Y6,Y7,Y8,Y9,YA,wE]
 refine X1 q2 rfl ?_
 by_cases h2:B.y<A.y
 ·have f2:(0<QC A.y B.y)=True:=eq_true ((JQ _ _).2 h2)
  simp only [f1,f2,XQ,↓X2,wA,↓reduceIte,reduceIte,reduceCtorEq,Y1,Y2,Y3,Y4,Y5,Y6,Y7,Y8,Y9,YA,wE]
  exact zret rfl rfl rfl rfl rfl (by rw [hRe,if_pos (.inr h2)])
 have f2:(0<QC A.y B.y)=False:=eq_false fun h=>h2 ((JQ _ _).1 h)
 simp only [f1,f2,XQ,↓X2,wA,↓reduceIte,reduceIte,reduceCtorEq,Y1,Y2,Y3,Y4,Y5,Y6,Y7,Y8,Y9,YA,wE]
 rw [if_neg fun h=>h.elim h1 h2] at hRe
 subst hRe
 exact Iy rfl (Xq Jr rfl rfl rfl) (Xq Jr rfl rfl rfl) (by unfold QU; rfl) (Xu (Xm _) (XW (Q0 (vC A)))) (Xu (Xm _) (XW (Q0 (vC B)))) ((X3 _).sees _)
def qs (l:List Rat):AV:=sD qC 4 0 l
theorem M3 (l:List Rat):Settled (qs l):=Ec fun a x hx=>by
 have:∀ x∈qC a,Settled x:=by simp [qC,X7,X3]
 exact this x hx
theorem BJ (l:List Rat):qs l=.sl l.length (l.length*4) (Xs qC 4 0 l) false:=nrfl rfl
theorem uK (l:List Rat) (i:Nat):Xs qC 4 0 l (i*4)=.bool (decide ((l.getD i 0).num<0))∧Xs qC 4 0 l (i*4+1)=X8 (Xb (l.getD i 0).num.natAbs)∧Xs qC 4 0 l (i*4+2)=.bool false∧Xs qC 4 0 l (i*4+3)=X8 (Xb (qd (l.getD i 0))):=by
 refine ⟨?_,?_,?_,?_⟩
 ·rw [Ko _ _ _ _ _ (by omega)]; rfl
 all_goals rw [K5 _ _ _ _ _ _ (by omega)]; rfl
def Zu (sg:Int) (x:Rat) (l:List Rat):Nat→Rat
 | 0=>x
 | k+1=>if QC (l.getD k 0) (Zu sg x l k)=sg then l.getD k 0 else Zu sg x l k
theorem OU (sg:Int) (x:Rat) (l:List Rat) (c:Nat) (hx:qb x≤c) (hl:∀ k,qb (l.getD k 0)≤c):∀ k,qb (Zu sg x l k)≤c
 | 0=>hx
 | k+1=>by
  simp only [Zu]
  split
  ·exact hl k
  ·exact OU sg x l c hx hl k
def Bc:List AV:=[.bool false,.sl 0 0 (fun _=>.any) true,.bool false,.sl 0 0 (fun _=>.any) true]
theorem CR (sg:Int) (x:Rat) (l:List Rat) (hl:l.length<1000000) (hx:qb x≤vm) (hq:∀ k,qb (l.getD k 0)≤vm):Fn Tryz.prog 286 [I sg,qA x,qs l] (qA (Zu sg x l l.length)):=by
 unfold vm at hx hq
 obtain ⟨R,hR⟩:∃ R,R=qA (Zu sg x l l.length):=⟨_,rfl⟩
 have sR:Settled R:=hR▸Xd _
 have hqc:∀ r:Rat,∀ x∈qC r,Settled x:=fun r=>by simp [qC,X7,X3]
 have bx:∀ r,XK 2 (.row 0 4 (Xo (qC r)))=True:=fun r=>eq_true (XH (hqc r))
 have bl:JJ 2 (qs l)=True:=eq_true (X6 (M3 l))
 rw [← hR]
 refine Fq Tryz.call286 Tryz.func286 9 [9,10,11] [] [] (by simp [X9,Xd,M3]) (X0 1000 ?_)
 simp only [AS.start,BJ,↓X2,wF,seval]
 refine Xg (fun k:Nat=>⟨9,[9,10,11],[I sg,.any,.any,.any,.ref 0 0 0,.any,.ref 1 0 0,.any,.any],[(9,qs l),(10,I l.length),(11,I k)],[.row 0 4 (Xo (qC (Zu sg x l k))),.row 0 4 (Xo Bc)]⟩) (fun k=>k≤l.length) (fun k=>l.length - k) 0 (by omega)
  (Xa rfl (by simp [Xh,I]) (by simp [Xi,Xz,BJ,I]) rfl) ?_
 intro k hk next
 have w1:=wj k (by omega)
 have he:=OU sg x l 1000000 hx hq k
 by_cases hk2:k<l.length
 ·have f1:((k:Int)<l.length)=True:=eq_true (by omega)
  have f2:(k<l.length)=True:=eq_true hk2
  have f3:(k*4+4≤l.length*4)=True:=eq_true (by omega)
  have v1:=uK l k
  have c1:=Kw (l.getD k 0) (Zu sg x l k) (by have:=hq k; unfold rm; omega) (by unfold rm; omega)
  have nx:=next (k+1)
  have hs:Zu sg x l (k+1)=if QC (l.getD k 0) (Zu sg x l k)=sg then l.getD k 0 else Zu sg x l k:=rfl
  generalize Zu sg x l k=E at *
  refine X0 1000 ?_
  simp only [BJ,w1,f1,f2,f3,v1,Int.toNat_natCast,↓X2,wF,seval]
  refine X1 c1 rfl ?_
  by_cases h:QC (l.getD k 0) E=sg
  ·have g1:(QC (l.getD k 0) E=sg)=True:=eq_true h
   rw [if_pos h] at hs
   simp only [hs] at nx
   simp only [g1,w1,↓X2,wF,seval]
   exact nx _ (by omega) (by omega) (Xr (m:=2) (Nat.zero_le _) rfl (by simp [Xh,I]) (by simp [Xi,Xz,BJ,I]) (by simp [qC,Bc,X4]) (by simp [Xv]) (by simp [Xv,bl]) (by simp [bx,Bc,Xv]))
  ·have g1:(QC (l.getD k 0) E=sg)=False:=eq_false h
   rw [if_neg h] at hs
   simp only [hs] at nx
   simp only [g1,w1,↓X2,wF,seval]
   exact nx _ (by omega) (by omega) (Xr (m:=2) (Nat.zero_le _) rfl (by simp [Xh,I]) (by simp [Xi,Xz,BJ,I]) (by simp [qC,Bc,X4]) (by simp [Xv]) (by simp [Xv,bl]) (by simp [bx,Bc,Xv]))
 obtain rfl:k=l.length:=by omega
 refine X0 1000 ?_
 simp only [BJ,Bc,Int.lt_irrefl,Nat.lt_irrefl,↓X2,wF,seval]
 exact JB rfl Qd rfl rfl rfl sR (hR.trans rfl)
def Qg (n:V2) (L:List V2):List Rat:=L.map (Q9 n)
theorem UK (n:V2) (L:List V2) (i:Nat) (hi:i<L.length):Qg n (L.take i) ++ [Q9 n (L.getD i v0)]=Qg n (L.take (i+1)):=by
 rw [BS _ v0 hi]; simp [Qg]
theorem rE (a:Rat):∀ j,j<4→((qC a).getD j .any).one=true:=fun j hj=>by
 match j,hj with
 | 0,_=>rfl
 | 1,_=>rfl
 | 2,_=>rfl
 | 3,_=>rfl
 | j+4,h=>omega
theorem HK (n:V2) (L:List V2) (k:Nat) (h:Q3 L k) (hk:k≤100000) (hl:L.length<1000000) (hn:vb n≤100000):Fn Tryz.prog 285 [vA n,Xp L] (qs (Qg n L)):=by
 have hvc:∀ a:V2,∀ x∈vC a,Settled x:=fun a=>by simp [vC,X7,X3]
 have hqc:∀ r:Rat,∀ x∈qC r,Settled x:=fun r=>by simp [qC,X7,X3]
 have bo:XK 2 (.row 0 8 (Xo (vC n)))=True:=eq_true (XH (hvc n))
 have bv:JJ 2 (Xp L)=True:=eq_true (X6 (Xf L))
 have br:∀ i l n,XK 2 (.row i n (Xs qC 4 0 l))=True:=fun i l n=>eq_true fun j _=>X6 (Xc (hqc _) _)
 obtain ⟨R,hR⟩:∃ R,R=qs (Qg n L):=⟨_,rfl⟩
 rw [← hR]
 refine Fq Tryz.call285 Tryz.func285 8 [8,9,10] [] [] (by simp [Xm,Xf]) (X0 1000 ?_)
 simp only [AS.start,X5,↓X2,wF,seval]
 refine Xg (fun i:Nat=>⟨8,[8,9,10],[.any,.any,.ref 0 0 0,.any,.any,.osl 1 i 4 0 i,.any,.any],[(8,Xp L),(9,I L.length),(10,I i)],[.row 0 8 (Xo (vC n)),.row i (i*4) (Xs qC 4 0 (Qg n (L.take i)))]⟩) (fun i=>i≤L.length) (fun i=>L.length - i) 0 (by omega)
  (Sub.trans (Q7 5 4 (Xs qC 4 0 []) rfl) (Xa rfl (by simp [AS.put,Xh,I]) (by simp [AS.put,Xi,Xz,X5,I]) (by simp [AS.put,vC,X4,Qg]))) ?_
 intro i hi next
 have w1:=wj i (by omega)
 by_cases hi2:i<L.length
 ·have f1:((i:Int)<L.length)=True:=eq_true (by omega)
  have f2:(i<L.length)=True:=eq_true hi2
  have f3:(i*8+8≤L.length*8)=True:=eq_true (by omega)
  have v1:=vF L i
  have hb:=h i
  have c1:=Gn n (L.getD i v0) (by unfold vm; omega) (by unfold vm; omega)
  have hap:=XT qC 4 0 (Qg n (L.take i)) (Q9 n (L.getD i v0)) (by omega)
  rw [UK _ _ _ hi2,show (Qg n (L.take i)).length=i by simp [Qg]; omega] at hap
  refine X0 1000 ?_
  simp only [X5,w1,f1,f2,f3,v1,Int.toNat_natCast,↓X2,wF,seval]
  refine X1 c1 rfl ?_
  simp only [w1,↓X2,wF,seval]
  exact ⟨⟨rE _,by omega,by omega⟩,next (i+1) _ (by omega) (by omega) (Xr (m:=2) (Nat.zero_le _) rfl (by simp [Xh]) (by simp [Xi,Xz,X5,I]) (by rw [← hap]; rfl) (by simp [Xv]) (by simp [Xv,bv]) (by simp [bo,br]))⟩
 obtain rfl:i=L.length:=by omega
 refine X0 1000 ?_
 simp only [X5,Int.lt_irrefl,Nat.lt_irrefl,↓X2,wF,seval]
 refine Bl rfl ?_
 have hlen:(Qg n L).length=L.length:=by simp [Qg]
 rw [hR,BJ,hlen]
 refine Qx (n:=L.length) (.inl rfl) (by omega) (fun h=>by rw [h]) fun j hj=>?_
 rw [List.take_length,Nat.zero_add]
 exact (Xc (hqc _) _).sees _
def DK (sg:Int) (l:List Rat):Rat:=Zu sg (l.getD 0 0) (l.drop 1) (l.drop 1).length
def Fr (n:V2) (A B:List V2):Rat:=DK (-1) (Qg n B) - DK 1 (Qg n A)
theorem CX (n:V2) (L:List V2) (k:Nat) (h:Q3 L k) (i:Nat):qb ((Qg n L).getD i 0)≤2*(vb n+k)+1:=by
 have h0:=h i
 have h1:=Ac n (L.getD i v0)
 have q0:=Ad
 by_cases hi:i<L.length
 ·have e:(Qg n L).getD i 0=Q9 n (L.getD i v0):=by
   unfold Qg
   rw [List.getD_eq_getElem?_getD,List.getElem?_map,List.getD_eq_getElem?_getD,List.getElem?_eq_getElem hi]; rfl
  rw [e]; omega
 ·have e:(Qg n L).getD i 0=0:=by
   rw [List.getD_eq_getElem?_getD,List.getElem?_eq_none (by simp [Qg]; omega)]; rfl
  rw [e]; omega
theorem AL (l:List Rat) (i:Nat):(l.drop 1).getD i 0=l.getD (1+i) 0:=by
 rw [List.getD_eq_getElem?_getD,List.getD_eq_getElem?_getD,List.getElem?_drop]
theorem Iu (sg:Int) (l:List Rat) (c:Nat) (h:∀ i,qb (l.getD i 0)≤c):qb (DK sg l)≤c :=
 OU _ _ _ _ (h 0) (fun k=>by rw [AL]; exact h _) _
theorem Mk (l:List Rat) {n m:Nat} {t:Bool} (hn:n=l.length - 1) (hm:(l.length - 1)*4≤m):Weak (.sl n m (fun j=>Xs qC 4 0 l (4+j)) t) (qs (l.drop 1)):=by
 rw [BJ]
 refine Ak (by rw [List.length_drop]; exact hn) (by rw [List.length_drop]; exact hm) fun j hj=>?_
 have e:Xs qC 4 0 l (4+j)=Xs qC 4 0 (l.drop 1) j:=by
  unfold Xs
  rw [AL,show (4+j) / 4=1+j / 4 by omega,show (4+j) % 4=j % 4 by omega]
 rw [e]
 exact Weak.rfl' _
theorem r7 (n:V2) (A B:List V2) (k:Nat) (ha:Q3 A k) (hb:Q3 B k) (hk:k≤10000) (la:A.length<1000000) (lb:B.length<1000000) (pa:0<A.length) (pb:0<B.length) (hn:vb n≤10000):Fn Tryz.prog 271 [vA n,Xp A,Xp B] (qA (Fr n A B)):=by
 have c1:=HK n A k ha (by omega) la (by omega)
 have c2:=HK n B k hb (by omega) lb (by omega)
 have qa:=CX n A k ha
 have qb':=CX n B k hb
 have hlA:(Qg n A).length=A.length:=by simp [Qg]
 have hlB:(Qg n B).length=B.length:=by simp [Qg]
 have c3:=CR (-1) ((Qg n B).getD 0 0) ((Qg n B).drop 1) (by rw [List.length_drop]; omega) (by have:=qb' 0; unfold vm; omega) (fun i=>by rw [AL]; have:=qb' (1+i); unfold vm; omega)
 have c4:=CR 1 ((Qg n A).getD 0 0) ((Qg n A).drop 1) (by rw [List.length_drop]; omega) (by have:=qa 0; unfold vm; omega) (fun i=>by rw [AL]; have:=qa (1+i); unfold vm; omega)
 have e1:=Iu (-1) (Qg n B) _ qb'
 have e2:=Iu 1 (Qg n A) _ qa
 have c5:=P6 (DK (-1) (Qg n B)) (DK 1 (Qg n A)) (by unfold rm; omega) (by unfold rm; omega)
 rw [show Zu (-1) ((Qg n B).getD 0 0) ((Qg n B).drop 1) ((Qg n B).drop 1).length=DK (-1) (Qg n B) from rfl] at c3
 rw [show Zu 1 ((Qg n A).getD 0 0) ((Qg n A).drop 1) ((Qg n A).drop 1).length=DK 1 (Qg n A) from rfl] at c4
 rw [show DK (-1) (Qg n B) - DK 1 (Qg n A)=Fr n A B from rfl] at c5
 have v1:=uK (Qg n A) 0
 have v2:=uK (Qg n B) 0
 obtain ⟨R,hR⟩:∃ R,R=qA (Fr n A B):=⟨_,rfl⟩
 have sR:Settled R:=hR▸Xd _
 rw [← hR] at c5 ⊢
 generalize Qg n A=PA at *
 generalize Qg n B=PB at *
 simp only [Nat.zero_mul,Nat.zero_add] at v1 v2
 have f1:(0<PA.length)=True:=eq_true (by omega)
 have f2:(0<PB.length)=True:=eq_true (by omega)
 have f3:((0:Int)<PA.length)=True:=eq_true (by omega)
 have f4:((0:Int)<PB.length)=True:=eq_true (by omega)
 have f5:(4≤PA.length*4)=True:=eq_true (by omega)
 have f6:(4≤PB.length*4)=True:=eq_true (by omega)
 have f7:((1:Int)≤PA.length)=True:=eq_true (by omega)
 have f8:((1:Int)≤PB.length)=True:=eq_true (by omega)
 refine Fq Tryz.call271 Tryz.func271 9 [] [2] [] (by simp [Xm,Xf]) (X0 1000 ?_)
 simp only [AS.start,X5,↓X2,wF,seval]
 refine X1 c1 rfl ?_
 simp only [↓X2,wF,seval]
 refine X1 c2 rfl ?_
 simp only [BJ,v1,v2,f1,f2,f3,f4,f5,f6,f7,f8,Int.toNat_zero,Int.reduceLE,↓X2,wF,seval]
 refine XZ c3 ⟨Weak.rfl' _,Weak.rfl' _,Mk PB (by omega) (by omega),trivial⟩ ?_
 simp only [BJ,v1,v2,f1,f2,f3,f4,f5,f6,f7,f8,Int.toNat_zero,Int.reduceLE,↓X2,wF,seval]
 refine XZ c4 ⟨Weak.rfl' _,Weak.rfl' _,Mk PA (by omega) (by omega),trivial⟩ ?_
 simp only [↓X2,wF,seval]
 refine X1 c5 rfl ?_
 simp only [hR,↓X2,wF,seval]
 exact JB rfl Qd rfl rfl rfl sR (hR.trans rfl)
def Co (x:Rat):Rat:=if x<0 then -x else x
def Zg (n:V2):Rat:=Co n.x+Co n.y
theorem EJ (x:Rat):qb (Co x)=qb x:=by unfold Co; split <;> simp [BI]
theorem Gu (x y:Rat):QC x y=1↔y<x:=by
 rw [← JQ]
 unfold QC
 rw [Int.sign_eq_one_iff_pos,Int.sign_pos_iff]
theorem Sn (x y:Rat):QC x y = -1↔x<y:=by
 rw [← Ke]
 unfold QC
 rw [Int.sign_eq_neg_one_iff_neg,Int.sign_neg_iff]
theorem VP (x:Rat):Zu 1 x [-x] 1=Co x:=by
 show (if QC (-x) x=1 then -x else x)=_
 unfold Co
 by_cases h:x<0
 ·rw [if_pos h,if_pos ((Gu _ _).2 (by grind))]
 ·rw [if_neg h,if_neg fun hh=>h (by have:=(Gu _ _).1 hh; grind)]
theorem Th (x:Rat) {t:Bool}:Weak (.sl 1 4 (Xo [.bool (decide (x.num<0)),X8 (Xb x.num.natAbs),.bool false,X8 (Xb (qd x))]) t) (qs [x]):=by
 rw [BJ]
 refine Ak rfl (Nat.le_refl _) fun j hj=>?_
 match j,hj with
 | 0,_=>exact Weak.rfl' _
 | 1,_=>exact Weak.rfl' _
 | 2,_=>exact Weak.rfl' _
 | 3,_=>exact Weak.rfl' _
 | j+4,h=>exact absurd h (by show ¬ j+4<1*4; omega)
theorem NB (x:Rat) (c:Nat) (hc:1≤c) (h:qb x≤c) (k:Nat):qb (([x]:List Rat).getD k 0)≤c:=by
 have q0:=Ad
 match k with
 | 0=>exact h
 | k+1=>show qb 0≤c; omega
theorem nT (n:V2) (hn:vb n≤100000):Fn Tryz.prog 287 [vA n] (qA (Zg n)):=by
 have:=Qv n; have:=Qn n
 have n1:=D8 n.x
 have n2:=D8 n.y
 have a1:=EJ n.x; have a2:=EJ n.y
 have c1:=CR 1 n.x [-n.x] (by simp) (by unfold vm; omega) (NB _ _ (by unfold vm; omega) (by rw [BI]; unfold vm; omega))
 have c2:=CR 1 n.y [-n.y] (by simp) (by unfold vm; omega) (NB _ _ (by unfold vm; omega) (by rw [BI]; unfold vm; omega))
 rw [show ([-n.x]:List Rat).length=1 from rfl,VP] at c1
 rw [show ([-n.y]:List Rat).length=1 from rfl,VP] at c2
 have c3:=Bk (Co n.x) (Co n.y) (by unfold rm; omega) (by unfold rm; omega)
 rw [show Co n.x+Co n.y=Zg n from rfl] at c3
 obtain ⟨R,hR⟩:∃ R,R=qA (Zg n):=⟨_,rfl⟩
 have sR:Settled R:=hR▸Xd _
 rw [← hR] at c3 ⊢
 refine Fq Tryz.call287 Tryz.func287 3 [] [1,20000001] [] (by simp [wS]) (X0 1000 ?_); simp (maxSteps:=999999) only [AS.start,↓X2,wF,seval]
 refine X1 n1 rfl ?_
 simp only [↓X2,wF,seval]
 refine XZ c1 ⟨Weak.rfl' _,Weak.rfl' _,Th _,trivial⟩ ?_
 simp only [↓X2,wF,seval]
 refine X1 n2 rfl ?_
 simp only [↓X2,wF,seval]
 refine XZ c2 ⟨Weak.rfl' _,Weak.rfl' _,Th _,trivial⟩ ?_
 simp only [↓X2,wF,seval]
 refine X1 c3 rfl ?_
 simp only [hR,↓X2,wF,seval]
 exact JB rfl Qd rfl rfl rfl sR (hR.trans rfl)
theorem Iv (n:V2):qb (Zg n)≤2*vb n+1:=by
 have:=Qv n; have:=Qn n
 have a1:=EJ n.x; have a2:=EJ n.y
 have:=JL (Co n.x) (Co n.y)
 unfold Zg; omega
theorem nJ (n:V2) (e:Rat) (hn:vb n≤100000) (he:qb e≤100000):Fn Tryz.prog 272 [vA n,qA e] (qA (e*Zg n)):=by
 have q:=Iv n
 have c1:=nT n hn
 have c2:=KC e (Zg n) (by unfold rm; omega) (by unfold rm; omega)
 obtain ⟨R,hR⟩:∃ R,R=qA (e*Zg n):=⟨_,rfl⟩
 have sR:Settled R:=hR▸Xd _
 rw [← hR] at c2 ⊢
 refine Fq Tryz.call272 Tryz.func272 5 [] [] [] (by simp [wS]) (X0 1000 ?_); simp (maxSteps:=999999) only [AS.start,↓X2,wF,seval]
 refine X1 c1 rfl ?_
 simp only [↓X2,wF,seval]
 refine X1 c2 rfl ?_
 simp only [hR,↓X2,wF,seval]
 exact JB rfl Qd rfl rfl rfl sR (hR.trans rfl)
def S7 (p q:V2):V2:=⟨(q.sub p).y,-(q.sub p).x⟩
theorem Vc (p q:V2):vb (S7 p q)≤vb p+vb q+1:=by
 have:=Kc q p
 have:=Qv (q.sub p); have:=Qn (q.sub p)
 have:=BI (q.sub p).x
 unfold S7
 show max (qb (q.sub p).y) (qb (-(q.sub p).x))≤_
 omega
theorem IP (p q:V2) (hp:vb p≤100000) (hq:vb q≤100000):Fn Tryz.prog 270 [vA p,vA q] (vA (S7 p q)):=by
 have c1:=CY q p (by unfold rm; omega) (by unfold rm; omega)
 have c2:=D8 (q.sub p).x
 obtain ⟨R,hR⟩:∃ R,R=vA (S7 p q):=⟨_,rfl⟩
 have sR:Settled R:=hR▸Xm _
 rw [← hR]
 refine Fq Tryz.call270 Tryz.func270 6 [] [] [] (by simp [wS]) (X0 1000 ?_); simp (maxSteps:=999999) only [AS.start,↓X2,wF,seval]
 refine X1 c1 rfl ?_
 simp only [↓X2,wF,seval]
 refine X1 c2 rfl ?_
 simp only [↓X2,wF,seval]
 exact ZB rfl Jr rfl rfl rfl sR (hR.trans rfl)
def GD (n:V2) (A B:List V2) (e:Rat):Prop:=e*Zg n≤Fr n A B
theorem Nm (n:V2) (A B:List V2) (k:Nat) (ha:Q3 A k) (hb:Q3 B k):qb (Fr n A B)≤4*(vb n+k)+3:=by
 have e1:=Iu (-1) (Qg n B) _ (CX n B k hb)
 have e2:=Iu 1 (Qg n A) _ (CX n A k ha)
 have:=FA (DK (-1) (Qg n B)) (DK 1 (Qg n A))
 unfold Fr; omega
theorem P8 (n:V2) (A B:List V2) (e:Rat) (k:Nat) (ha:Q3 A k) (hb:Q3 B k) (hk:k≤10000) (la:A.length<1000000) (lb:B.length<1000000) (pa:0<A.length) (pb:0<B.length) (hn:vb n≤10000) (he:qb e≤10000):Fn Tryz.prog 262 [vA n,Xp A,Xp B,qA e] (.bool (decide (GD n A B e))):=by
 have c1:=r7 n A B k ha hb hk la lb pa pb hn
 have c2:=nJ n e (by omega) (by omega)
 have q1:=Nm n A B k ha hb
 have q2:=Iv n
 have q3:=QA e (Zg n)
 have c3:=Kw (Fr n A B) (e*Zg n) (by unfold rm; omega) (by unfold rm; omega)
 have hd:decide (GD n A B e)=decide (0≤QC (Fr n A B) (e*Zg n)):=decide_eq_decide.2 (OX _ _).symm
 rw [hd]
 refine Fq Tryz.call262 Tryz.func262 9 [] [] [] (by simp [Xm,Xf,Xd]) (X0 1000 ?_)
 simp only [AS.start,X5,↓X2,wF,seval]
 refine X1 c1 rfl ?_
 simp only [↓X2,wF,seval]
 refine X1 c2 rfl ?_
 simp only [↓X2,wF,seval]
 refine X1 c3 rfl ?_
 simp only [↓X2,wF,seval]
 exact Xt rfl rfl (X3 _) rfl
theorem SH (x:Rat) (h:qb x≤vm):Fn Tryz.prog 298 [qA x] (qA (Co x)):=by
 unfold vm at h
 have c1:=AW x (by unfold rm; omega)
 have c2:=KZ x (by unfold rm; omega)
 obtain ⟨R,hR⟩:∃ R,R=qA (Co x):=⟨_,rfl⟩
 have sR:Settled R:=hR▸Xd _
 rw [← hR]
 refine Fq Tryz.call298 Tryz.func298 3 [] [] [] (by simp [wS]) (X0 1000 ?_); simp (maxSteps:=999999) only [AS.start,↓X2,wF,seval]
 refine X1 c1 rfl ?_
 by_cases h0:x<0
 ·have f1:(x.num.sign<0)=True:=eq_true ((IB _).2 h0)
  have e:Co x = -x:=if_pos h0
  rw [e] at hR
  simp only [f1,↓X2,wF,seval]
  refine X1 c2 rfl ?_
  simp only [↓X2,wF,seval]
  exact JB rfl Qd rfl rfl rfl sR (hR.trans rfl)
 ·have f1:(x.num.sign<0)=False:=eq_false fun hh=>h0 ((IB _).1 hh)
  have e:Co x=x:=if_neg h0
  rw [e] at hR
  simp only [f1,↓X2,wF,seval]
  exact JB rfl Qd rfl rfl rfl sR (hR.trans rfl)
theorem jf (n:V2) (hn:vb n≤100000):Fn Tryz.prog 294 [vA n] (qA (Zg n)):=by
 have:=Qv n; have:=Qn n
 have a1:=EJ n.x; have a2:=EJ n.y
 have c1:=SH n.x (by unfold vm; omega)
 have c2:=SH n.y (by unfold vm; omega)
 have c3:=JA (Co n.x) (Co n.y) (by unfold rm; omega) (by unfold rm; omega)
 rw [show Co n.x+Co n.y=Zg n from rfl] at c3
 obtain ⟨R,hR⟩:∃ R,R=qA (Zg n):=⟨_,rfl⟩
 have sR:Settled R:=hR▸Xd _
 rw [← hR] at c3 ⊢
 refine Fq Tryz.call294 Tryz.func294 3 [] [] [] (by simp [wS]) (X0 1000 ?_); simp (maxSteps:=999999) only [AS.start,↓X2,wF,seval]
 refine X1 c1 rfl ?_
 simp only [↓X2,wF,seval]
 refine X1 c2 rfl ?_
 simp only [↓X2,wF,seval]
 refine X1 c3 rfl ?_
 simp only [hR,↓X2,wF,seval]
 exact JB rfl Qd rfl rfl rfl sR (hR.trans rfl)
theorem jd (n:V2) (e:Rat) (hn:vb n≤100000) (he:qb e≤100000):Fn Tryz.prog 284 [vA n,qA e] (qA (e*Zg n)):=by
 have q:=Iv n
 have c1:=jf n hn
 have c2:=J0 (Zg n) e (by unfold rm; omega) (by unfold rm; omega)
 rw [Rat.mul_comm] at c2
 obtain ⟨R,hR⟩:∃ R,R=qA (e*Zg n):=⟨_,rfl⟩
 have sR:Settled R:=hR▸Xd _
 rw [← hR] at c2 ⊢
 refine Fq Tryz.call284 Tryz.func284 5 [] [] [] (by simp [wS]) (X0 1000 ?_); simp (maxSteps:=999999) only [AS.start,↓X2,wF,seval]
 refine X1 c1 rfl ?_
 simp only [↓X2,wF,seval]
 refine X1 c2 rfl ?_
 simp only [hR,↓X2,wF,seval]
 exact JB rfl Qd rfl rfl rfl sR (hR.trans rfl)
theorem LX (p q:V2) (hp:vb p≤100000) (hq:vb q≤100000):Fn Tryz.prog 281 [vA p,vA q] (vA (S7 p q)):=by
 have:=Qv p; have:=Qn p; have:=Qv q; have:=Qn q
 have c1:=ZN q.y p.y (by unfold rm; omega) (by unfold rm; omega)
 have c2:=ZN p.x q.x (by unfold rm; omega) (by unfold rm; omega)
 have e:S7 p q=⟨q.y - p.y,p.x - q.x⟩:=by
  unfold S7 V2.sub
  rw [V2.ext']
  exact ⟨rfl,by simp only; grind⟩
 rw [e]
 obtain ⟨R,hR⟩:∃ R,R=vA ⟨q.y - p.y,p.x - q.x⟩:=⟨_,rfl⟩
 have sR:Settled R:=hR▸Xm _
 rw [← hR]
 refine Fq Tryz.call281 Tryz.func281 5 [] [] [] (by simp [wS]) (X0 1000 ?_); simp (maxSteps:=999999) only [AS.start,↓X2,wF,seval]
 refine X1 c1 rfl ?_
 simp only [↓X2,wF,seval]
 refine X1 c2 rfl ?_
 simp only [↓X2,wF,seval]
 exact ZB rfl Jr rfl rfl rfl sR (hR.trans rfl)
theorem P5 (a:V2) (ha:vb a≤vm):Fn Tryz.prog 282 [vA a] (vA (KR a)):=by
 unfold vm at ha
 have:=Qv a; have:=Qn a
 have c1:=KZ a.x (by unfold rm; omega)
 have c2:=KZ a.y (by unfold rm; omega)
 obtain ⟨R,hR⟩:∃ R,R=vA (KR a):=⟨_,rfl⟩
 have sR:Settled R:=hR▸Xm _
 rw [← hR]
 refine Fq Tryz.call282 Tryz.func282 3 [] [] [] (by simp [wS]) (X0 1000 ?_); simp (maxSteps:=999999) only [AS.start,↓X2,wF,seval]
 refine X1 c1 rfl ?_
 simp only [↓X2,wF,seval]
 refine X1 c2 rfl ?_
 simp only [↓X2,wF,seval]
 exact ZB rfl Jr rfl rfl rfl sR (hR.trans rfl)
theorem Rk (x:Rat) (l:List Rat):∀ k,(Zu (-1) x l k≤x∧∀ j,j<k→Zu (-1) x l k≤l.getD j 0)∧(Zu (-1) x l k=x∨∃ j,j<k∧Zu (-1) x l k=l.getD j 0)
 | 0=>⟨⟨Rat.le_refl,fun j hj=>absurd hj (Nat.not_lt_zero j)⟩,.inl rfl⟩
 | k+1=>by
  have ih:=Rk x l k
  simp only [Zu]
  by_cases h:QC (l.getD k 0) (Zu (-1) x l k) = -1
  ·rw [if_pos h]
   have h1:=(Sn _ _).1 h
   exact ⟨⟨Rat.le_trans (Rat.le_of_lt h1) ih.1.1,fun j hj=>by
    by_cases e:j=k
    ·rw [e]; exact Rat.le_refl
    ·exact Rat.le_trans (Rat.le_of_lt h1) (ih.1.2 j (by omega))⟩,.inr ⟨k,by omega,rfl⟩⟩
  ·rw [if_neg h]
   have h1:Zu (-1) x l k≤l.getD k 0:=by rw [← Rat.not_lt]; exact fun hh=>h ((Sn _ _).2 hh)
   refine ⟨⟨ih.1.1,fun j hj=>?_⟩,?_⟩
   ·by_cases e:j=k
    ·rw [e]; exact h1
    ·exact ih.1.2 j (by omega)
   ·rcases ih.2 with h2 | ⟨j,hj,h2⟩
    ·exact .inl h2
    ·exact .inr ⟨j,by omega,h2⟩
theorem Rj (x:Rat) (l:List Rat):∀ k,(x≤Zu 1 x l k∧∀ j,j<k→l.getD j 0≤Zu 1 x l k)∧(Zu 1 x l k=x∨∃ j,j<k∧Zu 1 x l k=l.getD j 0)
 | 0=>⟨⟨Rat.le_refl,fun j hj=>absurd hj (Nat.not_lt_zero j)⟩,.inl rfl⟩
 | k+1=>by
  have ih:=Rj x l k
  simp only [Zu]
  by_cases h:QC (l.getD k 0) (Zu 1 x l k)=1
  ·rw [if_pos h]
   have h1:=(Gu _ _).1 h
   exact ⟨⟨Rat.le_trans ih.1.1 (Rat.le_of_lt h1),fun j hj=>by
    by_cases e:j=k
    ·rw [e]; exact Rat.le_refl
    ·exact Rat.le_trans (ih.1.2 j (by omega)) (Rat.le_of_lt h1)⟩,.inr ⟨k,by omega,rfl⟩⟩
  ·rw [if_neg h]
   have h1:l.getD k 0≤Zu 1 x l k:=by rw [← Rat.not_lt]; exact fun hh=>h ((Gu _ _).2 hh)
   refine ⟨⟨ih.1.1,fun j hj=>?_⟩,?_⟩
   ·by_cases e:j=k
    ·rw [e]; exact h1
    ·exact ih.1.2 j (by omega)
   ·rcases ih.2 with h2 | ⟨j,hj,h2⟩
    ·exact .inl h2
    ·exact .inr ⟨j,by omega,h2⟩
theorem gg (l:List Rat) (h:0<l.length):(∀ j,j<l.length→DK (-1) l≤l.getD j 0)∧∃ j,j<l.length∧DK (-1) l=l.getD j 0:=by
 have hm:=Rk (l.getD 0 0) (l.drop 1) (l.drop 1).length
 rw [show Zu (-1) (l.getD 0 0) (l.drop 1) (l.drop 1).length=DK (-1) l from rfl,List.length_drop] at hm
 refine ⟨fun j hj=>?_,?_⟩
 ·cases j with
  | zero=>exact hm.1.1
  | succ j=>have:=hm.1.2 j (by omega); rwa [AL,Nat.add_comm] at this
 ·rcases hm.2 with h2 | ⟨j,hj,h2⟩
  ·exact ⟨0,h,h2⟩
  ·exact ⟨1+j,by omega,by rw [h2,AL]⟩
theorem ge (l:List Rat) (h:0<l.length):(∀ j,j<l.length→l.getD j 0≤DK 1 l)∧∃ j,j<l.length∧DK 1 l=l.getD j 0:=by
 have hm:=Rj (l.getD 0 0) (l.drop 1) (l.drop 1).length
 rw [show Zu 1 (l.getD 0 0) (l.drop 1) (l.drop 1).length=DK 1 l from rfl,List.length_drop] at hm
 refine ⟨fun j hj=>?_,?_⟩
 ·cases j with
  | zero=>exact hm.1.1
  | succ j=>have:=hm.1.2 j (by omega); rwa [AL,Nat.add_comm] at this
 ·rcases hm.2 with h2 | ⟨j,hj,h2⟩
  ·exact ⟨0,h,h2⟩
  ·exact ⟨1+j,by omega,by rw [h2,AL]⟩
def Rc (n:V2) (A B:List V2) (i k:Nat):Rat:=Q9 n ((B.getD k v0).sub (A.getD i v0))
theorem qK (n:V2) (A B:List V2) (i k:Nat):Rc n A B i k=Q9 n (B.getD k v0) - Q9 n (A.getD i v0):=by unfold Rc Q9 V2.sub; grind
theorem Gr (n:V2) (L:List V2) (i:Nat) (h:i<L.length):(Qg n L).getD i 0=Q9 n (L.getD i v0):=by
 unfold Qg
 rw [List.getD_eq_getElem?_getD,List.getElem?_map,List.getD_eq_getElem?_getD,List.getElem?_eq_getElem h]; rfl
theorem gF (n:V2) (A B:List V2) (pa:0<A.length) (pb:0<B.length) (g:Rat) (h1:∃ i k,i<A.length∧k<B.length∧g=Rc n A B i k) (h2:∀ i k,i<A.length→k<B.length→g≤Rc n A B i k):g=Fr n A B:=by
 have lA:(Qg n A).length=A.length:=by simp [Qg]
 have lB:(Qg n B).length=B.length:=by simp [Qg]
 obtain ⟨u1,j,hj,u2⟩:=gg (Qg n B) (by omega)
 obtain ⟨w1,m,hm,w2⟩:=ge (Qg n A) (by omega)
 obtain ⟨i,k,hi,hk,e⟩:=h1
 rw [lA] at hm; rw [lB] at hj
 have a1:=u1 k (by omega)
 have a2:=w1 i (by omega)
 have a3:=h2 m j hm hj
 rw [Gr _ _ _ hk] at a1
 rw [Gr _ _ _ hi] at a2
 rw [Gr _ _ _ hj] at u2
 rw [Gr _ _ _ hm] at w2
 rw [qK] at e a3
 unfold Fr
 apply Rat.le_antisymm <;> grind
theorem Nc (n:V2) (A B:List V2) (k:Nat) (ha:Q3 A k) (hb:Q3 B k) (i j:Nat):qb (Rc n A B i j)≤2*(vb n+2*k+1)+1:=by
 have:=Kc (B.getD j v0) (A.getD i v0)
 have:=ha i; have:=hb j
 have:=Ac n ((B.getD j v0).sub (A.getD i v0))
 unfold Rc; omega
theorem nI (n:V2) (A B:List V2) (c:Nat) (ha:Q3 A c) (hb:Q3 B c) (hk:c≤10000) (la:A.length<1000000) (lb:B.length<1000000) (pa:0<A.length) (pb:0<B.length) (hn:vb n≤10000):Fn Tryz.prog 283 [vA n,Xp A,Xp B] (qA (Fr n A B)):=by
 have hvc:∀ a:V2,∀ x∈vC a,Settled x:=fun a=>by simp [vC,X7,X3]
 have hqc:∀ r:Rat,∀ x∈qC r,Settled x:=fun r=>by simp [qC,X7,X3]
 have bn:XK 3 (.con 0 8 (Xo (vC n)))=True:=eq_true (fun j _=>X6 (Xc (hvc n) j))
 have bq:∀ r,XK 3 (.row 0 4 (Xo (qC r)))=True:=fun r=>eq_true (XH (hqc r))
 have bz:XK 3 (.row 0 4 (Xo Bc))=True:=eq_true (by simp [Bc,Xv])
 have bA:JJ 3 (Xp A)=True:=eq_true (X6 (Xf A))
 have bB:JJ 3 (Xp B)=True:=eq_true (X6 (Xf B))
 have step:∀ i k,i<A.length→k<B.length→Fn Tryz.prog 104 [vA (B.getD k v0),vA (A.getD i v0)] (vA ((B.getD k v0).sub (A.getD i v0)))∧Fn Tryz.prog 193 [vA n,vA ((B.getD k v0).sub (A.getD i v0))] (qA (Rc n A B i k)):=fun i k hi hk'=>by
  have:=ha i; have:=hb k
  have m:=Kc (B.getD k v0) (A.getD i v0)
  exact ⟨JO _ _ (by unfold rm; omega) (by unfold rm; omega),KX _ _ (by unfold vm; omega) (by unfold vm; omega)⟩
 obtain ⟨d1,d2⟩:=step 0 0 pa pb
 have v1:=vF A 0
 have v2:=vF B 0
 simp only [Nat.zero_mul,Nat.zero_add] at v1 v2
 have f1:(0<A.length)=True:=eq_true pa
 have f2:(0<B.length)=True:=eq_true pb
 have f3:((0:Int)<A.length)=True:=eq_true (by omega)
 have f4:((0:Int)<B.length)=True:=eq_true (by omega)
 have f5:(8≤A.length*8)=True:=eq_true (by omega)
 have f6:(8≤B.length*8)=True:=eq_true (by omega)
 obtain ⟨R,hR⟩:∃ R,R=qA (Fr n A B):=⟨_,rfl⟩
 have sR:Settled R:=hR▸Xd _
 rw [← hR]
 refine Fq Tryz.call283 Tryz.func283 11 [] [1,20000003,8,90000003] [] (by simp [Xm,Xf]) (X0 1000 ?_)
 simp only [AS.start,X5,f1,f2,f3,f4,f5,f6,v1,v2,Int.toNat_zero,Int.reduceLE,↓X2,wF,seval]
 refine X1 d1 rfl ?_
 simp only [↓X2,wF,seval]
 refine X1 d2 rfl ?_
 simp only [↓X2,wF,seval]
 refine Xg (fun p:Nat×Rat=>⟨11,[],[.any,Xp A,Xp B,.ref 0 0 0,.any,.any,.ref 1 0 0,.ref 2 0 0,I p.1,.any,.any],[],[.con 0 8 (Xo (vC n)),.row 0 4 (Xo Bc),.row 0 4 (Xo (qC p.2))]⟩) (fun p=>p.1≤A.length∧(∃ i k,i<A.length∧k<B.length∧p.2=Rc n A B i k)∧∀ i k,i<p.1→k<B.length→p.2≤Rc n A B i k) (fun p=>A.length - p.1) (0,Rc n A B 0 0) ⟨by omega,⟨0,0,pa,pb,rfl⟩,fun i k hi=>absurd hi (Nat.not_lt_zero i)⟩
  (Xa rfl (by simp [Xh,X5,I]) (by simp [Xi]) (by simp [vC,qC,Bc,X4])) ?_
 rintro ⟨i,g⟩ ⟨hi,hat,hle⟩ next
 simp only at hi hat hle
 have w1:=wj i (by omega)
 by_cases hi2:i<A.length
 rotate_left
 ·obtain rfl:i=A.length:=by omega
  rw [← gF n A B pa pb g hat (fun i k h1 h2=>hle i k h1 h2)] at hR
  refine X0 1000 ?_
  simp only [X5,Bc,Int.lt_irrefl,Nat.lt_irrefl,↓X2,wF,seval]
  exact JB rfl Qd rfl rfl rfl sR (hR.trans rfl)
 have g1:((i:Int)<A.length)=True:=eq_true (by omega)
 have g2:(i<A.length)=True:=eq_true hi2
 have g3:(i*8+8≤A.length*8)=True:=eq_true (by omega)
 refine X0 1000 ?_
 simp only [X5,w1,g1,g2,↓X2,wF,seval]
 refine Xg (fun p:Nat×Rat=>⟨11,[],[.any,Xp A,Xp B,.ref 0 0 0,.any,.any,.ref 1 0 0,.ref 2 0 0,I i,I p.1,.any],[],[.con 0 8 (Xo (vC n)),.row 0 4 (Xo Bc),.row 0 4 (Xo (qC p.2))]⟩) (fun p=>p.1≤B.length∧(∃ i k,i<A.length∧k<B.length∧p.2=Rc n A B i k)∧(∀ i' k,i'<i→k<B.length→p.2≤Rc n A B i' k)∧∀ k,k<p.1→p.2≤Rc n A B i k) (fun p=>B.length - p.1) (0,g) ⟨by omega,hat,hle,fun k hk=>absurd hk (Nat.not_lt_zero k)⟩
  (Xa rfl (by simp [Xh,X5,I]) (by simp [Xi]) (by simp [vC,qC,X4])) ?_
 rintro ⟨k,q⟩ ⟨hk1,qat,qle,qrow⟩ nextk
 simp only at hk1 qat qle qrow
 have u1:=wj k (by omega)
 by_cases hk2:k<B.length
 rotate_left
 ·obtain rfl:k=B.length:=by omega
  refine X0 1000 ?_
  simp only [X5,w1,Int.lt_irrefl,Nat.lt_irrefl,↓X2,wF,seval]
  refine next (i+1,q) _ ⟨by simp only; omega,qat,fun i' k' h1 h2=>?_⟩ (by simp only; omega) (Xa rfl (by simp [Xh,X5,I]) (by simp [Xi]) (by simp [vC,qC,X4]))
  by_cases e:i'=i
  ·rw [e]; exact qrow k' h2
  ·exact qle i' k' (by simp only at h1; omega) h2
 have h1:((k:Int)<B.length)=True:=eq_true (by omega)
 have h2:(k<B.length)=True:=eq_true hk2
 have h3:(k*8+8≤B.length*8)=True:=eq_true (by omega)
 have x1:=vF A i
 have x2:=vF B k
 obtain ⟨s1,s2⟩:=step i k hi2 hk2
 have hd:=Nc n A B c ha hb i k
 have hq:qb q≤2*(vb n+2*c+1)+1:=by
  obtain ⟨a,b,_,_,e⟩:=qat
  rw [e]; exact Nc n A B c ha hb a b
 have s3:=J7 (Rc n A B i k) q (by unfold rm; omega) (by unfold rm; omega)
 have hnew:(∃ i k,i<A.length∧k<B.length∧Rc n A B i k=Rc n A B i k):=⟨i,k,hi2,hk2,rfl⟩
 obtain ⟨D,hD⟩:∃ D,D=Rc n A B i k:=⟨_,rfl⟩
 rw [← hD] at s2 s3
 refine X0 1000 ?_
 simp only [X5,w1,u1,g1,g2,g3,h1,h2,h3,x1,x2,Int.toNat_natCast,↓X2,wF,seval]
 refine X1 s1 rfl ?_
 simp only [X5,w1,u1,g1,g2,g3,h1,h2,h3,x1,x2,Int.toNat_natCast,↓X2,wF,seval]
 refine X1 s2 rfl ?_
 simp only [X5,w1,u1,g1,g2,g3,h1,h2,h3,x1,x2,Int.toNat_natCast,↓X2,wF,seval]
 refine X1 s3 rfl ?_
 by_cases hc:D<q
 ·have f:(QC D q<0)=True:=eq_true ((Ke _ _).2 hc)
  simp only [f,u1,↓X2,wF,seval]
  refine nextk (k+1,D) _ ⟨by simp only; omega,⟨i,k,hi2,hk2,hD⟩,fun i' k' a b=>Rat.le_trans (Rat.le_of_lt hc) (qle i' k' a b),fun k' a=>?_⟩ (by simp only; omega) (Xr (m:=3) (Nat.zero_le _) rfl (by simp [X5,Xh,I]) (by simp [Xi]) (by simp [vC,qC,X4]) (by simp [Xv,bA,bB]) (by simp [Xv]) (by simp [bn,bq,bz]))
  by_cases e:k'=k
  ·rw [e,← hD]; exact Rat.le_refl
  ·exact Rat.le_trans (Rat.le_of_lt hc) (qrow k' (by simp only at a; omega))
 ·have f:(QC D q<0)=False:=eq_false fun hh=>hc ((Ke _ _).1 hh)
  simp only [f,u1,↓X2,wF,seval]
  refine nextk (k+1,q) _ ⟨by simp only; omega,qat,qle,fun k' a=>?_⟩ (by simp only; omega) (Xr (m:=3) (Nat.zero_le _) rfl (by simp [X5,Xh,I]) (by simp [Xi]) (by simp [vC,qC,X4]) (by simp [Xv,bA,bB]) (by simp [Xv]) (by simp [bn,bq,bz]))
  by_cases e:k'=k
  ·rw [e,← hD]; exact Rat.not_lt.1 hc
  ·exact qrow k' (by simp only at a; omega)
theorem MP (n:V2) (A B:List V2) (e:Rat) (k:Nat) (ha:Q3 A k) (hb:Q3 B k) (hk:k≤10000) (la:A.length<1000000) (lb:B.length<1000000) (pa:0<A.length) (pb:0<B.length) (hn:vb n≤10000) (he:qb e≤10000):Fn Tryz.prog 266 [vA n,Xp A,Xp B,qA e] (.bool (decide (GD n A B e))):=by
 have c1:=nI n A B k ha hb hk la lb pa pb hn
 have c2:=jd n e (by omega) (by omega)
 have q1:=Nm n A B k ha hb
 have q2:=Iv n
 have q3:=QA e (Zg n)
 have c3:=J7 (Fr n A B) (e*Zg n) (by unfold rm; omega) (by unfold rm; omega)
 have hd:decide (GD n A B e)=decide (0≤QC (Fr n A B) (e*Zg n)):=decide_eq_decide.2 (OX _ _).symm
 rw [hd]
 refine Fq Tryz.call266 Tryz.func266 9 [] [] [] (by simp [Xm,Xf,Xd]) (X0 1000 ?_)
 simp only [AS.start,X5,↓X2,wF,seval]
 refine X1 c1 rfl ?_
 simp only [↓X2,wF,seval]
 refine X1 c2 rfl ?_
 simp only [↓X2,wF,seval]
 refine X1 c3 rfl ?_
 simp only [↓X2,wF,seval]
 exact Xt rfl rfl (X3 _) rfl
def dA (A:List V2) (i:Nat):V2:=S7 (A.getD i v0) (A.getD ((i+1) % A.length) v0)
def dB (B:List V2) (i:Nat):V2:=S7 (B.getD ((i+1) % B.length) v0) (B.getD i v0)
def Hw (A:List V2) (i:Nat):List V2:=(List.range i).map (dA A)
def Mr (B:List V2) (i:Nat):List V2:=(List.range i).map (dB B)
def ZR (A B:List V2):List V2:=(Hw A A.length ++ Mr B B.length) ++ [JD (1,0),JD (0,1),JD (-1,0),JD (0,-1)]
theorem R7 (A:List V2) (i:Nat):Hw A (i+1)=Hw A i ++ [dA A i]:=by unfold Hw; rw [List.range_succ,List.map_append]; rfl
theorem R9 (B:List V2) (i:Nat):Mr B (i+1)=Mr B i ++ [dB B i]:=by unfold Mr; rw [List.range_succ,List.map_append]; rfl
theorem C2 (A:List V2) (i:Nat):(Hw A i).length=i:=by simp [Hw]
theorem Es (B:List V2) (i:Nat):(Mr B i).length=i:=by simp [Mr]
theorem nc (p q:V2):KR (S7 p q)=S7 q p:=by
 unfold KR S7 V2.sub
 rw [V2.ext']
 exact ⟨by simp only; grind,by simp only; grind⟩
theorem sL (L:List V2) (a b c d:V2) (j:Nat) (hj:j<(L.length+4)*8):QR (L.length*8) (Xs vC 8 v0 L) 32 (Xo (vC a ++ (vC b ++ (vC c ++ vC d)))) j=Xs vC 8 v0 (L ++ [a,b,c,d]) j:=by
 unfold QR
 by_cases h:j<L.length*8
 ·rw [if_pos h]
  unfold Xs
  have:j / 8<L.length:=by omega
  have e:(L ++ [a,b,c,d]).getD (j / 8) v0=L.getD (j / 8) v0:=by rw [List.getD_eq_getElem?_getD,List.getD_eq_getElem?_getD,List.getElem?_append_left this]
  rw [e]
 ·rw [if_neg h,if_pos (by omega)]
  obtain ⟨i,rfl⟩:∃ i,j=L.length*8+i:=⟨j - L.length*8,by omega⟩
  have hi:i<32:=by omega
  have e1:L.length*8+i - L.length*8=i:=by omega
  have e2:(L.length*8+i) / 8=L.length+i / 8:=by omega
  have e3:(L.length*8+i) % 8=i % 8:=by omega
  unfold Xs
  rw [e1,e2,e3]
  have e4:(L ++ [a,b,c,d]).getD (L.length+i / 8) v0=[a,b,c,d].getD (i / 8) v0:=by
   rw [List.getD_eq_getElem?_getD,List.getD_eq_getElem?_getD,List.getElem?_append_right (by omega)]
   rw [show L.length+i / 8 - L.length=i / 8 by omega]
  rw [e4]
  clear e1 e2 e3 e4 hj h
  match i,hi with
  | 0,_=>rfl
  | 1,_=>rfl
  | 2,_=>rfl
  | 3,_=>rfl
  | 4,_=>rfl
  | 5,_=>rfl
  | 6,_=>rfl
  | 7,_=>rfl
  | 8,_=>rfl
  | 9,_=>rfl
  | 10,_=>rfl
  | 11,_=>rfl
  | 12,_=>rfl
  | 13,_=>rfl
  | 14,_=>rfl
  | 15,_=>rfl
  | 16,_=>rfl
  | 17,_=>rfl
  | 18,_=>rfl
  | 19,_=>rfl
  | 20,_=>rfl
  | 21,_=>rfl
  | 22,_=>rfl
  | 23,_=>rfl
  | 24,_=>rfl
  | 25,_=>rfl
  | 26,_=>rfl
  | 27,_=>rfl
  | 28,_=>rfl
  | 29,_=>rfl
  | 30,_=>rfl
  | 31,_=>rfl
  | i+32,h=>omega
theorem Lb (A B:List V2) (k:Nat) (ha:Q3 A k) (hb:Q3 B k) (hk:1≤k):∀ x∈ZR A B,vb x≤2*k+3:=by
 intro x hx
 have p4:∀ c:Int×Int,-1≤c.1∧c.1≤1→-1≤c.2∧c.2≤1→vb (JD c)≤3:=fun c h1 h2=>by
  have q1:=KW c.1 3 (by omega) (Qy ⟨by omega,by omega⟩)
  have q2:=KW c.2 3 (by omega) (Qy ⟨by omega,by omega⟩)
  unfold vb JD; simp only; omega
 unfold ZR at hx
 rcases List.mem_append.1 hx with h | h
 ·rcases List.mem_append.1 h with h | h
  ·obtain ⟨i,_,rfl⟩:=List.mem_map.1 h
   have:=Vc (A.getD i v0) (A.getD ((i+1) % A.length) v0)
   have:=ha i; have:=ha ((i+1) % A.length)
   unfold dA; omega
  ·obtain ⟨i,_,rfl⟩:=List.mem_map.1 h
   have:=Vc (B.getD ((i+1) % B.length) v0) (B.getD i v0)
   have:=hb i; have:=hb ((i+1) % B.length)
   unfold dB; omega
 ·simp only [List.mem_cons,List.not_mem_nil,or_false] at h
  rcases h with rfl | rfl | rfl | rfl
  ·exact Nat.le_trans (p4 _ (by decide) (by decide)) (by omega)
  ·exact Nat.le_trans (p4 _ (by decide) (by decide)) (by omega)
  ·exact Nat.le_trans (p4 _ (by decide) (by decide)) (by omega)
  ·exact Nat.le_trans (p4 _ (by decide) (by decide)) (by omega)
theorem tT (a b c d:V2):∀ j,j<32→((vC a ++ (vC b ++ (vC c ++ vC d))).getD j .any).one=true:=fun j hj=>by
 match j,hj with
 | 0,_=>rfl
 | 1,_=>rfl
 | 2,_=>rfl
 | 3,_=>rfl
 | 4,_=>rfl
 | 5,_=>rfl
 | 6,_=>rfl
 | 7,_=>rfl
 | 8,_=>rfl
 | 9,_=>rfl
 | 10,_=>rfl
 | 11,_=>rfl
 | 12,_=>rfl
 | 13,_=>rfl
 | 14,_=>rfl
 | 15,_=>rfl
 | 16,_=>rfl
 | 17,_=>rfl
 | 18,_=>rfl
 | 19,_=>rfl
 | 20,_=>rfl
 | 21,_=>rfl
 | 22,_=>rfl
 | 23,_=>rfl
 | 24,_=>rfl
 | 25,_=>rfl
 | 26,_=>rfl
 | 27,_=>rfl
 | 28,_=>rfl
 | 29,_=>rfl
 | 30,_=>rfl
 | 31,_=>rfl
 | j+32,h=>omega
theorem dW (A B:List V2) (c:Nat) (ha:Q3 A c) (hb:Q3 B c) (hc:c≤10000) (la:A.length<100000) (lb:B.length<100000):Fn Tryz.prog 261 [Xp A,Xp B] (Xp (ZR A B)):=by
 have hvc:∀ a:V2,∀ x∈vC a,Settled x:=fun a=>by simp [vC,X7,X3]
 have bA:JJ 1 (Xp A)=True:=eq_true (X6 (Xf A))
 have bB:JJ 1 (Xp B)=True:=eq_true (X6 (Xf B))
 have br:∀ i l n,XK 1 (.row i n (Xs vC 8 v0 l))=True:=fun i l n=>eq_true fun j _=>X6 (Xc (hvc _) _)
 obtain ⟨R,hR⟩:∃ R,R=Xp (ZR A B):=⟨_,rfl⟩
 rw [← hR]
 refine Fq Tryz.call261 Tryz.func261 10 [10,11,12,31,32,33] [5,60000007,10,110000009] [] (by simp [Xf]) (X0 1000 ?_)
 simp only [AS.start,X5,↓X2,wF,seval]
 refine Xg (fun i:Nat=>⟨10,[10,11,12,31,32,33],[Xp A,Xp B,.any,.any,.any,.osl 0 i 8 0 i,.any,.any,.any,.any],[(10,Xp A),(11,I A.length),(12,I i)],[.row i (i*8) (Xs vC 8 v0 (Hw A i))]⟩) (fun i=>i≤A.length) (fun i=>A.length - i) 0 (by omega)
  (Sub.trans (Q7 5 8 (Xs vC 8 v0 []) rfl) (Xa rfl (by simp [AS.put,Xh,X5,I]) (by simp [AS.put,Xi,Xz,X5,I]) (by simp [AS.put,Hw]))) ?_
 intro i hi next
 have w1:=wj i (by omega)
 by_cases hi2:i<A.length
 ·have nx:=next (i+1)
  have f1:((i:Int)<A.length)=True:=eq_true (by omega)
  have f2:(i<A.length)=True:=eq_true hi2
  have f3:(i*8+8≤A.length*8)=True:=eq_true (by omega)
  have hm:((i+1:Nat):Int).tmod A.length=(((i+1) % A.length:Nat):Int):=rfl
  have hml:(i+1) % A.length<A.length:=Nat.mod_lt _ (by omega)
  have f4:((i+1) % A.length<A.length)=True:=eq_true hml
  have f5:((i+1) % A.length*8+8≤A.length*8)=True:=eq_true (by omega)
  have f6:((A.length:Int)=0)=False:=eq_false (by omega)
  have f6':(A.length=0)=False:=eq_false (by omega)
  have v1:=vF A i
  have v2:=vF A ((i+1) % A.length)
  have s1:=ha i; have s2:=ha ((i+1) % A.length)
  have hap:=XT vC 8 v0 (Hw A i) (dA A i) (by omega)
  rw [C2,← R7] at hap
  have c1:=IP (A.getD i v0) (A.getD ((i+1) % A.length) v0) (by omega) (by omega)
  rw [show S7 (A.getD i v0) (A.getD ((i+1) % A.length) v0)=dA A i from rfl] at c1
  refine X0 1000 ?_
  simp only [X5,w1,f1,f2,f3,f4,f5,f6,f6',hm,v1,v2,Int.toNat_natCast,↓X2,wF,seval]
  refine X1 c1 rfl ?_
  simp only [w1,↓X2,wF,seval]
  exact ⟨⟨Z7 _,by omega,by omega⟩,nx _ (by omega) (by omega) (Xr (m:=1) (Nat.zero_le _) rfl (by simp [Xh,X5,I]) (by simp [Xi,Xz,X5,I]) (by rw [← hap]; rfl) (by simp [Xv,bA,bB]) (by simp [Xv,bA,bB]) (by simp [br]))⟩
 obtain rfl:i=A.length:=by omega
 refine X0 1000 ?_
 simp only [X5,Int.lt_irrefl,Nat.lt_irrefl,↓X2,wF,seval]
 refine Xg (fun i:Nat=>⟨10,[10,11,12,31,32,33],[Xp A,Xp B,.any,.any,.any,.osl 0 (A.length+i) 8 0 (A.length+i),.any,.any,.any,.any],[(31,Xp B),(32,I B.length),(33,I i)],[.row (A.length+i) ((A.length+i)*8) (Xs vC 8 v0 (Hw A A.length ++ Mr B i))]⟩) (fun i=>i≤B.length) (fun i=>B.length - i) 0 (by omega)
  (Xa rfl (by simp [Xh,X5,I]) (by simp [Xi,Xz,X5,I]) (by simp [Mr])) ?_
 intro i hi next
 have w1:=wj i (by omega)
 by_cases hi2:i<B.length
 ·have nx:=next (i+1)
  have f1:((i:Int)<B.length)=True:=eq_true (by omega)
  have f2:(i<B.length)=True:=eq_true hi2
  have f3:(i*8+8≤B.length*8)=True:=eq_true (by omega)
  have hm:((i+1:Nat):Int).tmod B.length=(((i+1) % B.length:Nat):Int):=rfl
  have hml:(i+1) % B.length<B.length:=Nat.mod_lt _ (by omega)
  have f4:((i+1) % B.length<B.length)=True:=eq_true hml
  have f5:((i+1) % B.length*8+8≤B.length*8)=True:=eq_true (by omega)
  have f6:((B.length:Int)=0)=False:=eq_false (by omega)
  have f6':(B.length=0)=False:=eq_false (by omega)
  have v1:=vF B i
  have v2:=vF B ((i+1) % B.length)
  have s1:=hb i; have s2:=hb ((i+1) % B.length)
  have hap:=XT vC 8 v0 (Hw A A.length ++ Mr B i) (dB B i) (by omega)
  rw [List.append_assoc,← R9,List.length_append,C2,Es] at hap
  have ea:A.length+(i+1)=A.length+i+1:=by omega
  simp only [ea] at nx
  have c1:=IP (B.getD ((i+1) % B.length) v0) (B.getD i v0) (by omega) (by omega)
  rw [show S7 (B.getD ((i+1) % B.length) v0) (B.getD i v0)=dB B i from rfl] at c1
  refine X0 1000 ?_
  simp only [X5,w1,f1,f2,f3,f4,f5,f6,f6',hm,v1,v2,Int.toNat_natCast,↓X2,wF,seval]
  refine X1 c1 rfl ?_
  simp only [w1,↓X2,wF,seval]
  exact ⟨⟨Z7 _,by omega,by omega⟩,nx _ (by omega) (by omega) (Xr (m:=1) (Nat.zero_le _) rfl (by simp [Xh,X5,I]) (by simp [Xi,Xz,X5,I]) (by rw [← hap]; rfl) (by simp [Xv,bA,bB]) (by simp [Xv,bA,bB]) (by simp [br]))⟩
 obtain rfl:i=B.length:=by omega
 have hl:(Hw A A.length ++ Mr B B.length).length=A.length+B.length:=by rw [List.length_append,C2,Es]
 have h4:=sL (Hw A A.length ++ Mr B B.length) (JD (1,0)) (JD (0,1)) (JD (-1,0)) (JD (0,-1))
 rw [hl] at h4
 have c1:=He 1 0 ⟨by omega,by omega⟩ ⟨by omega,by omega⟩
 have c2:=He 0 1 ⟨by omega,by omega⟩ ⟨by omega,by omega⟩
 have c3:=He (-1) 0 ⟨by omega,by omega⟩ ⟨by omega,by omega⟩
 have c4:=He 0 (-1) ⟨by omega,by omega⟩ ⟨by omega,by omega⟩
 have hlen:(ZR A B).length=A.length+B.length+4:=by unfold ZR; rw [List.length_append,hl]; rfl
 rw [show (⟨((1:Int):Rat),((0:Int):Rat)⟩:V2)=JD (1,0) from rfl] at c1
 rw [show (⟨((0:Int):Rat),((1:Int):Rat)⟩:V2)=JD (0,1) from rfl] at c2
 rw [show (⟨((-1:Int):Rat),((0:Int):Rat)⟩:V2)=JD (-1,0) from rfl] at c3
 rw [show (⟨((0:Int):Rat),((-1:Int):Rat)⟩:V2)=JD (0,-1) from rfl] at c4
 have hD:ZR A B=(Hw A A.length ++ Mr B B.length) ++ [JD (1,0),JD (0,1),JD (-1,0),JD (0,-1)]:=rfl
 generalize JD (1,0)=E1 at *
 generalize JD (0,1)=E2 at *
 generalize JD (-1,0)=E3 at *
 generalize JD (0,-1)=E4 at *
 refine X0 1000 ?_
 simp only [X5,Int.lt_irrefl,Nat.lt_irrefl,↓X2,wF,seval]
 refine X1 c1 rfl ?_
 simp only [↓X2,wF,seval]
 refine X1 c2 rfl ?_
 simp only [↓X2,wF,seval]
 refine X1 c3 rfl ?_
 simp only [↓X2,wF,seval]
 refine X1 c4 rfl ?_
 simp only [↓X2,wF,seval]
 refine ⟨⟨tT E1 E2 E3 E4,by omega,by omega⟩,?_⟩
 rw [hR]
 refine Bl rfl ?_
 rw [X5,hlen]
 refine Qx (n:=A.length+B.length+4) (.inl rfl) (by omega) (fun h=>by omega) fun j hj=>?_
 rw [Nat.zero_add,hD,← h4 j hj]
 have:=Xc (hvc ((Hw A A.length ++ Mr B B.length ++ [E1,E2,E3,E4]).getD (j / 8) v0)) (j % 8)
 have e:Settled (Xs vC 8 v0 (Hw A A.length ++ Mr B B.length ++ [E1,E2,E3,E4]) j):=this
 rw [← h4 j hj] at e
 exact e.sees _
theorem iY (A B:List V2) (c:Nat) (ha:Q3 A c) (hb:Q3 B c) (hc:c≤10000) (la:A.length<100000) (lb:B.length<100000):Fn Tryz.prog 265 [Xp A,Xp B] (Xp (ZR A B)):=by
 have hvc:∀ a:V2,∀ x∈vC a,Settled x:=fun a=>by simp [vC,X7,X3]
 have bA:JJ 1 (Xp A)=True:=eq_true (X6 (Xf A))
 have bB:JJ 1 (Xp B)=True:=eq_true (X6 (Xf B))
 have br:∀ i l n,XK 1 (.row i n (Xs vC 8 v0 l))=True:=fun i l n=>eq_true fun j _=>X6 (Xc (hvc _) _)
 obtain ⟨R,hR⟩:∃ R,R=Xp (ZR A B):=⟨_,rfl⟩
 rw [← hR]
 refine Fq Tryz.call265 Tryz.func265 8 [] [5,9] [] (by simp [Xf]) (X0 1000 ?_)
 simp only [AS.start,X5,↓X2,wF,seval]
 refine Xg (fun i:Nat=>⟨8,[],[Xp A,Xp B,.any,.any,.any,.osl 0 i 8 0 i,I i,.any],[],[.row i (i*8) (Xs vC 8 v0 (Hw A i))]⟩) (fun i=>i≤A.length) (fun i=>A.length - i) 0 (by omega)
  (Sub.trans (Q7 5 8 (Xs vC 8 v0 []) rfl) (Xa rfl (by simp [AS.put,Xh,X5,I]) (by simp [AS.put,Xi]) (by simp [AS.put,Hw]))) ?_
 intro i hi next
 have w1:=wj i (by omega)
 by_cases hi2:i<A.length
 ·have nx:=next (i+1)
  have f1:((i:Int)<A.length)=True:=eq_true (by omega)
  have f2:(i<A.length)=True:=eq_true hi2
  have f3:(i*8+8≤A.length*8)=True:=eq_true (by omega)
  have hm:((i+1:Nat):Int).tmod A.length=(((i+1) % A.length:Nat):Int):=rfl
  have hml:(i+1) % A.length<A.length:=Nat.mod_lt _ (by omega)
  have f4:((i+1) % A.length<A.length)=True:=eq_true hml
  have f5:((i+1) % A.length*8+8≤A.length*8)=True:=eq_true (by omega)
  have f6:((A.length:Int)=0)=False:=eq_false (by omega)
  have f6':(A.length=0)=False:=eq_false (by omega)
  have v1:=vF A i
  have v2:=vF A ((i+1) % A.length)
  have s1:=ha i; have s2:=ha ((i+1) % A.length)
  have hap:=XT vC 8 v0 (Hw A i) (dA A i) (by omega)
  rw [C2,← R7] at hap
  have c0:=OM A i (by omega) hi2
  have c1:=LX (A.getD i v0) (A.getD ((i+1) % A.length) v0) (by omega) (by omega)
  rw [show S7 (A.getD i v0) (A.getD ((i+1) % A.length) v0)=dA A i from rfl] at c1
  refine X0 1000 ?_
  simp only [X5,w1,f1,f2,f3,f4,f5,f6,f6',hm,v1,v2,Int.toNat_natCast,↓X2,wF,seval]
  refine X1 c0 rfl ?_
  simp only [X5,w1,f1,f2,f3,f4,f5,f6,f6',hm,v1,v2,Int.toNat_natCast,↓X2,wF,seval]
  refine X1 c1 rfl ?_
  simp only [w1,↓X2,wF,seval]
  exact ⟨⟨Z7 _,by omega,by omega⟩,nx _ (by omega) (by omega) (Xr (m:=1) (Nat.zero_le _) rfl (by simp [Xh,X5,I]) (by simp [Xi]) (by rw [← hap]; rfl) (by simp [Xv,bA,bB]) (by simp [Xv,bA,bB]) (by simp [br]))⟩
 obtain rfl:i=A.length:=by omega
 refine X0 1000 ?_
 simp only [X5,Int.lt_irrefl,Nat.lt_irrefl,↓X2,wF,seval]
 refine Xg (fun i:Nat=>⟨8,[],[Xp A,Xp B,.any,.any,.any,.osl 0 (A.length+i) 8 0 (A.length+i),.any,I i],[],[.row (A.length+i) ((A.length+i)*8) (Xs vC 8 v0 (Hw A A.length ++ Mr B i))]⟩) (fun i=>i≤B.length) (fun i=>B.length - i) 0 (by omega)
  (Xa rfl (by simp [Xh,X5,I]) (by simp [Xi]) (by simp [Mr])) ?_
 intro i hi next
 have w1:=wj i (by omega)
 by_cases hi2:i<B.length
 ·have nx:=next (i+1)
  have f1:((i:Int)<B.length)=True:=eq_true (by omega)
  have f2:(i<B.length)=True:=eq_true hi2
  have f3:(i*8+8≤B.length*8)=True:=eq_true (by omega)
  have hm:((i+1:Nat):Int).tmod B.length=(((i+1) % B.length:Nat):Int):=rfl
  have hml:(i+1) % B.length<B.length:=Nat.mod_lt _ (by omega)
  have f4:((i+1) % B.length<B.length)=True:=eq_true hml
  have f5:((i+1) % B.length*8+8≤B.length*8)=True:=eq_true (by omega)
  have f6:((B.length:Int)=0)=False:=eq_false (by omega)
  have f6':(B.length=0)=False:=eq_false (by omega)
  have v1:=vF B i
  have v2:=vF B ((i+1) % B.length)
  have s1:=hb i; have s2:=hb ((i+1) % B.length)
  have hap:=XT vC 8 v0 (Hw A A.length ++ Mr B i) (dB B i) (by omega)
  rw [List.append_assoc,← R9,List.length_append,C2,Es] at hap
  have ea:A.length+(i+1)=A.length+i+1:=by omega
  simp only [ea] at nx
  have c0:=OM B i (by omega) hi2
  have c1:=LX (B.getD i v0) (B.getD ((i+1) % B.length) v0) (by omega) (by omega)
  have vn:=Vc (B.getD i v0) (B.getD ((i+1) % B.length) v0)
  have c2:=P5 (S7 (B.getD i v0) (B.getD ((i+1) % B.length) v0)) (by unfold vm; omega)
  rw [nc,show S7 (B.getD ((i+1) % B.length) v0) (B.getD i v0)=dB B i from rfl] at c2
  refine X0 1000 ?_
  simp only [X5,w1,f1,f2,f3,f4,f5,f6,f6',hm,v1,v2,Int.toNat_natCast,↓X2,wF,seval]
  refine X1 c0 rfl ?_
  simp only [X5,w1,f1,f2,f3,f4,f5,f6,f6',hm,v1,v2,Int.toNat_natCast,↓X2,wF,seval]
  refine X1 c1 rfl ?_
  simp only [X5,w1,f1,f2,f3,f4,f5,f6,f6',hm,v1,v2,Int.toNat_natCast,↓X2,wF,seval]
  refine X1 c2 rfl ?_
  simp only [w1,↓X2,wF,seval]
  exact ⟨⟨Z7 _,by omega,by omega⟩,nx _ (by omega) (by omega) (Xr (m:=1) (Nat.zero_le _) rfl (by simp [Xh,X5,I]) (by simp [Xi]) (by rw [← hap]; rfl) (by simp [Xv,bA,bB]) (by simp [Xv,bA,bB]) (by simp [br]))⟩
 obtain rfl:i=B.length:=by omega
 have hl:(Hw A A.length ++ Mr B B.length).length=A.length+B.length:=by rw [List.length_append,C2,Es]
 have h4:=sL (Hw A A.length ++ Mr B B.length) (JD (1,0)) (JD (0,1)) (JD (-1,0)) (JD (0,-1))
 rw [hl] at h4
 have c1:=KI 1 0 ⟨by omega,by omega⟩ ⟨by omega,by omega⟩
 have c2:=KI 0 1 ⟨by omega,by omega⟩ ⟨by omega,by omega⟩
 have c3:=KI (-1) 0 ⟨by omega,by omega⟩ ⟨by omega,by omega⟩
 have c4:=KI 0 (-1) ⟨by omega,by omega⟩ ⟨by omega,by omega⟩
 have hlen:(ZR A B).length=A.length+B.length+4:=by unfold ZR; rw [List.length_append,hl]; rfl
 rw [show (⟨((1:Int):Rat),((0:Int):Rat)⟩:V2)=JD (1,0) from rfl] at c1
 rw [show (⟨((0:Int):Rat),((1:Int):Rat)⟩:V2)=JD (0,1) from rfl] at c2
 rw [show (⟨((-1:Int):Rat),((0:Int):Rat)⟩:V2)=JD (-1,0) from rfl] at c3
 rw [show (⟨((0:Int):Rat),((-1:Int):Rat)⟩:V2)=JD (0,-1) from rfl] at c4
 have hD:ZR A B=(Hw A A.length ++ Mr B B.length) ++ [JD (1,0),JD (0,1),JD (-1,0),JD (0,-1)]:=rfl
 generalize JD (1,0)=E1 at *
 generalize JD (0,1)=E2 at *
 generalize JD (-1,0)=E3 at *
 generalize JD (0,-1)=E4 at *
 refine X0 1000 ?_
 simp only [X5,Int.lt_irrefl,Nat.lt_irrefl,↓X2,wF,seval]
 refine X1 c1 rfl ?_
 simp only [↓X2,wF,seval]
 refine X1 c2 rfl ?_
 simp only [↓X2,wF,seval]
 refine X1 c3 rfl ?_
 simp only [↓X2,wF,seval]
 refine X1 c4 rfl ?_
 simp only [↓X2,wF,seval]
 refine ⟨⟨tT E1 E2 E3 E4,by omega,by omega⟩,?_⟩
 rw [hR]
 refine Bl rfl ?_
 rw [X5,hlen]
 refine Qx (n:=A.length+B.length+4) (.inl rfl) (by omega) (fun h=>by omega) fun j hj=>?_
 rw [Nat.zero_add,hD,← h4 j hj]
 have:=Xc (hvc ((Hw A A.length ++ Mr B B.length ++ [E1,E2,E3,E4]).getD (j / 8) v0)) (j % 8)
 have e:Settled (Xs vC 8 v0 (Hw A A.length ++ Mr B B.length ++ [E1,E2,E3,E4]) j):=this
 rw [← h4 j hj] at e
 exact e.sees _
def G4 (p:V2→Bool):List V2→V2×Bool
 | []=>(v0,false)
 | x :: l=>if p x=true then (x,true) else G4 p l
theorem H7 {p:V2→Bool}:∀ {s:List V2} {j:Nat},j<s.length→p (s.getD j v0)=true→(∀ i,i<j→p (s.getD i v0)=false)→G4 p s=(s.getD j v0,true)
 | [],j,h,_,_=>absurd h (Nat.not_lt_zero j)
 | x :: l,0,_,h,_=>if_pos h
 | x :: l,j+1,hj,h,hno=>by
  have h0:p x=false:=hno 0 (by omega)
  have ih:=H7 (p:=p) (s:=l) (j:=j) (by simpa using hj) h (fun i hi=>hno (i+1) (by omega))
  show (if p x=true then (x,true) else G4 p l)=_
  rw [if_neg (by rw [h0]; decide),ih]
  rfl
theorem Fo {p:V2→Bool}:∀ {s:List V2},(∀ i,i<s.length→p (s.getD i v0)=false)→G4 p s=(v0,false)
 | [],_=>rfl
 | x :: l,hno=>by
  have h0:p x=false:=hno 0 (by simp)
  have ih:=Fo (p:=p) (s:=l) (fun i hi=>hno (i+1) (by simpa using hi))
  show (if p x=true then (x,true) else G4 p l)=_
  rw [if_neg (by rw [h0]; decide),ih]
noncomputable def Zv (A B:List V2) (e:Rat):V2×Bool:=G4 (fun d=>decide (GD d A B e)) (ZR A B)
structure Shp (c:Nat) (A:List V2):Prop where
 small:Q3 A c
 pos:0<A.length
 len:A.length<10000
theorem Pv (A B:List V2) (e:Rat) (c:Nat) (ha:Shp c A) (hb:Shp c B) (h1:1≤c) (hc:c≤1000) (he:qb e≤10000):Fn Tryz.prog 244 [Xp A,Xp B,qA e] (.tup [vA (Zv A B e).1,.bool (Zv A B e).2]):=by
 obtain ⟨a1,a2,a3⟩:=ha
 obtain ⟨b1,b2,b3⟩:=hb
 obtain ⟨R,hR⟩:∃ R,R=Zv A B e:=⟨_,rfl⟩
 rw [← hR]
 have cd:=dW A B c a1 b1 (by omega) (by omega) (by omega)
 have hds:=Lb A B c a1 b1 h1
 unfold Zv at hR
 have hlen:(ZR A B).length=A.length+B.length+4:=by unfold ZR; rw [List.length_append,List.length_append,C2,Es]; rfl
 generalize ZR A B=D at *
 have be:XK 2 (.row 0 4 (Xo (qC e)))=True:=eq_true (XH (by simp [qC,X7,X3]))
 have bz:XK 2 (.row 0 8 (Xo XQ))=True:=eq_true (XH (Z3 [] [] ⟨0,0,0,0,0,v0,v0,v0⟩ 0))
 have bA:JJ 2 (Xp A)=True:=eq_true (X6 (Xf A))
 have bB:JJ 2 (Xp B)=True:=eq_true (X6 (Xf B))
 have bD:JJ 2 (Xp D)=True:=eq_true (X6 (Xf D))
 refine Fq Tryz.call244 Tryz.func244 10 [12,13,14] [] [] (by simp [Xf,Xd]) (X0 1000 ?_)
 simp only [AS.start,X5,↓X2,wF,seval]
 refine X1 cd rfl ?_
 simp only [X5,↓X2,wF,seval]
 refine Xg (fun i:Nat=>⟨10,[12,13,14],[Xp A,Xp B,.any,.any,.any,.ref 0 0 0,.ref 1 0 0,.bool false,.any,.any],[(12,Xp D),(13,I D.length),(14,I i)],[.row 0 4 (Xo (qC e)),.row 0 8 (Xo XQ)]⟩) (fun i=>i≤D.length∧∀ j,j<i→decide (GD (D.getD j v0) A B e)=false) (fun i=>D.length - i) 0 ⟨by omega,by omega⟩
  (Xa rfl (by simp [Xh,X5,I]) (by simp [Xi,Xz,X5,I]) (by simp [qC,XQ,X4])) ?_
 rintro i ⟨hi,hno⟩ next
 have w1:=wj i (by omega)
 by_cases hi2:i<D.length
 rotate_left
 ·obtain rfl:i=D.length:=by omega
  rw [Fo hno] at hR
  refine X0 1000 ?_
  simp only [X5,XQ,Int.lt_irrefl,Nat.lt_irrefl,↓X2,wF,seval]
  subst hR
  exact Jn rfl (Xq Jr rfl rfl rfl) (by unfold QU; rfl) (Xu (Xm _) (XW ZJ)) ((X3 _).sees _)
 have f1:((i:Int)<D.length)=True:=eq_true (by omega)
 have f2:(i<D.length)=True:=eq_true hi2
 have f3:(i*8+8≤D.length*8)=True:=eq_true (by omega)
 have v1:=vF D i
 have hs:=hds _ (EQ hi2)
 have cs:=P8 (D.getD i v0) A B e c a1 b1 (by omega) (by omega) (by omega) a2 b2 (by omega) he
 have nx:=next (i+1)
 refine X0 1000 ?_
 simp only [X5,w1,f1,f2,f3,v1,Int.toNat_natCast,↓X2,wF,seval]
 refine X1 cs rfl ?_
 by_cases hsep:GD (D.getD i v0) A B e
 ·have hd:decide (GD (D.getD i v0) A B e)=true:=decide_eq_true hsep
  rw [hd]
  rw [H7 hi2 hd hno] at hR
  simp only [X5,XQ,w1,f1,f2,f3,v1,Int.toNat_natCast,↓X2,wF,seval]
  subst hR
  exact Jn rfl (Xq Jr rfl rfl rfl) (by unfold QU; rfl) (Xu (Xm _) (XW (Q0 (vC (D.getD i v0))))) ((X3 _).sees _)
 ·have hd:decide (GD (D.getD i v0) A B e)=false:=decide_eq_false hsep
  rw [hd]
  simp only [w1,↓X2,wF,seval]
  exact nx _ ⟨by omega,Kf.2 ⟨hno,hd⟩⟩ (by omega) (Xr (m:=2) (Nat.zero_le _) rfl (by simp [Xh,X5,I]) (by simp [Xi,Xz,X5,I]) (by simp [qC,XQ,X4]) (by simp [Xv,bA,bB,bD]) (by simp [Xv,bD]) (by simp [be,bz]))
theorem ja (A B:List V2) (e:Rat) (c:Nat) (ha:Shp c A) (hb:Shp c B) (h1:1≤c) (hc:c≤1000) (he:qb e≤10000):Fn Tryz.prog 248 [Xp A,Xp B,qA e] (.tup [vA (Zv A B e).1,.bool (Zv A B e).2]):=by
 obtain ⟨a1,a2,a3⟩:=ha
 obtain ⟨b1,b2,b3⟩:=hb
 obtain ⟨R,hR⟩:∃ R,R=Zv A B e:=⟨_,rfl⟩
 rw [← hR]
 have cd:=iY A B c a1 b1 (by omega) (by omega) (by omega)
 have hds:=Lb A B c a1 b1 h1
 unfold Zv at hR
 have hlen:(ZR A B).length=A.length+B.length+4:=by unfold ZR; rw [List.length_append,List.length_append,C2,Es]; rfl
 generalize ZR A B=D at *
 have be:XK 2 (.con 0 4 (Xo (qC e)))=True:=eq_true (fun j _=>X6 (Xc (by simp [qC,X7,X3]) j))
 have bz:XK 2 (.row 0 8 (Xo XQ))=True:=eq_true (XH (Z3 [] [] ⟨0,0,0,0,0,v0,v0,v0⟩ 0))
 have bA:JJ 2 (Xp A)=True:=eq_true (X6 (Xf A))
 have bB:JJ 2 (Xp B)=True:=eq_true (X6 (Xf B))
 have bD:JJ 2 (Xp D)=True:=eq_true (X6 (Xf D))
 refine Fq Tryz.call248 Tryz.func248 10 [] [5,60000005] [] (by simp [Xf,Xd]) (X0 1000 ?_)
 simp only [AS.start,X5,↓X2,wF,seval]
 refine X1 cd rfl ?_
 simp only [X5,↓X2,wF,seval]
 refine Xg (fun i:Nat=>⟨10,[],[Xp A,Xp B,.any,.any,.any,.ref 0 0 0,.ref 1 0 0,.bool false,Xp D,I i],[],[.con 0 4 (Xo (qC e)),.row 0 8 (Xo XQ)]⟩) (fun i=>i≤D.length∧∀ j,j<i→decide (GD (D.getD j v0) A B e)=false) (fun i=>D.length - i) 0 ⟨by omega,by omega⟩
  (Sub.trans (XR 0 rfl) (Xa rfl (by simp [Xh,X5,I]) (by simp [Xi]) (by simp [qC,XQ,X4]))) ?_
 rintro i ⟨hi,hno⟩ next
 have w1:=wj i (by omega)
 by_cases hi2:i<D.length
 rotate_left
 ·obtain rfl:i=D.length:=by omega
  rw [Fo hno] at hR
  refine X0 1000 ?_
  simp only [X5,XQ,Int.lt_irrefl,Nat.lt_irrefl,↓X2,wF,seval]
  subst hR
  exact Jn rfl (Xq Jr rfl rfl rfl) (by unfold QU; rfl) (Xu (Xm _) (XW ZJ)) ((X3 _).sees _)
 have f1:((i:Int)<D.length)=True:=eq_true (by omega)
 have f2:(i<D.length)=True:=eq_true hi2
 have f3:(i*8+8≤D.length*8)=True:=eq_true (by omega)
 have v1:=vF D i
 have hs:=hds _ (EQ hi2)
 have cs:=MP (D.getD i v0) A B e c a1 b1 (by omega) (by omega) (by omega) a2 b2 (by omega) he
 have nx:=next (i+1)
 refine X0 1000 ?_
 simp only [X5,w1,f1,f2,f3,v1,Int.toNat_natCast,↓X2,wF,seval]
 refine X1 cs rfl ?_
 by_cases hsep:GD (D.getD i v0) A B e
 ·have hd:decide (GD (D.getD i v0) A B e)=true:=decide_eq_true hsep
  rw [hd]
  rw [H7 hi2 hd hno] at hR
  simp only [X5,XQ,w1,f1,f2,f3,v1,Int.toNat_natCast,↓X2,wF,seval]
  subst hR
  exact Jn rfl (Xq Jr rfl rfl rfl) (by unfold QU; rfl) (Xu (Xm _) (XW (Q0 (vC (D.getD i v0))))) ((X3 _).sees _)
 ·have hd:decide (GD (D.getD i v0) A B e)=false:=decide_eq_false hsep
  rw [hd]
  simp only [w1,↓X2,wF,seval]
  exact nx _ ⟨by omega,Kf.2 ⟨hno,hd⟩⟩ (by omega) (Xr (m:=2) (Nat.zero_le _) rfl (by simp [Xh,X5,I]) (by simp [Xi]) (by simp [qC,XQ,X4]) (by simp [Xv,bA,bB,bD]) (by simp [Xv,bD]) (by simp [be,bz]))
noncomputable def GT (l:List (List V2)):AV:=Qu Xp [] l
theorem XI (l:List (List V2)):GT l=.sl l.length l.length (Qa Xp [] l) false:=nrfl rfl
theorem K4 (l:List (List V2)):Settled (GT l):=J9 fun _ _=>Xf _
theorem pv (l:List (List V2)) (i:Nat):Qa Xp [] l i=Xp (l.getD i []):=nrfl rfl
noncomputable def Zo (A B:List (List V2)) (e:Rat) (i k:Nat):Bool:=(Zv (A.getD i []) (B.getD k []) e).2
noncomputable def IL (A B:List (List V2)) (e:Rat) (i:Nat):Bool:=decide (∀ k,k<B.length→Zo A B e i k=true)
noncomputable def I3 (A B:List (List V2)) (e:Rat):Bool:=decide (∀ i,i<A.length→IL A B e i=true)
theorem Vp {A B:List (List V2)} {e:Rat} {i k:Nat} (h:k<B.length) (hp:Zo A B e i k=false):IL A B e i=false :=
 decide_eq_false fun H=>by rw [H k h] at hp; cases hp
theorem kJ {A B:List (List V2)} {e:Rat} {i:Nat} (h:i<A.length) (hp:IL A B e i=false):I3 A B e=false :=
 decide_eq_false fun H=>by rw [H i h] at hp; cases hp
theorem nD (A B:List (List V2)) (e:Rat) (c:Nat) (ha:∀ i,i<A.length→Shp c (A.getD i [])) (hb:∀ i,i<B.length→Shp c (B.getD i [])) (h1:1≤c) (hc:c≤1000) (he:qb e≤10000) (la:A.length≤1000) (lb:B.length≤1000) :
  Fn Tryz.prog 214 [GT A,GT B,qA e] (.tup [.any,.bool (I3 A B e)]):=by
 have hvc:∀ a:V2,∀ x∈vC a,Settled x:=fun a=>by simp [vC,X7,X3]
 have be:XK 2 (.con 0 4 (Xo (qC e)))=True:=eq_true (fun j _=>X6 (Xc (by simp [qC,X7,X3]) j))
 have bA:JJ 2 (GT A)=True:=eq_true (X6 (K4 A))
 have bB:JJ 2 (GT B)=True:=eq_true (X6 (K4 B))
 have br:∀ i l n,XK 2 (.row i n (Xs vC 8 v0 l))=True:=fun i l n=>eq_true fun j _=>X6 (Xc (hvc _) _)
 have vA':=fun i=>pv A i
 have vB':=fun i=>pv B i
 refine Fq Tryz.call214 Tryz.func214 13 [] [8,90000005] [] (by simp [K4,Xd]) (X0 1000 ?_)
 simp only [AS.start,XI,↓X2,wF,seval]
 refine Xg (fun w:Nat×List V2=>⟨13,[],[GT A,GT B,.any,.any,.any,.ref 0 0 0,.any,.any,.osl 1 w.2.length 8 0 w.2.length,I w.1,.any,.any,.any],[],[.con 0 4 (Xo (qC e)),.row w.2.length (w.2.length*8) (Xs vC 8 v0 w.2)]⟩) (fun w=>w.1≤A.length∧w.2.length=w.1*B.length∧∀ j,j<w.1→IL A B e j=true) (fun w=>A.length - w.1) (0,[]) ⟨by simp,by simp,fun j hj=>absurd hj (Nat.not_lt_zero j)⟩
  (Sub.trans (XR 0 rfl) (Sub.trans (Q7 8 8 (Xs vC 8 v0 []) rfl) (Xa rfl (by simp [AS.put,Xh,XI,I]) (by simp [Xi]) (by simp [qC,X4])))) ?_
 rintro ⟨i,W⟩ ⟨hi,hW,hno⟩ next
 replace hi:i≤A.length:=hi
 replace hW:W.length=i*B.length:=hW
 replace hno:∀ j,j<i→IL A B e j=true:=hno
 have w1:=wj i (by omega)
 by_cases hi2:i<A.length
 rotate_left
 ·obtain rfl:i=A.length:=by omega
  have hR:I3 A B e=true:=decide_eq_true hno
  rw [hR]
  refine X0 1000 ?_
  simp only [XI,Int.lt_irrefl,Nat.lt_irrefl,↓X2,wF,seval]
  exact SB rfl (ZE ⟨Xu ZX (GO _),(X3 _).sees _,trivial⟩)
 have f1:((i:Int)<A.length)=True:=eq_true (by omega)
 have f2:(i<A.length)=True:=eq_true hi2
 have f3:(i+1≤A.length)=True:=eq_true (by omega)
 refine X0 1000 ?_
 simp only [XI,w1,f1,f2,f3,↓X2,wF,seval]
 refine Xg (fun w:Nat×List V2=>⟨13,[],[GT A,GT B,.any,.any,.any,.ref 0 0 0,.any,.any,.osl 1 w.2.length 8 0 w.2.length,I i,I w.1,.any,.any],[],[.con 0 4 (Xo (qC e)),.row w.2.length (w.2.length*8) (Xs vC 8 v0 w.2)]⟩) (fun w=>w.1≤B.length∧w.2.length=i*B.length+w.1∧∀ k,k<w.1→Zo A B e i k=true) (fun w=>B.length - w.1) (0,W) ⟨by simp,by simpa using hW,fun j hj=>absurd hj (Nat.not_lt_zero j)⟩
  (Xa rfl (by simp [Xh,XI,I]) (by simp [Xi]) (by simp [qC,X4])) ?_
 rintro ⟨k,Y⟩ ⟨hk,hY,hyes⟩ next2
 replace hk:k≤B.length:=hk
 replace hY:Y.length=i*B.length+k:=hY
 replace hyes:∀ j,j<k→Zo A B e i j=true:=hyes
 have w2:=wj k (by omega)
 by_cases hk2:k<B.length
 rotate_left
 ·obtain rfl:k=B.length:=by omega
  have nx:=next (i+1,Y)
  refine X0 1000 ?_
  simp only [XI,w1,Int.lt_irrefl,Nat.lt_irrefl,↓X2,wF,seval]
  exact nx _ ⟨by omega,by simp only; rw [hY,Nat.succ_mul],Kf.2 ⟨hno,decide_eq_true hyes⟩⟩ (by simp only; omega) (Xa rfl (by simp [Xh,XI,I]) (by simp [Xi]) (by simp [qC,X4]))
 have g1:((k:Int)<B.length)=True:=eq_true (by omega)
 have g2:(k<B.length)=True:=eq_true hk2
 have g3:(k+1≤B.length)=True:=eq_true (by omega)
 have cf:=ja (A.getD i []) (B.getD k []) e c (ha i hi2) (hb k hk2) h1 hc he
 have hb1:i*B.length≤1000*1000:=Nat.mul_le_mul (by omega) lb
 have hap:=XT vC 8 v0 Y (Zv (A.getD i []) (B.getD k []) e).1 (by omega)
 refine X0 1000 ?_
 simp only [XI,w1,w2,f1,f2,f3,g1,g2,g3,vA',vB',Int.toNat_natCast,↓X2,wF,seval]
 refine X1 cf rfl ?_
 have hpk:Zo A B e i k=(Zv (A.getD i []) (B.getD k []) e).2:=rfl
 cases hv:(Zv (A.getD i []) (B.getD k []) e).2 with
 | false =>
  have hR:I3 A B e=false:=kJ hi2 (Vp hk2 (hpk.trans hv))
  rw [hR]
  simp only [w1,w2,↓X2,wF,seval]
  exact SB rfl (ZE ⟨Xu ZX (GO _),(X3 _).sees _,trivial⟩)
 | true =>
  have nx:=next2 (k+1,Y ++ [(Zv (A.getD i []) (B.getD k []) e).1])
  simp only [List.length_append,List.length_singleton] at nx
  simp only [w1,w2,↓X2,wF,seval]
  exact ⟨⟨Z7 _,by omega,by omega⟩,nx _ ⟨by omega,by omega,Kf.2 ⟨hyes,hpk.trans hv⟩⟩ (by omega) (Xr (m:=2) (Nat.zero_le _) rfl (by simp [Xh,XI,I]) (by simp [Xi]) (by rw [← hap]; rfl) (by simp [Xv,bA,bB]) (by simp [Xv]) (by simp [be,br]))⟩
def ZG (A:List (List V2)):AV:=.ptr 1 (Xo [GT A]) 0
theorem J3 (A:List (List V2)):ZG A=.ptr 1 (Xo [GT A]) 0:=nrfl rfl
theorem GE (A:List (List V2)):Settled (ZG A):=J2 fun j hj=>by
 obtain rfl:j=0:=by omega
 exact K4 A
theorem iH (A B:List (List V2)):Fn Tryz.prog 243 [GT A,GT B] (.fn 260 [ZG A,ZG B]):=by
 have hset:Settled (.fn 260 [ZG A,ZG B]):=Jm (by
  intro a ha
  simp only [List.mem_cons,List.not_mem_nil,or_false] at ha
  rcases ha with rfl | rfl <;> exact GE _)
 refine Fq Tryz.call243 Tryz.func243 5 [] [] [] (by simp [K4]) (X0 1000 ?_)
 simp only [AS.start,XI,↓X2,wF,seval]
 refine Bl rfl (Ca ⟨Z2 (.inl rfl) (by omega) fun j hj=>?_,Z2 (.inl rfl) (by omega) fun j hj=>?_,trivial⟩)
 ·obtain rfl:j=0:=by omega
  exact (K4 A).sees _
 ·obtain rfl:j=0:=by omega
  exact (K4 B).sees _
theorem G7 {P:Program} {tok:List Tok} {all:Array Oper} {i:Nat} {s:AS} {o:Oper} {v:AV} {h':List AO} (ho:all[i]?=some o) (hg:o.guard=none) (h:Jb P false none o.op s.ev s.h=some (v,h')) :
  GStep P tok (fun _=>false) true (fun _=>none) all i s (({ s with h:=h' }:AS).putO o.dst v):=⟨o,ho,.inl ⟨by unfold gval; rw [hg],⟨fun _ h=>(by cases h),v,h',.inl h,rfl⟩⟩⟩
def Pn (m:Nat) (H:List AO):Prop:=H.length=m∧∀ o∈H,XK m o∧o≠.unborn∧∀ v n f,o≠.con v n f
theorem UH (A B:List (List V2)) (t:Tok) (m:Nat) (Hs:Nat→List AO) (la:A.length≤1000) (lb:B.length≤1000) (hHs:∀ n,Pn m (Hs n)) (hce:t.ce.H.length≤m)
  (hy:∀ i k,i<A.length→k<B.length→YCall Tryz.prog t [Xp (A.getD i []),Xp (B.getD k [])] (Hs (i*B.length+k)) (.bool true) (Hs (i*B.length+k+1))) :
  ICall Tryz.prog t 260 [.yld t.l,ZG A,ZG B] (Hs 0) (Hs (A.length*B.length)):=by
 have vA':=fun i=>pv A i
 have vB':=fun i=>pv B i
 refine ICall.intro (fn:=Tryz.f260) Tryz.call260 Tryz.func260 rfl mixed 8 [8,9,10,14,15,16] [] [] (by kernel_rfl) (Nat.le_of_ble_eq_true rfl) (by rw [(hHs 0).1]; exact hce) (by rw [(hHs 0).1]; exact fun o ho=>((hHs _).2 o ho).1) (X0 1000 ?_)
 simp only [AS.start,J3,XI,↓X2,wF,seval]
 refine Xg (fun i:Nat=>⟨8,[8,9,10,14,15,16],[.yld t.l,ZG A,ZG B,.any,.any,.any,.any,.any],[(8,GT A),(9,I A.length),(10,I i)],Hs (i*B.length)⟩) (fun i=>i≤A.length) (fun i=>A.length - i) 0 (by omega)
  (Xa rfl (by simp [Xh,J3,XI]) (by simp [Xi,Xz,XI,I]) (by simp)) ?_
 intro i hi next
 have w1:=wj i (by omega)
 by_cases hi2:i<A.length
 rotate_left
 ·obtain rfl:i=A.length:=by omega
  refine X0 1000 ?_
  simp only [J3,XI,Int.lt_irrefl,Nat.lt_irrefl,↓X2,wF,seval]
  exact rM rfl (by show (Hs _).take (Hs 0).length=_; rw [(hHs 0).1,← (hHs (A.length*B.length)).1,List.take_length])
 have f1:((i:Int)<A.length)=True:=eq_true (by omega)
 have f2:(i<A.length)=True:=eq_true hi2
 have f3:(i+1≤A.length)=True:=eq_true (by omega)
 refine X0 1000 ?_
 simp only [J3,XI,w1,f1,f2,f3,vA',Int.toNat_natCast,↓X2,wF,seval]
 refine Xg (fun k:Nat=>⟨8,[8,9,10,14,15,16],[.yld t.l,ZG A,ZG B,.any,.any,Xp (A.getD i []),.any,.any],[(14,GT B),(15,I B.length),(16,I k),(8,GT A),(9,I A.length),(10,I i)],Hs (i*B.length+k)⟩) (fun k=>k≤B.length) (fun k=>B.length - k) 0 (by omega)
  (Xa rfl (by simp [Xh,J3,XI,X5]) (by simp [Xi,Xz,XI,I]) (by simp)) ?_
 intro k hk next2
 have w2:=wj k (by omega)
 by_cases hk2:k<B.length
 rotate_left
 ·obtain rfl:k=B.length:=by omega
  refine X0 1000 ?_
  simp only [J3,XI,w1,Int.lt_irrefl,Nat.lt_irrefl,↓X2,wF,seval]
  exact next (i+1) _ (by omega) (by omega) (Xa rfl (by simp [Xh,J3,XI]) (by simp [Xi,Xz,XI,I]) (by simp [Nat.succ_mul]))
 have g1:((k:Int)<B.length)=True:=eq_true (by omega)
 have g2:(k<B.length)=True:=eq_true hk2
 have g3:(k+1≤B.length)=True:=eq_true (by omega)
 refine X0 1000 ?_
 simp only [J3,XI,w1,w2,g1,g2,g3,vB',Int.toNat_natCast,↓X2,wF,seval]
 obtain ⟨q1,q2⟩:=hHs (i*B.length+k)
 obtain ⟨q3,q4⟩:=hHs (i*B.length+k+1)
 refine CL (t:=t) (H1:=Hs (i*B.length+k)) (H1':=Hs (i*B.length+k+1)) (rest:=[]) rfl rfl (List.mem_singleton.2 rfl) (hy i k hi2 hk2) (List.append_nil _).symm (q3.trans q1.symm) (by rw [q1]; exact hce) ?_ (by rw [q1]; exact fun o ho=>(q2 o ho).1) (fun o ho=>(q2 o ho).2.1) (fun o ho=>(q4 o ho).2.1) (QZ (fun o ho=>(q2 o ho).2.2) (fun o ho=>(q4 o ho).2.2)) ⟨Weak.rfl' _,Weak.rfl' _,trivial⟩ ?_
 ·intro a ha
  simp only [List.mem_cons,List.not_mem_nil,or_false] at ha
  rcases ha with rfl | rfl <;> exact X6 (Xf _)
 simp only [J3,XI,w1,w2,↓X2,wF,seval]
 exact next2 (k+1) _ (by omega) (by omega) (Xa rfl (by simp [Xh,J3,XI]) (by simp [Xi,Xz,XI,I]) (by simp [Nat.add_assoc]))
theorem aR (A B:List (List V2)) (t:Tok) (m:Nat) (Hs:Nat→List AO) (Hf:List AO) (la:A.length≤1000) (lb:B.length≤1000) (hHs:∀ n,Pn m (Hs n)) (hce:t.ce.H.length≤m)
  (i0 k0:Nat) (hi0:i0<A.length) (hk0:k0<B.length) (hy:∀ i k,i<i0∨i=i0∧k<k0→k<B.length→YCall Tryz.prog t [Xp (A.getD i []),Xp (B.getD k [])] (Hs (i*B.length+k)) (.bool true) (Hs (i*B.length+k+1))) (hz:YC Tryz.prog t false [Xp (A.getD i0 []),Xp (B.getD k0 [])] (Hs (i0*B.length+k0)) Hf) (hHf:Pn m Hf) :
  ICallQ Tryz.prog t false 260 [.yld t.l,ZG A,ZG B] (Hs 0) Hf:=by
 have vA':=fun i=>pv A i
 have vB':=fun i=>pv B i
 refine ICallQ.intro (fn:=Tryz.f260) Tryz.call260 Tryz.func260 rfl mixed 8 [8,9,10,14,15,16] [] [] (by kernel_rfl) (Nat.le_of_ble_eq_true rfl) (by rw [(hHs 0).1]; exact hce) (by rw [(hHs 0).1]; exact fun o ho=>(hHf.2 o ho).1) (X0 1000 ?_)
 simp only [AS.start,J3,XI,↓X2,wF,seval]
 refine Xg (fun i:Nat=>⟨8,[8,9,10,14,15,16],[.yld t.l,ZG A,ZG B,.any,.any,.any,.any,.any],[(8,GT A),(9,I A.length),(10,I i)],Hs (i*B.length)⟩) (fun i=>i≤i0) (fun i=>i0 - i) 0 (by omega)
  (Xa rfl (by simp [Xh,J3,XI]) (by simp [Xi,Xz,XI,I]) (by simp)) ?_
 intro i hi next
 have w1:=wj i (by omega)
 have hi2:i<A.length:=by omega
 have f1:((i:Int)<A.length)=True:=eq_true (by omega)
 have f2:(i<A.length)=True:=eq_true hi2
 have f3:(i+1≤A.length)=True:=eq_true (by omega)
 refine X0 1000 ?_
 simp only [J3,XI,w1,f1,f2,f3,vA',Int.toNat_natCast,↓X2,wF,seval]
 refine Xg (fun k:Nat=>⟨8,[8,9,10,14,15,16],[.yld t.l,ZG A,ZG B,.any,.any,Xp (A.getD i []),.any,.any],[(14,GT B),(15,I B.length),(16,I k),(8,GT A),(9,I A.length),(10,I i)],Hs (i*B.length+k)⟩) (fun k=>k≤B.length∧(i=i0→k≤k0)) (fun k=>B.length - k) 0 ⟨by omega,by omega⟩
  (Xa rfl (by simp [Xh,J3,XI,X5]) (by simp [Xi,Xz,XI,I]) (by simp)) ?_
 rintro k ⟨hk,hkk⟩ next2
 have w2:=wj k (by omega)
 by_cases hk2:k<B.length
 rotate_left
 ·obtain rfl:k=B.length:=by omega
  refine X0 1000 ?_
  simp only [J3,XI,w1,Int.lt_irrefl,Nat.lt_irrefl,↓X2,wF,seval]
  exact next (i+1) _ (by omega) (by omega) (Xa rfl (by simp [Xh,J3,XI]) (by simp [Xi,Xz,XI,I]) (by simp [Nat.succ_mul]))
 have g1:((k:Int)<B.length)=True:=eq_true (by omega)
 have g2:(k<B.length)=True:=eq_true hk2
 have g3:(k+1≤B.length)=True:=eq_true (by omega)
 by_cases hlast:i=i0∧k=k0
 ·obtain ⟨rfl,rfl⟩:=hlast
  refine X0 20 ?_
  simp only [J3,XI,w1,w2,g1,g2,g3,vB',Int.toNat_natCast,↓X2,wF,seval]
  refine nM (t:=t) (j:=3) (l1:=[0,1,2]) (l2:=[4]) rfl rfl (List.mem_singleton.2 rfl) rfl rfl ⟨_,G7 rfl rfl rfl,_,G7 rfl rfl rfl,_,G7 rfl rfl rfl,rfl⟩ ⟨rfl,_,_,_,[Xp (A.getD i []),Xp (B.getD k [])],Hf,rfl,rfl,⟨Weak.rfl' _,Weak.rfl' _,trivial⟩,hz,rfl⟩ ⟨_,G7 rfl rfl rfl,rfl⟩ ?_
  show Run (tA Tryz.prog Tryz.f260 [] [] (Hs 0).length Hf) _ _
  refine Run.sub (s':=⟨8,[],[],[(24,.bool true)],Hf⟩) ?_ (Xa rfl trivial ⟨.inr rfl,trivial⟩ rfl)
  refine X0 1000 ?_
  simp only [↓X2,wF,seval]
  exact uN rfl (by show Hf.take (Hs 0).length=_; rw [(hHs 0).1,← hHf.1,List.take_length])
 have hp:i<i0∨i=i0∧k<k0:=by omega
 refine X0 1000 ?_
 simp only [J3,XI,w1,w2,g1,g2,g3,vB',Int.toNat_natCast,↓X2,wF,seval]
 obtain ⟨q1,q2⟩:=hHs (i*B.length+k)
 obtain ⟨q3,q4⟩:=hHs (i*B.length+k+1)
 refine CL (t:=t) (H1:=Hs (i*B.length+k)) (H1':=Hs (i*B.length+k+1)) (rest:=[]) rfl rfl (List.mem_singleton.2 rfl) (hy i k hp hk2) (List.append_nil _).symm (q3.trans q1.symm) (by rw [q1]; exact hce) ?_ (by rw [q1]; exact fun o ho=>(q2 o ho).1) (fun o ho=>(q2 o ho).2.1) (fun o ho=>(q4 o ho).2.1) (QZ (fun o ho=>(q2 o ho).2.2) (fun o ho=>(q4 o ho).2.2)) ⟨Weak.rfl' _,Weak.rfl' _,trivial⟩ ?_
 ·intro a ha
  simp only [List.mem_cons,List.not_mem_nil,or_false] at ha
  rcases ha with rfl | rfl <;> exact X6 (Xf _)
 simp only [J3,XI,w1,w2,↓X2,wF,seval]
 exact next2 (k+1) _ ⟨by omega,by omega⟩ (by omega) (Xa rfl (by simp [Xh,J3,XI]) (by simp [Xi,Xz,XI,I]) (by simp [Nat.add_assoc]))
end
end Go.Ab.N
