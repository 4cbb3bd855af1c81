/- Contracts of functions of these chapters, for every argument that fits, and what they need. -/
import Derived.Test.YtefjhgcndhepeaaGreatC9
set_option linter.unusedSimpArgs false
set_option linter.unusedVariables false
open Nat renaming reducePow → Y1, reduceLT → Y2, reduceLeDiff → Y3, reduceEqDiff → Y4, reduceAdd → Y5, reduceMul → Y6, reduceSub → Y7, reduceBEq → Y8, reduceDiv → Y9, reduceMod → YA
namespace Go.Ab.N
open Go Go.RowKit Go.Proofs
noncomputable section
set_option maxRecDepth 10000
set_option maxHeartbeats 4000000
open Classical
def qv (e:Rat):List AV:=[.bool (decide (e.num<0)),X6 (X9 e.num.natAbs),.bool false,X6 (X9 (qd e))]
noncomputable def YW (a b:List (Int×Int)) (f:FV) (e:Rat):Nat→List AV
 | 0=>XN
 | k+1=>vC ((ZT a b f k).sub ⟨e,e⟩)
noncomputable def YV (a b:List (Int×Int)) (f:FV) (e:Rat):Nat→List AV
 | 0=>XN
 | k+1=>vC ((ZR a b f k).add ⟨e,e⟩)
theorem Rf (a b:List (Int×Int)) (f:FV) (e:Rat):∀ k,∀ x∈YW a b f e k,Settled x
 | 0=>Zo a b f 0
 | k+1=>by simp [YW,vC,X5,X3]
theorem Re (a b:List (Int×Int)) (f:FV) (e:Rat):∀ k,∀ x∈YV a b f e k,Settled x
 | 0=>Zo a b f 0
 | k+1=>by simp [YV,vC,X5,X3]
theorem fm (x y e:Rat):(0<QO (y - e) (x - e)∧Uy x y - e=y - e)∨(¬ 0<QO (y - e) (x - e)∧Uy x y - e=x - e):=by
 unfold Uy
 by_cases h:x<y
 ·exact .inl ⟨(Jz _ _).2 (by grind),by rw [if_pos h]⟩
 ·exact .inr ⟨fun hh=>h (by have:=(Jz _ _).1 hh; grind),by rw [if_neg h]⟩
theorem eZ (x y e:Rat):(QO (y+e) (x+e)<0∧Uw x y+e=y+e)∨(¬ QO (y+e) (x+e)<0∧Uw x y+e=x+e):=by
 unfold Uw
 by_cases h:y<x
 ·exact .inl ⟨(ZB _ _).2 (by grind),by rw [if_pos h]⟩
 ·exact .inr ⟨fun hh=>h (by have:=(ZB _ _).1 hh; grind),by rw [if_neg h]⟩
theorem Yk (a b:PV) (f:FV) (ha:a.even) (hb:b.even) (ht:vb f.turn≤1000) {ta tb:Rat} (ea:a.tol=RQ.of ta) (eb:b.tol=RQ.of tb) (qa:qb ta≤1000) (q2:qb tb≤1000) :
  Fn Tryz.prog 47 [Jg a,Jg b,KP f] (.tup [vA (XD a.rim b.rim f (ta+tb)).1,vA (XD a.rim b.rim f (ta+tb)).2.1,.bool (XD a.rim b.rim f (ta+tb)).2.2]):=by
 have la:=ha.rim; have lb:=hb.rim
 obtain ⟨R,hR⟩:∃ R,R=XD a.rim b.rim f (ta+tb):=⟨_,rfl⟩
 rw [← hR]
 have zret:∀ {s:AS} {i j v w:Nat},s.get 6=.ref i v 0→s.h[i]?=some (.row v 8 (Xo KR))→s.get 7=.ref j w 0→s.h[j]?=some (.row w 8 (Xo KR))→s.get 8=.bool false→R=(v0,v0,false)→RetOk (QX Tryz.prog Tryz.f47 [11,120000005,24,250000013,250000014] [] (.tup [vA R.1,vA R.2.1,.bool R.2.2])) s:=fun h1 h2 h3 h4 h5 h6=>by
  subst h6
  exact HA rfl (Xn JD h1 h2 rfl) (Xn JD h3 h4 rfl) (by unfold QR; rfl) (Xu (Xm _) (XT ZI)) (Xu (Xm _) (XT ZI)) (by rw [h5]; exact (X3 _).sees _)
 have cs:=PQ a b f la lb
 have ct:=PS f.turn (by unfold vm; omega)
 refine Fq Tryz.call47 Tryz.func47 19 [] [11,120000005,24,250000013,250000014] [] (by simp [XC,Qk]) (X1 1000 ?_)
 simp only [AS.start,Jg,XO,KP,Qa,↓X2,wA,↓reduceIte,reduceIte,reduceCtorEq,Y1,Y2,Y3,Y4,Y5,Y6,Y7,Y8,Y9,YA,wE]
 refine X0 cs rfl ?_
 by_cases hf:BF a.rim.length b.rim.length f
 rotate_left
 ·rw [decide_eq_false hf]
  simp only [↓X2,wA,↓reduceIte,reduceIte,reduceCtorEq,Y1,Y2,Y3,Y4,Y5,Y6,Y7,Y8,Y9,YA,wE]
  exact zret rfl rfl rfl rfl rfl (by rw [hR]; unfold XD; rw [if_neg fun h=>hf h.1])
 rw [decide_eq_true hf]
 simp only [↓X2,wA,↓reduceIte,reduceIte,reduceCtorEq,Y1,Y2,Y3,Y4,Y5,Y6,Y7,Y8,Y9,YA,wE]
 refine X0 ct rfl ?_
 by_cases hto:CD f.turn
 rotate_left
 ·rw [decide_eq_false hto]
  simp only [↓X2,wA,↓reduceIte,reduceIte,reduceCtorEq,Y1,Y2,Y3,Y4,Y5,Y6,Y7,Y8,Y9,YA,wE]
  exact zret rfl rfl rfl rfl rfl (by rw [hR]; unfold XD; rw [if_neg fun h=>hto h.2])
 rw [decide_eq_true hto]
 have hRe:R=if ((ZR a.rim b.rim f f.M.toNat).add ⟨ta+tb,ta+tb⟩).x<((ZT a.rim b.rim f f.M.toNat).sub ⟨ta+tb,ta+tb⟩).x∨((ZR a.rim b.rim f f.M.toNat).add ⟨ta+tb,ta+tb⟩).y<((ZT a.rim b.rim f f.M.toNat).sub ⟨ta+tb,ta+tb⟩).y then (v0,v0,false) else ((ZT a.rim b.rim f f.M.toNat).sub ⟨ta+tb,ta+tb⟩,(ZR a.rim b.rim f f.M.toNat).add ⟨ta+tb,ta+tb⟩,true):=by
  rw [hR]; unfold XD; rw [if_pos ⟨hf,hto⟩]
 clear hR
 obtain ⟨⟨s1,s2⟩,⟨s3,s4⟩,s5,s6,s7⟩:=hf
 obtain ⟨N,hN⟩:∃ N:Nat,f.M=N:=⟨f.M.toNat,by omega⟩
 have hNt:f.M.toNat=N:=by rw [hN]; rfl
 rw [hNt] at hRe
 have r1:=Fz a la (AL ha.near)
 have r2:=Fz b lb (AL hb.near)
 have hla:(Xy a.rim).length=a.rim.length:=by simp [Xy]
 have hlb:(Xy b.rim).length=b.rim.length:=by simp [Xy]
 have c3:Fn Tryz.prog 76 [a.tol.A,b.tol.A] (qA (ta+tb)):=by rw [ea,eb]; exact JV ta tb (by unfold rm; omega) (by unfold rm; omega)
 have qe:=K2 ta tb
 generalize ta+tb=e at *
 simp only [↓X2,wA,↓reduceIte,reduceIte,reduceCtorEq,Y1,Y2,Y3,Y4,Y5,Y6,Y7,Y8,Y9,YA,wE]
 refine X0 r1 rfl ?_
 simp only [↓X2,wA,↓reduceIte,reduceIte,reduceCtorEq,Y1,Y2,Y3,Y4,Y5,Y6,Y7,Y8,Y9,YA,wE]
 refine X0 r2 rfl ?_
 simp only [↓X2,wA,↓reduceIte,reduceIte,reduceCtorEq,Y1,Y2,Y3,Y4,Y5,Y6,Y7,Y8,Y9,YA,wE]
 refine X0 c3 rfl ?_
 simp only [↓X2,wA,↓reduceIte,reduceIte,reduceCtorEq,Y1,Y2,Y3,Y4,Y5,Y6,Y7,Y8,Y9,YA,wE]
 have m0:vb ⟨e,e⟩≤2001:=by unfold vb; simp only; omega
 have ba:XQ 9 (.row 0 25 (Xo (XO a)))=True:=eq_true (XE (XG a))
 have bb:XQ 9 (.row 0 25 (Xo (XO b)))=True:=eq_true (XE (XG b))
 have bf:XQ 9 (.con 0 29 (Xo (Qa f)))=True:=eq_true (fun j _=>X8 (Xg (Qd f) j))
 have bz:XQ 9 (.row 0 8 (Xo XN))=True:=eq_true (XE (Zo a.rim b.rim f 0))
 have be:XQ 9 (.row 0 4 (Xo (qv e)))=True:=eq_true (XE (by simp [qv,X5,X3]))
 have bw:XQ 9 (.row 0 8 (Xo (vC ⟨e,e⟩)))=True:=eq_true (XE (by simp [vC,X5,X3]))
 have bl:∀ k,XQ 9 (.row 0 8 (Xo (YW a.rim b.rim f e k)))=True:=fun k=>eq_true (XE (Rf a.rim b.rim f e k))
 have bh:∀ k,XQ 9 (.row 0 8 (Xo (YV a.rim b.rim f e k)))=True:=fun k=>eq_true (XE (Re a.rim b.rim f e k))
 have bx:Kl 9 (Xw (Xy a.rim))=True:=eq_true (X8 (Xl _))
 have by':Kl 9 (Xw (Xy b.rim))=True:=eq_true (X8 (Xl _))
 refine Xf (fun k:Nat=>⟨19,[],[.any,.any,.any,.ref 0 0 0,.ref 1 0 0,.ref 2 0 0,.ref 3 0 0,.ref 4 0 0,.bool false,Xw (Xy a.rim),Xw (Xy b.rim),.ref 5 0 0,.ref 6 0 0,.ref 7 0 0,.ref 8 0 0,I k,.any,.any,.any],[],[.row 0 25 (Xo (XO a)),.row 0 25 (Xo (XO b)),.con 0 29 (Xo (Qa f)),.row 0 8 (Xo XN),.row 0 8 (Xo XN),.row 0 4 (Xo (qv e)),.row 0 8 (Xo (vC ⟨e,e⟩)),.row 0 8 (Xo (YW a.rim b.rim f e k)),.row 0 8 (Xo (YV a.rim b.rim f e k))]⟩) (fun k=>k≤N+1) (fun k=>N+1 - k) 0 (by omega)
  (Sub.trans (QL 2 rfl) (Xb rfl (by simp [Xi,X7,I]) (by simp [Xj]) (by simp [XO,Qa,qv,XN,YW,YV,vC,Xh,Xr,X4,I]))) ?_
 intro k hk next
 have w1:=wj k (by omega)
 by_cases hk2:k<N+1
 ·have nx:=next (k+1)
  have fk:((k:Int)≤f.M)=True:=eq_true (by omega)
  have wx:IntKind.i64.wrap (f.EA+(k:Int))=f.EA+(k:Int):=by rw [IntKind.wrap_i64]; omega
  have wy1:IntKind.i64.wrap (f.EB+1)=f.EB+1:=by rw [IntKind.wrap_i64]; omega
  have wy:IntKind.i64.wrap (f.EB+1 - (k:Int))=f.EB+1 - (k:Int):=by rw [IntKind.wrap_i64]; omega
  have c1:=Bv (f.EA+(k:Int)) a.rim.length (by omega) (by omega) (by omega)
  have c2:=Bv (f.EB+1 - (k:Int)) b.rim.length (by omega) (by omega) (by omega)
  rw [RL _ _ _ (by omega)] at c1
  rw [ie _ _ _ (by omega)] at c2
  have hX:=Vh a.rim.length f k (by omega)
  have hY:=nt b.rim.length f k (by omega)
  have vx:=Kp ha.near (xK a.rim.length f k)
  have vy:=Kp hb.near (yL b.rim.length f k)
  have vr:=Du f.turn (JY (b.rim.getD (yL b.rim.length f k) (0,0)))
  have c3:=E9 f.turn (JY (b.rim.getD (yL b.rim.length f k) (0,0))) (by unfold vm; omega) (by unfold vm; omega)
  have c4:=JU (JY (a.rim.getD (xK a.rim.length f k) (0,0))) (Ha f.turn (JY (b.rim.getD (yL b.rim.length f k) (0,0)))) (by unfold rm; omega) (by unfold rm; omega)
  rw [show (JY (a.rim.getD (xK a.rim.length f k) (0,0))).sub (Ha f.turn (JY (b.rim.getD (yL b.rim.length f k) (0,0))))=KX a.rim b.rim f k from rfl] at c4
  have hD:=Av ha.near hb.near f ht
  have hL:=BX ha.near hb.near f ht
  have hH:=BU ha.near hb.near f ht
  have hDk:=hD k
  have c5:=JU (KX a.rim b.rim f k) ⟨e,e⟩ (by unfold rm; omega) (by unfold rm; omega)
  have c6:=EG (KX a.rim b.rim f k) ⟨e,e⟩ (by unfold vm; omega) (by unfold vm; omega)
  have v1:=vF (Xy a.rim) (xK a.rim.length f k)
  have v2:=vF (Xy b.rim) (yL b.rim.length f k)
  rw [FB] at v1 v2
  generalize xK a.rim.length f k=X at *
  generalize yL b.rim.length f k=Y at *
  generalize JY (a.rim.getD X (0,0))=PX at *
  generalize JY (b.rim.getD Y (0,0))=PY at *
  generalize Ha f.turn PY=RY at *
  have fX:((X:Int)<a.rim.length)=True:=eq_true (by omega)
  have fX':(X<a.rim.length)=True:=eq_true hX
  have fX8:(X*8+8≤a.rim.length*8)=True:=eq_true (by omega)
  have fY:((Y:Int)<b.rim.length)=True:=eq_true (by omega)
  have fY':(Y<b.rim.length)=True:=eq_true hY
  have fY8:(Y*8+8≤b.rim.length*8)=True:=eq_true (by omega)
  refine X1 1000 ?_
  simp only [Qa,X7,w1,wx,wy1,wy,fk,fX,fX',fX8,fY,fY',fY8,hla,hlb,v1,v2,Int.toNat_natCast,↓X2,wA,↓reduceIte,reduceIte,reduceCtorEq,Y1,Y2,Y3,Y4,Y5,Y6,Y7,Y8,Y9,YA,wE]
  refine X0 c1 rfl ?_
  simp only [Qa,X7,w1,wx,wy1,wy,fk,fX,fX',fX8,fY,fY',fY8,hla,hlb,v1,v2,Int.toNat_natCast,↓X2,wA,↓reduceIte,reduceIte,reduceCtorEq,Y1,Y2,Y3,Y4,Y5,Y6,Y7,Y8,Y9,YA,wE]
  refine X0 c2 rfl ?_
  simp only [Qa,X7,w1,wx,wy1,wy,fk,fX,fX',fX8,fY,fY',fY8,hla,hlb,v1,v2,Int.toNat_natCast,↓X2,wA,↓reduceIte,reduceIte,reduceCtorEq,Y1,Y2,Y3,Y4,Y5,Y6,Y7,Y8,Y9,YA,wE]
  refine X0 c3 rfl ?_
  simp only [Qa,X7,w1,wx,wy1,wy,fk,fX,fX',fX8,fY,fY',fY8,hla,hlb,v1,v2,Int.toNat_natCast,↓X2,wA,↓reduceIte,reduceIte,reduceCtorEq,Y1,Y2,Y3,Y4,Y5,Y6,Y7,Y8,Y9,YA,wE]
  refine X0 c4 rfl ?_
  simp only [Qa,X7,w1,wx,wy1,wy,fk,fX,fX',fX8,fY,fY',fY8,hla,hlb,v1,v2,Int.toNat_natCast,↓X2,wA,↓reduceIte,reduceIte,reduceCtorEq,Y1,Y2,Y3,Y4,Y5,Y6,Y7,Y8,Y9,YA,wE]
  refine X0 c5 rfl ?_
  simp only [Qa,X7,w1,wx,wy1,wy,fk,fX,fX',fX8,fY,fY',fY8,hla,hlb,v1,v2,Int.toNat_natCast,↓X2,wA,↓reduceIte,reduceIte,reduceCtorEq,Y1,Y2,Y3,Y4,Y5,Y6,Y7,Y8,Y9,YA,wE]
  refine X0 c6 rfl ?_
  match k,w1,fk,hk2,hDk,nx with
  | 0,w1,fk,hk2,hDk,nx =>
   have e0:((0:Nat):Int)=0:=rfl
   have w0:IntKind.i64.wrap (0+1)=1:=by decide
   have hL0:YW a.rim b.rim f e 1=vC ((KX a.rim b.rim f 0).sub ⟨e,e⟩):=rfl
   have hH0:YV a.rim b.rim f e 1=vC ((KX a.rim b.rim f 0).add ⟨e,e⟩):=rfl
   have bl2:=bl 1; have bh2:=bh 1
   simp only [Nat.zero_add,hL0,hH0] at nx bl2 bh2
   generalize (KX a.rim b.rim f 0).sub ⟨e,e⟩=FR at *
   generalize (KX a.rim b.rim f 0).add ⟨e,e⟩=TO at *
   simp only [YW,YV,XN,e0,w0,↓X2,wA,↓reduceIte,reduceIte,reduceCtorEq,Y1,Y2,Y3,Y4,Y5,Y6,Y7,Y8,Y9,YA,wE]
   exact nx _ (by omega) (by omega) (Xz (m:=9) (Nat.zero_le _) rfl (by simp [Xi,X7,hla,hlb,I]) (by simp [Xj]) (by simp [XO,Qa,XN,qv,YW,YV,vC,Xh,Xr,X4,I]) (by simp [XA,bx,by']) (by simp [XA]) (by simp [ba,bb,bf,bz,be,bw,bl2,bh2]))
  | j+1,w1,fk,hk2,hDk,nx =>
   have g0:(((j+1:Nat):Int)=0)=False:=eq_false (by omega)
   have g0':((j:Int)+1=0)=False:=eq_false (by omega)
   have g0'':(j+1=0)=False:=eq_false (by omega)
   have hLj:=hL j; have hHj:=hH j
   have hl1:YW a.rim b.rim f e (j+1)=vC ((ZT a.rim b.rim f j).sub ⟨e,e⟩):=rfl
   have hh1:YV a.rim b.rim f e (j+1)=vC ((ZR a.rim b.rim f j).add ⟨e,e⟩):=rfl
   have hl2:YW a.rim b.rim f e (j+1+1)=vC ((ZT a.rim b.rim f (j+1)).sub ⟨e,e⟩):=rfl
   have hh2:YV a.rim b.rim f e (j+1+1)=vC ((ZR a.rim b.rim f (j+1)).add ⟨e,e⟩):=rfl
   have ux:=fm (ZT a.rim b.rim f j).x (KX a.rim b.rim f (j+1)).x e
   have uy:=fm (ZT a.rim b.rim f j).y (KX a.rim b.rim f (j+1)).y e
   have ox:=eZ (ZR a.rim b.rim f j).x (KX a.rim b.rim f (j+1)).x e
   have oy:=eZ (ZR a.rim b.rim f j).y (KX a.rim b.rim f (j+1)).y e
   have z1:=K9 (ZT a.rim b.rim f j) ⟨e,e⟩
   have z2:=Ba (ZR a.rim b.rim f j) ⟨e,e⟩
   have z3:=K9 (KX a.rim b.rim f (j+1)) ⟨e,e⟩
   have z4:=Ba (KX a.rim b.rim f (j+1)) ⟨e,e⟩
   have bl2:=bl (j+1+1); have bh2:=bh (j+1+1)
   simp only [hl2,hh2] at nx bl2 bh2
   rw [hl1,hh1]
   replace ux:(0<QO ((KX a.rim b.rim f (j+1)).sub ⟨e,e⟩).x ((ZT a.rim b.rim f j).sub ⟨e,e⟩).x∧((ZT a.rim b.rim f (j+1)).sub ⟨e,e⟩).x=((KX a.rim b.rim f (j+1)).sub ⟨e,e⟩).x)∨(¬ 0<QO ((KX a.rim b.rim f (j+1)).sub ⟨e,e⟩).x ((ZT a.rim b.rim f j).sub ⟨e,e⟩).x∧((ZT a.rim b.rim f (j+1)).sub ⟨e,e⟩).x=((ZT a.rim b.rim f j).sub ⟨e,e⟩).x):=ux
   replace uy:(0<QO ((KX a.rim b.rim f (j+1)).sub ⟨e,e⟩).y ((ZT a.rim b.rim f j).sub ⟨e,e⟩).y∧((ZT a.rim b.rim f (j+1)).sub ⟨e,e⟩).y=((KX a.rim b.rim f (j+1)).sub ⟨e,e⟩).y)∨(¬ 0<QO ((KX a.rim b.rim f (j+1)).sub ⟨e,e⟩).y ((ZT a.rim b.rim f j).sub ⟨e,e⟩).y∧((ZT a.rim b.rim f (j+1)).sub ⟨e,e⟩).y=((ZT a.rim b.rim f j).sub ⟨e,e⟩).y):=uy
   replace ox:(QO ((KX a.rim b.rim f (j+1)).add ⟨e,e⟩).x ((ZR a.rim b.rim f j).add ⟨e,e⟩).x<0∧((ZR a.rim b.rim f (j+1)).add ⟨e,e⟩).x=((KX a.rim b.rim f (j+1)).add ⟨e,e⟩).x)∨(¬ QO ((KX a.rim b.rim f (j+1)).add ⟨e,e⟩).x ((ZR a.rim b.rim f j).add ⟨e,e⟩).x<0∧((ZR a.rim b.rim f (j+1)).add ⟨e,e⟩).x=((ZR a.rim b.rim f j).add ⟨e,e⟩).x):=ox
   replace oy:(QO ((KX a.rim b.rim f (j+1)).add ⟨e,e⟩).y ((ZR a.rim b.rim f j).add ⟨e,e⟩).y<0∧((ZR a.rim b.rim f (j+1)).add ⟨e,e⟩).y=((KX a.rim b.rim f (j+1)).add ⟨e,e⟩).y)∨(¬ QO ((KX a.rim b.rim f (j+1)).add ⟨e,e⟩).y ((ZR a.rim b.rim f j).add ⟨e,e⟩).y<0∧((ZR a.rim b.rim f (j+1)).add ⟨e,e⟩).y=((ZR a.rim b.rim f j).add ⟨e,e⟩).y):=oy
   generalize (KX a.rim b.rim f (j+1)).sub ⟨e,e⟩=FR at *
   generalize (KX a.rim b.rim f (j+1)).add ⟨e,e⟩=TO at *
   generalize (ZT a.rim b.rim f (j+1)).sub ⟨e,e⟩=L2 at *
   generalize (ZR a.rim b.rim f (j+1)).add ⟨e,e⟩=H2 at *
   generalize (ZT a.rim b.rim f j).sub ⟨e,e⟩=L1 at *
   generalize (ZR a.rim b.rim f j).add ⟨e,e⟩=H1 at *
   have:=Qy FR; have:=Qo FR; have:=Qy TO; have:=Qo TO; have:=Qy L1; have:=Qo L1; have:=Qy H1; have:=Qo H1
   have k1:=JW FR.x L1.x (by unfold rm; omega) (by unfold rm; omega)
   have k2:=JW FR.y L1.y (by unfold rm; omega) (by unfold rm; omega)
   have k3:=JW TO.x H1.x (by unfold rm; omega) (by unfold rm; omega)
   have k4:=JW TO.y H1.y (by unfold rm; omega) (by unfold rm; omega)
   clear c1 c2 c3 c4 c5 c6 hD hL hH bl bh v1 v2
   rcases ux with ⟨px,ex⟩ | ⟨px,ex⟩
   all_goals
    first | replace px:=eq_false px | replace px:=eq_true px
    rcases uy with ⟨py,ey⟩ | ⟨py,ey⟩
    all_goals
     first | replace py:=eq_false py | replace py:=eq_true py
     rcases ox with ⟨sx,gx⟩ | ⟨sx,gx⟩
     all_goals
      first | replace sx:=eq_false sx | replace sx:=eq_true sx
      rcases oy with ⟨sy,gy⟩ | ⟨sy,gy⟩
      all_goals
       first | replace sy:=eq_false sy | replace sy:=eq_true sy
       simp only [g0,g0',g0'',w1,↓X2,wA,↓reduceIte,reduceIte,reduceCtorEq,Y1,Y2,Y3,Y4,Y5,Y6,Y7,Y8,Y9,YA,wE]
       refine X0 k1 rfl ?_
       simp only [px,g0,g0',g0'',w1,↓X2,wA,↓reduceIte,reduceIte,reduceCtorEq,Y1,Y2,Y3,Y4,Y5,Y6,Y7,Y8,Y9,YA,wE]
       refine X0 k2 rfl ?_
       simp only [px,py,g0,g0',g0'',w1,↓X2,wA,↓reduceIte,reduceIte,reduceCtorEq,Y1,Y2,Y3,Y4,Y5,Y6,Y7,Y8,Y9,YA,wE]
       refine X0 k3 rfl ?_
       simp only [px,py,sx,g0,g0',g0'',w1,↓X2,wA,↓reduceIte,reduceIte,reduceCtorEq,Y1,Y2,Y3,Y4,Y5,Y6,Y7,Y8,Y9,YA,wE]
       refine X0 k4 rfl ?_
       simp only [px,py,sx,sy,g0,g0',g0'',w1,↓X2,wA,↓reduceIte,reduceIte,reduceCtorEq,Y1,Y2,Y3,Y4,Y5,Y6,Y7,Y8,Y9,YA,wE]
       exact nx _ (by omega) (by omega) (Xz (m:=9) (Nat.zero_le _) rfl (by simp [Xi,X7,hla,hlb,I]) (by simp [Xj]) (by simp [XO,Qa,XN,qv,YW,YV,vC,Xh,Xr,X4,I,ex,ey,gx,gy]) (by simp [XA,bx,by']) (by simp [XA]) (by simp [ba,bb,bf,bz,be,bw,bl2,bh2]))
 obtain rfl:k=N+1:=by omega
 have hL:=BX ha.near hb.near f ht N
 have hH:=BU ha.near hb.near f ht N
 have hl1:YW a.rim b.rim f e (N+1)=vC ((ZT a.rim b.rim f N).sub ⟨e,e⟩):=rfl
 have hh1:YV a.rim b.rim f e (N+1)=vC ((ZR a.rim b.rim f N).add ⟨e,e⟩):=rfl
 rw [hl1,hh1]
 clear bl bh hl1 hh1
 have m1:=K9 (ZT a.rim b.rim f N) ⟨e,e⟩
 have m2:=Ba (ZR a.rim b.rim f N) ⟨e,e⟩
 generalize (ZT a.rim b.rim f N).sub ⟨e,e⟩=A at *
 generalize (ZR a.rim b.rim f N).add ⟨e,e⟩=B at *
 have:=Qy A; have:=Qo A; have:=Qy B; have:=Qo B
 have q1:=JW A.x B.x (by unfold rm; omega) (by unfold rm; omega)
 have q2:=JW A.y B.y (by unfold rm; omega) (by unfold rm; omega)
 have fk:(((N+1:Nat):Int)≤f.M)=False:=eq_false (by omega)
 refine X1 1000 ?_
 simp only [Qa,fk,↓X2,wA,↓reduceIte,reduceIte,reduceCtorEq,Y1,Y2,Y3,Y4,Y5,Y6,Y7,Y8,Y9,YA,wE]
 refine X0 q1 rfl ?_
 by_cases h1:B.x<A.x
 ·have f1:(0<QO A.x B.x)=True:=eq_true ((Jz _ _).2 h1)
  simp only [f1,XN,↓X2,wA,↓reduceIte,reduceIte,reduceCtorEq,Y1,Y2,Y3,Y4,Y5,Y6,Y7,Y8,Y9,YA,wE]
  exact zret rfl rfl rfl rfl rfl (by rw [hRe,if_pos (.inl h1)])
 have f1:(0<QO A.x B.x)=False:=eq_false fun h=>h1 ((Jz _ _).1 h)
 simp only [f1,↓X2,wA,↓reduceIte,reduceIte,reduceCtorEq,Y1,Y2,Y3,Y4,Y5,Y6,Y7,Y8,Y9,YA,wE]
 refine X0 q2 rfl ?_
 by_cases h2:B.y<A.y
 ·have f2:(0<QO A.y B.y)=True:=eq_true ((Jz _ _).2 h2)
  simp only [f1,f2,XN,↓X2,wA,↓reduceIte,reduceIte,reduceCtorEq,Y1,Y2,Y3,Y4,Y5,Y6,Y7,Y8,Y9,YA,wE]
  exact zret rfl rfl rfl rfl rfl (by rw [hRe,if_pos (.inr h2)])
 have f2:(0<QO A.y B.y)=False:=eq_false fun h=>h2 ((Jz _ _).1 h)
 simp only [f1,f2,XN,↓X2,wA,↓reduceIte,reduceIte,reduceCtorEq,Y1,Y2,Y3,Y4,Y5,Y6,Y7,Y8,Y9,YA,wE]
 rw [if_neg fun h=>h.elim h1 h2] at hRe
 subst hRe
 exact HA rfl (Xn JD rfl rfl rfl) (Xn JD rfl rfl rfl) (by unfold QR; rfl) (Xu (Xm _) (XT (XY (vC A)))) (Xu (Xm _) (XT (XY (vC B)))) ((X3 _).sees _)
def qs (l:List Rat):AV:=qw qC 4 0 l
theorem IV (l:List Rat):Settled (qs l):=Dp fun a x hx=>by
 have:∀ x∈qC a,Settled x:=by simp [qC,X5,X3]
 exact this x hx
theorem AR (l:List Rat):qs l=.sl l.length (l.length*4) (Xs qC 4 0 l) false:=nrfl rfl
theorem sG (l:List Rat) (i:Nat):Xs qC 4 0 l (i*4)=.bool (decide ((l.getD i 0).num<0))∧Xs qC 4 0 l (i*4+1)=X6 (X9 (l.getD i 0).num.natAbs)∧Xs qC 4 0 l (i*4+2)=.bool false∧Xs qC 4 0 l (i*4+3)=X6 (X9 (qd (l.getD i 0))):=by
 refine ⟨?_,?_,?_,?_⟩
 ·rw [K6 _ _ _ _ _ (by omega)]; rfl
 all_goals rw [JP _ _ _ _ _ _ (by omega)]; rfl
def DT (sg:Int) (x:Rat) (l:List Rat):Nat→Rat
 | 0=>x
 | k+1=>if QO (l.getD k 0) (DT sg x l k)=sg then l.getD k 0 else DT sg x l k
theorem NF (sg:Int) (x:Rat) (l:List Rat) (c:Nat) (hx:qb x≤c) (hl:∀ k,qb (l.getD k 0)≤c):∀ k,qb (DT sg x l k)≤c
 | 0=>hx
 | k+1=>by
  simp only [DT]
  split
  ·exact hl k
  ·exact NF sg x l c hx hl k
def Gr:List AV:=[.bool false,.sl 0 0 (fun _=>.any) true,.bool false,.sl 0 0 (fun _=>.any) true]
theorem Cm (sg:Int) (x:Rat) (l:List Rat) (hl:l.length<1000000) (hx:qb x≤vm) (hq:∀ k,qb (l.getD k 0)≤vm):Fn Tryz.prog 286 [I sg,qA x,qs l] (qA (DT sg x l l.length)):=by
 unfold vm at hx hq
 obtain ⟨R,hR⟩:∃ R,R=qA (DT sg x l l.length):=⟨_,rfl⟩
 have sR:Settled R:=hR▸Xc _
 have hqc:∀ r:Rat,∀ x∈qC r,Settled x:=fun r=>by simp [qC,X5,X3]
 have bx:∀ r,XQ 2 (.row 0 4 (Xo (qC r)))=True:=fun r=>eq_true (XE (hqc r))
 have bl:Kl 2 (qs l)=True:=eq_true (X8 (IV l))
 rw [← hR]
 refine Fq Tryz.call286 Tryz.func286 9 [9,10,11] [] [] (by simp [Xa,Xc,IV]) (X1 1000 ?_)
 simp only [AS.start,AR,↓X2,wA,seval,wE]
 refine Xf (fun k:Nat=>⟨9,[9,10,11],[I sg,.any,.any,.any,.ref 0 0 0,.any,.ref 1 0 0,.any,.any],[(9,qs l),(10,I l.length),(11,I k)],[.row 0 4 (Xo (qC (DT sg x l k))),.row 0 4 (Xo Gr)]⟩) (fun k=>k≤l.length) (fun k=>l.length - k) 0 (by omega)
  (Xb rfl (by simp [Xi,I]) (by simp [Xj,Xp,AR,I]) rfl) ?_
 intro k hk next
 have w1:=wj k (by omega)
 have he:=NF sg x l 1000000 hx hq k
 by_cases hk2:k<l.length
 ·have f1:((k:Int)<l.length)=True:=eq_true (by omega)
  have f2:(k<l.length)=True:=eq_true hk2
  have f3:(k*4+4≤l.length*4)=True:=eq_true (by omega)
  have v1:=sG l k
  have c1:=Kd (l.getD k 0) (DT sg x l k) (by have:=hq k; unfold rm; omega) (by unfold rm; omega)
  have nx:=next (k+1)
  have hs:DT sg x l (k+1)=if QO (l.getD k 0) (DT sg x l k)=sg then l.getD k 0 else DT sg x l k:=rfl
  generalize DT sg x l k=E at *
  refine X1 1000 ?_
  simp only [AR,w1,f1,f2,f3,v1,Int.toNat_natCast,↓X2,wA,seval,wE]
  refine X0 c1 rfl ?_
  by_cases h:QO (l.getD k 0) E=sg
  ·have g1:(QO (l.getD k 0) E=sg)=True:=eq_true h
   rw [if_pos h] at hs
   simp only [hs] at nx
   simp only [g1,w1,↓X2,wA,seval,wE]
   exact nx _ (by omega) (by omega) (Xz (m:=2) (Nat.zero_le _) rfl (by simp [Xi,I]) (by simp [Xj,Xp,AR,I]) (by simp [qC,Gr,X4]) (by simp [XA]) (by simp [XA,bl]) (by simp [bx,Gr,XA]))
  ·have g1:(QO (l.getD k 0) E=sg)=False:=eq_false h
   rw [if_neg h] at hs
   simp only [hs] at nx
   simp only [g1,w1,↓X2,wA,seval,wE]
   exact nx _ (by omega) (by omega) (Xz (m:=2) (Nat.zero_le _) rfl (by simp [Xi,I]) (by simp [Xj,Xp,AR,I]) (by simp [qC,Gr,X4]) (by simp [XA]) (by simp [XA,bl]) (by simp [bx,Gr,XA]))
 obtain rfl:k=l.length:=by omega
 refine X1 1000 ?_
 simp only [AR,Gr,Int.lt_irrefl,Nat.lt_irrefl,↓X2,wA,seval,wE]
 exact JA rfl Qc rfl rfl rfl sR (hR.trans rfl)
def Ql (n:V2) (L:List V2):List Rat:=L.map (XR n)
theorem Ti (n:V2) (L:List V2) (i:Nat) (hi:i<L.length):Ql n (L.take i) ++ [XR n (L.getD i v0)]=Ql n (L.take (i+1)):=by
 rw [B9 _ v0 hi]; simp [Ql]
theorem pF (a:Rat):∀ j,j<4→((qC a).getD j .any).one=true:=fun j hj=>by
 match j,hj with
 | 0,_=>rfl
 | 1,_=>rfl
 | 2,_=>rfl
 | 3,_=>rfl
 | j+4,h=>omega
theorem GL (n:V2) (L:List V2) (k:Nat) (h:Qx L k) (hk:k≤100000) (hl:L.length<1000000) (hn:vb n≤100000):Fn Tryz.prog 285 [vA n,Xw L] (qs (Ql n L)):=by
 have hvc:∀ a:V2,∀ x∈vC a,Settled x:=fun a=>by simp [vC,X5,X3]
 have hqc:∀ r:Rat,∀ x∈qC r,Settled x:=fun r=>by simp [qC,X5,X3]
 have bo:XQ 2 (.row 0 8 (Xo (vC n)))=True:=eq_true (XE (hvc n))
 have bv:Kl 2 (Xw L)=True:=eq_true (X8 (Xl L))
 have br:∀ i l n,XQ 2 (.row i n (Xs qC 4 0 l))=True:=fun i l n=>eq_true fun j _=>X8 (Xg (hqc _) _)
 obtain ⟨R,hR⟩:∃ R,R=qs (Ql n L):=⟨_,rfl⟩
 rw [← hR]
 refine Fq Tryz.call285 Tryz.func285 8 [8,9,10] [] [] (by simp [Xm,Xl]) (X1 1000 ?_)
 simp only [AS.start,X7,↓X2,wA,seval,wE]
 refine Xf (fun i:Nat=>⟨8,[8,9,10],[.any,.any,.ref 0 0 0,.any,.any,.osl 1 i 4 0 i,.any,.any],[(8,Xw L),(9,I L.length),(10,I i)],[.row 0 8 (Xo (vC n)),.row i (i*4) (Xs qC 4 0 (Ql n (L.take i)))]⟩) (fun i=>i≤L.length) (fun i=>L.length - i) 0 (by omega)
  (Sub.trans (QT 5 4 (Xs qC 4 0 []) rfl) (Xb rfl (by simp [AS.put,Xi,I]) (by simp [AS.put,Xj,Xp,X7,I]) (by simp [AS.put,vC,X4,Ql]))) ?_
 intro i hi next
 have w1:=wj i (by omega)
 by_cases hi2:i<L.length
 ·have f1:((i:Int)<L.length)=True:=eq_true (by omega)
  have f2:(i<L.length)=True:=eq_true hi2
  have f3:(i*8+8≤L.length*8)=True:=eq_true (by omega)
  have v1:=vF L i
  have hb:=h i
  have c1:=Fm n (L.getD i v0) (by unfold vm; omega) (by unfold vm; omega)
  have hap:=Qv qC 4 0 (Ql n (L.take i)) (XR n (L.getD i v0)) (by omega)
  rw [Ti _ _ _ hi2,show (Ql n (L.take i)).length=i by simp [Ql]; omega] at hap
  refine X1 1000 ?_
  simp only [X7,w1,f1,f2,f3,v1,Int.toNat_natCast,↓X2,wA,seval,wE]
  refine X0 c1 rfl ?_
  simp only [w1,↓X2,wA,seval,wE]
  exact ⟨⟨pF _,by omega,by omega⟩,next (i+1) _ (by omega) (by omega) (Xz (m:=2) (Nat.zero_le _) rfl (by simp [Xi]) (by simp [Xj,Xp,X7,I]) (by rw [← hap]; rfl) (by simp [XA]) (by simp [XA,bv]) (by simp [bo,br]))⟩
 obtain rfl:i=L.length:=by omega
 refine X1 1000 ?_
 simp only [X7,Int.lt_irrefl,Nat.lt_irrefl,↓X2,wA,seval,wE]
 refine Bd rfl ?_
 have hlen:(Ql n L).length=L.length:=by simp [Ql]
 rw [hR,AR,hlen]
 refine QI (n:=L.length) (.inl rfl) (by omega) (fun h=>by rw [h]) fun j hj=>?_
 rw [List.take_length,Nat.zero_add]
 exact (Xg (hqc _) _).sees _
def Ia (sg:Int) (l:List Rat):Rat:=DT sg (l.getD 0 0) (l.drop 1) (l.drop 1).length
def Nt (n:V2) (A B:List V2):Rat:=Ia (-1) (Ql n B) - Ia 1 (Ql n A)
theorem Cq (n:V2) (L:List V2) (k:Nat) (h:Qx L k) (i:Nat):qb ((Ql n L).getD i 0)≤2*(vb n+k)+1:=by
 have h0:=h i
 have h1:=ZX n (L.getD i v0)
 have q0:=ZA
 by_cases hi:i<L.length
 ·have e:(Ql n L).getD i 0=XR n (L.getD i v0):=by
   unfold Ql
   rw [List.getD_eq_getElem?_getD,List.getElem?_map,List.getD_eq_getElem?_getD,List.getElem?_eq_getElem hi]; rfl
  rw [e]; omega
 ·have e:(Ql n L).getD i 0=0:=by
   rw [List.getD_eq_getElem?_getD,List.getElem?_eq_none (by simp [Ql]; omega)]; rfl
  rw [e]; omega
theorem F1 (l:List Rat) (i:Nat):(l.drop 1).getD i 0=l.getD (1+i) 0:=by
 rw [List.getD_eq_getElem?_getD,List.getD_eq_getElem?_getD,List.getElem?_drop]
theorem Hx (sg:Int) (l:List Rat) (c:Nat) (h:∀ i,qb (l.getD i 0)≤c):qb (Ia sg l)≤c :=
 NF _ _ _ _ (h 0) (fun k=>by rw [F1]; exact h _) _
theorem La (l:List Rat) {n m:Nat} {t:Bool} (hn:n=l.length - 1) (hm:(l.length - 1)*4≤m):Weak (.sl n m (fun j=>Xs qC 4 0 l (4+j)) t) (qs (l.drop 1)):=by
 rw [AR]
 refine Z9 (by rw [List.length_drop]; exact hn) (by rw [List.length_drop]; exact hm) fun j hj=>?_
 have e:Xs qC 4 0 l (4+j)=Xs qC 4 0 (l.drop 1) j:=by
  unfold Xs
  rw [F1,show (4+j) / 4=1+j / 4 by omega,show (4+j) % 4=j % 4 by omega]
 rw [e]
 exact Weak.rfl' _
theorem oW (n:V2) (A B:List V2) (k:Nat) (ha:Qx A k) (hb:Qx B k) (hk:k≤10000) (la:A.length<1000000) (lb:B.length<1000000) (pa:0<A.length) (pb:0<B.length) (hn:vb n≤10000):Fn Tryz.prog 271 [vA n,Xw A,Xw B] (qA (Nt n A B)):=by
 have c1:=GL n A k ha (by omega) la (by omega)
 have c2:=GL n B k hb (by omega) lb (by omega)
 have qa:=Cq n A k ha
 have qb':=Cq n B k hb
 have hlA:(Ql n A).length=A.length:=by simp [Ql]
 have hlB:(Ql n B).length=B.length:=by simp [Ql]
 have c3:=Cm (-1) ((Ql n B).getD 0 0) ((Ql n B).drop 1) (by rw [List.length_drop]; omega) (by have:=qb' 0; unfold vm; omega) (fun i=>by rw [F1]; have:=qb' (1+i); unfold vm; omega)
 have c4:=Cm 1 ((Ql n A).getD 0 0) ((Ql n A).drop 1) (by rw [List.length_drop]; omega) (by have:=qa 0; unfold vm; omega) (fun i=>by rw [F1]; have:=qa (1+i); unfold vm; omega)
 have e1:=Hx (-1) (Ql n B) _ qb'
 have e2:=Hx 1 (Ql n A) _ qa
 have c5:=NM (Ia (-1) (Ql n B)) (Ia 1 (Ql n A)) (by unfold rm; omega) (by unfold rm; omega)
 rw [show DT (-1) ((Ql n B).getD 0 0) ((Ql n B).drop 1) ((Ql n B).drop 1).length=Ia (-1) (Ql n B) from rfl] at c3
 rw [show DT 1 ((Ql n A).getD 0 0) ((Ql n A).drop 1) ((Ql n A).drop 1).length=Ia 1 (Ql n A) from rfl] at c4
 rw [show Ia (-1) (Ql n B) - Ia 1 (Ql n A)=Nt n A B from rfl] at c5
 have v1:=sG (Ql n A) 0
 have v2:=sG (Ql n B) 0
 obtain ⟨R,hR⟩:∃ R,R=qA (Nt n A B):=⟨_,rfl⟩
 have sR:Settled R:=hR▸Xc _
 rw [← hR] at c5 ⊢
 generalize Ql n A=PA at *
 generalize Ql n B=PB at *
 simp only [Nat.zero_mul,Nat.zero_add] at v1 v2
 have f1:(0<PA.length)=True:=eq_true (by omega)
 have f2:(0<PB.length)=True:=eq_true (by omega)
 have f3:((0:Int)<PA.length)=True:=eq_true (by omega)
 have f4:((0:Int)<PB.length)=True:=eq_true (by omega)
 have f5:(4≤PA.length*4)=True:=eq_true (by omega)
 have f6:(4≤PB.length*4)=True:=eq_true (by omega)
 have f7:((1:Int)≤PA.length)=True:=eq_true (by omega)
 have f8:((1:Int)≤PB.length)=True:=eq_true (by omega)
 refine Fq Tryz.call271 Tryz.func271 9 [] [2] [] (by simp [Xm,Xl]) (X1 1000 ?_)
 simp only [AS.start,X7,↓X2,wA,seval,wE]
 refine X0 c1 rfl ?_
 simp only [↓X2,wA,seval,wE]
 refine X0 c2 rfl ?_
 simp only [AR,v1,v2,f1,f2,f3,f4,f5,f6,f7,f8,Int.toNat_zero,Int.reduceLE,↓X2,wA,seval,wE]
 refine XW c3 ⟨Weak.rfl' _,Weak.rfl' _,La PB (by omega) (by omega),trivial⟩ ?_
 simp only [AR,v1,v2,f1,f2,f3,f4,f5,f6,f7,f8,Int.toNat_zero,Int.reduceLE,↓X2,wA,seval,wE]
 refine XW c4 ⟨Weak.rfl' _,Weak.rfl' _,La PA (by omega) (by omega),trivial⟩ ?_
 simp only [↓X2,wA,seval,wE]
 refine X0 c5 rfl ?_
 simp only [hR,↓X2,wA,seval,wE]
 exact JA rfl Qc rfl rfl rfl sR (hR.trans rfl)
def H0 (x:Rat):Rat:=if x<0 then -x else x
def C6 (n:V2):Rat:=H0 n.x+H0 n.y
theorem Hw (x:Rat):qb (H0 x)=qb x:=by unfold H0; split <;> simp [BD]
theorem PJ (x y:Rat):QO x y=1↔y<x:=by
 rw [← Jz]
 unfold QO
 rw [Int.sign_eq_one_iff_pos,Int.sign_pos_iff]
theorem Uk (x:Rat):DT 1 x [-x] 1=H0 x:=by
 show (if QO (-x) x=1 then -x else x)=_
 unfold H0
 by_cases h:x<0
 ·rw [if_pos h,if_pos ((PJ _ _).2 (by grind))]
 ·rw [if_neg h,if_neg fun hh=>h (by have:=(PJ _ _).1 hh; grind)]
theorem RG (x:Rat) {t:Bool}:Weak (.sl 1 4 (Xo [.bool (decide (x.num<0)),X6 (X9 x.num.natAbs),.bool false,X6 (X9 (qd x))]) t) (qs [x]):=by
 rw [AR]
 refine Z9 rfl (Nat.le_refl _) fun j hj=>?_
 match j,hj with
 | 0,_=>exact Weak.rfl' _
 | 1,_=>exact Weak.rfl' _
 | 2,_=>exact Weak.rfl' _
 | 3,_=>exact Weak.rfl' _
 | j+4,h=>exact absurd h (by show ¬ j+4<1*4; omega)
theorem Ml (x:Rat) (c:Nat) (hc:1≤c) (h:qb x≤c) (k:Nat):qb (([x]:List Rat).getD k 0)≤c:=by
 have q0:=ZA
 match k with
 | 0=>exact h
 | k+1=>show qb 0≤c; omega
theorem lP (n:V2) (hn:vb n≤100000):Fn Tryz.prog 287 [vA n] (qA (C6 n)):=by
 have:=Qy n; have:=Qo n
 have n1:=Cx n.x
 have n2:=Cx n.y
 have a1:=Hw n.x; have a2:=Hw n.y
 have c1:=Cm 1 n.x [-n.x] (by simp) (by unfold vm; omega) (Ml _ _ (by unfold vm; omega) (by rw [BD]; unfold vm; omega))
 have c2:=Cm 1 n.y [-n.y] (by simp) (by unfold vm; omega) (Ml _ _ (by unfold vm; omega) (by rw [BD]; unfold vm; omega))
 rw [show ([-n.x]:List Rat).length=1 from rfl,Uk] at c1
 rw [show ([-n.y]:List Rat).length=1 from rfl,Uk] at c2
 have c3:=As (H0 n.x) (H0 n.y) (by unfold rm; omega) (by unfold rm; omega)
 rw [show H0 n.x+H0 n.y=C6 n from rfl] at c3
 obtain ⟨R,hR⟩:∃ R,R=qA (C6 n):=⟨_,rfl⟩
 have sR:Settled R:=hR▸Xc _
 rw [← hR] at c3 ⊢
 refine Fq Tryz.call287 Tryz.func287 3 [] [1,20000001] [] (by simp [wS]) (X1 1000 ?_); simp (config:={ maxSteps:=2000000 }) only [AS.start,↓X2,wA,seval,wE]
 refine X0 n1 rfl ?_
 simp only [↓X2,wA,seval,wE]
 refine XW c1 ⟨Weak.rfl' _,Weak.rfl' _,RG _,trivial⟩ ?_
 simp only [↓X2,wA,seval,wE]
 refine X0 n2 rfl ?_
 simp only [↓X2,wA,seval,wE]
 refine XW c2 ⟨Weak.rfl' _,Weak.rfl' _,RG _,trivial⟩ ?_
 simp only [↓X2,wA,seval,wE]
 refine X0 c3 rfl ?_
 simp only [hR,↓X2,wA,seval,wE]
 exact JA rfl Qc rfl rfl rfl sR (hR.trans rfl)
theorem UO (n:V2):qb (C6 n)≤2*vb n+1:=by
 have:=Qy n; have:=Qo n
 have a1:=Hw n.x; have a2:=Hw n.y
 have:=K2 (H0 n.x) (H0 n.y)
 unfold C6; omega
theorem lD (n:V2) (e:Rat) (hn:vb n≤100000) (he:qb e≤100000):Fn Tryz.prog 272 [vA n,qA e] (qA (e*C6 n)):=by
 have q:=UO n
 have c1:=lP n hn
 have c2:=Kk e (C6 n) (by unfold rm; omega) (by unfold rm; omega)
 obtain ⟨R,hR⟩:∃ R,R=qA (e*C6 n):=⟨_,rfl⟩
 have sR:Settled R:=hR▸Xc _
 rw [← hR] at c2 ⊢
 refine Fq Tryz.call272 Tryz.func272 5 [] [] [] (by simp [wS]) (X1 1000 ?_); simp (config:={ maxSteps:=2000000 }) only [AS.start,↓X2,wA,seval,wE]
 refine X0 c1 rfl ?_
 simp only [↓X2,wA,seval,wE]
 refine X0 c2 rfl ?_
 simp only [hR,↓X2,wA,seval,wE]
 exact JA rfl Qc rfl rfl rfl sR (hR.trans rfl)
def mY (p q:V2):V2:=⟨(q.sub p).y,-(q.sub p).x⟩
theorem gK (p q:V2):vb (mY p q)≤vb p+vb q+1:=by
 have:=K9 q p
 have:=Qy (q.sub p); have:=Qo (q.sub p)
 have:=BD (q.sub p).x
 unfold mY
 show max (qb (q.sub p).y) (qb (-(q.sub p).x))≤_
 omega
theorem HN (p q:V2) (hp:vb p≤100000) (hq:vb q≤100000):Fn Tryz.prog 270 [vA p,vA q] (vA (mY p q)):=by
 have c1:=Bm q p (by unfold rm; omega) (by unfold rm; omega)
 have c2:=Cx (q.sub p).x
 obtain ⟨R,hR⟩:∃ R,R=vA (mY p q):=⟨_,rfl⟩
 have sR:Settled R:=hR▸Xm _
 rw [← hR]
 refine Fq Tryz.call270 Tryz.func270 6 [] [] [] (by simp [wS]) (X1 1000 ?_); simp (config:={ maxSteps:=2000000 }) only [AS.start,↓X2,wA,seval,wE]
 refine X0 c1 rfl ?_
 simp only [↓X2,wA,seval,wE]
 refine X0 c2 rfl ?_
 simp only [↓X2,wA,seval,wE]
 exact ZD rfl JD rfl rfl rfl sR (hR.trans rfl)
def Rb (n:V2) (A B:List V2) (e:Rat):Prop:=e*C6 n≤Nt n A B
theorem WA (n:V2) (A B:List V2) (k:Nat) (ha:Qx A k) (hb:Qx B k):qb (Nt n A B)≤4*(vb n+k)+3:=by
 have e1:=Hx (-1) (Ql n B) _ (Cq n B k hb)
 have e2:=Hx 1 (Ql n A) _ (Cq n A k ha)
 have:=EF (Ia (-1) (Ql n B)) (Ia 1 (Ql n A))
 unfold Nt; omega
theorem NO (n:V2) (A B:List V2) (e:Rat) (k:Nat) (ha:Qx A k) (hb:Qx B k) (hk:k≤10000) (la:A.length<1000000) (lb:B.length<1000000) (pa:0<A.length) (pb:0<B.length) (hn:vb n≤10000) (he:qb e≤10000):Fn Tryz.prog 262 [vA n,Xw A,Xw B,qA e] (.bool (decide (Rb n A B e))):=by
 have c1:=oW n A B k ha hb hk la lb pa pb hn
 have c2:=lD n e (by omega) (by omega)
 have q1:=WA n A B k ha hb
 have q2:=UO n
 have q3:=Qs e (C6 n)
 have c3:=Kd (Nt n A B) (e*C6 n) (by unfold rm; omega) (by unfold rm; omega)
 have hd:decide (Rb n A B e)=decide (0≤QO (Nt n A B) (e*C6 n)):=decide_eq_decide.2 (UP _ _).symm
 rw [hd]
 refine Fq Tryz.call262 Tryz.func262 9 [] [] [] (by simp [Xm,Xl,Xc]) (X1 1000 ?_)
 simp only [AS.start,X7,↓X2,wA,seval,wE]
 refine X0 c1 rfl ?_
 simp only [↓X2,wA,seval,wE]
 refine X0 c2 rfl ?_
 simp only [↓X2,wA,seval,wE]
 refine X0 c3 rfl ?_
 simp only [↓X2,wA,seval,wE]
 exact Xt rfl rfl (X3 _) rfl
def dA (A:List V2) (i:Nat):V2:=mY (A.getD i v0) (A.getD ((i+1) % A.length) v0)
def dB (B:List V2) (i:Nat):V2:=mY (B.getD ((i+1) % B.length) v0) (B.getD i v0)
def RN (A:List V2) (i:Nat):List V2:=(List.range i).map (dA A)
def Uc (B:List V2) (i:Nat):List V2:=(List.range i).map (dB B)
def CF (A B:List V2):List V2:=(RN A A.length ++ Uc B B.length) ++ [JY (1,0),JY (0,1),JY (-1,0),JY (0,-1)]
theorem cV (A:List V2) (i:Nat):RN A (i+1)=RN A i ++ [dA A i]:=by unfold RN; rw [List.range_succ,List.map_append]; rfl
theorem cW (B:List V2) (i:Nat):Uc B (i+1)=Uc B i ++ [dB B i]:=by unfold Uc; rw [List.range_succ,List.map_append]; rfl
theorem Hj (A:List V2) (i:Nat):(RN A i).length=i:=by simp [RN]
theorem Nl (B:List V2) (i:Nat):(Uc B i).length=i:=by simp [Uc]
theorem s0 (L:List V2) (a b c d:V2) (j:Nat) (hj:j<(L.length+4)*8):QM (L.length*8) (Xs vC 8 v0 L) 32 (Xo (vC a ++ (vC b ++ (vC c ++ vC d)))) j=Xs vC 8 v0 (L ++ [a,b,c,d]) j:=by
 unfold QM
 by_cases h:j<L.length*8
 ·rw [if_pos h]
  unfold Xs
  have:j / 8<L.length:=by omega
  have e:(L ++ [a,b,c,d]).getD (j / 8) v0=L.getD (j / 8) v0:=by rw [List.getD_eq_getElem?_getD,List.getD_eq_getElem?_getD,List.getElem?_append_left this]
  rw [e]
 ·rw [if_neg h,if_pos (by omega)]
  obtain ⟨i,rfl⟩:∃ i,j=L.length*8+i:=⟨j - L.length*8,by omega⟩
  have hi:i<32:=by omega
  have e1:L.length*8+i - L.length*8=i:=by omega
  have e2:(L.length*8+i) / 8=L.length+i / 8:=by omega
  have e3:(L.length*8+i) % 8=i % 8:=by omega
  unfold Xs
  rw [e1,e2,e3]
  have e4:(L ++ [a,b,c,d]).getD (L.length+i / 8) v0=[a,b,c,d].getD (i / 8) v0:=by
   rw [List.getD_eq_getElem?_getD,List.getD_eq_getElem?_getD,List.getElem?_append_right (by omega)]
   rw [show L.length+i / 8 - L.length=i / 8 by omega]
  rw [e4]
  clear e1 e2 e3 e4 hj h
  match i,hi with
  | 0,_=>rfl
  | 1,_=>rfl
  | 2,_=>rfl
  | 3,_=>rfl
  | 4,_=>rfl
  | 5,_=>rfl
  | 6,_=>rfl
  | 7,_=>rfl
  | 8,_=>rfl
  | 9,_=>rfl
  | 10,_=>rfl
  | 11,_=>rfl
  | 12,_=>rfl
  | 13,_=>rfl
  | 14,_=>rfl
  | 15,_=>rfl
  | 16,_=>rfl
  | 17,_=>rfl
  | 18,_=>rfl
  | 19,_=>rfl
  | 20,_=>rfl
  | 21,_=>rfl
  | 22,_=>rfl
  | 23,_=>rfl
  | 24,_=>rfl
  | 25,_=>rfl
  | 26,_=>rfl
  | 27,_=>rfl
  | 28,_=>rfl
  | 29,_=>rfl
  | 30,_=>rfl
  | 31,_=>rfl
  | i+32,h=>omega
theorem SJ (A B:List V2) (k:Nat) (ha:Qx A k) (hb:Qx B k) (hk:1≤k):∀ x∈CF A B,vb x≤2*k+3:=by
 intro x hx
 have p4:∀ c:Int×Int,-1≤c.1∧c.1≤1→-1≤c.2∧c.2≤1→vb (JY c)≤3:=fun c h1 h2=>by
  have q1:=KC c.1 3 (by omega) (Qm ⟨by omega,by omega⟩)
  have q2:=KC c.2 3 (by omega) (Qm ⟨by omega,by omega⟩)
  unfold vb JY; simp only; omega
 unfold CF at hx
 rcases List.mem_append.1 hx with h | h
 ·rcases List.mem_append.1 h with h | h
  ·obtain ⟨i,_,rfl⟩:=List.mem_map.1 h
   have:=gK (A.getD i v0) (A.getD ((i+1) % A.length) v0)
   have:=ha i; have:=ha ((i+1) % A.length)
   unfold dA; omega
  ·obtain ⟨i,_,rfl⟩:=List.mem_map.1 h
   have:=gK (B.getD ((i+1) % B.length) v0) (B.getD i v0)
   have:=hb i; have:=hb ((i+1) % B.length)
   unfold dB; omega
 ·simp only [List.mem_cons,List.not_mem_nil,or_false] at h
  rcases h with rfl | rfl | rfl | rfl
  ·exact Nat.le_trans (p4 _ (by decide) (by decide)) (by omega)
  ·exact Nat.le_trans (p4 _ (by decide) (by decide)) (by omega)
  ·exact Nat.le_trans (p4 _ (by decide) (by decide)) (by omega)
  ·exact Nat.le_trans (p4 _ (by decide) (by decide)) (by omega)
theorem sw (a b c d:V2):∀ j,j<32→((vC a ++ (vC b ++ (vC c ++ vC d))).getD j .any).one=true:=fun j hj=>by
 match j,hj with
 | 0,_=>rfl
 | 1,_=>rfl
 | 2,_=>rfl
 | 3,_=>rfl
 | 4,_=>rfl
 | 5,_=>rfl
 | 6,_=>rfl
 | 7,_=>rfl
 | 8,_=>rfl
 | 9,_=>rfl
 | 10,_=>rfl
 | 11,_=>rfl
 | 12,_=>rfl
 | 13,_=>rfl
 | 14,_=>rfl
 | 15,_=>rfl
 | 16,_=>rfl
 | 17,_=>rfl
 | 18,_=>rfl
 | 19,_=>rfl
 | 20,_=>rfl
 | 21,_=>rfl
 | 22,_=>rfl
 | 23,_=>rfl
 | 24,_=>rfl
 | 25,_=>rfl
 | 26,_=>rfl
 | 27,_=>rfl
 | 28,_=>rfl
 | 29,_=>rfl
 | 30,_=>rfl
 | 31,_=>rfl
 | j+32,h=>omega
theorem aT (A B:List V2) (c:Nat) (ha:Qx A c) (hb:Qx B c) (hc:c≤10000) (la:A.length<100000) (lb:B.length<100000):Fn Tryz.prog 261 [Xw A,Xw B] (Xw (CF A B)):=by
 have hvc:∀ a:V2,∀ x∈vC a,Settled x:=fun a=>by simp [vC,X5,X3]
 have bA:Kl 1 (Xw A)=True:=eq_true (X8 (Xl A))
 have bB:Kl 1 (Xw B)=True:=eq_true (X8 (Xl B))
 have br:∀ i l n,XQ 1 (.row i n (Xs vC 8 v0 l))=True:=fun i l n=>eq_true fun j _=>X8 (Xg (hvc _) _)
 obtain ⟨R,hR⟩:∃ R,R=Xw (CF A B):=⟨_,rfl⟩
 rw [← hR]
 refine Fq Tryz.call261 Tryz.func261 10 [10,11,12,31,32,33] [5,60000007,10,110000009] [] (by simp [Xl]) (X1 1000 ?_)
 simp only [AS.start,X7,↓X2,wA,seval,wE]
 refine Xf (fun i:Nat=>⟨10,[10,11,12,31,32,33],[Xw A,Xw B,.any,.any,.any,.osl 0 i 8 0 i,.any,.any,.any,.any],[(10,Xw A),(11,I A.length),(12,I i)],[.row i (i*8) (Xs vC 8 v0 (RN A i))]⟩) (fun i=>i≤A.length) (fun i=>A.length - i) 0 (by omega)
  (Sub.trans (QT 5 8 (Xs vC 8 v0 []) rfl) (Xb rfl (by simp [AS.put,Xi,X7,I]) (by simp [AS.put,Xj,Xp,X7,I]) (by simp [AS.put,RN]))) ?_
 intro i hi next
 have w1:=wj i (by omega)
 by_cases hi2:i<A.length
 ·have nx:=next (i+1)
  have f1:((i:Int)<A.length)=True:=eq_true (by omega)
  have f2:(i<A.length)=True:=eq_true hi2
  have f3:(i*8+8≤A.length*8)=True:=eq_true (by omega)
  have hm:((i+1:Nat):Int).tmod A.length=(((i+1) % A.length:Nat):Int):=rfl
  have hml:(i+1) % A.length<A.length:=Nat.mod_lt _ (by omega)
  have f4:((i+1) % A.length<A.length)=True:=eq_true hml
  have f5:((i+1) % A.length*8+8≤A.length*8)=True:=eq_true (by omega)
  have f6:((A.length:Int)=0)=False:=eq_false (by omega)
  have f6':(A.length=0)=False:=eq_false (by omega)
  have v1:=vF A i
  have v2:=vF A ((i+1) % A.length)
  have s1:=ha i; have s2:=ha ((i+1) % A.length)
  have hap:=Qv vC 8 v0 (RN A i) (dA A i) (by omega)
  rw [Hj,← cV] at hap
  have c1:=HN (A.getD i v0) (A.getD ((i+1) % A.length) v0) (by omega) (by omega)
  rw [show mY (A.getD i v0) (A.getD ((i+1) % A.length) v0)=dA A i from rfl] at c1
  refine X1 1000 ?_
  simp only [X7,w1,f1,f2,f3,f4,f5,f6,f6',hm,v1,v2,Int.toNat_natCast,↓X2,wA,seval,wE]
  refine X0 c1 rfl ?_
  simp only [w1,↓X2,wA,seval,wE]
  exact ⟨⟨EM _,by omega,by omega⟩,nx _ (by omega) (by omega) (Xz (m:=1) (Nat.zero_le _) rfl (by simp [Xi,X7,I]) (by simp [Xj,Xp,X7,I]) (by rw [← hap]; rfl) (by simp [XA,bA,bB]) (by simp [XA,bA,bB]) (by simp [br]))⟩
 obtain rfl:i=A.length:=by omega
 refine X1 1000 ?_
 simp only [X7,Int.lt_irrefl,Nat.lt_irrefl,↓X2,wA,seval,wE]
 refine Xf (fun i:Nat=>⟨10,[10,11,12,31,32,33],[Xw A,Xw B,.any,.any,.any,.osl 0 (A.length+i) 8 0 (A.length+i),.any,.any,.any,.any],[(31,Xw B),(32,I B.length),(33,I i)],[.row (A.length+i) ((A.length+i)*8) (Xs vC 8 v0 (RN A A.length ++ Uc B i))]⟩) (fun i=>i≤B.length) (fun i=>B.length - i) 0 (by omega)
  (Xb rfl (by simp [Xi,X7,I]) (by simp [Xj,Xp,X7,I]) (by simp [Uc])) ?_
 intro i hi next
 have w1:=wj i (by omega)
 by_cases hi2:i<B.length
 ·have nx:=next (i+1)
  have f1:((i:Int)<B.length)=True:=eq_true (by omega)
  have f2:(i<B.length)=True:=eq_true hi2
  have f3:(i*8+8≤B.length*8)=True:=eq_true (by omega)
  have hm:((i+1:Nat):Int).tmod B.length=(((i+1) % B.length:Nat):Int):=rfl
  have hml:(i+1) % B.length<B.length:=Nat.mod_lt _ (by omega)
  have f4:((i+1) % B.length<B.length)=True:=eq_true hml
  have f5:((i+1) % B.length*8+8≤B.length*8)=True:=eq_true (by omega)
  have f6:((B.length:Int)=0)=False:=eq_false (by omega)
  have f6':(B.length=0)=False:=eq_false (by omega)
  have v1:=vF B i
  have v2:=vF B ((i+1) % B.length)
  have s1:=hb i; have s2:=hb ((i+1) % B.length)
  have hap:=Qv vC 8 v0 (RN A A.length ++ Uc B i) (dB B i) (by omega)
  rw [List.append_assoc,← cW,List.length_append,Hj,Nl] at hap
  have ea:A.length+(i+1)=A.length+i+1:=by omega
  simp only [ea] at nx
  have c1:=HN (B.getD ((i+1) % B.length) v0) (B.getD i v0) (by omega) (by omega)
  rw [show mY (B.getD ((i+1) % B.length) v0) (B.getD i v0)=dB B i from rfl] at c1
  refine X1 1000 ?_
  simp only [X7,w1,f1,f2,f3,f4,f5,f6,f6',hm,v1,v2,Int.toNat_natCast,↓X2,wA,seval,wE]
  refine X0 c1 rfl ?_
  simp only [w1,↓X2,wA,seval,wE]
  exact ⟨⟨EM _,by omega,by omega⟩,nx _ (by omega) (by omega) (Xz (m:=1) (Nat.zero_le _) rfl (by simp [Xi,X7,I]) (by simp [Xj,Xp,X7,I]) (by rw [← hap]; rfl) (by simp [XA,bA,bB]) (by simp [XA,bA,bB]) (by simp [br]))⟩
 obtain rfl:i=B.length:=by omega
 have hl:(RN A A.length ++ Uc B B.length).length=A.length+B.length:=by rw [List.length_append,Hj,Nl]
 have h4:=s0 (RN A A.length ++ Uc B B.length) (JY (1,0)) (JY (0,1)) (JY (-1,0)) (JY (0,-1))
 rw [hl] at h4
 have c1:=Gg 1 0 ⟨by omega,by omega⟩ ⟨by omega,by omega⟩
 have c2:=Gg 0 1 ⟨by omega,by omega⟩ ⟨by omega,by omega⟩
 have c3:=Gg (-1) 0 ⟨by omega,by omega⟩ ⟨by omega,by omega⟩
 have c4:=Gg 0 (-1) ⟨by omega,by omega⟩ ⟨by omega,by omega⟩
 have hlen:(CF A B).length=A.length+B.length+4:=by unfold CF; rw [List.length_append,hl]; rfl
 rw [show (⟨((1:Int):Rat),((0:Int):Rat)⟩:V2)=JY (1,0) from rfl] at c1
 rw [show (⟨((0:Int):Rat),((1:Int):Rat)⟩:V2)=JY (0,1) from rfl] at c2
 rw [show (⟨((-1:Int):Rat),((0:Int):Rat)⟩:V2)=JY (-1,0) from rfl] at c3
 rw [show (⟨((0:Int):Rat),((-1:Int):Rat)⟩:V2)=JY (0,-1) from rfl] at c4
 have hD:CF A B=(RN A A.length ++ Uc B B.length) ++ [JY (1,0),JY (0,1),JY (-1,0),JY (0,-1)]:=rfl
 generalize JY (1,0)=E1 at *
 generalize JY (0,1)=E2 at *
 generalize JY (-1,0)=E3 at *
 generalize JY (0,-1)=E4 at *
 refine X1 1000 ?_
 simp only [X7,Int.lt_irrefl,Nat.lt_irrefl,↓X2,wA,seval,wE]
 refine X0 c1 rfl ?_
 simp only [↓X2,wA,seval,wE]
 refine X0 c2 rfl ?_
 simp only [↓X2,wA,seval,wE]
 refine X0 c3 rfl ?_
 simp only [↓X2,wA,seval,wE]
 refine X0 c4 rfl ?_
 simp only [↓X2,wA,seval,wE]
 refine ⟨⟨sw E1 E2 E3 E4,by omega,by omega⟩,?_⟩
 rw [hR]
 refine Bd rfl ?_
 rw [X7,hlen]
 refine QI (n:=A.length+B.length+4) (.inl rfl) (by omega) (fun h=>by omega) fun j hj=>?_
 rw [Nat.zero_add,hD,← h4 j hj]
 have:=Xg (hvc ((RN A A.length ++ Uc B B.length ++ [E1,E2,E3,E4]).getD (j / 8) v0)) (j % 8)
 have e:Settled (Xs vC 8 v0 (RN A A.length ++ Uc B B.length ++ [E1,E2,E3,E4]) j):=this
 rw [← h4 j hj] at e
 exact e.sees _
def F5 (p:V2→Bool):List V2→V2×Bool
 | []=>(v0,false)
 | x :: l=>if p x=true then (x,true) else F5 p l
theorem M3 {p:V2→Bool}:∀ {s:List V2} {j:Nat},j<s.length→p (s.getD j v0)=true→(∀ i,i<j→p (s.getD i v0)=false)→F5 p s=(s.getD j v0,true)
 | [],j,h,_,_=>absurd h (Nat.not_lt_zero j)
 | x :: l,0,_,h,_=>if_pos h
 | x :: l,j+1,hj,h,hno=>by
  have h0:p x=false:=hno 0 (by omega)
  have ih:=M3 (p:=p) (s:=l) (j:=j) (by simpa using hj) h (fun i hi=>hno (i+1) (by omega))
  show (if p x=true then (x,true) else F5 p l)=_
  rw [if_neg (by rw [h0]; decide),ih]
  rfl
theorem Ib {p:V2→Bool}:∀ {s:List V2},(∀ i,i<s.length→p (s.getD i v0)=false)→F5 p s=(v0,false)
 | [],_=>rfl
 | x :: l,hno=>by
  have h0:p x=false:=hno 0 (by simp)
  have ih:=Ib (p:=p) (s:=l) (fun i hi=>hno (i+1) (by simpa using hi))
  show (if p x=true then (x,true) else F5 p l)=_
  rw [if_neg (by rw [h0]; decide),ih]
noncomputable def BQ (A B:List V2) (e:Rat):V2×Bool:=F5 (fun d=>decide (Rb d A B e)) (CF A B)
structure Shp (c:Nat) (A:List V2):Prop where
 small:Qx A c
 pos:0<A.length
 len:A.length<10000
theorem Oa (A B:List V2) (e:Rat) (c:Nat) (ha:Shp c A) (hb:Shp c B) (h1:1≤c) (hc:c≤1000) (he:qb e≤10000):Fn Tryz.prog 244 [Xw A,Xw B,qA e] (.tup [vA (BQ A B e).1,.bool (BQ A B e).2]):=by
 obtain ⟨a1,a2,a3⟩:=ha
 obtain ⟨b1,b2,b3⟩:=hb
 obtain ⟨R,hR⟩:∃ R,R=BQ A B e:=⟨_,rfl⟩
 rw [← hR]
 have cd:=aT A B c a1 b1 (by omega) (by omega) (by omega)
 have hds:=SJ A B c a1 b1 h1
 unfold BQ at hR
 have hlen:(CF A B).length=A.length+B.length+4:=by unfold CF; rw [List.length_append,List.length_append,Hj,Nl]; rfl
 generalize CF A B=D at *
 have be:XQ 2 (.row 0 4 (Xo (qC e)))=True:=eq_true (XE (by simp [qC,X5,X3]))
 have bz:XQ 2 (.row 0 8 (Xo XN))=True:=eq_true (XE (Zo [] [] ⟨0,0,0,0,0,v0,v0,v0⟩ 0))
 have bA:Kl 2 (Xw A)=True:=eq_true (X8 (Xl A))
 have bB:Kl 2 (Xw B)=True:=eq_true (X8 (Xl B))
 have bD:Kl 2 (Xw D)=True:=eq_true (X8 (Xl D))
 refine Fq Tryz.call244 Tryz.func244 10 [12,13,14] [] [] (by simp [Xl,Xc]) (X1 1000 ?_)
 simp only [AS.start,X7,↓X2,wA,seval,wE]
 refine X0 cd rfl ?_
 simp only [X7,↓X2,wA,seval,wE]
 refine Xf (fun i:Nat=>⟨10,[12,13,14],[Xw A,Xw B,.any,.any,.any,.ref 0 0 0,.ref 1 0 0,.bool false,.any,.any],[(12,Xw D),(13,I D.length),(14,I i)],[.row 0 4 (Xo (qC e)),.row 0 8 (Xo XN)]⟩) (fun i=>i≤D.length∧∀ j,j<i→decide (Rb (D.getD j v0) A B e)=false) (fun i=>D.length - i) 0 ⟨by omega,by omega⟩
  (Xb rfl (by simp [Xi,X7,I]) (by simp [Xj,Xp,X7,I]) (by simp [qC,XN,X4])) ?_
 rintro i ⟨hi,hno⟩ next
 have w1:=wj i (by omega)
 by_cases hi2:i<D.length
 rotate_left
 ·obtain rfl:i=D.length:=by omega
  rw [Ib hno] at hR
  refine X1 1000 ?_
  simp only [X7,XN,Int.lt_irrefl,Nat.lt_irrefl,↓X2,wA,seval,wE]
  subst hR
  exact Js rfl (Xn JD rfl rfl rfl) (by unfold QR; rfl) (Xu (Xm _) (XT ZI)) ((X3 _).sees _)
 have f1:((i:Int)<D.length)=True:=eq_true (by omega)
 have f2:(i<D.length)=True:=eq_true hi2
 have f3:(i*8+8≤D.length*8)=True:=eq_true (by omega)
 have v1:=vF D i
 have hs:=hds _ (Gq hi2)
 have cs:=NO (D.getD i v0) A B e c a1 b1 (by omega) (by omega) (by omega) a2 b2 (by omega) he
 have nx:=next (i+1)
 refine X1 1000 ?_
 simp only [X7,w1,f1,f2,f3,v1,Int.toNat_natCast,↓X2,wA,seval,wE]
 refine X0 cs rfl ?_
 by_cases hsep:Rb (D.getD i v0) A B e
 ·have hd:decide (Rb (D.getD i v0) A B e)=true:=decide_eq_true hsep
  rw [hd]
  rw [M3 hi2 hd hno] at hR
  simp only [X7,XN,w1,f1,f2,f3,v1,Int.toNat_natCast,↓X2,wA,seval,wE]
  subst hR
  exact Js rfl (Xn JD rfl rfl rfl) (by unfold QR; rfl) (Xu (Xm _) (XT (XY (vC (D.getD i v0))))) ((X3 _).sees _)
 ·have hd:decide (Rb (D.getD i v0) A B e)=false:=decide_eq_false hsep
  rw [hd]
  simp only [w1,↓X2,wA,seval,wE]
  exact nx _ ⟨by omega,BL.2 ⟨hno,hd⟩⟩ (by omega) (Xz (m:=2) (Nat.zero_le _) rfl (by simp [Xi,X7,I]) (by simp [Xj,Xp,X7,I]) (by simp [qC,XN,X4]) (by simp [XA,bA,bB,bD]) (by simp [XA,bD]) (by simp [be,bz]))
noncomputable def TK (l:List (List V2)):AV:=Qi Xw [] l
theorem Q0 (l:List (List V2)):TK l=.sl l.length l.length (Q7 Xw [] l) false:=nrfl rfl
theorem Af (l:List (List V2)):Settled (TK l):=J0 fun _ _=>Xl _
theorem rK (l:List (List V2)) (i:Nat):Q7 Xw [] l i=Xw (l.getD i []):=nrfl rfl
noncomputable def ZW (A B:List (List V2)) (e:Rat) (i k:Nat):Bool:=(BQ (A.getD i []) (B.getD k []) e).2
noncomputable def Og (A B:List (List V2)) (e:Rat) (i:Nat):Bool:=decide (∀ k,k<B.length→ZW A B e i k=true)
noncomputable def Oe (A B:List (List V2)) (e:Rat):Bool:=decide (∀ i,i<A.length→Og A B e i=true)
theorem iW {A B:List (List V2)} {e:Rat} {i k:Nat} (h:k<B.length) (hp:ZW A B e i k=false):Og A B e i=false :=
 decide_eq_false fun H=>by rw [H k h] at hp; cases hp
def Z8 (A:List (List V2)):AV:=.ptr 1 (Xo [TK A]) 0
theorem QV (A:List (List V2)):Z8 A=.ptr 1 (Xo [TK A]) 0:=nrfl rfl
theorem FD (A:List (List V2)):Settled (Z8 A):=QS fun j hj=>by
 obtain rfl:j=0:=by omega
 exact Af A
theorem fE (A B:List (List V2)):Fn Tryz.prog 243 [TK A,TK B] (.fn 260 [Z8 A,Z8 B]):=by
 have hset:Settled (.fn 260 [Z8 A,Z8 B]):=Jc (by
  intro a ha
  simp only [List.mem_cons,List.not_mem_nil,or_false] at ha
  rcases ha with rfl | rfl <;> exact FD _)
 refine Fq Tryz.call243 Tryz.func243 5 [] [] [] (by simp [Af]) (X1 1000 ?_)
 simp only [AS.start,Q0,↓X2,wA,seval,wE]
 refine Bd rfl (Br ⟨KF (.inl rfl) (by omega) fun j hj=>?_,KF (.inl rfl) (by omega) fun j hj=>?_,trivial⟩)
 ·obtain rfl:j=0:=by omega
  exact (Af A).sees _
 ·obtain rfl:j=0:=by omega
  exact (Af B).sees _
theorem F6 {P:Program} {tok:List Tok} {all:Array Oper} {i:Nat} {s:AS} {o:Oper} {v:AV} {h':List AO} (ho:all[i]?=some o) (hg:o.guard=none) (h:J2 P false none o.op s.ev s.h=some (v,h')) :
  GStep P tok (fun _=>false) true (fun _=>none) all i s (({ s with h:=h' }:AS).putO o.dst v):=⟨o,ho,.inl ⟨by unfold gval; rw [hg],⟨fun _ h=>(by cases h),v,h',.inl h,rfl⟩⟩⟩
def O2 (m:Nat) (H:List AO):Prop:=H.length=m∧∀ o∈H,XQ m o∧o≠.unborn∧∀ v n f,o≠.con v n f
theorem Tf (A B:List (List V2)) (t:Tok) (m:Nat) (Hs:Nat→List AO) (la:A.length≤1000) (lb:B.length≤1000) (hHs:∀ n,O2 m (Hs n)) (hce:t.ce.H.length≤m)
  (hy:∀ i k,i<A.length→k<B.length→YCall Tryz.prog t [Xw (A.getD i []),Xw (B.getD k [])] (Hs (i*B.length+k)) (.bool true) (Hs (i*B.length+k+1))) :
  ICall Tryz.prog t 260 [.yld t.l,Z8 A,Z8 B] (Hs 0) (Hs (A.length*B.length)):=by
 have vA':=fun i=>rK A i
 have vB':=fun i=>rK B i
 refine ICall.intro (fn:=Tryz.f260) Tryz.call260 Tryz.func260 rfl mixed 8 [8,9,10,14,15,16] [] [] (by kernel_rfl) (Nat.le_of_ble_eq_true rfl) (by rw [(hHs 0).1]; exact hce) (by rw [(hHs 0).1]; exact fun o ho=>((hHs _).2 o ho).1) (X1 1000 ?_)
 simp only [AS.start,QV,Q0,↓X2,wA,seval,wE]
 refine Xf (fun i:Nat=>⟨8,[8,9,10,14,15,16],[.yld t.l,Z8 A,Z8 B,.any,.any,.any,.any,.any],[(8,TK A),(9,I A.length),(10,I i)],Hs (i*B.length)⟩) (fun i=>i≤A.length) (fun i=>A.length - i) 0 (by omega)
  (Xb rfl (by simp [Xi,QV,Q0]) (by simp [Xj,Xp,Q0,I]) (by simp)) ?_
 intro i hi next
 have w1:=wj i (by omega)
 by_cases hi2:i<A.length
 rotate_left
 ·obtain rfl:i=A.length:=by omega
  refine X1 1000 ?_
  simp only [QV,Q0,Int.lt_irrefl,Nat.lt_irrefl,↓X2,wA,seval,wE]
  exact pN rfl (by show (Hs _).take (Hs 0).length=_; rw [(hHs 0).1,← (hHs (A.length*B.length)).1,List.take_length])
 have f1:((i:Int)<A.length)=True:=eq_true (by omega)
 have f2:(i<A.length)=True:=eq_true hi2
 have f3:(i+1≤A.length)=True:=eq_true (by omega)
 refine X1 1000 ?_
 simp only [QV,Q0,w1,f1,f2,f3,vA',Int.toNat_natCast,↓X2,wA,seval,wE]
 refine Xf (fun k:Nat=>⟨8,[8,9,10,14,15,16],[.yld t.l,Z8 A,Z8 B,.any,.any,Xw (A.getD i []),.any,.any],[(14,TK B),(15,I B.length),(16,I k),(8,TK A),(9,I A.length),(10,I i)],Hs (i*B.length+k)⟩) (fun k=>k≤B.length) (fun k=>B.length - k) 0 (by omega)
  (Xb rfl (by simp [Xi,QV,Q0,X7]) (by simp [Xj,Xp,Q0,I]) (by simp)) ?_
 intro k hk next2
 have w2:=wj k (by omega)
 by_cases hk2:k<B.length
 rotate_left
 ·obtain rfl:k=B.length:=by omega
  refine X1 1000 ?_
  simp only [QV,Q0,w1,Int.lt_irrefl,Nat.lt_irrefl,↓X2,wA,seval,wE]
  exact next (i+1) _ (by omega) (by omega) (Xb rfl (by simp [Xi,QV,Q0]) (by simp [Xj,Xp,Q0,I]) (by simp [Nat.succ_mul]))
 have g1:((k:Int)<B.length)=True:=eq_true (by omega)
 have g2:(k<B.length)=True:=eq_true hk2
 have g3:(k+1≤B.length)=True:=eq_true (by omega)
 refine X1 1000 ?_
 simp only [QV,Q0,w1,w2,g1,g2,g3,vB',Int.toNat_natCast,↓X2,wA,seval,wE]
 obtain ⟨q1,q2⟩:=hHs (i*B.length+k)
 obtain ⟨q3,q4⟩:=hHs (i*B.length+k+1)
 refine Cf (t:=t) (H1:=Hs (i*B.length+k)) (H1':=Hs (i*B.length+k+1)) (rest:=[]) rfl rfl (List.mem_singleton.2 rfl) (hy i k hi2 hk2) (List.append_nil _).symm (q3.trans q1.symm) (by rw [q1]; exact hce) ?_ (by rw [q1]; exact fun o ho=>(q2 o ho).1) (fun o ho=>(q2 o ho).2.1) (fun o ho=>(q4 o ho).2.1) (QN (fun o ho=>(q2 o ho).2.2) (fun o ho=>(q4 o ho).2.2)) ⟨Weak.rfl' _,Weak.rfl' _,trivial⟩ ?_
 ·intro a ha
  simp only [List.mem_cons,List.not_mem_nil,or_false] at ha
  rcases ha with rfl | rfl <;> exact X8 (Xl _)
 simp only [QV,Q0,w1,w2,↓X2,wA,seval,wE]
 exact next2 (k+1) _ (by omega) (by omega) (Xb rfl (by simp [Xi,QV,Q0]) (by simp [Xj,Xp,Q0,I]) (by simp [Nat.add_assoc]))
theorem Ya (A B:List (List V2)) (t:Tok) (m:Nat) (Hs:Nat→List AO) (Hf:List AO) (la:A.length≤1000) (lb:B.length≤1000) (hHs:∀ n,O2 m (Hs n)) (hce:t.ce.H.length≤m)
  (i0 k0:Nat) (hi0:i0<A.length) (hk0:k0<B.length) (hy:∀ i k,i<i0∨i=i0∧k<k0→k<B.length→YCall Tryz.prog t [Xw (A.getD i []),Xw (B.getD k [])] (Hs (i*B.length+k)) (.bool true) (Hs (i*B.length+k+1))) (hz:YC Tryz.prog t false [Xw (A.getD i0 []),Xw (B.getD k0 [])] (Hs (i0*B.length+k0)) Hf) (hHf:O2 m Hf) :
  ICallQ Tryz.prog t false 260 [.yld t.l,Z8 A,Z8 B] (Hs 0) Hf:=by
 have vA':=fun i=>rK A i
 have vB':=fun i=>rK B i
 refine ICallQ.intro (fn:=Tryz.f260) Tryz.call260 Tryz.func260 rfl mixed 8 [8,9,10,14,15,16] [] [] (by kernel_rfl) (Nat.le_of_ble_eq_true rfl) (by rw [(hHs 0).1]; exact hce) (by rw [(hHs 0).1]; exact fun o ho=>(hHf.2 o ho).1) (X1 1000 ?_)
 simp only [AS.start,QV,Q0,↓X2,wA,seval,wE]
 refine Xf (fun i:Nat=>⟨8,[8,9,10,14,15,16],[.yld t.l,Z8 A,Z8 B,.any,.any,.any,.any,.any],[(8,TK A),(9,I A.length),(10,I i)],Hs (i*B.length)⟩) (fun i=>i≤i0) (fun i=>i0 - i) 0 (by omega)
  (Xb rfl (by simp [Xi,QV,Q0]) (by simp [Xj,Xp,Q0,I]) (by simp)) ?_
 intro i hi next
 have w1:=wj i (by omega)
 have hi2:i<A.length:=by omega
 have f1:((i:Int)<A.length)=True:=eq_true (by omega)
 have f2:(i<A.length)=True:=eq_true hi2
 have f3:(i+1≤A.length)=True:=eq_true (by omega)
 refine X1 1000 ?_
 simp only [QV,Q0,w1,f1,f2,f3,vA',Int.toNat_natCast,↓X2,wA,seval,wE]
 refine Xf (fun k:Nat=>⟨8,[8,9,10,14,15,16],[.yld t.l,Z8 A,Z8 B,.any,.any,Xw (A.getD i []),.any,.any],[(14,TK B),(15,I B.length),(16,I k),(8,TK A),(9,I A.length),(10,I i)],Hs (i*B.length+k)⟩) (fun k=>k≤B.length∧(i=i0→k≤k0)) (fun k=>B.length - k) 0 ⟨by omega,by omega⟩
  (Xb rfl (by simp [Xi,QV,Q0,X7]) (by simp [Xj,Xp,Q0,I]) (by simp)) ?_
 rintro k ⟨hk,hkk⟩ next2
 have w2:=wj k (by omega)
 by_cases hk2:k<B.length
 rotate_left
 ·obtain rfl:k=B.length:=by omega
  refine X1 1000 ?_
  simp only [QV,Q0,w1,Int.lt_irrefl,Nat.lt_irrefl,↓X2,wA,seval,wE]
  exact next (i+1) _ (by omega) (by omega) (Xb rfl (by simp [Xi,QV,Q0]) (by simp [Xj,Xp,Q0,I]) (by simp [Nat.succ_mul]))
 have g1:((k:Int)<B.length)=True:=eq_true (by omega)
 have g2:(k<B.length)=True:=eq_true hk2
 have g3:(k+1≤B.length)=True:=eq_true (by omega)
 by_cases hlast:i=i0∧k=k0
 ·obtain ⟨rfl,rfl⟩:=hlast
  refine X1 20 ?_
  simp only [QV,Q0,w1,w2,g1,g2,g3,vB',Int.toNat_natCast,↓X2,wA,seval,wE]
  refine lF (t:=t) (j:=3) (l1:=[0,1,2]) (l2:=[4]) rfl rfl (List.mem_singleton.2 rfl) rfl rfl ⟨_,F6 rfl rfl rfl,_,F6 rfl rfl rfl,_,F6 rfl rfl rfl,rfl⟩ ⟨rfl,_,_,_,[Xw (A.getD i []),Xw (B.getD k [])],Hf,rfl,rfl,⟨Weak.rfl' _,Weak.rfl' _,trivial⟩,hz,rfl⟩ ⟨_,F6 rfl rfl rfl,rfl⟩ ?_
  show Run (rf Tryz.prog Tryz.f260 [] [] (Hs 0).length Hf) _ _
  refine Run.sub (s':=⟨8,[],[],[(24,.bool true)],Hf⟩) ?_ (Xb rfl trivial ⟨.inr rfl,trivial⟩ rfl)
  refine X1 1000 ?_
  simp only [↓X2,wA,seval,wE]
  exact sJ rfl (by show Hf.take (Hs 0).length=_; rw [(hHs 0).1,← hHf.1,List.take_length])
 have hp:i<i0∨i=i0∧k<k0:=by omega
 refine X1 1000 ?_
 simp only [QV,Q0,w1,w2,g1,g2,g3,vB',Int.toNat_natCast,↓X2,wA,seval,wE]
 obtain ⟨q1,q2⟩:=hHs (i*B.length+k)
 obtain ⟨q3,q4⟩:=hHs (i*B.length+k+1)
 refine Cf (t:=t) (H1:=Hs (i*B.length+k)) (H1':=Hs (i*B.length+k+1)) (rest:=[]) rfl rfl (List.mem_singleton.2 rfl) (hy i k hp hk2) (List.append_nil _).symm (q3.trans q1.symm) (by rw [q1]; exact hce) ?_ (by rw [q1]; exact fun o ho=>(q2 o ho).1) (fun o ho=>(q2 o ho).2.1) (fun o ho=>(q4 o ho).2.1) (QN (fun o ho=>(q2 o ho).2.2) (fun o ho=>(q4 o ho).2.2)) ⟨Weak.rfl' _,Weak.rfl' _,trivial⟩ ?_
 ·intro a ha
  simp only [List.mem_cons,List.not_mem_nil,or_false] at ha
  rcases ha with rfl | rfl <;> exact X8 (Xl _)
 simp only [QV,Q0,w1,w2,↓X2,wA,seval,wE]
 exact next2 (k+1) _ ⟨by omega,by omega⟩ (by omega) (Xb rfl (by simp [Xi,QV,Q0]) (by simp [Xj,Xp,Q0,I]) (by simp [Nat.add_assoc]))
end
end Go.Ab.N
