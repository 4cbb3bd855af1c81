/- Contracts of functions of these chapters, for every argument that fits, and what they need. -/
import Derived.Test.YtefjhgcndhepeaaGreatC8
set_option linter.unusedSimpArgs false
set_option linter.unusedVariables false
open Nat renaming reducePow → Y1, reduceLT → Y2, reduceLeDiff → Y3, reduceEqDiff → Y4, reduceAdd → Y5, reduceMul → Y6, reduceSub → Y7, reduceBEq → Y8, reduceDiv → Y9, reduceMod → YA
namespace Go.Ab.N
open Go Go.RowKit Go.Proofs
noncomputable section
set_option maxRecDepth 10000
set_option maxHeartbeats 4000000
open Classical
noncomputable def mxN (g:Nat→Rat):Nat→Rat
 | 0=>g 0
 | k+1=>mxq (mxN g k) (g (k+1))
noncomputable def mnN (g:Nat→Rat):Nat→Rat
 | 0=>g 0
 | k+1=>mnq (mnN g k) (g (k+1))
theorem XeA (g:Nat→Rat) (c:Nat) (h:∀ k,qb (g k)≤c):∀ n,qb (mxN g n)≤c
 | 0=>h 0
 | n+1=>Xxf _ _ _ (XeA g c h n) (h _)
theorem Xez (g:Nat→Rat) (c:Nat) (h:∀ k,qb (g k)≤c):∀ n,qb (mnN g n)≤c
 | 0=>h 0
 | n+1=>Xxe _ _ _ (Xez g c h n) (h _)
def dfV (a b:List (Int×Int)) (f:FV) (k:Nat):V2 :=
 (ptV (a.getD (xK a.length f k) (0,0))).sub (rot f.turn (ptV (b.getD ((f.EB+1 - k) % b.length).toNat (0,0))))
noncomputable def loV (a b:List (Int×Int)) (f:FV) (k:Nat):V2:=⟨mxN (fun j=>(dfV a b f j).x) k,mxN (fun j=>(dfV a b f j).y) k⟩
noncomputable def hiV (a b:List (Int×Int)) (f:FV) (k:Nat):V2:=⟨mnN (fun j=>(dfV a b f j).x) k,mnN (fun j=>(dfV a b f j).y) k⟩
noncomputable def X0J (a b:List (Int×Int)) (f:FV) (e:Rat):V2×V2×Bool :=
 if XaY a.length b.length f∧X7W f.turn then
  let lo:=(loV a b f f.M.toNat).sub ⟨e,e⟩
  let hi:=(hiV a b f f.M.toNat).add ⟨e,e⟩
  if hi.x<lo.x∨hi.y<lo.y then (v0,v0,false) else (lo,hi,true)
 else (v0,v0,false)
theorem X2U {R:List (Int×Int)} (h:X2e R) (i:Nat):vb (ptV (R.getD i (0,0)))≤3:=by
 have:=X7y h i
 have q1:=X3j (R.getD i (0,0)).1 3 (by omega) (X1n ⟨by omega,by omega⟩)
 have q2:=X3j (R.getD i (0,0)).2 3 (by omega) (X1n ⟨by omega,by omega⟩)
 unfold vb ptV
 simp only
 omega
theorem X56 {a b:List (Int×Int)} (ha:X2e a) (hb:X2e b) (f:FV) (ht:vb f.turn≤1000) (k:Nat):vb (dfV a b f k)≤3000:=by
 have h1:=X2U ha (xK a.length f k)
 have h2:=X2U hb ((f.EB+1 - k) % b.length).toNat
 unfold dfV
 have h3:=X7Z f.turn (ptV (b.getD ((f.EB+1 - k) % b.length).toNat (0,0)))
 have h4:=X2Y (ptV (a.getD (xK a.length f k) (0,0))) (rot f.turn (ptV (b.getD ((f.EB+1 - k) % b.length).toNat (0,0))))
 omega
theorem X6a {a b:List (Int×Int)} (ha:X2e a) (hb:X2e b) (f:FV) (ht:vb f.turn≤1000) (k:Nat):vb (loV a b f k)≤3000:=by
 have h1:=XeA (fun j=>(dfV a b f j).x) 3000 (fun j=>Nat.le_trans (X2w _) (X56 ha hb f ht j)) k
 have h2:=XeA (fun j=>(dfV a b f j).y) 3000 (fun j=>Nat.le_trans (X2k _) (X56 ha hb f ht j)) k
 exact Nat.max_le.2 ⟨h1,h2⟩
theorem X67 {a b:List (Int×Int)} (ha:X2e a) (hb:X2e b) (f:FV) (ht:vb f.turn≤1000) (k:Nat):vb (hiV a b f k)≤3000:=by
 have h1:=Xez (fun j=>(dfV a b f j).x) 3000 (fun j=>Nat.le_trans (X2w _) (X56 ha hb f ht j)) k
 have h2:=Xez (fun j=>(dfV a b f j).y) 3000 (fun j=>Nat.le_trans (X2k _) (X56 ha hb f ht j)) k
 exact Nat.max_le.2 ⟨h1,h2⟩
theorem Xd5 {P:Program} {fn:Func} {str hcs:List Nat} {a b c x y z:AV} {s:AS} {r1 r2 r3:ResultVar} (hr:fn.results=#[r1,r2,r3]) (h1:X1F P s r1=some x) (h2:X1F P s r2=some y) (h3:X1F P s r3=some z) (g1:X4B s.h x a) (g2:X4B s.h y b) (g3:X4B s.h z c) :
  RetOk (X2f P fn str hcs (.tup [a,b,c])) s :=
 ⟨.tup [x,y,z],by simp [X7L,XdU,X6W,hr,X2a,X6D,h1,h2,h3],X3G ⟨g1,g2,g3,trivial⟩⟩
def X0R:List AV:=[.bool false,.sl 0 0 (fun _=>.any) true,.bool false,.sl 0 0 (fun _=>.any) true,.bool false,.sl 0 0 (fun _=>.any) true,.bool false,.sl 0 0 (fun _=>.any) true]
noncomputable def loC (a b:List (Int×Int)) (f:FV):Nat→List AV
 | 0=>X0R
 | k+1=>vC (loV a b f k)
noncomputable def hiC (a b:List (Int×Int)) (f:FV):Nat→List AV
 | 0=>X0R
 | k+1=>vC (hiV a b f k)
theorem X33 (a b:List (Int×Int)) (f:FV):∀ k,∀ x∈loC a b f k,Settled x
 | 0=>fun x h=>by
  simp only [loC,X0R,List.mem_cons,List.not_mem_nil,or_false] at h
  rcases h with rfl | rfl | rfl | rfl | rfl | rfl | rfl | rfl <;> first | exact X02 _ | exact X1J (fun j hj=>absurd hj (Nat.not_lt_zero j))
 | k+1=>by simp [loC,vC,X07,X02]
theorem Xgf (a b:List (Int×Int)) (f:FV):∀ k,∀ x∈hiC a b f k,Settled x
 | 0=>fun x h=>by
  simp only [hiC,X0R,List.mem_cons,List.not_mem_nil,or_false] at h
  rcases h with rfl | rfl | rfl | rfl | rfl | rfl | rfl | rfl <;> first | exact X02 _ | exact X1J (fun j hj=>absurd hj (Nat.not_lt_zero j))
 | k+1=>by simp [hiC,vC,X07,X02]
def yL (m:Nat) (f:FV) (k:Nat):Nat:=((f.EB+1 - k) % m).toNat
theorem XuP (m:Nat) (f:FV) (k:Nat) (h:0<m):(f.EB+1 - k) % (m:Int)=(yL m f k:Int):=by
 have:=Int.emod_nonneg (f.EB+1 - k) (show (m:Int)≠0 by omega)
 unfold yL; omega
theorem XxF (m:Nat) (f:FV) (k:Nat) (h:0<m):yL m f k<m:=by
 have:=XuP m f k h
 have:=Int.emod_lt_of_pos (f.EB+1 - k) (show (0:Int)<m by omega)
 omega
theorem XgI (a b:PV) (f:FV) (ha:a.even) (hb:b.even) (ht:vb f.turn≤1000) {ta tb:Rat} (ea:a.tol=RQ.of ta) (eb:b.tol=RQ.of tb) (qa:qb ta≤1000) (q2:qb tb≤1000) :
  Fn Tryz.prog 46 [pvA a,pvA b,fvA f] (.tup [vA (X0J a.rim b.rim f (ta+tb)).1,vA (X0J a.rim b.rim f (ta+tb)).2.1,.bool (X0J a.rim b.rim f (ta+tb)).2.2]):=by
 have la:=ha.rim; have lb:=hb.rim
 obtain ⟨R,hR⟩:∃ R,R=X0J a.rim b.rim f (ta+tb):=⟨_,rfl⟩
 rw [← hR]
 have zret:∀ {s:AS} {i j v w:Nat},s.get 6=.ref i v 0→s.h[i]?=some (.row v 8 (ofL X5W))→s.get 7=.ref j w 0→s.h[j]?=some (.row w 8 (ofL X5W))→s.get 8=.bool false→R=(v0,v0,false)→RetOk (X2f Tryz.prog Tryz.f46 [9,100000005,11,120000015,18,190000012,190000013] [] (.tup [vA R.1,vA R.2.1,.bool R.2.2])) s:=fun h1 h2 h3 h4 h5 h6=>by
  subst h6
  exact Xd5 rfl (X0l X2z h1 h2 rfl) (X0l X2z h3 h4 rfl) (by unfold X1F; rfl) (X0n (X0k _) (X0I X3B)) (X0n (X0k _) (X0I X3B)) (by rw [h5]; exact (X02 _).sees _)
 have cs:=X9M a b f la lb
 have ct:=XpV f.turn (by unfold vm; omega)
 refine Fq Tryz.call46 Tryz.func46 16 [40,41] [9,100000005,11,120000015,18,190000012,190000013] [] (by simp [X0o,X0s]) (X00 1000 ?_)
 simp only [AS.start,pvA,pvC,fvA,fvC,↓X03,wA,↓reduceIte,reduceIte,reduceCtorEq,Y1,Y2,Y3,Y4,Y5,Y6,Y7,Y8,Y9,YA,wE]
 refine X01 cs rfl ?_
 by_cases hf:XaY a.rim.length b.rim.length f
 rotate_left
 ·rw [decide_eq_false hf]
  simp only [↓X03,wA,↓reduceIte,reduceIte,reduceCtorEq,Y1,Y2,Y3,Y4,Y5,Y6,Y7,Y8,Y9,YA,wE]
  exact zret rfl rfl rfl rfl rfl (by rw [hR]; unfold X0J; rw [if_neg fun h=>hf h.1])
 rw [decide_eq_true hf]
 simp only [↓X03,wA,↓reduceIte,reduceIte,reduceCtorEq,Y1,Y2,Y3,Y4,Y5,Y6,Y7,Y8,Y9,YA,wE]
 refine X01 ct rfl ?_
 by_cases hto:X7W f.turn
 rotate_left
 ·rw [decide_eq_false hto]
  simp only [↓X03,wA,↓reduceIte,reduceIte,reduceCtorEq,Y1,Y2,Y3,Y4,Y5,Y6,Y7,Y8,Y9,YA,wE]
  exact zret rfl rfl rfl rfl rfl (by rw [hR]; unfold X0J; rw [if_neg fun h=>hto h.2])
 rw [decide_eq_true hto]
 have hRe:R=if ((hiV a.rim b.rim f f.M.toNat).add ⟨ta+tb,ta+tb⟩).x<((loV a.rim b.rim f f.M.toNat).sub ⟨ta+tb,ta+tb⟩).x∨((hiV a.rim b.rim f f.M.toNat).add ⟨ta+tb,ta+tb⟩).y<((loV a.rim b.rim f f.M.toNat).sub ⟨ta+tb,ta+tb⟩).y then (v0,v0,false) else ((loV a.rim b.rim f f.M.toNat).sub ⟨ta+tb,ta+tb⟩,(hiV a.rim b.rim f f.M.toNat).add ⟨ta+tb,ta+tb⟩,true):=by
  rw [hR]; unfold X0J; rw [if_pos ⟨hf,hto⟩]
 clear hR
 obtain ⟨⟨s1,s2⟩,⟨s3,s4⟩,s5,s6,s7⟩:=hf
 obtain ⟨N,hN⟩:∃ N:Nat,f.M=N:=⟨f.M.toNat,by omega⟩
 have hNt:f.M.toNat=N:=by rw [hN]; rfl
 rw [hNt] at hRe
 have r1:=XhM a la (X4J ha.near)
 have r2:=XhM b lb (X4J hb.near)
 have hla:(X0Q a.rim).length=a.rim.length:=by simp [X0Q]
 have hlb:(X0Q b.rim).length=b.rim.length:=by simp [X0Q]
 have c3:Fn Tryz.prog 70 [a.tol.A,b.tol.A] (qA (ta+tb)):=by rw [ea,eb]; exact X4W ta tb (by unfold rm; omega) (by unfold rm; omega)
 have qe:=X2n ta tb
 simp only [↓X03,wA,↓reduceIte,reduceIte,reduceCtorEq,Y1,Y2,Y3,Y4,Y5,Y6,Y7,Y8,Y9,YA,wE]
 refine X01 r1 rfl ?_
 simp only [↓X03,wA,↓reduceIte,reduceIte,reduceCtorEq,Y1,Y2,Y3,Y4,Y5,Y6,Y7,Y8,Y9,YA,wE]
 refine X01 r2 rfl ?_
 simp only [↓X03,wA,↓reduceIte,reduceIte,reduceCtorEq,Y1,Y2,Y3,Y4,Y5,Y6,Y7,Y8,Y9,YA,wE]
 refine X01 c3 rfl ?_
 have wM:IntKind.i64.wrap (f.M+1)=((N+1:Nat):Int):=by rw [IntKind.wrap_i64]; omega
 simp only [wM,↓X03,wA,↓reduceIte,reduceIte,reduceCtorEq,Y1,Y2,Y3,Y4,Y5,Y6,Y7,Y8,Y9,YA,wE]
 have ba:X1j 8 (.row 0 25 (ofL (pvC a)))=True:=eq_true (X0B (X0w a))
 have bb:X1j 8 (.row 0 25 (ofL (pvC b)))=True:=eq_true (X0B (X0w b))
 have bf:X1j 8 (.con 0 29 (ofL (fvC f)))=True:=eq_true (fun j _=>X06 (X0c (X10 f) j))
 have bz:X1j 8 (.row 0 8 (ofL X0R))=True:=eq_true (X0B (X33 a.rim b.rim f 0))
 have be:X1j 8 (.row 0 4 (ofL [.bool (decide ((ta+tb).num<0)),X0f (X0i (ta+tb).num.natAbs),.bool false,X0f (X0i (qd (ta+tb)))]))=True:=eq_true (X0B (by simp [X07,X02]))
 have bl:∀ k,X1j 8 (.row 0 8 (ofL (loC a.rim b.rim f k)))=True:=fun k=>eq_true (X0B (X33 a.rim b.rim f k))
 have bh:∀ k,X1j 8 (.row 0 8 (ofL (hiC a.rim b.rim f k)))=True:=fun k=>eq_true (X0B (Xgf a.rim b.rim f k))
 have bx:Bel 8 (X0A (X0Q a.rim))=True:=eq_true (X06 (X0b _))
 have by':Bel 8 (X0A (X0Q b.rim))=True:=eq_true (X06 (X0b _))
 refine X0d (fun k:Nat=>⟨16,[40,41],[.any,.any,.any,.ref 0 0 0,.ref 1 0 0,.ref 2 0 0,.ref 3 0 0,.ref 4 0 0,.bool false,X0A (X0Q a.rim),X0A (X0Q b.rim),.ref 5 0 0,.ref 6 0 0,.ref 7 0 0,.any,.any],[(40,I ((N+1:Nat):Int)),(41,I k)],[.row 0 25 (ofL (pvC a)),.row 0 25 (ofL (pvC b)),.con 0 29 (ofL (fvC f)),.row 0 8 (ofL X0R),.row 0 8 (ofL X0R),.row 0 4 (ofL [.bool (decide ((ta+tb).num<0)),X0f (X0i (ta+tb).num.natAbs),.bool false,X0f (X0i (qd (ta+tb)))]),.row 0 8 (ofL (loC a.rim b.rim f k)),.row 0 8 (ofL (hiC a.rim b.rim f k))]⟩) (fun k=>k≤N+1) (fun k=>N+1 - k) 0 (by omega)
  (Sub.trans (X1a 2 rfl) (X09 rfl (by simp [X0p,X05,I]) (by simp [X0q,X0P,I]) (by simp [pvC,fvC,X0R,loC,hiC,X0e,X0j,X04,I]))) ?_
 intro k hk next
 have w1:=wj k (by omega)
 by_cases hk2:k<N+1
 ·have nx:=next (k+1)
  have fk:((k:Int)<((N+1:Nat):Int))=True:=eq_true (by omega)
  have wx:IntKind.i64.wrap (f.EA+(k:Int))=f.EA+(k:Int):=by rw [IntKind.wrap_i64]; omega
  have wy1:IntKind.i64.wrap (f.EB+1)=f.EB+1:=by rw [IntKind.wrap_i64]; omega
  have wy:IntKind.i64.wrap (f.EB+1 - (k:Int))=f.EB+1 - (k:Int):=by rw [IntKind.wrap_i64]; omega
  have c1:=X6o (f.EA+(k:Int)) a.rim.length (by omega) (by omega) (by omega)
  have c2:=X6o (f.EB+1 - (k:Int)) b.rim.length (by omega) (by omega) (by omega)
  rw [XeT _ _ _ (by omega)] at c1
  rw [XuP _ _ _ (by omega)] at c2
  have hX:=XqO a.rim.length f k (by omega)
  have hY:=XxF b.rim.length f k (by omega)
  have vx:=X2U ha.near (xK a.rim.length f k)
  have vy:=X2U hb.near (yL b.rim.length f k)
  have vr:=X7Z f.turn (ptV (b.rim.getD (yL b.rim.length f k) (0,0)))
  have c3:=Xby f.turn (ptV (b.rim.getD (yL b.rim.length f k) (0,0))) (by unfold vm; omega) (by unfold vm; omega)
  have c4:=X72 (ptV (a.rim.getD (xK a.rim.length f k) (0,0))) (rot f.turn (ptV (b.rim.getD (yL b.rim.length f k) (0,0)))) (by unfold rm; omega) (by unfold rm; omega)
  rw [show (ptV (a.rim.getD (xK a.rim.length f k) (0,0))).sub (rot f.turn (ptV (b.rim.getD (yL b.rim.length f k) (0,0))))=dfV a.rim b.rim f k from rfl] at c4
  have hD:=X56 ha.near hb.near f ht
  have hL:=X6a ha.near hb.near f ht
  have hH:=X67 ha.near hb.near f ht
  have v1:=vF (X0Q a.rim) (xK a.rim.length f k)
  have v2:=vF (X0Q b.rim) (yL b.rim.length f k)
  rw [Xao] at v1 v2
  generalize xK a.rim.length f k=X at *
  generalize yL b.rim.length f k=Y at *
  generalize ptV (a.rim.getD X (0,0))=PX at *
  generalize ptV (b.rim.getD Y (0,0))=PY at *
  generalize rot f.turn PY=RY at *
  have fX:((X:Int)<a.rim.length)=True:=eq_true (by omega)
  have fX':(X<a.rim.length)=True:=eq_true hX
  have fX8:(X*8+8≤a.rim.length*8)=True:=eq_true (by omega)
  have fY:((Y:Int)<b.rim.length)=True:=eq_true (by omega)
  have fY':(Y<b.rim.length)=True:=eq_true hY
  have fY8:(Y*8+8≤b.rim.length*8)=True:=eq_true (by omega)
  refine X00 1000 ?_
  simp only [fvC,X05,w1,wx,wy1,wy,fk,fX,fX',fX8,fY,fY',fY8,hla,hlb,v1,v2,Int.toNat_natCast,↓X03,wA,↓reduceIte,reduceIte,reduceCtorEq,Y1,Y2,Y3,Y4,Y5,Y6,Y7,Y8,Y9,YA,wE]
  refine X01 c1 rfl ?_
  simp only [fvC,X05,w1,wx,wy1,wy,fk,fX,fX',fX8,fY,fY',fY8,hla,hlb,v1,v2,Int.toNat_natCast,↓X03,wA,↓reduceIte,reduceIte,reduceCtorEq,Y1,Y2,Y3,Y4,Y5,Y6,Y7,Y8,Y9,YA,wE]
  refine X01 c2 rfl ?_
  simp only [fvC,X05,w1,wx,wy1,wy,fk,fX,fX',fX8,fY,fY',fY8,hla,hlb,v1,v2,Int.toNat_natCast,↓X03,wA,↓reduceIte,reduceIte,reduceCtorEq,Y1,Y2,Y3,Y4,Y5,Y6,Y7,Y8,Y9,YA,wE]
  refine X01 c3 rfl ?_
  simp only [fvC,X05,w1,wx,wy1,wy,fk,fX,fX',fX8,fY,fY',fY8,hla,hlb,v1,v2,Int.toNat_natCast,↓X03,wA,↓reduceIte,reduceIte,reduceCtorEq,Y1,Y2,Y3,Y4,Y5,Y6,Y7,Y8,Y9,YA,wE]
  refine X01 c4 rfl ?_
  match k,w1,fk,hk2,nx with
  | 0,w1,fk,hk2,nx =>
   have e0:((0:Nat):Int)=0:=rfl
   have hL0:loC a.rim b.rim f 1=vC (dfV a.rim b.rim f 0):=rfl
   have hH0:hiC a.rim b.rim f 1=vC (dfV a.rim b.rim f 0):=rfl
   simp only [Nat.zero_add,hL0,hH0] at nx
   generalize dfV a.rim b.rim f 0=D at *
   have w0:IntKind.i64.wrap (0+1)=1:=by decide
   have bD:X1j 8 (.row 0 8 (ofL (vC D)))=True:=eq_true (X0B (by simp [vC,X07,X02]))
   simp only [loC,hiC,X0R,e0,w0,↓X03,wA,↓reduceIte,reduceIte,reduceCtorEq,Y1,Y2,Y3,Y4,Y5,Y6,Y7,Y8,Y9,YA,wE]
   exact nx _ (by omega) (by omega) (X0t (m:=8) (Nat.zero_le _) rfl (by simp [X0p,X05,hla,hlb,I]) (by simp [X0q,X0P,I]) (by simp [pvC,fvC,X0R,loC,hiC,vC,X0e,X0j,X04,I]) (by simp [X0L,bx,by']) (by simp [X0L]) (by simp [ba,bb,bf,bz,be,bD,bl,bh]))
  | j+1,w1,fk,hk2,nx =>
   have g0:(((j+1:Nat):Int)=0)=False:=eq_false (by omega)
   have g0':((j:Int)+1=0)=False:=eq_false (by omega)
   have g0'':(j+1=0)=False:=eq_false (by omega)
   have bD:=bl 0
   have hl1:loC a.rim b.rim f (j+1)=vC (loV a.rim b.rim f j):=rfl
   have hh1:hiC a.rim b.rim f (j+1)=vC (hiV a.rim b.rim f j):=rfl
   have hl2:loC a.rim b.rim f (j+1+1)=vC (loV a.rim b.rim f (j+1)):=rfl
   have hh2:hiC a.rim b.rim f (j+1+1)=vC (hiV a.rim b.rim f (j+1)):=rfl
   have hDj:=hD (j+1); have hLj:=hL j; have hHj:=hH j
   have k1:=XdH (loV a.rim b.rim f j).x (dfV a.rim b.rim f (j+1)).x (by have:=X2w (loV a.rim b.rim f j); unfold rm; omega) (by have:=X2w (dfV a.rim b.rim f (j+1)); unfold rm; omega)
   have k2:=XdH (loV a.rim b.rim f j).y (dfV a.rim b.rim f (j+1)).y (by have:=X2k (loV a.rim b.rim f j); unfold rm; omega) (by have:=X2k (dfV a.rim b.rim f (j+1)); unfold rm; omega)
   have k3:=XbN (hiV a.rim b.rim f j).x (dfV a.rim b.rim f (j+1)).x (by have:=X2w (hiV a.rim b.rim f j); unfold rm; omega) (by have:=X2w (dfV a.rim b.rim f (j+1)); unfold rm; omega)
   have k4:=XbN (hiV a.rim b.rim f j).y (dfV a.rim b.rim f (j+1)).y (by have:=X2k (hiV a.rim b.rim f j); unfold rm; omega) (by have:=X2k (dfV a.rim b.rim f (j+1)); unfold rm; omega)
   rw [show mxq (loV a.rim b.rim f j).x (dfV a.rim b.rim f (j+1)).x=(loV a.rim b.rim f (j+1)).x from rfl] at k1
   rw [show mxq (loV a.rim b.rim f j).y (dfV a.rim b.rim f (j+1)).y=(loV a.rim b.rim f (j+1)).y from rfl] at k2
   rw [show mnq (hiV a.rim b.rim f j).x (dfV a.rim b.rim f (j+1)).x=(hiV a.rim b.rim f (j+1)).x from rfl] at k3
   rw [show mnq (hiV a.rim b.rim f j).y (dfV a.rim b.rim f (j+1)).y=(hiV a.rim b.rim f (j+1)).y from rfl] at k4
   have bl2:=bl (j+1+1); have bh2:=bh (j+1+1)
   simp only [hl2,hh2] at nx bl2 bh2
   rw [hl1,hh1]
   clear hD hL hH
   generalize dfV a.rim b.rim f (j+1)=D at *
   generalize loV a.rim b.rim f (j+1)=L2 at *
   generalize hiV a.rim b.rim f (j+1)=H2 at *
   generalize loV a.rim b.rim f j=L1 at *
   generalize hiV a.rim b.rim f j=H1 at *
   simp only [g0,g0',g0'',w1,↓X03,wA,↓reduceIte,reduceIte,reduceCtorEq,Y1,Y2,Y3,Y4,Y5,Y6,Y7,Y8,Y9,YA,wE]
   refine X01 k1 rfl ?_
   simp only [g0,g0',g0'',w1,↓X03,wA,↓reduceIte,reduceIte,reduceCtorEq,Y1,Y2,Y3,Y4,Y5,Y6,Y7,Y8,Y9,YA,wE]
   refine X01 k3 rfl ?_
   simp only [g0,g0',g0'',w1,↓X03,wA,↓reduceIte,reduceIte,reduceCtorEq,Y1,Y2,Y3,Y4,Y5,Y6,Y7,Y8,Y9,YA,wE]
   refine X01 k2 rfl ?_
   simp only [g0,g0',g0'',w1,↓X03,wA,↓reduceIte,reduceIte,reduceCtorEq,Y1,Y2,Y3,Y4,Y5,Y6,Y7,Y8,Y9,YA,wE]
   refine X01 k4 rfl ?_
   simp only [g0,g0',g0'',w1,↓X03,wA,↓reduceIte,reduceIte,reduceCtorEq,Y1,Y2,Y3,Y4,Y5,Y6,Y7,Y8,Y9,YA,wE]
   exact nx _ (by omega) (by omega) (X0t (m:=8) (Nat.zero_le _) rfl (by simp [X0p,X05,hla,hlb,I]) (by simp [X0q,X0P,I]) (by simp [pvC,fvC,X0R,loC,hiC,vC,X0e,X0j,X04,I]) (by simp [X0L,bx,by']) (by simp [X0L]) (by simp [ba,bb,bf,bz,be,bD,bl2,bh2]))
 obtain rfl:k=N+1:=by omega
 have hL:=X6a ha.near hb.near f ht N
 have hH:=X67 ha.near hb.near f ht N
 have hl1:loC a.rim b.rim f (N+1)=vC (loV a.rim b.rim f N):=rfl
 have hh1:hiC a.rim b.rim f (N+1)=vC (hiV a.rim b.rim f N):=rfl
 rw [hl1,hh1]
 clear bl bh hl1 hh1
 generalize loV a.rim b.rim f N=LO at *
 generalize hiV a.rim b.rim f N=HI at *
 have m0:vb ⟨ta+tb,ta+tb⟩≤2001:=by unfold vb; simp only; omega
 have m1:=X2Y LO ⟨ta+tb,ta+tb⟩
 have m2:=X5Q HI ⟨ta+tb,ta+tb⟩
 have c1:=X72 LO ⟨ta+tb,ta+tb⟩ (by unfold rm; omega) (by unfold rm; omega)
 have c2:=XfU HI ⟨ta+tb,ta+tb⟩ (by unfold vm; omega) (by unfold vm; omega)
 generalize LO.sub ⟨ta+tb,ta+tb⟩=A at *
 generalize HI.add ⟨ta+tb,ta+tb⟩=B at *
 have:=X2w A; have:=X2k A; have:=X2w B; have:=X2k B
 have q1:=X2B A.x B.x (by unfold rm; omega) (by unfold rm; omega)
 have q2:=X2B A.y B.y (by unfold rm; omega) (by unfold rm; omega)
 refine X00 1000 ?_
 simp only [fvC,Int.lt_irrefl,Nat.lt_irrefl,↓X03,wA,↓reduceIte,reduceIte,reduceCtorEq,Y1,Y2,Y3,Y4,Y5,Y6,Y7,Y8,Y9,YA,wE]
 refine X01 c1 rfl ?_
 simp only [↓X03,wA,↓reduceIte,reduceIte,reduceCtorEq,Y1,Y2,Y3,Y4,Y5,Y6,Y7,Y8,Y9,YA,wE]
 refine X01 c2 rfl ?_
 simp only [↓X03,wA,↓reduceIte,reduceIte,reduceCtorEq,Y1,Y2,Y3,Y4,Y5,Y6,Y7,Y8,Y9,YA,wE]
 refine X01 q1 rfl ?_
 by_cases h1:B.x<A.x
 ·have f1:(0<X1Z A.x B.x)=True:=eq_true ((X2s _ _).2 h1)
  simp only [f1,X0R,↓X03,wA,↓reduceIte,reduceIte,reduceCtorEq,Y1,Y2,Y3,Y4,Y5,Y6,Y7,Y8,Y9,YA,wE]
  exact zret rfl rfl rfl rfl rfl (by rw [hRe,if_pos (.inl h1)])
 have f1:(0<X1Z A.x B.x)=False:=eq_false fun h=>h1 ((X2s _ _).1 h)
 simp only [f1,↓X03,wA,↓reduceIte,reduceIte,reduceCtorEq,Y1,Y2,Y3,Y4,Y5,Y6,Y7,Y8,Y9,YA,wE]
 refine X01 q2 rfl ?_
 by_cases h2:B.y<A.y
 ·have f2:(0<X1Z A.y B.y)=True:=eq_true ((X2s _ _).2 h2)
  simp only [f1,f2,X0R,↓X03,wA,↓reduceIte,reduceIte,reduceCtorEq,Y1,Y2,Y3,Y4,Y5,Y6,Y7,Y8,Y9,YA,wE]
  exact zret rfl rfl rfl rfl rfl (by rw [hRe,if_pos (.inr h2)])
 have f2:(0<X1Z A.y B.y)=False:=eq_false fun h=>h2 ((X2s _ _).1 h)
 simp only [f1,f2,X0R,↓X03,wA,↓reduceIte,reduceIte,reduceCtorEq,Y1,Y2,Y3,Y4,Y5,Y6,Y7,Y8,Y9,YA,wE]
 rw [if_neg fun h=>h.elim h1 h2] at hRe
 subst hRe
 exact Xd5 rfl (X0l X2z rfl rfl rfl) (X0l X2z rfl rfl rfl) (by unfold X1F; rfl) (X0n (X0k _) (X0I (X0X (vC A)))) (X0n (X0k _) (X0I (X0X (vC B)))) ((X02 _).sees _)
def q4E (e:Rat):List AV:=[.bool (decide (e.num<0)),X0f (X0i e.num.natAbs),.bool false,X0f (X0i (qd e))]
noncomputable def loR (a b:List (Int×Int)) (f:FV) (e:Rat):Nat→List AV
 | 0=>X0R
 | k+1=>vC ((loV a b f k).sub ⟨e,e⟩)
noncomputable def hiR (a b:List (Int×Int)) (f:FV) (e:Rat):Nat→List AV
 | 0=>X0R
 | k+1=>vC ((hiV a b f k).add ⟨e,e⟩)
theorem Xgh (a b:List (Int×Int)) (f:FV) (e:Rat):∀ k,∀ x∈loR a b f e k,Settled x
 | 0=>X33 a b f 0
 | k+1=>by simp [loR,vC,X07,X02]
theorem Xgg (a b:List (Int×Int)) (f:FV) (e:Rat):∀ k,∀ x∈hiR a b f e k,Settled x
 | 0=>X33 a b f 0
 | k+1=>by simp [hiR,vC,X07,X02]
theorem Xrq (x y e:Rat):(0<X1Z (y - e) (x - e)∧mxq x y - e=y - e)∨(¬ 0<X1Z (y - e) (x - e)∧mxq x y - e=x - e):=by
 unfold mxq
 by_cases h:x<y
 ·exact .inl ⟨(X2s _ _).2 (by grind),by rw [if_pos h]⟩
 ·exact .inr ⟨fun hh=>h (by have:=(X2s _ _).1 hh; grind),by rw [if_neg h]⟩
theorem Xrp (x y e:Rat):(X1Z (y+e) (x+e)<0∧mnq x y+e=y+e)∨(¬ X1Z (y+e) (x+e)<0∧mnq x y+e=x+e):=by
 unfold mnq
 by_cases h:y<x
 ·exact .inl ⟨(X2N _ _).2 (by grind),by rw [if_pos h]⟩
 ·exact .inr ⟨fun hh=>h (by have:=(X2N _ _).1 hh; grind),by rw [if_neg h]⟩
theorem Xah (a b:PV) (f:FV) (ha:a.even) (hb:b.even) (ht:vb f.turn≤1000) {ta tb:Rat} (ea:a.tol=RQ.of ta) (eb:b.tol=RQ.of tb) (qa:qb ta≤1000) (q2:qb tb≤1000) :
  Fn Tryz.prog 47 [pvA a,pvA b,fvA f] (.tup [vA (X0J a.rim b.rim f (ta+tb)).1,vA (X0J a.rim b.rim f (ta+tb)).2.1,.bool (X0J a.rim b.rim f (ta+tb)).2.2]):=by
 have la:=ha.rim; have lb:=hb.rim
 obtain ⟨R,hR⟩:∃ R,R=X0J a.rim b.rim f (ta+tb):=⟨_,rfl⟩
 rw [← hR]
 have zret:∀ {s:AS} {i j v w:Nat},s.get 6=.ref i v 0→s.h[i]?=some (.row v 8 (ofL X5W))→s.get 7=.ref j w 0→s.h[j]?=some (.row w 8 (ofL X5W))→s.get 8=.bool false→R=(v0,v0,false)→RetOk (X2f Tryz.prog Tryz.f47 [11,120000005,24,250000013,250000014] [] (.tup [vA R.1,vA R.2.1,.bool R.2.2])) s:=fun h1 h2 h3 h4 h5 h6=>by
  subst h6
  exact Xd5 rfl (X0l X2z h1 h2 rfl) (X0l X2z h3 h4 rfl) (by unfold X1F; rfl) (X0n (X0k _) (X0I X3B)) (X0n (X0k _) (X0I X3B)) (by rw [h5]; exact (X02 _).sees _)
 have cs:=Xak a b f la lb
 have ct:=Xg5 f.turn (by unfold vm; omega)
 refine Fq Tryz.call47 Tryz.func47 19 [] [11,120000005,24,250000013,250000014] [] (by simp [X0o,X0s]) (X00 1000 ?_)
 simp only [AS.start,pvA,pvC,fvA,fvC,↓X03,wA,↓reduceIte,reduceIte,reduceCtorEq,Y1,Y2,Y3,Y4,Y5,Y6,Y7,Y8,Y9,YA,wE]
 refine X01 cs rfl ?_
 by_cases hf:XaY a.rim.length b.rim.length f
 rotate_left
 ·rw [decide_eq_false hf]
  simp only [↓X03,wA,↓reduceIte,reduceIte,reduceCtorEq,Y1,Y2,Y3,Y4,Y5,Y6,Y7,Y8,Y9,YA,wE]
  exact zret rfl rfl rfl rfl rfl (by rw [hR]; unfold X0J; rw [if_neg fun h=>hf h.1])
 rw [decide_eq_true hf]
 simp only [↓X03,wA,↓reduceIte,reduceIte,reduceCtorEq,Y1,Y2,Y3,Y4,Y5,Y6,Y7,Y8,Y9,YA,wE]
 refine X01 ct rfl ?_
 by_cases hto:X7W f.turn
 rotate_left
 ·rw [decide_eq_false hto]
  simp only [↓X03,wA,↓reduceIte,reduceIte,reduceCtorEq,Y1,Y2,Y3,Y4,Y5,Y6,Y7,Y8,Y9,YA,wE]
  exact zret rfl rfl rfl rfl rfl (by rw [hR]; unfold X0J; rw [if_neg fun h=>hto h.2])
 rw [decide_eq_true hto]
 have hRe:R=if ((hiV a.rim b.rim f f.M.toNat).add ⟨ta+tb,ta+tb⟩).x<((loV a.rim b.rim f f.M.toNat).sub ⟨ta+tb,ta+tb⟩).x∨((hiV a.rim b.rim f f.M.toNat).add ⟨ta+tb,ta+tb⟩).y<((loV a.rim b.rim f f.M.toNat).sub ⟨ta+tb,ta+tb⟩).y then (v0,v0,false) else ((loV a.rim b.rim f f.M.toNat).sub ⟨ta+tb,ta+tb⟩,(hiV a.rim b.rim f f.M.toNat).add ⟨ta+tb,ta+tb⟩,true):=by
  rw [hR]; unfold X0J; rw [if_pos ⟨hf,hto⟩]
 clear hR
 obtain ⟨⟨s1,s2⟩,⟨s3,s4⟩,s5,s6,s7⟩:=hf
 obtain ⟨N,hN⟩:∃ N:Nat,f.M=N:=⟨f.M.toNat,by omega⟩
 have hNt:f.M.toNat=N:=by rw [hN]; rfl
 rw [hNt] at hRe
 have r1:=X9j a la (X4J ha.near)
 have r2:=X9j b lb (X4J hb.near)
 have hla:(X0Q a.rim).length=a.rim.length:=by simp [X0Q]
 have hlb:(X0Q b.rim).length=b.rim.length:=by simp [X0Q]
 have c3:Fn Tryz.prog 76 [a.tol.A,b.tol.A] (qA (ta+tb)):=by rw [ea,eb]; exact X1W ta tb (by unfold rm; omega) (by unfold rm; omega)
 have qe:=X2n ta tb
 generalize ta+tb=e at *
 simp only [↓X03,wA,↓reduceIte,reduceIte,reduceCtorEq,Y1,Y2,Y3,Y4,Y5,Y6,Y7,Y8,Y9,YA,wE]
 refine X01 r1 rfl ?_
 simp only [↓X03,wA,↓reduceIte,reduceIte,reduceCtorEq,Y1,Y2,Y3,Y4,Y5,Y6,Y7,Y8,Y9,YA,wE]
 refine X01 r2 rfl ?_
 simp only [↓X03,wA,↓reduceIte,reduceIte,reduceCtorEq,Y1,Y2,Y3,Y4,Y5,Y6,Y7,Y8,Y9,YA,wE]
 refine X01 c3 rfl ?_
 simp only [↓X03,wA,↓reduceIte,reduceIte,reduceCtorEq,Y1,Y2,Y3,Y4,Y5,Y6,Y7,Y8,Y9,YA,wE]
 have m0:vb ⟨e,e⟩≤2001:=by unfold vb; simp only; omega
 have ba:X1j 9 (.row 0 25 (ofL (pvC a)))=True:=eq_true (X0B (X0w a))
 have bb:X1j 9 (.row 0 25 (ofL (pvC b)))=True:=eq_true (X0B (X0w b))
 have bf:X1j 9 (.con 0 29 (ofL (fvC f)))=True:=eq_true (fun j _=>X06 (X0c (X10 f) j))
 have bz:X1j 9 (.row 0 8 (ofL X0R))=True:=eq_true (X0B (X33 a.rim b.rim f 0))
 have be:X1j 9 (.row 0 4 (ofL (q4E e)))=True:=eq_true (X0B (by simp [q4E,X07,X02]))
 have bw:X1j 9 (.row 0 8 (ofL (vC ⟨e,e⟩)))=True:=eq_true (X0B (by simp [vC,X07,X02]))
 have bl:∀ k,X1j 9 (.row 0 8 (ofL (loR a.rim b.rim f e k)))=True:=fun k=>eq_true (X0B (Xgh a.rim b.rim f e k))
 have bh:∀ k,X1j 9 (.row 0 8 (ofL (hiR a.rim b.rim f e k)))=True:=fun k=>eq_true (X0B (Xgg a.rim b.rim f e k))
 have bx:Bel 9 (X0A (X0Q a.rim))=True:=eq_true (X06 (X0b _))
 have by':Bel 9 (X0A (X0Q b.rim))=True:=eq_true (X06 (X0b _))
 refine X0d (fun k:Nat=>⟨19,[],[.any,.any,.any,.ref 0 0 0,.ref 1 0 0,.ref 2 0 0,.ref 3 0 0,.ref 4 0 0,.bool false,X0A (X0Q a.rim),X0A (X0Q b.rim),.ref 5 0 0,.ref 6 0 0,.ref 7 0 0,.ref 8 0 0,I k,.any,.any,.any],[],[.row 0 25 (ofL (pvC a)),.row 0 25 (ofL (pvC b)),.con 0 29 (ofL (fvC f)),.row 0 8 (ofL X0R),.row 0 8 (ofL X0R),.row 0 4 (ofL (q4E e)),.row 0 8 (ofL (vC ⟨e,e⟩)),.row 0 8 (ofL (loR a.rim b.rim f e k)),.row 0 8 (ofL (hiR a.rim b.rim f e k))]⟩) (fun k=>k≤N+1) (fun k=>N+1 - k) 0 (by omega)
  (Sub.trans (X1a 2 rfl) (X09 rfl (by simp [X0p,X05,I]) (by simp [X0q]) (by simp [pvC,fvC,q4E,X0R,loR,hiR,vC,X0e,X0j,X04,I]))) ?_
 intro k hk next
 have w1:=wj k (by omega)
 by_cases hk2:k<N+1
 ·have nx:=next (k+1)
  have fk:((k:Int)≤f.M)=True:=eq_true (by omega)
  have wx:IntKind.i64.wrap (f.EA+(k:Int))=f.EA+(k:Int):=by rw [IntKind.wrap_i64]; omega
  have wy1:IntKind.i64.wrap (f.EB+1)=f.EB+1:=by rw [IntKind.wrap_i64]; omega
  have wy:IntKind.i64.wrap (f.EB+1 - (k:Int))=f.EB+1 - (k:Int):=by rw [IntKind.wrap_i64]; omega
  have c1:=X0T (f.EA+(k:Int)) a.rim.length (by omega) (by omega) (by omega)
  have c2:=X0T (f.EB+1 - (k:Int)) b.rim.length (by omega) (by omega) (by omega)
  rw [XeT _ _ _ (by omega)] at c1
  rw [XuP _ _ _ (by omega)] at c2
  have hX:=XqO a.rim.length f k (by omega)
  have hY:=XxF b.rim.length f k (by omega)
  have vx:=X2U ha.near (xK a.rim.length f k)
  have vy:=X2U hb.near (yL b.rim.length f k)
  have vr:=X7Z f.turn (ptV (b.rim.getD (yL b.rim.length f k) (0,0)))
  have c3:=X5I f.turn (ptV (b.rim.getD (yL b.rim.length f k) (0,0))) (by unfold vm; omega) (by unfold vm; omega)
  have c4:=X29 (ptV (a.rim.getD (xK a.rim.length f k) (0,0))) (rot f.turn (ptV (b.rim.getD (yL b.rim.length f k) (0,0)))) (by unfold rm; omega) (by unfold rm; omega)
  rw [show (ptV (a.rim.getD (xK a.rim.length f k) (0,0))).sub (rot f.turn (ptV (b.rim.getD (yL b.rim.length f k) (0,0))))=dfV a.rim b.rim f k from rfl] at c4
  have hD:=X56 ha.near hb.near f ht
  have hL:=X6a ha.near hb.near f ht
  have hH:=X67 ha.near hb.near f ht
  have hDk:=hD k
  have c5:=X29 (dfV a.rim b.rim f k) ⟨e,e⟩ (by unfold rm; omega) (by unfold rm; omega)
  have c6:=X5m (dfV a.rim b.rim f k) ⟨e,e⟩ (by unfold vm; omega) (by unfold vm; omega)
  have v1:=vF (X0Q a.rim) (xK a.rim.length f k)
  have v2:=vF (X0Q b.rim) (yL b.rim.length f k)
  rw [Xao] at v1 v2
  generalize xK a.rim.length f k=X at *
  generalize yL b.rim.length f k=Y at *
  generalize ptV (a.rim.getD X (0,0))=PX at *
  generalize ptV (b.rim.getD Y (0,0))=PY at *
  generalize rot f.turn PY=RY at *
  have fX:((X:Int)<a.rim.length)=True:=eq_true (by omega)
  have fX':(X<a.rim.length)=True:=eq_true hX
  have fX8:(X*8+8≤a.rim.length*8)=True:=eq_true (by omega)
  have fY:((Y:Int)<b.rim.length)=True:=eq_true (by omega)
  have fY':(Y<b.rim.length)=True:=eq_true hY
  have fY8:(Y*8+8≤b.rim.length*8)=True:=eq_true (by omega)
  refine X00 1000 ?_
  simp only [fvC,X05,w1,wx,wy1,wy,fk,fX,fX',fX8,fY,fY',fY8,hla,hlb,v1,v2,Int.toNat_natCast,↓X03,wA,↓reduceIte,reduceIte,reduceCtorEq,Y1,Y2,Y3,Y4,Y5,Y6,Y7,Y8,Y9,YA,wE]
  refine X01 c1 rfl ?_
  simp only [fvC,X05,w1,wx,wy1,wy,fk,fX,fX',fX8,fY,fY',fY8,hla,hlb,v1,v2,Int.toNat_natCast,↓X03,wA,↓reduceIte,reduceIte,reduceCtorEq,Y1,Y2,Y3,Y4,Y5,Y6,Y7,Y8,Y9,YA,wE]
  refine X01 c2 rfl ?_
  simp only [fvC,X05,w1,wx,wy1,wy,fk,fX,fX',fX8,fY,fY',fY8,hla,hlb,v1,v2,Int.toNat_natCast,↓X03,wA,↓reduceIte,reduceIte,reduceCtorEq,Y1,Y2,Y3,Y4,Y5,Y6,Y7,Y8,Y9,YA,wE]
  refine X01 c3 rfl ?_
  simp only [fvC,X05,w1,wx,wy1,wy,fk,fX,fX',fX8,fY,fY',fY8,hla,hlb,v1,v2,Int.toNat_natCast,↓X03,wA,↓reduceIte,reduceIte,reduceCtorEq,Y1,Y2,Y3,Y4,Y5,Y6,Y7,Y8,Y9,YA,wE]
  refine X01 c4 rfl ?_
  simp only [fvC,X05,w1,wx,wy1,wy,fk,fX,fX',fX8,fY,fY',fY8,hla,hlb,v1,v2,Int.toNat_natCast,↓X03,wA,↓reduceIte,reduceIte,reduceCtorEq,Y1,Y2,Y3,Y4,Y5,Y6,Y7,Y8,Y9,YA,wE]
  refine X01 c5 rfl ?_
  simp only [fvC,X05,w1,wx,wy1,wy,fk,fX,fX',fX8,fY,fY',fY8,hla,hlb,v1,v2,Int.toNat_natCast,↓X03,wA,↓reduceIte,reduceIte,reduceCtorEq,Y1,Y2,Y3,Y4,Y5,Y6,Y7,Y8,Y9,YA,wE]
  refine X01 c6 rfl ?_
  match k,w1,fk,hk2,hDk,nx with
  | 0,w1,fk,hk2,hDk,nx =>
   have e0:((0:Nat):Int)=0:=rfl
   have w0:IntKind.i64.wrap (0+1)=1:=by decide
   have hL0:loR a.rim b.rim f e 1=vC ((dfV a.rim b.rim f 0).sub ⟨e,e⟩):=rfl
   have hH0:hiR a.rim b.rim f e 1=vC ((dfV a.rim b.rim f 0).add ⟨e,e⟩):=rfl
   have bl2:=bl 1; have bh2:=bh 1
   simp only [Nat.zero_add,hL0,hH0] at nx bl2 bh2
   generalize (dfV a.rim b.rim f 0).sub ⟨e,e⟩=FR at *
   generalize (dfV a.rim b.rim f 0).add ⟨e,e⟩=TO at *
   simp only [loR,hiR,X0R,e0,w0,↓X03,wA,↓reduceIte,reduceIte,reduceCtorEq,Y1,Y2,Y3,Y4,Y5,Y6,Y7,Y8,Y9,YA,wE]
   exact nx _ (by omega) (by omega) (X0t (m:=9) (Nat.zero_le _) rfl (by simp [X0p,X05,hla,hlb,I]) (by simp [X0q]) (by simp [pvC,fvC,X0R,q4E,loR,hiR,vC,X0e,X0j,X04,I]) (by simp [X0L,bx,by']) (by simp [X0L]) (by simp [ba,bb,bf,bz,be,bw,bl2,bh2]))
  | j+1,w1,fk,hk2,hDk,nx =>
   have g0:(((j+1:Nat):Int)=0)=False:=eq_false (by omega)
   have g0':((j:Int)+1=0)=False:=eq_false (by omega)
   have g0'':(j+1=0)=False:=eq_false (by omega)
   have hLj:=hL j; have hHj:=hH j
   have hl1:loR a.rim b.rim f e (j+1)=vC ((loV a.rim b.rim f j).sub ⟨e,e⟩):=rfl
   have hh1:hiR a.rim b.rim f e (j+1)=vC ((hiV a.rim b.rim f j).add ⟨e,e⟩):=rfl
   have hl2:loR a.rim b.rim f e (j+1+1)=vC ((loV a.rim b.rim f (j+1)).sub ⟨e,e⟩):=rfl
   have hh2:hiR a.rim b.rim f e (j+1+1)=vC ((hiV a.rim b.rim f (j+1)).add ⟨e,e⟩):=rfl
   have ux:=Xrq (loV a.rim b.rim f j).x (dfV a.rim b.rim f (j+1)).x e
   have uy:=Xrq (loV a.rim b.rim f j).y (dfV a.rim b.rim f (j+1)).y e
   have ox:=Xrp (hiV a.rim b.rim f j).x (dfV a.rim b.rim f (j+1)).x e
   have oy:=Xrp (hiV a.rim b.rim f j).y (dfV a.rim b.rim f (j+1)).y e
   have z1:=X2Y (loV a.rim b.rim f j) ⟨e,e⟩
   have z2:=X5Q (hiV a.rim b.rim f j) ⟨e,e⟩
   have z3:=X2Y (dfV a.rim b.rim f (j+1)) ⟨e,e⟩
   have z4:=X5Q (dfV a.rim b.rim f (j+1)) ⟨e,e⟩
   have bl2:=bl (j+1+1); have bh2:=bh (j+1+1)
   simp only [hl2,hh2] at nx bl2 bh2
   rw [hl1,hh1]
   replace ux:(0<X1Z ((dfV a.rim b.rim f (j+1)).sub ⟨e,e⟩).x ((loV a.rim b.rim f j).sub ⟨e,e⟩).x∧((loV a.rim b.rim f (j+1)).sub ⟨e,e⟩).x=((dfV a.rim b.rim f (j+1)).sub ⟨e,e⟩).x)∨(¬ 0<X1Z ((dfV a.rim b.rim f (j+1)).sub ⟨e,e⟩).x ((loV a.rim b.rim f j).sub ⟨e,e⟩).x∧((loV a.rim b.rim f (j+1)).sub ⟨e,e⟩).x=((loV a.rim b.rim f j).sub ⟨e,e⟩).x):=ux
   replace uy:(0<X1Z ((dfV a.rim b.rim f (j+1)).sub ⟨e,e⟩).y ((loV a.rim b.rim f j).sub ⟨e,e⟩).y∧((loV a.rim b.rim f (j+1)).sub ⟨e,e⟩).y=((dfV a.rim b.rim f (j+1)).sub ⟨e,e⟩).y)∨(¬ 0<X1Z ((dfV a.rim b.rim f (j+1)).sub ⟨e,e⟩).y ((loV a.rim b.rim f j).sub ⟨e,e⟩).y∧((loV a.rim b.rim f (j+1)).sub ⟨e,e⟩).y=((loV a.rim b.rim f j).sub ⟨e,e⟩).y):=uy
   replace ox:(X1Z ((dfV a.rim b.rim f (j+1)).add ⟨e,e⟩).x ((hiV a.rim b.rim f j).add ⟨e,e⟩).x<0∧((hiV a.rim b.rim f (j+1)).add ⟨e,e⟩).x=((dfV a.rim b.rim f (j+1)).add ⟨e,e⟩).x)∨(¬ X1Z ((dfV a.rim b.rim f (j+1)).add ⟨e,e⟩).x ((hiV a.rim b.rim f j).add ⟨e,e⟩).x<0∧((hiV a.rim b.rim f (j+1)).add ⟨e,e⟩).x=((hiV a.rim b.rim f j).add ⟨e,e⟩).x):=ox
   replace oy:(X1Z ((dfV a.rim b.rim f (j+1)).add ⟨e,e⟩).y ((hiV a.rim b.rim f j).add ⟨e,e⟩).y<0∧((hiV a.rim b.rim f (j+1)).add ⟨e,e⟩).y=((dfV a.rim b.rim f (j+1)).add ⟨e,e⟩).y)∨(¬ X1Z ((dfV a.rim b.rim f (j+1)).add ⟨e,e⟩).y ((hiV a.rim b.rim f j).add ⟨e,e⟩).y<0∧((hiV a.rim b.rim f (j+1)).add ⟨e,e⟩).y=((hiV a.rim b.rim f j).add ⟨e,e⟩).y):=oy
   generalize (dfV a.rim b.rim f (j+1)).sub ⟨e,e⟩=FR at *
   generalize (dfV a.rim b.rim f (j+1)).add ⟨e,e⟩=TO at *
   generalize (loV a.rim b.rim f (j+1)).sub ⟨e,e⟩=L2 at *
   generalize (hiV a.rim b.rim f (j+1)).add ⟨e,e⟩=H2 at *
   generalize (loV a.rim b.rim f j).sub ⟨e,e⟩=L1 at *
   generalize (hiV a.rim b.rim f j).add ⟨e,e⟩=H1 at *
   have:=X2w FR; have:=X2k FR; have:=X2w TO; have:=X2k TO; have:=X2w L1; have:=X2k L1; have:=X2w H1; have:=X2k H1
   have k1:=X1q FR.x L1.x (by unfold rm; omega) (by unfold rm; omega)
   have k2:=X1q FR.y L1.y (by unfold rm; omega) (by unfold rm; omega)
   have k3:=X1q TO.x H1.x (by unfold rm; omega) (by unfold rm; omega)
   have k4:=X1q TO.y H1.y (by unfold rm; omega) (by unfold rm; omega)
   clear c1 c2 c3 c4 c5 c6 hD hL hH bl bh v1 v2
   rcases ux with ⟨px,ex⟩ | ⟨px,ex⟩
   all_goals
    first | replace px:=eq_false px | replace px:=eq_true px
    rcases uy with ⟨py,ey⟩ | ⟨py,ey⟩
    all_goals
     first | replace py:=eq_false py | replace py:=eq_true py
     rcases ox with ⟨sx,gx⟩ | ⟨sx,gx⟩
     all_goals
      first | replace sx:=eq_false sx | replace sx:=eq_true sx
      rcases oy with ⟨sy,gy⟩ | ⟨sy,gy⟩
      all_goals
       first | replace sy:=eq_false sy | replace sy:=eq_true sy
       simp only [g0,g0',g0'',w1,↓X03,wA,↓reduceIte,reduceIte,reduceCtorEq,Y1,Y2,Y3,Y4,Y5,Y6,Y7,Y8,Y9,YA,wE]
       refine X01 k1 rfl ?_
       simp only [px,g0,g0',g0'',w1,↓X03,wA,↓reduceIte,reduceIte,reduceCtorEq,Y1,Y2,Y3,Y4,Y5,Y6,Y7,Y8,Y9,YA,wE]
       refine X01 k2 rfl ?_
       simp only [px,py,g0,g0',g0'',w1,↓X03,wA,↓reduceIte,reduceIte,reduceCtorEq,Y1,Y2,Y3,Y4,Y5,Y6,Y7,Y8,Y9,YA,wE]
       refine X01 k3 rfl ?_
       simp only [px,py,sx,g0,g0',g0'',w1,↓X03,wA,↓reduceIte,reduceIte,reduceCtorEq,Y1,Y2,Y3,Y4,Y5,Y6,Y7,Y8,Y9,YA,wE]
       refine X01 k4 rfl ?_
       simp only [px,py,sx,sy,g0,g0',g0'',w1,↓X03,wA,↓reduceIte,reduceIte,reduceCtorEq,Y1,Y2,Y3,Y4,Y5,Y6,Y7,Y8,Y9,YA,wE]
       exact nx _ (by omega) (by omega) (X0t (m:=9) (Nat.zero_le _) rfl (by simp [X0p,X05,hla,hlb,I]) (by simp [X0q]) (by simp [pvC,fvC,X0R,q4E,loR,hiR,vC,X0e,X0j,X04,I,ex,ey,gx,gy]) (by simp [X0L,bx,by']) (by simp [X0L]) (by simp [ba,bb,bf,bz,be,bw,bl2,bh2]))
 obtain rfl:k=N+1:=by omega
 have hL:=X6a ha.near hb.near f ht N
 have hH:=X67 ha.near hb.near f ht N
 have hl1:loR a.rim b.rim f e (N+1)=vC ((loV a.rim b.rim f N).sub ⟨e,e⟩):=rfl
 have hh1:hiR a.rim b.rim f e (N+1)=vC ((hiV a.rim b.rim f N).add ⟨e,e⟩):=rfl
 rw [hl1,hh1]
 clear bl bh hl1 hh1
 have m1:=X2Y (loV a.rim b.rim f N) ⟨e,e⟩
 have m2:=X5Q (hiV a.rim b.rim f N) ⟨e,e⟩
 generalize (loV a.rim b.rim f N).sub ⟨e,e⟩=A at *
 generalize (hiV a.rim b.rim f N).add ⟨e,e⟩=B at *
 have:=X2w A; have:=X2k A; have:=X2w B; have:=X2k B
 have q1:=X1q A.x B.x (by unfold rm; omega) (by unfold rm; omega)
 have q2:=X1q A.y B.y (by unfold rm; omega) (by unfold rm; omega)
 have fk:(((N+1:Nat):Int)≤f.M)=False:=eq_false (by omega)
 refine X00 1000 ?_
 simp only [fvC,fk,↓X03,wA,↓reduceIte,reduceIte,reduceCtorEq,Y1,Y2,Y3,Y4,Y5,Y6,Y7,Y8,Y9,YA,wE]
 refine X01 q1 rfl ?_
 by_cases h1:B.x<A.x
 ·have f1:(0<X1Z A.x B.x)=True:=eq_true ((X2s _ _).2 h1)
  simp only [f1,X0R,↓X03,wA,↓reduceIte,reduceIte,reduceCtorEq,Y1,Y2,Y3,Y4,Y5,Y6,Y7,Y8,Y9,YA,wE]
  exact zret rfl rfl rfl rfl rfl (by rw [hRe,if_pos (.inl h1)])
 have f1:(0<X1Z A.x B.x)=False:=eq_false fun h=>h1 ((X2s _ _).1 h)
 simp only [f1,↓X03,wA,↓reduceIte,reduceIte,reduceCtorEq,Y1,Y2,Y3,Y4,Y5,Y6,Y7,Y8,Y9,YA,wE]
 refine X01 q2 rfl ?_
 by_cases h2:B.y<A.y
 ·have f2:(0<X1Z A.y B.y)=True:=eq_true ((X2s _ _).2 h2)
  simp only [f1,f2,X0R,↓X03,wA,↓reduceIte,reduceIte,reduceCtorEq,Y1,Y2,Y3,Y4,Y5,Y6,Y7,Y8,Y9,YA,wE]
  exact zret rfl rfl rfl rfl rfl (by rw [hRe,if_pos (.inr h2)])
 have f2:(0<X1Z A.y B.y)=False:=eq_false fun h=>h2 ((X2s _ _).1 h)
 simp only [f1,f2,X0R,↓X03,wA,↓reduceIte,reduceIte,reduceCtorEq,Y1,Y2,Y3,Y4,Y5,Y6,Y7,Y8,Y9,YA,wE]
 rw [if_neg fun h=>h.elim h1 h2] at hRe
 subst hRe
 exact Xd5 rfl (X0l X2z rfl rfl rfl) (X0l X2z rfl rfl rfl) (by unfold X1F; rfl) (X0n (X0k _) (X0I (X0X (vC A)))) (X0n (X0k _) (X0I (X0X (vC B)))) ((X02 _).sees _)
def qs (l:List Rat):AV:=sls qC 4 0 l
theorem XbM (l:List Rat):Settled (qs l):=X5M fun a x hx=>by
 have:∀ x∈qC a,Settled x:=by simp [qC,X07,X02]
 exact this x hx
theorem X6e (l:List Rat):qs l=.sl l.length (l.length*4) (X0M qC 4 0 l) false:=nrfl rfl
theorem qsF (l:List Rat) (i:Nat):X0M qC 4 0 l (i*4)=.bool (decide ((l.getD i 0).num<0))∧X0M qC 4 0 l (i*4+1)=X0f (X0i (l.getD i 0).num.natAbs)∧X0M qC 4 0 l (i*4+2)=.bool false∧X0M qC 4 0 l (i*4+3)=X0f (X0i (qd (l.getD i 0))):=by
 refine ⟨?_,?_,?_,?_⟩
 ·rw [X3I _ _ _ _ _ (by omega)]; rfl
 all_goals rw [X3z _ _ _ _ _ _ (by omega)]; rfl
def X6H (sg:Int) (x:Rat) (l:List Rat):Nat→Rat
 | 0=>x
 | k+1=>if X1Z (l.getD k 0) (X6H sg x l k)=sg then l.getD k 0 else X6H sg x l k
theorem XfZ (sg:Int) (x:Rat) (l:List Rat) (c:Nat) (hx:qb x≤c) (hl:∀ k,qb (l.getD k 0)≤c):∀ k,qb (X6H sg x l k)≤c
 | 0=>hx
 | k+1=>by
  simp only [X6H]
  split
  ·exact hl k
  ·exact XfZ sg x l c hx hl k
def X5R:List AV:=[.bool false,.sl 0 0 (fun _=>.any) true,.bool false,.sl 0 0 (fun _=>.any) true]
theorem X6n (sg:Int) (x:Rat) (l:List Rat) (hl:l.length<1000000) (hx:qb x≤vm) (hq:∀ k,qb (l.getD k 0)≤vm):Fn Tryz.prog 286 [I sg,qA x,qs l] (qA (X6H sg x l l.length)):=by
 unfold vm at hx hq
 obtain ⟨R,hR⟩:∃ R,R=qA (X6H sg x l l.length):=⟨_,rfl⟩
 have sR:Settled R:=hR▸X0a _
 have hqc:∀ r:Rat,∀ x∈qC r,Settled x:=fun r=>by simp [qC,X07,X02]
 have bx:∀ r,X1j 2 (.row 0 4 (ofL (qC r)))=True:=fun r=>eq_true (X0B (hqc r))
 have bl:Bel 2 (qs l)=True:=eq_true (X06 (XbM l))
 rw [← hR]
 refine Fq Tryz.call286 Tryz.func286 9 [9,10,11] [] [] (by simp [X08,X0a,XbM]) (X00 1000 ?_)
 simp only [AS.start,X6e,↓X03,wA,seval,wE]
 refine X0d (fun k:Nat=>⟨9,[9,10,11],[I sg,.any,.any,.any,.ref 0 0 0,.any,.ref 1 0 0,.any,.any],[(9,qs l),(10,I l.length),(11,I k)],[.row 0 4 (ofL (qC (X6H sg x l k))),.row 0 4 (ofL X5R)]⟩) (fun k=>k≤l.length) (fun k=>l.length - k) 0 (by omega)
  (X09 rfl (by simp [X0p,I]) (by simp [X0q,X0P,X6e,I]) rfl) ?_
 intro k hk next
 have w1:=wj k (by omega)
 have he:=XfZ sg x l 1000000 hx hq k
 by_cases hk2:k<l.length
 ·have f1:((k:Int)<l.length)=True:=eq_true (by omega)
  have f2:(k<l.length)=True:=eq_true hk2
  have f3:(k*4+4≤l.length*4)=True:=eq_true (by omega)
  have v1:=qsF l k
  have c1:=X2B (l.getD k 0) (X6H sg x l k) (by have:=hq k; unfold rm; omega) (by unfold rm; omega)
  have nx:=next (k+1)
  have hs:X6H sg x l (k+1)=if X1Z (l.getD k 0) (X6H sg x l k)=sg then l.getD k 0 else X6H sg x l k:=rfl
  generalize X6H sg x l k=E at *
  refine X00 1000 ?_
  simp only [X6e,w1,f1,f2,f3,v1,Int.toNat_natCast,↓X03,wA,seval,wE]
  refine X01 c1 rfl ?_
  by_cases h:X1Z (l.getD k 0) E=sg
  ·have g1:(X1Z (l.getD k 0) E=sg)=True:=eq_true h
   rw [if_pos h] at hs
   simp only [hs] at nx
   simp only [g1,w1,↓X03,wA,seval,wE]
   exact nx _ (by omega) (by omega) (X0t (m:=2) (Nat.zero_le _) rfl (by simp [X0p,I]) (by simp [X0q,X0P,X6e,I]) (by simp [qC,X5R,X04]) (by simp [X0L]) (by simp [X0L,bl]) (by simp [bx,X5R,X0L]))
  ·have g1:(X1Z (l.getD k 0) E=sg)=False:=eq_false h
   rw [if_neg h] at hs
   simp only [hs] at nx
   simp only [g1,w1,↓X03,wA,seval,wE]
   exact nx _ (by omega) (by omega) (X0t (m:=2) (Nat.zero_le _) rfl (by simp [X0p,I]) (by simp [X0q,X0P,X6e,I]) (by simp [qC,X5R,X04]) (by simp [X0L]) (by simp [X0L,bl]) (by simp [bx,X5R,X0L]))
 obtain rfl:k=l.length:=by omega
 refine X00 1000 ?_
 simp only [X6e,X5R,Int.lt_irrefl,Nat.lt_irrefl,↓X03,wA,seval,wE]
 exact X3V rfl X1k rfl rfl rfl sR (hR.trans rfl)
def X1l (n:V2) (L:List V2):List Rat:=L.map (dot n)
theorem Xjo (n:V2) (L:List V2) (i:Nat) (hi:i<L.length):X1l n (L.take i) ++ [dot n (L.getD i v0)]=X1l n (L.take (i+1)):=by
 rw [X4i _ v0 hi]; simp [X1l]
theorem Xxc (a:Rat):∀ j,j<4→((qC a).getD j .any).one=true:=fun j hj=>by
 match j,hj with
 | 0,_=>rfl
 | 1,_=>rfl
 | 2,_=>rfl
 | 3,_=>rfl
 | j+4,h=>omega
theorem Xa7 (n:V2) (L:List V2) (k:Nat) (h:X0Y L k) (hk:k≤100000) (hl:L.length<1000000) (hn:vb n≤100000):Fn Tryz.prog 285 [vA n,X0A L] (qs (X1l n L)):=by
 have hvc:∀ a:V2,∀ x∈vC a,Settled x:=fun a=>by simp [vC,X07,X02]
 have hqc:∀ r:Rat,∀ x∈qC r,Settled x:=fun r=>by simp [qC,X07,X02]
 have bo:X1j 2 (.row 0 8 (ofL (vC n)))=True:=eq_true (X0B (hvc n))
 have bv:Bel 2 (X0A L)=True:=eq_true (X06 (X0b L))
 have br:∀ i l n,X1j 2 (.row i n (X0M qC 4 0 l))=True:=fun i l n=>eq_true fun j _=>X06 (X0c (hqc _) _)
 obtain ⟨R,hR⟩:∃ R,R=qs (X1l n L):=⟨_,rfl⟩
 rw [← hR]
 refine Fq Tryz.call285 Tryz.func285 8 [8,9,10] [] [] (by simp [X0k,X0b]) (X00 1000 ?_)
 simp only [AS.start,X05,↓X03,wA,seval,wE]
 refine X0d (fun i:Nat=>⟨8,[8,9,10],[.any,.any,.ref 0 0 0,.any,.any,.osl 1 i 4 0 i,.any,.any],[(8,X0A L),(9,I L.length),(10,I i)],[.row 0 8 (ofL (vC n)),.row i (i*4) (X0M qC 4 0 (X1l n (L.take i)))]⟩) (fun i=>i≤L.length) (fun i=>L.length - i) 0 (by omega)
  (Sub.trans (X0W 5 4 (X0M qC 4 0 []) rfl) (X09 rfl (by simp [AS.put,X0p,I]) (by simp [AS.put,X0q,X0P,X05,I]) (by simp [AS.put,vC,X04,X1l]))) ?_
 intro i hi next
 have w1:=wj i (by omega)
 by_cases hi2:i<L.length
 ·have f1:((i:Int)<L.length)=True:=eq_true (by omega)
  have f2:(i<L.length)=True:=eq_true hi2
  have f3:(i*8+8≤L.length*8)=True:=eq_true (by omega)
  have v1:=vF L i
  have hb:=h i
  have c1:=Xa5 n (L.getD i v0) (by unfold vm; omega) (by unfold vm; omega)
  have hap:=X0E qC 4 0 (X1l n (L.take i)) (dot n (L.getD i v0)) (by omega)
  rw [Xjo _ _ _ hi2,show (X1l n (L.take i)).length=i by simp [X1l]; omega] at hap
  refine X00 1000 ?_
  simp only [X05,w1,f1,f2,f3,v1,Int.toNat_natCast,↓X03,wA,seval,wE]
  refine X01 c1 rfl ?_
  simp only [w1,↓X03,wA,seval,wE]
  exact ⟨⟨Xxc _,by omega,by omega⟩,next (i+1) _ (by omega) (by omega) (X0t (m:=2) (Nat.zero_le _) rfl (by simp [X0p]) (by simp [X0q,X0P,X05,I]) (by rw [← hap]; rfl) (by simp [X0L]) (by simp [X0L,bv]) (by simp [bo,br]))⟩
 obtain rfl:i=L.length:=by omega
 refine X00 1000 ?_
 simp only [X05,Int.lt_irrefl,Nat.lt_irrefl,↓X03,wA,seval,wE]
 refine X8R rfl ?_
 have hlen:(X1l n L).length=L.length:=by simp [X1l]
 rw [hR,X6e,hlen]
 refine X1e (n:=L.length) (.inl rfl) (by omega) (fun h=>by rw [h]) fun j hj=>?_
 rw [List.take_length,Nat.zero_add]
 exact (X0c (hqc _) _).sees _
def XdW (sg:Int) (l:List Rat):Rat:=X6H sg (l.getD 0 0) (l.drop 1) (l.drop 1).length
def Xhc (n:V2) (A B:List V2):Rat:=XdW (-1) (X1l n B) - XdW 1 (X1l n A)
theorem X6u (n:V2) (L:List V2) (k:Nat) (h:X0Y L k) (i:Nat):qb ((X1l n L).getD i 0)≤2*(vb n+k)+1:=by
 have h0:=h i
 have h1:=X4K n (L.getD i v0)
 have q0:=X5G
 by_cases hi:i<L.length
 ·have e:(X1l n L).getD i 0=dot n (L.getD i v0):=by
   unfold X1l
   rw [List.getD_eq_getElem?_getD,List.getElem?_map,List.getD_eq_getElem?_getD,List.getElem?_eq_getElem hi]; rfl
  rw [e]; omega
 ·have e:(X1l n L).getD i 0=0:=by
   rw [List.getD_eq_getElem?_getD,List.getElem?_eq_none (by simp [X1l]; omega)]; rfl
  rw [e]; omega
theorem X4H (l:List Rat) (i:Nat):(l.drop 1).getD i 0=l.getD (1+i) 0:=by
 rw [List.getD_eq_getElem?_getD,List.getD_eq_getElem?_getD,List.getElem?_drop]
theorem XcW (sg:Int) (l:List Rat) (c:Nat) (h:∀ i,qb (l.getD i 0)≤c):qb (XdW sg l)≤c :=
 XfZ _ _ _ _ (h 0) (fun k=>by rw [X4H]; exact h _) _
theorem XbU (l:List Rat) {n m:Nat} {t:Bool} (hn:n=l.length - 1) (hm:(l.length - 1)*4≤m):Weak (.sl n m (fun j=>X0M qC 4 0 l (4+j)) t) (qs (l.drop 1)):=by
 rw [X6e]
 refine X4e (by rw [List.length_drop]; exact hn) (by rw [List.length_drop]; exact hm) fun j hj=>?_
 have e:X0M qC 4 0 l (4+j)=X0M qC 4 0 (l.drop 1) j:=by
  unfold X0M
  rw [X4H,show (4+j) / 4=1+j / 4 by omega,show (4+j) % 4=j % 4 by omega]
 rw [e]
 exact Weak.rfl' _
theorem XwH (n:V2) (A B:List V2) (k:Nat) (ha:X0Y A k) (hb:X0Y B k) (hk:k≤10000) (la:A.length<1000000) (lb:B.length<1000000) (pa:0<A.length) (pb:0<B.length) (hn:vb n≤10000):Fn Tryz.prog 271 [vA n,X0A A,X0A B] (qA (Xhc n A B)):=by
 have c1:=Xa7 n A k ha (by omega) la (by omega)
 have c2:=Xa7 n B k hb (by omega) lb (by omega)
 have qa:=X6u n A k ha
 have qb':=X6u n B k hb
 have hlA:(X1l n A).length=A.length:=by simp [X1l]
 have hlB:(X1l n B).length=B.length:=by simp [X1l]
 have c3:=X6n (-1) ((X1l n B).getD 0 0) ((X1l n B).drop 1) (by rw [List.length_drop]; omega) (by have:=qb' 0; unfold vm; omega) (fun i=>by rw [X4H]; have:=qb' (1+i); unfold vm; omega)
 have c4:=X6n 1 ((X1l n A).getD 0 0) ((X1l n A).drop 1) (by rw [List.length_drop]; omega) (by have:=qa 0; unfold vm; omega) (fun i=>by rw [X4H]; have:=qa (1+i); unfold vm; omega)
 have e1:=XcW (-1) (X1l n B) _ qb'
 have e2:=XcW 1 (X1l n A) _ qa
 have c5:=Xga (XdW (-1) (X1l n B)) (XdW 1 (X1l n A)) (by unfold rm; omega) (by unfold rm; omega)
 rw [show X6H (-1) ((X1l n B).getD 0 0) ((X1l n B).drop 1) ((X1l n B).drop 1).length=XdW (-1) (X1l n B) from rfl] at c3
 rw [show X6H 1 ((X1l n A).getD 0 0) ((X1l n A).drop 1) ((X1l n A).drop 1).length=XdW 1 (X1l n A) from rfl] at c4
 rw [show XdW (-1) (X1l n B) - XdW 1 (X1l n A)=Xhc n A B from rfl] at c5
 have v1:=qsF (X1l n A) 0
 have v2:=qsF (X1l n B) 0
 obtain ⟨R,hR⟩:∃ R,R=qA (Xhc n A B):=⟨_,rfl⟩
 have sR:Settled R:=hR▸X0a _
 rw [← hR] at c5 ⊢
 generalize X1l n A=PA at *
 generalize X1l n B=PB at *
 simp only [Nat.zero_mul,Nat.zero_add] at v1 v2
 have f1:(0<PA.length)=True:=eq_true (by omega)
 have f2:(0<PB.length)=True:=eq_true (by omega)
 have f3:((0:Int)<PA.length)=True:=eq_true (by omega)
 have f4:((0:Int)<PB.length)=True:=eq_true (by omega)
 have f5:(4≤PA.length*4)=True:=eq_true (by omega)
 have f6:(4≤PB.length*4)=True:=eq_true (by omega)
 have f7:((1:Int)≤PA.length)=True:=eq_true (by omega)
 have f8:((1:Int)≤PB.length)=True:=eq_true (by omega)
 refine Fq Tryz.call271 Tryz.func271 9 [] [2] [] (by simp [X0k,X0b]) (X00 1000 ?_)
 simp only [AS.start,X05,↓X03,wA,seval,wE]
 refine X01 c1 rfl ?_
 simp only [↓X03,wA,seval,wE]
 refine X01 c2 rfl ?_
 simp only [X6e,v1,v2,f1,f2,f3,f4,f5,f6,f7,f8,Int.toNat_zero,Int.reduceLE,↓X03,wA,seval,wE]
 refine X17 c3 ⟨Weak.rfl' _,Weak.rfl' _,XbU PB (by omega) (by omega),trivial⟩ ?_
 simp only [X6e,v1,v2,f1,f2,f3,f4,f5,f6,f7,f8,Int.toNat_zero,Int.reduceLE,↓X03,wA,seval,wE]
 refine X17 c4 ⟨Weak.rfl' _,Weak.rfl' _,XbU PA (by omega) (by omega),trivial⟩ ?_
 simp only [↓X03,wA,seval,wE]
 refine X01 c5 rfl ?_
 simp only [hR,↓X03,wA,seval,wE]
 exact X3V rfl X1k rfl rfl rfl sR (hR.trans rfl)
def XaK (x:Rat):Rat:=if x<0 then -x else x
def X3W (n:V2):Rat:=XaK n.x+XaK n.y
theorem X8v (x:Rat):qb (XaK x)=qb x:=by unfold XaK; split <;> simp [X6d]
theorem X9f (x y:Rat):X1Z x y=1↔y<x:=by
 rw [← X2s]
 unfold X1Z
 rw [Int.sign_eq_one_iff_pos,Int.sign_pos_iff]
theorem XhE (x y:Rat):X1Z x y = -1↔x<y:=by
 rw [← X2N]
 unfold X1Z
 rw [Int.sign_eq_neg_one_iff_neg,Int.sign_neg_iff]
theorem Xlz (x:Rat):X6H 1 x [-x] 1=XaK x:=by
 show (if X1Z (-x) x=1 then -x else x)=_
 unfold XaK
 by_cases h:x<0
 ·rw [if_pos h,if_pos ((X9f _ _).2 (by grind))]
 ·rw [if_neg h,if_neg fun hh=>h (by have:=(X9f _ _).1 hh; grind)]
theorem Xi8 (x:Rat) {t:Bool}:Weak (.sl 1 4 (ofL [.bool (decide (x.num<0)),X0f (X0i x.num.natAbs),.bool false,X0f (X0i (qd x))]) t) (qs [x]):=by
 rw [X6e]
 refine X4e rfl (Nat.le_refl _) fun j hj=>?_
 match j,hj with
 | 0,_=>exact Weak.rfl' _
 | 1,_=>exact Weak.rfl' _
 | 2,_=>exact Weak.rfl' _
 | 3,_=>exact Weak.rfl' _
 | j+4,h=>exact absurd h (by show ¬ j+4<1*4; omega)
theorem Xeh (x:Rat) (c:Nat) (hc:1≤c) (h:qb x≤c) (k:Nat):qb (([x]:List Rat).getD k 0)≤c:=by
 have q0:=X5G
 match k with
 | 0=>exact h
 | k+1=>show qb 0≤c; omega
theorem Xus (n:V2) (hn:vb n≤100000):Fn Tryz.prog 287 [vA n] (qA (X3W n)):=by
 have:=X2w n; have:=X2k n
 have n1:=X75 n.x
 have n2:=X75 n.y
 have a1:=X8v n.x; have a2:=X8v n.y
 have c1:=X6n 1 n.x [-n.x] (by simp) (by unfold vm; omega) (Xeh _ _ (by unfold vm; omega) (by rw [X6d]; unfold vm; omega))
 have c2:=X6n 1 n.y [-n.y] (by simp) (by unfold vm; omega) (Xeh _ _ (by unfold vm; omega) (by rw [X6d]; unfold vm; omega))
 rw [show ([-n.x]:List Rat).length=1 from rfl,Xlz] at c1
 rw [show ([-n.y]:List Rat).length=1 from rfl,Xlz] at c2
 have c3:=X4W (XaK n.x) (XaK n.y) (by unfold rm; omega) (by unfold rm; omega)
 rw [show XaK n.x+XaK n.y=X3W n from rfl] at c3
 obtain ⟨R,hR⟩:∃ R,R=qA (X3W n):=⟨_,rfl⟩
 have sR:Settled R:=hR▸X0a _
 rw [← hR] at c3 ⊢
 refine Fq Tryz.call287 Tryz.func287 3 [] [1,20000001] [] (by simp [wS]) (X00 1000 ?_); simp (config:={ maxSteps:=2000000 }) only [AS.start,↓X03,wA,seval,wE]
 refine X01 n1 rfl ?_
 simp only [↓X03,wA,seval,wE]
 refine X17 c1 ⟨Weak.rfl' _,Weak.rfl' _,Xi8 _,trivial⟩ ?_
 simp only [↓X03,wA,seval,wE]
 refine X01 n2 rfl ?_
 simp only [↓X03,wA,seval,wE]
 refine X17 c2 ⟨Weak.rfl' _,Weak.rfl' _,Xi8 _,trivial⟩ ?_
 simp only [↓X03,wA,seval,wE]
 refine X01 c3 rfl ?_
 simp only [hR,↓X03,wA,seval,wE]
 exact X3V rfl X1k rfl rfl rfl sR (hR.trans rfl)
theorem XcX (n:V2):qb (X3W n)≤2*vb n+1:=by
 have:=X2w n; have:=X2k n
 have a1:=X8v n.x; have a2:=X8v n.y
 have:=X2n (XaK n.x) (XaK n.y)
 unfold X3W; omega
theorem Xuh (n:V2) (e:Rat) (hn:vb n≤100000) (he:qb e≤100000):Fn Tryz.prog 272 [vA n,qA e] (qA (e*X3W n)):=by
 have q:=XcX n
 have c1:=Xus n hn
 have c2:=X32 e (X3W n) (by unfold rm; omega) (by unfold rm; omega)
 obtain ⟨R,hR⟩:∃ R,R=qA (e*X3W n):=⟨_,rfl⟩
 have sR:Settled R:=hR▸X0a _
 rw [← hR] at c2 ⊢
 refine Fq Tryz.call272 Tryz.func272 5 [] [] [] (by simp [wS]) (X00 1000 ?_); simp (config:={ maxSteps:=2000000 }) only [AS.start,↓X03,wA,seval,wE]
 refine X01 c1 rfl ?_
 simp only [↓X03,wA,seval,wE]
 refine X01 c2 rfl ?_
 simp only [hR,↓X03,wA,seval,wE]
 exact X3V rfl X1k rfl rfl rfl sR (hR.trans rfl)
def nrm (p q:V2):V2:=⟨(q.sub p).y,-(q.sub p).x⟩
theorem Xne (p q:V2):vb (nrm p q)≤vb p+vb q+1:=by
 have:=X2Y q p
 have:=X2w (q.sub p); have:=X2k (q.sub p)
 have:=X6d (q.sub p).x
 unfold nrm
 show max (qb (q.sub p).y) (qb (-(q.sub p).x))≤_
 omega
theorem Xb4 (p q:V2) (hp:vb p≤100000) (hq:vb q≤100000):Fn Tryz.prog 270 [vA p,vA q] (vA (nrm p q)):=by
 have c1:=X72 q p (by unfold rm; omega) (by unfold rm; omega)
 have c2:=X75 (q.sub p).x
 obtain ⟨R,hR⟩:∃ R,R=vA (nrm p q):=⟨_,rfl⟩
 have sR:Settled R:=hR▸X0k _
 rw [← hR]
 refine Fq Tryz.call270 Tryz.func270 6 [] [] [] (by simp [wS]) (X00 1000 ?_); simp (config:={ maxSteps:=2000000 }) only [AS.start,↓X03,wA,seval,wE]
 refine X01 c1 rfl ?_
 simp only [↓X03,wA,seval,wE]
 refine X01 c2 rfl ?_
 simp only [↓X03,wA,seval,wE]
 exact X6f rfl X2z rfl rfl rfl sR (hR.trans rfl)
def XeW (n:V2) (A B:List V2) (e:Rat):Prop:=e*X3W n≤Xhc n A B
theorem Xe3 (n:V2) (A B:List V2) (k:Nat) (ha:X0Y A k) (hb:X0Y B k):qb (Xhc n A B)≤4*(vb n+k)+3:=by
 have e1:=XcW (-1) (X1l n B) _ (X6u n B k hb)
 have e2:=XcW 1 (X1l n A) _ (X6u n A k ha)
 have:=Xac (XdW (-1) (X1l n B)) (XdW 1 (X1l n A))
 unfold Xhc; omega
theorem XeL (n:V2) (A B:List V2) (e:Rat) (k:Nat) (ha:X0Y A k) (hb:X0Y B k) (hk:k≤10000) (la:A.length<1000000) (lb:B.length<1000000) (pa:0<A.length) (pb:0<B.length) (hn:vb n≤10000) (he:qb e≤10000):Fn Tryz.prog 262 [vA n,X0A A,X0A B,qA e] (.bool (decide (XeW n A B e))):=by
 have c1:=XwH n A B k ha hb hk la lb pa pb hn
 have c2:=Xuh n e (by omega) (by omega)
 have q1:=Xe3 n A B k ha hb
 have q2:=XcX n
 have q3:=X1u e (X3W n)
 have c3:=X2B (Xhc n A B) (e*X3W n) (by unfold rm; omega) (by unfold rm; omega)
 have hd:decide (XeW n A B e)=decide (0≤X1Z (Xhc n A B) (e*X3W n)):=decide_eq_decide.2 (Xad _ _).symm
 rw [hd]
 refine Fq Tryz.call262 Tryz.func262 9 [] [] [] (by simp [X0k,X0b,X0a]) (X00 1000 ?_)
 simp only [AS.start,X05,↓X03,wA,seval,wE]
 refine X01 c1 rfl ?_
 simp only [↓X03,wA,seval,wE]
 refine X01 c2 rfl ?_
 simp only [↓X03,wA,seval,wE]
 refine X01 c3 rfl ?_
 simp only [↓X03,wA,seval,wE]
 exact X0r rfl rfl (X02 _) rfl
theorem XhO (x:Rat) (h:qb x≤vm):Fn Tryz.prog 298 [qA x] (qA (XaK x)):=by
 unfold vm at h
 have c1:=X4t x (by unfold rm; omega)
 have c2:=X3b x (by unfold rm; omega)
 obtain ⟨R,hR⟩:∃ R,R=qA (XaK x):=⟨_,rfl⟩
 have sR:Settled R:=hR▸X0a _
 rw [← hR]
 refine Fq Tryz.call298 Tryz.func298 3 [] [] [] (by simp [wS]) (X00 1000 ?_); simp (config:={ maxSteps:=2000000 }) only [AS.start,↓X03,wA,seval,wE]
 refine X01 c1 rfl ?_
 by_cases h0:x<0
 ·have f1:(x.num.sign<0)=True:=eq_true ((X3y _).2 h0)
  have e:XaK x = -x:=if_pos h0
  rw [e] at hR
  simp only [f1,↓X03,wA,seval,wE]
  refine X01 c2 rfl ?_
  simp only [↓X03,wA,seval,wE]
  exact X3V rfl X1k rfl rfl rfl sR (hR.trans rfl)
 ·have f1:(x.num.sign<0)=False:=eq_false fun hh=>h0 ((X3y _).1 hh)
  have e:XaK x=x:=if_neg h0
  rw [e] at hR
  simp only [f1,↓X03,wA,seval,wE]
  exact X3V rfl X1k rfl rfl rfl sR (hR.trans rfl)
theorem Xq8 (n:V2) (hn:vb n≤100000):Fn Tryz.prog 294 [vA n] (qA (X3W n)):=by
 have:=X2w n; have:=X2k n
 have a1:=X8v n.x; have a2:=X8v n.y
 have c1:=XhO n.x (by unfold vm; omega)
 have c2:=XhO n.y (by unfold vm; omega)
 have c3:=X1W (XaK n.x) (XaK n.y) (by unfold rm; omega) (by unfold rm; omega)
 rw [show XaK n.x+XaK n.y=X3W n from rfl] at c3
 obtain ⟨R,hR⟩:∃ R,R=qA (X3W n):=⟨_,rfl⟩
 have sR:Settled R:=hR▸X0a _
 rw [← hR] at c3 ⊢
 refine Fq Tryz.call294 Tryz.func294 3 [] [] [] (by simp [wS]) (X00 1000 ?_); simp (config:={ maxSteps:=2000000 }) only [AS.start,↓X03,wA,seval,wE]
 refine X01 c1 rfl ?_
 simp only [↓X03,wA,seval,wE]
 refine X01 c2 rfl ?_
 simp only [↓X03,wA,seval,wE]
 refine X01 c3 rfl ?_
 simp only [hR,↓X03,wA,seval,wE]
 exact X3V rfl X1k rfl rfl rfl sR (hR.trans rfl)
theorem Xq7 (n:V2) (e:Rat) (hn:vb n≤100000) (he:qb e≤100000):Fn Tryz.prog 284 [vA n,qA e] (qA (e*X3W n)):=by
 have q:=XcX n
 have c1:=Xq8 n hn
 have c2:=X1r (X3W n) e (by unfold rm; omega) (by unfold rm; omega)
 rw [Rat.mul_comm] at c2
 obtain ⟨R,hR⟩:∃ R,R=qA (e*X3W n):=⟨_,rfl⟩
 have sR:Settled R:=hR▸X0a _
 rw [← hR] at c2 ⊢
 refine Fq Tryz.call284 Tryz.func284 5 [] [] [] (by simp [wS]) (X00 1000 ?_); simp (config:={ maxSteps:=2000000 }) only [AS.start,↓X03,wA,seval,wE]
 refine X01 c1 rfl ?_
 simp only [↓X03,wA,seval,wE]
 refine X01 c2 rfl ?_
 simp only [hR,↓X03,wA,seval,wE]
 exact X3V rfl X1k rfl rfl rfl sR (hR.trans rfl)
theorem XbF (p q:V2) (hp:vb p≤100000) (hq:vb q≤100000):Fn Tryz.prog 281 [vA p,vA q] (vA (nrm p q)):=by
 have:=X2w p; have:=X2k p; have:=X2w q; have:=X2k q
 have c1:=X3t q.y p.y (by unfold rm; omega) (by unfold rm; omega)
 have c2:=X3t p.x q.x (by unfold rm; omega) (by unfold rm; omega)
 have e:nrm p q=⟨q.y - p.y,p.x - q.x⟩:=by
  unfold nrm V2.sub
  rw [V2.ext']
  exact ⟨rfl,by simp only; grind⟩
 rw [e]
 obtain ⟨R,hR⟩:∃ R,R=vA ⟨q.y - p.y,p.x - q.x⟩:=⟨_,rfl⟩
 have sR:Settled R:=hR▸X0k _
 rw [← hR]
 refine Fq Tryz.call281 Tryz.func281 5 [] [] [] (by simp [wS]) (X00 1000 ?_); simp (config:={ maxSteps:=2000000 }) only [AS.start,↓X03,wA,seval,wE]
 refine X01 c1 rfl ?_
 simp only [↓X03,wA,seval,wE]
 refine X01 c2 rfl ?_
 simp only [↓X03,wA,seval,wE]
 exact X6f rfl X2z rfl rfl rfl sR (hR.trans rfl)
theorem XeH (a:V2) (ha:vb a≤vm):Fn Tryz.prog 282 [vA a] (vA (X9b a)):=by
 unfold vm at ha
 have:=X2w a; have:=X2k a
 have c1:=X3b a.x (by unfold rm; omega)
 have c2:=X3b a.y (by unfold rm; omega)
 obtain ⟨R,hR⟩:∃ R,R=vA (X9b a):=⟨_,rfl⟩
 have sR:Settled R:=hR▸X0k _
 rw [← hR]
 refine Fq Tryz.call282 Tryz.func282 3 [] [] [] (by simp [wS]) (X00 1000 ?_); simp (config:={ maxSteps:=2000000 }) only [AS.start,↓X03,wA,seval,wE]
 refine X01 c1 rfl ?_
 simp only [↓X03,wA,seval,wE]
 refine X01 c2 rfl ?_
 simp only [↓X03,wA,seval,wE]
 exact X6f rfl X2z rfl rfl rfl sR (hR.trans rfl)
theorem Xh6 (x:Rat) (l:List Rat):∀ k,(X6H (-1) x l k≤x∧∀ j,j<k→X6H (-1) x l k≤l.getD j 0)∧(X6H (-1) x l k=x∨∃ j,j<k∧X6H (-1) x l k=l.getD j 0)
 | 0=>⟨⟨Rat.le_refl,fun j hj=>absurd hj (Nat.not_lt_zero j)⟩,.inl rfl⟩
 | k+1=>by
  have ih:=Xh6 x l k
  simp only [X6H]
  by_cases h:X1Z (l.getD k 0) (X6H (-1) x l k) = -1
  ·rw [if_pos h]
   have h1:=(XhE _ _).1 h
   exact ⟨⟨Rat.le_trans (Rat.le_of_lt h1) ih.1.1,fun j hj=>by
    by_cases e:j=k
    ·rw [e]; exact Rat.le_refl
    ·exact Rat.le_trans (Rat.le_of_lt h1) (ih.1.2 j (by omega))⟩,.inr ⟨k,by omega,rfl⟩⟩
  ·rw [if_neg h]
   have h1:X6H (-1) x l k≤l.getD k 0:=by rw [← Rat.not_lt]; exact fun hh=>h ((XhE _ _).2 hh)
   refine ⟨⟨ih.1.1,fun j hj=>?_⟩,?_⟩
   ·by_cases e:j=k
    ·rw [e]; exact h1
    ·exact ih.1.2 j (by omega)
   ·rcases ih.2 with h2 | ⟨j,hj,h2⟩
    ·exact .inl h2
    ·exact .inr ⟨j,by omega,h2⟩
theorem Xh5 (x:Rat) (l:List Rat):∀ k,(x≤X6H 1 x l k∧∀ j,j<k→l.getD j 0≤X6H 1 x l k)∧(X6H 1 x l k=x∨∃ j,j<k∧X6H 1 x l k=l.getD j 0)
 | 0=>⟨⟨Rat.le_refl,fun j hj=>absurd hj (Nat.not_lt_zero j)⟩,.inl rfl⟩
 | k+1=>by
  have ih:=Xh5 x l k
  simp only [X6H]
  by_cases h:X1Z (l.getD k 0) (X6H 1 x l k)=1
  ·rw [if_pos h]
   have h1:=(X9f _ _).1 h
   exact ⟨⟨Rat.le_trans ih.1.1 (Rat.le_of_lt h1),fun j hj=>by
    by_cases e:j=k
    ·rw [e]; exact Rat.le_refl
    ·exact Rat.le_trans (ih.1.2 j (by omega)) (Rat.le_of_lt h1)⟩,.inr ⟨k,by omega,rfl⟩⟩
  ·rw [if_neg h]
   have h1:l.getD k 0≤X6H 1 x l k:=by rw [← Rat.not_lt]; exact fun hh=>h ((X9f _ _).2 hh)
   refine ⟨⟨ih.1.1,fun j hj=>?_⟩,?_⟩
   ·by_cases e:j=k
    ·rw [e]; exact h1
    ·exact ih.1.2 j (by omega)
   ·rcases ih.2 with h2 | ⟨j,hj,h2⟩
    ·exact .inl h2
    ·exact .inr ⟨j,by omega,h2⟩
theorem Xp4 (l:List Rat) (h:0<l.length):(∀ j,j<l.length→XdW (-1) l≤l.getD j 0)∧∃ j,j<l.length∧XdW (-1) l=l.getD j 0:=by
 have hm:=Xh6 (l.getD 0 0) (l.drop 1) (l.drop 1).length
 rw [show X6H (-1) (l.getD 0 0) (l.drop 1) (l.drop 1).length=XdW (-1) l from rfl,List.length_drop] at hm
 refine ⟨fun j hj=>?_,?_⟩
 ·cases j with
  | zero=>exact hm.1.1
  | succ j=>have:=hm.1.2 j (by omega); rwa [X4H,Nat.add_comm] at this
 ·rcases hm.2 with h2 | ⟨j,hj,h2⟩
  ·exact ⟨0,h,h2⟩
  ·exact ⟨1+j,by omega,by rw [h2,X4H]⟩
theorem Xp3 (l:List Rat) (h:0<l.length):(∀ j,j<l.length→l.getD j 0≤XdW 1 l)∧∃ j,j<l.length∧XdW 1 l=l.getD j 0:=by
 have hm:=Xh5 (l.getD 0 0) (l.drop 1) (l.drop 1).length
 rw [show X6H 1 (l.getD 0 0) (l.drop 1) (l.drop 1).length=XdW 1 l from rfl,List.length_drop] at hm
 refine ⟨fun j hj=>?_,?_⟩
 ·cases j with
  | zero=>exact hm.1.1
  | succ j=>have:=hm.1.2 j (by omega); rwa [X4H,Nat.add_comm] at this
 ·rcases hm.2 with h2 | ⟨j,hj,h2⟩
  ·exact ⟨0,h,h2⟩
  ·exact ⟨1+j,by omega,by rw [h2,X4H]⟩
def dpr (n:V2) (A B:List V2) (i k:Nat):Rat:=dot n ((B.getD k v0).sub (A.getD i v0))
theorem Xwk (n:V2) (A B:List V2) (i k:Nat):dpr n A B i k=dot n (B.getD k v0) - dot n (A.getD i v0):=by unfold dpr dot V2.sub; grind
theorem X9e (n:V2) (L:List V2) (i:Nat) (h:i<L.length):(X1l n L).getD i 0=dot n (L.getD i v0):=by
 unfold X1l
 rw [List.getD_eq_getElem?_getD,List.getElem?_map,List.getD_eq_getElem?_getD,List.getElem?_eq_getElem h]; rfl
theorem Xpl (n:V2) (A B:List V2) (pa:0<A.length) (pb:0<B.length) (g:Rat) (h1:∃ i k,i<A.length∧k<B.length∧g=dpr n A B i k) (h2:∀ i k,i<A.length→k<B.length→g≤dpr n A B i k):g=Xhc n A B:=by
 have lA:(X1l n A).length=A.length:=by simp [X1l]
 have lB:(X1l n B).length=B.length:=by simp [X1l]
 obtain ⟨u1,j,hj,u2⟩:=Xp4 (X1l n B) (by omega)
 obtain ⟨w1,m,hm,w2⟩:=Xp3 (X1l n A) (by omega)
 obtain ⟨i,k,hi,hk,e⟩:=h1
 rw [lA] at hm; rw [lB] at hj
 have a1:=u1 k (by omega)
 have a2:=w1 i (by omega)
 have a3:=h2 m j hm hj
 rw [X9e _ _ _ hk] at a1
 rw [X9e _ _ _ hi] at a2
 rw [X9e _ _ _ hj] at u2
 rw [X9e _ _ _ hm] at w2
 rw [Xwk] at e a3
 unfold Xhc
 apply Rat.le_antisymm <;> grind
theorem XdT (n:V2) (A B:List V2) (k:Nat) (ha:X0Y A k) (hb:X0Y B k) (i j:Nat):qb (dpr n A B i j)≤2*(vb n+2*k+1)+1:=by
 have:=X2Y (B.getD j v0) (A.getD i v0)
 have:=ha i; have:=hb j
 have:=X4K n ((B.getD j v0).sub (A.getD i v0))
 unfold dpr; omega
theorem Xug (n:V2) (A B:List V2) (c:Nat) (ha:X0Y A c) (hb:X0Y B c) (hk:c≤10000) (la:A.length<1000000) (lb:B.length<1000000) (pa:0<A.length) (pb:0<B.length) (hn:vb n≤10000):Fn Tryz.prog 283 [vA n,X0A A,X0A B] (qA (Xhc n A B)):=by
 have hvc:∀ a:V2,∀ x∈vC a,Settled x:=fun a=>by simp [vC,X07,X02]
 have hqc:∀ r:Rat,∀ x∈qC r,Settled x:=fun r=>by simp [qC,X07,X02]
 have bn:X1j 3 (.con 0 8 (ofL (vC n)))=True:=eq_true (fun j _=>X06 (X0c (hvc n) j))
 have bq:∀ r,X1j 3 (.row 0 4 (ofL (qC r)))=True:=fun r=>eq_true (X0B (hqc r))
 have bz:X1j 3 (.row 0 4 (ofL X5R))=True:=eq_true (by simp [X5R,X0L])
 have bA:Bel 3 (X0A A)=True:=eq_true (X06 (X0b A))
 have bB:Bel 3 (X0A B)=True:=eq_true (X06 (X0b B))
 have step:∀ i k,i<A.length→k<B.length→Fn Tryz.prog 104 [vA (B.getD k v0),vA (A.getD i v0)] (vA ((B.getD k v0).sub (A.getD i v0)))∧Fn Tryz.prog 193 [vA n,vA ((B.getD k v0).sub (A.getD i v0))] (qA (dpr n A B i k)):=fun i k hi hk'=>by
  have:=ha i; have:=hb k
  have m:=X2Y (B.getD k v0) (A.getD i v0)
  exact ⟨X29 _ _ (by unfold rm; omega) (by unfold rm; omega),X3a _ _ (by unfold vm; omega) (by unfold vm; omega)⟩
 obtain ⟨d1,d2⟩:=step 0 0 pa pb
 have v1:=vF A 0
 have v2:=vF B 0
 simp only [Nat.zero_mul,Nat.zero_add] at v1 v2
 have f1:(0<A.length)=True:=eq_true pa
 have f2:(0<B.length)=True:=eq_true pb
 have f3:((0:Int)<A.length)=True:=eq_true (by omega)
 have f4:((0:Int)<B.length)=True:=eq_true (by omega)
 have f5:(8≤A.length*8)=True:=eq_true (by omega)
 have f6:(8≤B.length*8)=True:=eq_true (by omega)
 obtain ⟨R,hR⟩:∃ R,R=qA (Xhc n A B):=⟨_,rfl⟩
 have sR:Settled R:=hR▸X0a _
 rw [← hR]
 refine Fq Tryz.call283 Tryz.func283 11 [] [1,20000003,8,90000003] [] (by simp [X0k,X0b]) (X00 1000 ?_)
 simp only [AS.start,X05,f1,f2,f3,f4,f5,f6,v1,v2,Int.toNat_zero,Int.reduceLE,↓X03,wA,seval,wE]
 refine X01 d1 rfl ?_
 simp only [↓X03,wA,seval,wE]
 refine X01 d2 rfl ?_
 simp only [↓X03,wA,seval,wE]
 refine X0d (fun p:Nat×Rat=>⟨11,[],[.any,X0A A,X0A B,.ref 0 0 0,.any,.any,.ref 1 0 0,.ref 2 0 0,I p.1,.any,.any],[],[.con 0 8 (ofL (vC n)),.row 0 4 (ofL X5R),.row 0 4 (ofL (qC p.2))]⟩) (fun p=>p.1≤A.length∧(∃ i k,i<A.length∧k<B.length∧p.2=dpr n A B i k)∧∀ i k,i<p.1→k<B.length→p.2≤dpr n A B i k) (fun p=>A.length - p.1) (0,dpr n A B 0 0) ⟨by omega,⟨0,0,pa,pb,rfl⟩,fun i k hi=>absurd hi (Nat.not_lt_zero i)⟩
  (X09 rfl (by simp [X0p,X05,I]) (by simp [X0q]) (by simp [vC,qC,X5R,X04])) ?_
 rintro ⟨i,g⟩ ⟨hi,hat,hle⟩ next
 simp only at hi hat hle
 have w1:=wj i (by omega)
 by_cases hi2:i<A.length
 rotate_left
 ·obtain rfl:i=A.length:=by omega
  rw [← Xpl n A B pa pb g hat (fun i k h1 h2=>hle i k h1 h2)] at hR
  refine X00 1000 ?_
  simp only [X05,X5R,Int.lt_irrefl,Nat.lt_irrefl,↓X03,wA,seval,wE]
  exact X3V rfl X1k rfl rfl rfl sR (hR.trans rfl)
 have g1:((i:Int)<A.length)=True:=eq_true (by omega)
 have g2:(i<A.length)=True:=eq_true hi2
 have g3:(i*8+8≤A.length*8)=True:=eq_true (by omega)
 refine X00 1000 ?_
 simp only [X05,w1,g1,g2,↓X03,wA,seval,wE]
 refine X0d (fun p:Nat×Rat=>⟨11,[],[.any,X0A A,X0A B,.ref 0 0 0,.any,.any,.ref 1 0 0,.ref 2 0 0,I i,I p.1,.any],[],[.con 0 8 (ofL (vC n)),.row 0 4 (ofL X5R),.row 0 4 (ofL (qC p.2))]⟩) (fun p=>p.1≤B.length∧(∃ i k,i<A.length∧k<B.length∧p.2=dpr n A B i k)∧(∀ i' k,i'<i→k<B.length→p.2≤dpr n A B i' k)∧∀ k,k<p.1→p.2≤dpr n A B i k) (fun p=>B.length - p.1) (0,g) ⟨by omega,hat,hle,fun k hk=>absurd hk (Nat.not_lt_zero k)⟩
  (X09 rfl (by simp [X0p,X05,I]) (by simp [X0q]) (by simp [vC,qC,X04])) ?_
 rintro ⟨k,q⟩ ⟨hk1,qat,qle,qrow⟩ nextk
 simp only at hk1 qat qle qrow
 have u1:=wj k (by omega)
 by_cases hk2:k<B.length
 rotate_left
 ·obtain rfl:k=B.length:=by omega
  refine X00 1000 ?_
  simp only [X05,w1,Int.lt_irrefl,Nat.lt_irrefl,↓X03,wA,seval,wE]
  refine next (i+1,q) _ ⟨by simp only; omega,qat,fun i' k' h1 h2=>?_⟩ (by simp only; omega) (X09 rfl (by simp [X0p,X05,I]) (by simp [X0q]) (by simp [vC,qC,X04]))
  by_cases e:i'=i
  ·rw [e]; exact qrow k' h2
  ·exact qle i' k' (by simp only at h1; omega) h2
 have h1:((k:Int)<B.length)=True:=eq_true (by omega)
 have h2:(k<B.length)=True:=eq_true hk2
 have h3:(k*8+8≤B.length*8)=True:=eq_true (by omega)
 have x1:=vF A i
 have x2:=vF B k
 obtain ⟨s1,s2⟩:=step i k hi2 hk2
 have hd:=XdT n A B c ha hb i k
 have hq:qb q≤2*(vb n+2*c+1)+1:=by
  obtain ⟨a,b,_,_,e⟩:=qat
  rw [e]; exact XdT n A B c ha hb a b
 have s3:=X1q (dpr n A B i k) q (by unfold rm; omega) (by unfold rm; omega)
 have hnew:(∃ i k,i<A.length∧k<B.length∧dpr n A B i k=dpr n A B i k):=⟨i,k,hi2,hk2,rfl⟩
 obtain ⟨D,hD⟩:∃ D,D=dpr n A B i k:=⟨_,rfl⟩
 rw [← hD] at s2 s3
 refine X00 1000 ?_
 simp only [X05,w1,u1,g1,g2,g3,h1,h2,h3,x1,x2,Int.toNat_natCast,↓X03,wA,seval,wE]
 refine X01 s1 rfl ?_
 simp only [X05,w1,u1,g1,g2,g3,h1,h2,h3,x1,x2,Int.toNat_natCast,↓X03,wA,seval,wE]
 refine X01 s2 rfl ?_
 simp only [X05,w1,u1,g1,g2,g3,h1,h2,h3,x1,x2,Int.toNat_natCast,↓X03,wA,seval,wE]
 refine X01 s3 rfl ?_
 by_cases hc:D<q
 ·have f:(X1Z D q<0)=True:=eq_true ((X2N _ _).2 hc)
  simp only [f,u1,↓X03,wA,seval,wE]
  refine nextk (k+1,D) _ ⟨by simp only; omega,⟨i,k,hi2,hk2,hD⟩,fun i' k' a b=>Rat.le_trans (Rat.le_of_lt hc) (qle i' k' a b),fun k' a=>?_⟩ (by simp only; omega) (X0t (m:=3) (Nat.zero_le _) rfl (by simp [X05,X0p,I]) (by simp [X0q]) (by simp [vC,qC,X04]) (by simp [X0L,bA,bB]) (by simp [X0L]) (by simp [bn,bq,bz]))
  by_cases e:k'=k
  ·rw [e,← hD]; exact Rat.le_refl
  ·exact Rat.le_trans (Rat.le_of_lt hc) (qrow k' (by simp only at a; omega))
 ·have f:(X1Z D q<0)=False:=eq_false fun hh=>hc ((X2N _ _).1 hh)
  simp only [f,u1,↓X03,wA,seval,wE]
  refine nextk (k+1,q) _ ⟨by simp only; omega,qat,qle,fun k' a=>?_⟩ (by simp only; omega) (X0t (m:=3) (Nat.zero_le _) rfl (by simp [X05,X0p,I]) (by simp [X0q]) (by simp [vC,qC,X04]) (by simp [X0L,bA,bB]) (by simp [X0L]) (by simp [bn,bq,bz]))
  by_cases e:k'=k
  ·rw [e,← hD]; exact Rat.not_lt.1 hc
  ·exact qrow k' (by simp only at a; omega)
theorem Xd9 (n:V2) (A B:List V2) (e:Rat) (k:Nat) (ha:X0Y A k) (hb:X0Y B k) (hk:k≤10000) (la:A.length<1000000) (lb:B.length<1000000) (pa:0<A.length) (pb:0<B.length) (hn:vb n≤10000) (he:qb e≤10000):Fn Tryz.prog 266 [vA n,X0A A,X0A B,qA e] (.bool (decide (XeW n A B e))):=by
 have c1:=Xug n A B k ha hb hk la lb pa pb hn
 have c2:=Xq7 n e (by omega) (by omega)
 have q1:=Xe3 n A B k ha hb
 have q2:=XcX n
 have q3:=X1u e (X3W n)
 have c3:=X1q (Xhc n A B) (e*X3W n) (by unfold rm; omega) (by unfold rm; omega)
 have hd:decide (XeW n A B e)=decide (0≤X1Z (Xhc n A B) (e*X3W n)):=decide_eq_decide.2 (Xad _ _).symm
 rw [hd]
 refine Fq Tryz.call266 Tryz.func266 9 [] [] [] (by simp [X0k,X0b,X0a]) (X00 1000 ?_)
 simp only [AS.start,X05,↓X03,wA,seval,wE]
 refine X01 c1 rfl ?_
 simp only [↓X03,wA,seval,wE]
 refine X01 c2 rfl ?_
 simp only [↓X03,wA,seval,wE]
 refine X01 c3 rfl ?_
 simp only [↓X03,wA,seval,wE]
 exact X0r rfl rfl (X02 _) rfl
def dA (A:List V2) (i:Nat):V2:=nrm (A.getD i v0) (A.getD ((i+1) % A.length) v0)
def dB (B:List V2) (i:Nat):V2:=nrm (B.getD ((i+1) % B.length) v0) (B.getD i v0)
def dAs (A:List V2) (i:Nat):List V2:=(List.range i).map (dA A)
def dBs (B:List V2) (i:Nat):List V2:=(List.range i).map (dB B)
def X5B (A B:List V2):List V2:=(dAs A A.length ++ dBs B B.length) ++ [ptV (1,0),ptV (0,1),ptV (-1,0),ptV (0,-1)]
theorem XgW (A:List V2) (i:Nat):dAs A (i+1)=dAs A i ++ [dA A i]:=by unfold dAs; rw [List.range_succ,List.map_append]; rfl
theorem XgY (B:List V2) (i:Nat):dBs B (i+1)=dBs B i ++ [dB B i]:=by unfold dBs; rw [List.range_succ,List.map_append]; rfl
theorem X63 (A:List V2) (i:Nat):(dAs A i).length=i:=by simp [dAs]
theorem X8i (B:List V2) (i:Nat):(dBs B i).length=i:=by simp [dBs]
theorem XtO (p q:V2):X9b (nrm p q)=nrm q p:=by
 unfold X9b nrm V2.sub
 rw [V2.ext']
 exact ⟨by simp only; grind,by simp only; grind⟩
theorem app4 (L:List V2) (a b c d:V2) (j:Nat) (hj:j<(L.length+4)*8):X2H (L.length*8) (X0M vC 8 v0 L) 32 (ofL (vC a ++ (vC b ++ (vC c ++ vC d)))) j=X0M vC 8 v0 (L ++ [a,b,c,d]) j:=by
 unfold X2H
 by_cases h:j<L.length*8
 ·rw [if_pos h]
  unfold X0M
  have:j / 8<L.length:=by omega
  have e:(L ++ [a,b,c,d]).getD (j / 8) v0=L.getD (j / 8) v0:=by rw [List.getD_eq_getElem?_getD,List.getD_eq_getElem?_getD,List.getElem?_append_left this]
  rw [e]
 ·rw [if_neg h,if_pos (by omega)]
  obtain ⟨i,rfl⟩:∃ i,j=L.length*8+i:=⟨j - L.length*8,by omega⟩
  have hi:i<32:=by omega
  have e1:L.length*8+i - L.length*8=i:=by omega
  have e2:(L.length*8+i) / 8=L.length+i / 8:=by omega
  have e3:(L.length*8+i) % 8=i % 8:=by omega
  unfold X0M
  rw [e1,e2,e3]
  have e4:(L ++ [a,b,c,d]).getD (L.length+i / 8) v0=[a,b,c,d].getD (i / 8) v0:=by
   rw [List.getD_eq_getElem?_getD,List.getD_eq_getElem?_getD,List.getElem?_append_right (by omega)]
   rw [show L.length+i / 8 - L.length=i / 8 by omega]
  rw [e4]
  clear e1 e2 e3 e4 hj h
  match i,hi with
  | 0,_=>rfl
  | 1,_=>rfl
  | 2,_=>rfl
  | 3,_=>rfl
  | 4,_=>rfl
  | 5,_=>rfl
  | 6,_=>rfl
  | 7,_=>rfl
  | 8,_=>rfl
  | 9,_=>rfl
  | 10,_=>rfl
  | 11,_=>rfl
  | 12,_=>rfl
  | 13,_=>rfl
  | 14,_=>rfl
  | 15,_=>rfl
  | 16,_=>rfl
  | 17,_=>rfl
  | 18,_=>rfl
  | 19,_=>rfl
  | 20,_=>rfl
  | 21,_=>rfl
  | 22,_=>rfl
  | 23,_=>rfl
  | 24,_=>rfl
  | 25,_=>rfl
  | 26,_=>rfl
  | 27,_=>rfl
  | 28,_=>rfl
  | 29,_=>rfl
  | 30,_=>rfl
  | 31,_=>rfl
  | i+32,h=>omega
theorem Xbe (A B:List V2) (k:Nat) (ha:X0Y A k) (hb:X0Y B k) (hk:1≤k):∀ x∈X5B A B,vb x≤2*k+3:=by
 intro x hx
 have p4:∀ c:Int×Int,-1≤c.1∧c.1≤1→-1≤c.2∧c.2≤1→vb (ptV c)≤3:=fun c h1 h2=>by
  have q1:=X3j c.1 3 (by omega) (X1n ⟨by omega,by omega⟩)
  have q2:=X3j c.2 3 (by omega) (X1n ⟨by omega,by omega⟩)
  unfold vb ptV; simp only; omega
 unfold X5B at hx
 rcases List.mem_append.1 hx with h | h
 ·rcases List.mem_append.1 h with h | h
  ·obtain ⟨i,_,rfl⟩:=List.mem_map.1 h
   have:=Xne (A.getD i v0) (A.getD ((i+1) % A.length) v0)
   have:=ha i; have:=ha ((i+1) % A.length)
   unfold dA; omega
  ·obtain ⟨i,_,rfl⟩:=List.mem_map.1 h
   have:=Xne (B.getD ((i+1) % B.length) v0) (B.getD i v0)
   have:=hb i; have:=hb ((i+1) % B.length)
   unfold dB; omega
 ·simp only [List.mem_cons,List.not_mem_nil,or_false] at h
  rcases h with rfl | rfl | rfl | rfl
  ·exact Nat.le_trans (p4 _ (by decide) (by decide)) (by omega)
  ·exact Nat.le_trans (p4 _ (by decide) (by decide)) (by omega)
  ·exact Nat.le_trans (p4 _ (by decide) (by decide)) (by omega)
  ·exact Nat.le_trans (p4 _ (by decide) (by decide)) (by omega)
theorem one4 (a b c d:V2):∀ j,j<32→((vC a ++ (vC b ++ (vC c ++ vC d))).getD j .any).one=true:=fun j hj=>by
 match j,hj with
 | 0,_=>rfl
 | 1,_=>rfl
 | 2,_=>rfl
 | 3,_=>rfl
 | 4,_=>rfl
 | 5,_=>rfl
 | 6,_=>rfl
 | 7,_=>rfl
 | 8,_=>rfl
 | 9,_=>rfl
 | 10,_=>rfl
 | 11,_=>rfl
 | 12,_=>rfl
 | 13,_=>rfl
 | 14,_=>rfl
 | 15,_=>rfl
 | 16,_=>rfl
 | 17,_=>rfl
 | 18,_=>rfl
 | 19,_=>rfl
 | 20,_=>rfl
 | 21,_=>rfl
 | 22,_=>rfl
 | 23,_=>rfl
 | 24,_=>rfl
 | 25,_=>rfl
 | 26,_=>rfl
 | 27,_=>rfl
 | 28,_=>rfl
 | 29,_=>rfl
 | 30,_=>rfl
 | 31,_=>rfl
 | j+32,h=>omega
theorem XnX (A B:List V2) (c:Nat) (ha:X0Y A c) (hb:X0Y B c) (hc:c≤10000) (la:A.length<100000) (lb:B.length<100000):Fn Tryz.prog 261 [X0A A,X0A B] (X0A (X5B A B)):=by
 have hvc:∀ a:V2,∀ x∈vC a,Settled x:=fun a=>by simp [vC,X07,X02]
 have bA:Bel 1 (X0A A)=True:=eq_true (X06 (X0b A))
 have bB:Bel 1 (X0A B)=True:=eq_true (X06 (X0b B))
 have br:∀ i l n,X1j 1 (.row i n (X0M vC 8 v0 l))=True:=fun i l n=>eq_true fun j _=>X06 (X0c (hvc _) _)
 obtain ⟨R,hR⟩:∃ R,R=X0A (X5B A B):=⟨_,rfl⟩
 rw [← hR]
 refine Fq Tryz.call261 Tryz.func261 10 [10,11,12,31,32,33] [5,60000007,10,110000009] [] (by simp [X0b]) (X00 1000 ?_)
 simp only [AS.start,X05,↓X03,wA,seval,wE]
 refine X0d (fun i:Nat=>⟨10,[10,11,12,31,32,33],[X0A A,X0A B,.any,.any,.any,.osl 0 i 8 0 i,.any,.any,.any,.any],[(10,X0A A),(11,I A.length),(12,I i)],[.row i (i*8) (X0M vC 8 v0 (dAs A i))]⟩) (fun i=>i≤A.length) (fun i=>A.length - i) 0 (by omega)
  (Sub.trans (X0W 5 8 (X0M vC 8 v0 []) rfl) (X09 rfl (by simp [AS.put,X0p,X05,I]) (by simp [AS.put,X0q,X0P,X05,I]) (by simp [AS.put,dAs]))) ?_
 intro i hi next
 have w1:=wj i (by omega)
 by_cases hi2:i<A.length
 ·have nx:=next (i+1)
  have f1:((i:Int)<A.length)=True:=eq_true (by omega)
  have f2:(i<A.length)=True:=eq_true hi2
  have f3:(i*8+8≤A.length*8)=True:=eq_true (by omega)
  have hm:((i+1:Nat):Int).tmod A.length=(((i+1) % A.length:Nat):Int):=rfl
  have hml:(i+1) % A.length<A.length:=Nat.mod_lt _ (by omega)
  have f4:((i+1) % A.length<A.length)=True:=eq_true hml
  have f5:((i+1) % A.length*8+8≤A.length*8)=True:=eq_true (by omega)
  have f6:((A.length:Int)=0)=False:=eq_false (by omega)
  have f6':(A.length=0)=False:=eq_false (by omega)
  have v1:=vF A i
  have v2:=vF A ((i+1) % A.length)
  have s1:=ha i; have s2:=ha ((i+1) % A.length)
  have hap:=X0E vC 8 v0 (dAs A i) (dA A i) (by omega)
  rw [X63,← XgW] at hap
  have c1:=Xb4 (A.getD i v0) (A.getD ((i+1) % A.length) v0) (by omega) (by omega)
  rw [show nrm (A.getD i v0) (A.getD ((i+1) % A.length) v0)=dA A i from rfl] at c1
  refine X00 1000 ?_
  simp only [X05,w1,f1,f2,f3,f4,f5,f6,f6',hm,v1,v2,Int.toNat_natCast,↓X03,wA,seval,wE]
  refine X01 c1 rfl ?_
  simp only [w1,↓X03,wA,seval,wE]
  exact ⟨⟨X42 _,by omega,by omega⟩,nx _ (by omega) (by omega) (X0t (m:=1) (Nat.zero_le _) rfl (by simp [X0p,X05,I]) (by simp [X0q,X0P,X05,I]) (by rw [← hap]; rfl) (by simp [X0L,bA,bB]) (by simp [X0L,bA,bB]) (by simp [br]))⟩
 obtain rfl:i=A.length:=by omega
 refine X00 1000 ?_
 simp only [X05,Int.lt_irrefl,Nat.lt_irrefl,↓X03,wA,seval,wE]
 refine X0d (fun i:Nat=>⟨10,[10,11,12,31,32,33],[X0A A,X0A B,.any,.any,.any,.osl 0 (A.length+i) 8 0 (A.length+i),.any,.any,.any,.any],[(31,X0A B),(32,I B.length),(33,I i)],[.row (A.length+i) ((A.length+i)*8) (X0M vC 8 v0 (dAs A A.length ++ dBs B i))]⟩) (fun i=>i≤B.length) (fun i=>B.length - i) 0 (by omega)
  (X09 rfl (by simp [X0p,X05,I]) (by simp [X0q,X0P,X05,I]) (by simp [dBs])) ?_
 intro i hi next
 have w1:=wj i (by omega)
 by_cases hi2:i<B.length
 ·have nx:=next (i+1)
  have f1:((i:Int)<B.length)=True:=eq_true (by omega)
  have f2:(i<B.length)=True:=eq_true hi2
  have f3:(i*8+8≤B.length*8)=True:=eq_true (by omega)
  have hm:((i+1:Nat):Int).tmod B.length=(((i+1) % B.length:Nat):Int):=rfl
  have hml:(i+1) % B.length<B.length:=Nat.mod_lt _ (by omega)
  have f4:((i+1) % B.length<B.length)=True:=eq_true hml
  have f5:((i+1) % B.length*8+8≤B.length*8)=True:=eq_true (by omega)
  have f6:((B.length:Int)=0)=False:=eq_false (by omega)
  have f6':(B.length=0)=False:=eq_false (by omega)
  have v1:=vF B i
  have v2:=vF B ((i+1) % B.length)
  have s1:=hb i; have s2:=hb ((i+1) % B.length)
  have hap:=X0E vC 8 v0 (dAs A A.length ++ dBs B i) (dB B i) (by omega)
  rw [List.append_assoc,← XgY,List.length_append,X63,X8i] at hap
  have ea:A.length+(i+1)=A.length+i+1:=by omega
  simp only [ea] at nx
  have c1:=Xb4 (B.getD ((i+1) % B.length) v0) (B.getD i v0) (by omega) (by omega)
  rw [show nrm (B.getD ((i+1) % B.length) v0) (B.getD i v0)=dB B i from rfl] at c1
  refine X00 1000 ?_
  simp only [X05,w1,f1,f2,f3,f4,f5,f6,f6',hm,v1,v2,Int.toNat_natCast,↓X03,wA,seval,wE]
  refine X01 c1 rfl ?_
  simp only [w1,↓X03,wA,seval,wE]
  exact ⟨⟨X42 _,by omega,by omega⟩,nx _ (by omega) (by omega) (X0t (m:=1) (Nat.zero_le _) rfl (by simp [X0p,X05,I]) (by simp [X0q,X0P,X05,I]) (by rw [← hap]; rfl) (by simp [X0L,bA,bB]) (by simp [X0L,bA,bB]) (by simp [br]))⟩
 obtain rfl:i=B.length:=by omega
 have hl:(dAs A A.length ++ dBs B B.length).length=A.length+B.length:=by rw [List.length_append,X63,X8i]
 have h4:=app4 (dAs A A.length ++ dBs B B.length) (ptV (1,0)) (ptV (0,1)) (ptV (-1,0)) (ptV (0,-1))
 rw [hl] at h4
 have c1:=Xbx 1 0 ⟨by omega,by omega⟩ ⟨by omega,by omega⟩
 have c2:=Xbx 0 1 ⟨by omega,by omega⟩ ⟨by omega,by omega⟩
 have c3:=Xbx (-1) 0 ⟨by omega,by omega⟩ ⟨by omega,by omega⟩
 have c4:=Xbx 0 (-1) ⟨by omega,by omega⟩ ⟨by omega,by omega⟩
 have hlen:(X5B A B).length=A.length+B.length+4:=by unfold X5B; rw [List.length_append,hl]; rfl
 rw [show (⟨((1:Int):Rat),((0:Int):Rat)⟩:V2)=ptV (1,0) from rfl] at c1
 rw [show (⟨((0:Int):Rat),((1:Int):Rat)⟩:V2)=ptV (0,1) from rfl] at c2
 rw [show (⟨((-1:Int):Rat),((0:Int):Rat)⟩:V2)=ptV (-1,0) from rfl] at c3
 rw [show (⟨((0:Int):Rat),((-1:Int):Rat)⟩:V2)=ptV (0,-1) from rfl] at c4
 have hD:X5B A B=(dAs A A.length ++ dBs B B.length) ++ [ptV (1,0),ptV (0,1),ptV (-1,0),ptV (0,-1)]:=rfl
 generalize ptV (1,0)=E1 at *
 generalize ptV (0,1)=E2 at *
 generalize ptV (-1,0)=E3 at *
 generalize ptV (0,-1)=E4 at *
 refine X00 1000 ?_
 simp only [X05,Int.lt_irrefl,Nat.lt_irrefl,↓X03,wA,seval,wE]
 refine X01 c1 rfl ?_
 simp only [↓X03,wA,seval,wE]
 refine X01 c2 rfl ?_
 simp only [↓X03,wA,seval,wE]
 refine X01 c3 rfl ?_
 simp only [↓X03,wA,seval,wE]
 refine X01 c4 rfl ?_
 simp only [↓X03,wA,seval,wE]
 refine ⟨⟨one4 E1 E2 E3 E4,by omega,by omega⟩,?_⟩
 rw [hR]
 refine X8R rfl ?_
 rw [X05,hlen]
 refine X1e (n:=A.length+B.length+4) (.inl rfl) (by omega) (fun h=>by omega) fun j hj=>?_
 rw [Nat.zero_add,hD,← h4 j hj]
 have:=X0c (hvc ((dAs A A.length ++ dBs B B.length ++ [E1,E2,E3,E4]).getD (j / 8) v0)) (j % 8)
 have e:Settled (X0M vC 8 v0 (dAs A A.length ++ dBs B B.length ++ [E1,E2,E3,E4]) j):=this
 rw [← h4 j hj] at e
 exact e.sees _
theorem Xq1 (A B:List V2) (c:Nat) (ha:X0Y A c) (hb:X0Y B c) (hc:c≤10000) (la:A.length<100000) (lb:B.length<100000):Fn Tryz.prog 265 [X0A A,X0A B] (X0A (X5B A B)):=by
 have hvc:∀ a:V2,∀ x∈vC a,Settled x:=fun a=>by simp [vC,X07,X02]
 have bA:Bel 1 (X0A A)=True:=eq_true (X06 (X0b A))
 have bB:Bel 1 (X0A B)=True:=eq_true (X06 (X0b B))
 have br:∀ i l n,X1j 1 (.row i n (X0M vC 8 v0 l))=True:=fun i l n=>eq_true fun j _=>X06 (X0c (hvc _) _)
 obtain ⟨R,hR⟩:∃ R,R=X0A (X5B A B):=⟨_,rfl⟩
 rw [← hR]
 refine Fq Tryz.call265 Tryz.func265 8 [] [5,9] [] (by simp [X0b]) (X00 1000 ?_)
 simp only [AS.start,X05,↓X03,wA,seval,wE]
 refine X0d (fun i:Nat=>⟨8,[],[X0A A,X0A B,.any,.any,.any,.osl 0 i 8 0 i,I i,.any],[],[.row i (i*8) (X0M vC 8 v0 (dAs A i))]⟩) (fun i=>i≤A.length) (fun i=>A.length - i) 0 (by omega)
  (Sub.trans (X0W 5 8 (X0M vC 8 v0 []) rfl) (X09 rfl (by simp [AS.put,X0p,X05,I]) (by simp [AS.put,X0q]) (by simp [AS.put,dAs]))) ?_
 intro i hi next
 have w1:=wj i (by omega)
 by_cases hi2:i<A.length
 ·have nx:=next (i+1)
  have f1:((i:Int)<A.length)=True:=eq_true (by omega)
  have f2:(i<A.length)=True:=eq_true hi2
  have f3:(i*8+8≤A.length*8)=True:=eq_true (by omega)
  have hm:((i+1:Nat):Int).tmod A.length=(((i+1) % A.length:Nat):Int):=rfl
  have hml:(i+1) % A.length<A.length:=Nat.mod_lt _ (by omega)
  have f4:((i+1) % A.length<A.length)=True:=eq_true hml
  have f5:((i+1) % A.length*8+8≤A.length*8)=True:=eq_true (by omega)
  have f6:((A.length:Int)=0)=False:=eq_false (by omega)
  have f6':(A.length=0)=False:=eq_false (by omega)
  have v1:=vF A i
  have v2:=vF A ((i+1) % A.length)
  have s1:=ha i; have s2:=ha ((i+1) % A.length)
  have hap:=X0E vC 8 v0 (dAs A i) (dA A i) (by omega)
  rw [X63,← XgW] at hap
  have c0:=XfQ A i (by omega) hi2
  have c1:=XbF (A.getD i v0) (A.getD ((i+1) % A.length) v0) (by omega) (by omega)
  rw [show nrm (A.getD i v0) (A.getD ((i+1) % A.length) v0)=dA A i from rfl] at c1
  refine X00 1000 ?_
  simp only [X05,w1,f1,f2,f3,f4,f5,f6,f6',hm,v1,v2,Int.toNat_natCast,↓X03,wA,seval,wE]
  refine X01 c0 rfl ?_
  simp only [X05,w1,f1,f2,f3,f4,f5,f6,f6',hm,v1,v2,Int.toNat_natCast,↓X03,wA,seval,wE]
  refine X01 c1 rfl ?_
  simp only [w1,↓X03,wA,seval,wE]
  exact ⟨⟨X42 _,by omega,by omega⟩,nx _ (by omega) (by omega) (X0t (m:=1) (Nat.zero_le _) rfl (by simp [X0p,X05,I]) (by simp [X0q]) (by rw [← hap]; rfl) (by simp [X0L,bA,bB]) (by simp [X0L,bA,bB]) (by simp [br]))⟩
 obtain rfl:i=A.length:=by omega
 refine X00 1000 ?_
 simp only [X05,Int.lt_irrefl,Nat.lt_irrefl,↓X03,wA,seval,wE]
 refine X0d (fun i:Nat=>⟨8,[],[X0A A,X0A B,.any,.any,.any,.osl 0 (A.length+i) 8 0 (A.length+i),.any,I i],[],[.row (A.length+i) ((A.length+i)*8) (X0M vC 8 v0 (dAs A A.length ++ dBs B i))]⟩) (fun i=>i≤B.length) (fun i=>B.length - i) 0 (by omega)
  (X09 rfl (by simp [X0p,X05,I]) (by simp [X0q]) (by simp [dBs])) ?_
 intro i hi next
 have w1:=wj i (by omega)
 by_cases hi2:i<B.length
 ·have nx:=next (i+1)
  have f1:((i:Int)<B.length)=True:=eq_true (by omega)
  have f2:(i<B.length)=True:=eq_true hi2
  have f3:(i*8+8≤B.length*8)=True:=eq_true (by omega)
  have hm:((i+1:Nat):Int).tmod B.length=(((i+1) % B.length:Nat):Int):=rfl
  have hml:(i+1) % B.length<B.length:=Nat.mod_lt _ (by omega)
  have f4:((i+1) % B.length<B.length)=True:=eq_true hml
  have f5:((i+1) % B.length*8+8≤B.length*8)=True:=eq_true (by omega)
  have f6:((B.length:Int)=0)=False:=eq_false (by omega)
  have f6':(B.length=0)=False:=eq_false (by omega)
  have v1:=vF B i
  have v2:=vF B ((i+1) % B.length)
  have s1:=hb i; have s2:=hb ((i+1) % B.length)
  have hap:=X0E vC 8 v0 (dAs A A.length ++ dBs B i) (dB B i) (by omega)
  rw [List.append_assoc,← XgY,List.length_append,X63,X8i] at hap
  have ea:A.length+(i+1)=A.length+i+1:=by omega
  simp only [ea] at nx
  have c0:=XfQ B i (by omega) hi2
  have c1:=XbF (B.getD i v0) (B.getD ((i+1) % B.length) v0) (by omega) (by omega)
  have vn:=Xne (B.getD i v0) (B.getD ((i+1) % B.length) v0)
  have c2:=XeH (nrm (B.getD i v0) (B.getD ((i+1) % B.length) v0)) (by unfold vm; omega)
  rw [XtO,show nrm (B.getD ((i+1) % B.length) v0) (B.getD i v0)=dB B i from rfl] at c2
  refine X00 1000 ?_
  simp only [X05,w1,f1,f2,f3,f4,f5,f6,f6',hm,v1,v2,Int.toNat_natCast,↓X03,wA,seval,wE]
  refine X01 c0 rfl ?_
  simp only [X05,w1,f1,f2,f3,f4,f5,f6,f6',hm,v1,v2,Int.toNat_natCast,↓X03,wA,seval,wE]
  refine X01 c1 rfl ?_
  simp only [X05,w1,f1,f2,f3,f4,f5,f6,f6',hm,v1,v2,Int.toNat_natCast,↓X03,wA,seval,wE]
  refine X01 c2 rfl ?_
  simp only [w1,↓X03,wA,seval,wE]
  exact ⟨⟨X42 _,by omega,by omega⟩,nx _ (by omega) (by omega) (X0t (m:=1) (Nat.zero_le _) rfl (by simp [X0p,X05,I]) (by simp [X0q]) (by rw [← hap]; rfl) (by simp [X0L,bA,bB]) (by simp [X0L,bA,bB]) (by simp [br]))⟩
 obtain rfl:i=B.length:=by omega
 have hl:(dAs A A.length ++ dBs B B.length).length=A.length+B.length:=by rw [List.length_append,X63,X8i]
 have h4:=app4 (dAs A A.length ++ dBs B B.length) (ptV (1,0)) (ptV (0,1)) (ptV (-1,0)) (ptV (0,-1))
 rw [hl] at h4
 have c1:=X3k 1 0 ⟨by omega,by omega⟩ ⟨by omega,by omega⟩
 have c2:=X3k 0 1 ⟨by omega,by omega⟩ ⟨by omega,by omega⟩
 have c3:=X3k (-1) 0 ⟨by omega,by omega⟩ ⟨by omega,by omega⟩
 have c4:=X3k 0 (-1) ⟨by omega,by omega⟩ ⟨by omega,by omega⟩
 have hlen:(X5B A B).length=A.length+B.length+4:=by unfold X5B; rw [List.length_append,hl]; rfl
 rw [show (⟨((1:Int):Rat),((0:Int):Rat)⟩:V2)=ptV (1,0) from rfl] at c1
 rw [show (⟨((0:Int):Rat),((1:Int):Rat)⟩:V2)=ptV (0,1) from rfl] at c2
 rw [show (⟨((-1:Int):Rat),((0:Int):Rat)⟩:V2)=ptV (-1,0) from rfl] at c3
 rw [show (⟨((0:Int):Rat),((-1:Int):Rat)⟩:V2)=ptV (0,-1) from rfl] at c4
 have hD:X5B A B=(dAs A A.length ++ dBs B B.length) ++ [ptV (1,0),ptV (0,1),ptV (-1,0),ptV (0,-1)]:=rfl
 generalize ptV (1,0)=E1 at *
 generalize ptV (0,1)=E2 at *
 generalize ptV (-1,0)=E3 at *
 generalize ptV (0,-1)=E4 at *
 refine X00 1000 ?_
 simp only [X05,Int.lt_irrefl,Nat.lt_irrefl,↓X03,wA,seval,wE]
 refine X01 c1 rfl ?_
 simp only [↓X03,wA,seval,wE]
 refine X01 c2 rfl ?_
 simp only [↓X03,wA,seval,wE]
 refine X01 c3 rfl ?_
 simp only [↓X03,wA,seval,wE]
 refine X01 c4 rfl ?_
 simp only [↓X03,wA,seval,wE]
 refine ⟨⟨one4 E1 E2 E3 E4,by omega,by omega⟩,?_⟩
 rw [hR]
 refine X8R rfl ?_
 rw [X05,hlen]
 refine X1e (n:=A.length+B.length+4) (.inl rfl) (by omega) (fun h=>by omega) fun j hj=>?_
 rw [Nat.zero_add,hD,← h4 j hj]
 have:=X0c (hvc ((dAs A A.length ++ dBs B B.length ++ [E1,E2,E3,E4]).getD (j / 8) v0)) (j % 8)
 have e:Settled (X0M vC 8 v0 (dAs A A.length ++ dBs B B.length ++ [E1,E2,E3,E4]) j):=this
 rw [← h4 j hj] at e
 exact e.sees _
end
end Go.Ab.N
