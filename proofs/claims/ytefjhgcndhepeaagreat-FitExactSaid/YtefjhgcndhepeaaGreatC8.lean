/- Contracts of functions of these chapters, for every argument that fits, and what they need. -/
import Derived.Test.YtefjhgcndhepeaaGreatC7
import Derived.Test.YtefjhgcndhepeaaGreatC6
set_option linter.unusedSimpArgs false
set_option linter.unusedVariables false
open Nat renaming reducePow → Y1, reduceLT → Y2, reduceLeDiff → Y3, reduceEqDiff → Y4, reduceAdd → Y5, reduceMul → Y6, reduceSub → Y7, reduceBEq → Y8, reduceDiv → Y9, reduceMod → YA
namespace Go.Ab.N
open Go Go.RowKit Go.Proofs
noncomputable section
set_option maxRecDepth 10000
set_option maxHeartbeats 4000000
open Classical
def UV (l:List Int) (j:Nat):Bool:=decide (Ab.atF l (15+j) 9=8)
def Uc (l:List Int) (j:Nat):Int:=(Ab.atF l (20+j) 5).tdiv 2
def Nl (l:List Int):Rat:=Rat.divInt (1+Ab.atF l 11 6) 2
def dw (l:List Int):Rat:=Nl l+Rat.divInt (Ab.atF l 12 4) 2
def p5 (l:List Int):Rat:=Rat.divInt (Ab.atF l 10 3) 4
def qV (l:List Int):Rat:=Rat.divInt (20+Ab.atF l 13 100) 1
def qQ (l:List Int):Rat:=Rat.divInt (Ab.atF l 14 5) 4
def Zg (l:List Int):PV:=⟨Ab.atF l 8 40,Ab.atF l 9 5,GV l,(List.range (GV l).length).map (UV l),(List.range (GV l).length).map (Uc l),RQ.of (p5 l),RQ.of (Nl l),RQ.of (dw l),RQ.of (qV l),RQ.of (qQ l)⟩
theorem dP {α:Type} (f:Nat→α) (d:α) (n j:Nat) (h:j<n):((List.range n).map f).getD j d=f j:=by
 rw [List.getD_eq_getElem?_getD,List.getElem?_map,List.getElem?_range h]; rfl
def B9 (l:List Int) (i:Nat) (j:Nat):AV:=.bool (if j<i then UV l j else false)
def AP (l:List Int) (i:Nat) (j:Nat):AV:=.int .i64 (if j<i then Uc l j else 0)
theorem Rv (l:List Int) (i:Nat):AJ (B9 l i) i (.bool (decide (Ab.atF l (15+(i:Int)) 9=8)))=B9 l (i+1):=by
 funext j
 unfold AJ B9
 by_cases h:j=i
 ·subst h; simp [UV]
 ·rw [if_neg h]
  by_cases h2:j<i
  ·rw [if_pos h2,if_pos (by omega)]
  ·rw [if_neg h2,if_neg (by omega)]
theorem Pe (l:List Int) (i:Nat):AJ (AP l i) i (.int .i64 ((Ab.atF l (20+(i:Int)) 5).tdiv 2))=AP l (i+1):=by
 funext j
 unfold AJ AP
 by_cases h:j=i
 ·subst h; simp [Uc]
 ·rw [if_neg h]
  by_cases h2:j<i
  ·rw [if_pos h2,if_pos (by omega)]
  ·rw [if_neg h2,if_neg (by omega)]
def UY:List AV:=[I 0,I 0,.sl 0 0 (fun _=>.any) true,.sl 0 0 (fun _=>.any) true,.sl 0 0 (fun _=>.any) true,.bool false,.sl 0 0 (fun _=>.any) true,.bool false,.sl 0 0 (fun _=>.any) true,.bool false,.sl 0 0 (fun _=>.any) true,.bool false,.sl 0 0 (fun _=>.any) true,
 .bool false,.sl 0 0 (fun _=>.any) true,.bool false,.sl 0 0 (fun _=>.any) true,.bool false,.sl 0 0 (fun _=>.any) true,.bool false,.sl 0 0 (fun _=>.any) true,.bool false,.sl 0 0 (fun _=>.any) true,.bool false,.sl 0 0 (fun _=>.any) true]
def oK (id home:Int) (n:Nat) (t l h s r:Rat):List AV:=[I id,I home,.osl 4 0 2 0 n,.osl 5 0 1 0 n,.osl 6 0 1 0 n,.bool (decide (t.num<0)),X6 (X8 t.num.natAbs),.bool false,X6 (X8 (qd t)),
 .bool (decide (l.num<0)),X6 (X8 l.num.natAbs),.bool false,X6 (X8 (qd l)),.bool (decide (h.num<0)),X6 (X8 h.num.natAbs),.bool false,X6 (X8 (qd h)),
 .bool (decide (s.num<0)),X6 (X8 s.num.natAbs),.bool false,X6 (X8 (qd s)),.bool (decide (r.num<0)),X6 (X8 r.num.natAbs),.bool false,X6 (X8 (qd r))]
theorem Mp (l:List Int) (hl:AL l) (hl2:l.length<9223372036854775808):Fn Tryz.prog 14 [X6 l] (JM (Zg l)):=by
 obtain ⟨V,hV⟩:∃ V,V=JM (Zg l):=⟨_,rfl⟩
 have sV:Settled V:=hV▸XI _
 have hro:=(Nz l).1
 have cR:=WT l hl hl2
 have c8:=Q9 l 8 40 hl (by omega)
 have c9:=Q9 l 9 5 hl (by omega)
 have c10:=Q9 l 10 3 hl (by omega)
 have c11:=Q9 l 11 6 hl (by omega)
 have c12:=Q9 l 12 4 hl (by omega)
 have c13:=Q9 l 13 100 hl (by omega)
 have c14:=Q9 l 14 5 hl (by omega)
 have b10:=Xt l 10 3 (by omega)
 have b11:=Xt l 11 6 (by omega)
 have b12:=Xt l 12 4 (by omega)
 have b13:=Xt l 13 100 (by omega)
 have b14:=Xt l 14 5 (by omega)
 have w11:IntKind.i64.wrap (1+Ab.atF l 11 6)=1+Ab.atF l 11 6:=by rw [IntKind.wrap_i64]; omega
 have w13:IntKind.i64.wrap (20+Ab.atF l 13 100)=20+Ab.atF l 13 100:=by rw [IntKind.wrap_i64]; omega
 have q10:=Je (Ab.atF l 10 3) 4 ⟨by omega,by omega⟩ ⟨by omega,by omega⟩
 have q11:=Je (1+Ab.atF l 11 6) 2 ⟨by omega,by omega⟩ ⟨by omega,by omega⟩
 have q12:=Je (Ab.atF l 12 4) 2 ⟨by omega,by omega⟩ ⟨by omega,by omega⟩
 have q13:=Je (20+Ab.atF l 13 100) 1 ⟨by omega,by omega⟩ ⟨by omega,by omega⟩
 have q14:=Je (Ab.atF l 14 5) 4 ⟨by omega,by omega⟩ ⟨by omega,by omega⟩
 have m11:qb (Rat.divInt (1+Ab.atF l 11 6) 2)≤3:=JS _ _ _ (by omega) (QA ⟨by omega,by omega⟩) (QA ⟨by omega,by omega⟩)
 have m12:qb (Rat.divInt (Ab.atF l 12 4) 2)≤3:=JS _ _ _ (by omega) (QA ⟨by omega,by omega⟩) (QA ⟨by omega,by omega⟩)
 have qh:=ZC (Rat.divInt (1+Ab.atF l 11 6) 2) (Rat.divInt (Ab.atF l 12 4) 2) (by unfold rm; omega) (by unfold rm; omega)
 have cP:=Px (Ab.atF l 8 40) (GV l) (by omega)
 rw [← hV]
 unfold Zg Nl dw p5 qV qQ at hV
 unfold Nl at hV
 generalize Rat.divInt 1 1=u1 at *
 generalize Rat.divInt 100 1=u2 at *
 generalize Rat.divInt 1 2=u3 at *
 generalize (Rat.divInt (1+Ab.atF l 11 6) 2+Rat.divInt (Ab.atF l 12 4) 2)=Q12 at *
 generalize Rat.divInt (Ab.atF l 10 3) 4=Q10 at *
 generalize Rat.divInt (1+Ab.atF l 11 6) 2=Q11 at *
 generalize Rat.divInt (20+Ab.atF l 13 100) 1=Q13 at *
 generalize Rat.divInt (Ab.atF l 14 5) 4=Q14 at *
 generalize GV l=R at *
 refine Fq Tryz.call14 Tryz.func14 5 [] [5,6001,11,12001,12,13001] [] (by simp [X4]) (X0 1000 ?_)
 simp only [AS.start,↓X2,wA,seval,wE]
 refine X1 c8 rfl ?_
 simp only [↓X2,wA,seval,wE]
 refine X1 cR rfl ?_
 simp only [↓X2,wA,seval,wE]
 refine Ke rfl (cP _) (QI (by simp) (by simp)) (fun id=>by cases id <;> simp) ⟨Weak.rfl' _,Weak.rfl' _,trivial⟩ ?_
 simp only [T3,↓X2,wA,seval,wE]
 refine X1 c9 rfl ?_
 simp only [↓X2,wA,seval,wE]
 refine X1 c10 rfl ?_
 simp only [↓X2,wA,seval,wE]
 refine X1 q10 rfl ?_
 simp only [↓X2,wA,seval,wE]
 refine X1 c11 rfl ?_
 simp only [w11,↓X2,wA,seval,wE]
 refine X1 q11 rfl ?_
 simp only [↓X2,wA,seval,wE]
 refine X1 c12 rfl ?_
 simp only [↓X2,wA,seval,wE]
 refine X1 q12 rfl ?_
 simp only [↓X2,wA,seval,wE]
 refine X1 qh rfl ?_
 simp only [↓X2,wA,seval,wE]
 refine X1 c13 rfl ?_
 simp only [w13,↓X2,wA,seval,wE]
 refine X1 q13 rfl ?_
 simp only [↓X2,wA,seval,wE]
 refine X1 c14 rfl ?_
 simp only [↓X2,wA,seval,wE]
 refine X1 q14 rfl ?_
 simp only [↓X2,wA,seval,wE]
 refine Xf (fun i:Nat=>⟨5,[],[X6 l,.any,.ref 0 0 0,.ref 7 0 0,I i],[],[.row 0 25 (Xn UY),.dead,.dead,.dead,.row 0 (R.length*2) (Xr JQ 2 (0,0) R),.row 0 R.length (B9 l i),.row 0 R.length (AP l i),.row 0 25 (Xn (oK (Ab.atF l 8 40) (Ab.atF l 9 5) R.length Q10 Q11 Q12 Q13 Q14))]⟩) (fun i=>i≤R.length) (fun i=>R.length - i) 0 (by omega)
  (Sub.trans (QM 5 R.length (B9 l 0) rfl (Nat.le_refl _) (fun j _=>by simp [B9])) (Sub.trans (QM 6 R.length (AP l 0) rfl (Nat.le_refl _) (fun j _=>by simp [AP])) (Xb rfl (by simp [Xh,X5,I]) (by simp [Xi]) (by simp [UY,oK,X5,I])))) ?_
 intro i hi next
 have w1:=wj i (by omega)
 by_cases hi2:i<R.length
 ·have f1:((i:Int)<R.length)=True:=eq_true (by omega)
  have f2:(i<R.length)=True:=eq_true hi2
  have w15:IntKind.i64.wrap (15+(i:Int))=15+(i:Int):=by rw [IntKind.wrap_i64]; omega
  have w20:IntKind.i64.wrap (20+(i:Int))=20+(i:Int):=by rw [IntKind.wrap_i64]; omega
  have c15:=Q9 l (15+(i:Int)) 9 hl (by omega)
  have c20:=Q9 l (20+(i:Int)) 5 hl (by omega)
  have b20:=Xt l (20+(i:Int)) 5 (by omega)
  have e20:(Ab.atF l (20+(i:Int)) 5).tdiv 2=Ab.atF l (20+(i:Int)) 5 / 2:=Int.tdiv_eq_ediv_of_nonneg b20.1
  have wq:IntKind.i64.wrap ((Ab.atF l (20+(i:Int)) 5).tdiv 2)=(Ab.atF l (20+(i:Int)) 5).tdiv 2:=by rw [IntKind.wrap_i64]; omega
  have hU:=Rv l i
  have hM:=Pe l i
  refine X0 1000 ?_
  simp only [oK,w1,w15,w20,f1,f2,Int.toNat_natCast,↓X2,wA,seval,wE]
  refine X1 c15 rfl ?_
  simp only [oK,w1,w15,w20,f1,f2,hU,Int.toNat_natCast,↓X2,wA,seval,wE]
  refine ⟨by omega,X1 c20 rfl ?_⟩
  simp only [oK,w1,w15,w20,f1,f2,wq,hM,Int.toNat_natCast,Int.reduceEq,↓X2,wA,seval,wE]
  exact ⟨by omega,next (i+1) _ (by omega) (by omega) (Xb rfl (by simp [Xh,X5,I]) (by simp [Xi]) (by simp [UY,oK,X5,I]))⟩
 obtain rfl:i=R.length:=by omega
 refine X0 1000 ?_
 simp only [UY,oK,Int.lt_irrefl,Nat.lt_irrefl,↓X2,wA,seval,wE]
 subst hV
 refine Fg rfl EY rfl rfl rfl ?_
 have h1:∀ H:List AO,H[4]?=some (.row 0 (R.length*2) (Xr JQ 2 (0,0) R))→Jn H (.osl 4 0 2 0 R.length) (Ck R):=fun H ho=>by
  rw [Xj]
  refine QD (.inl ho) (by omega) (fun h=>by rw [h]) fun j hj=>?_
  rw [Nat.zero_add]
  exact (Xg (K1 _) _).sees _
 have h2:∀ H:List AO,H[5]?=some (.row 0 R.length (B9 l R.length))→Jn H (.osl 5 0 1 0 R.length) (KN ((List.range R.length).map (UV l))):=fun H ho=>by
  rw [Xw,List.length_map,List.length_range]
  refine QD (.inl ho) (by omega) (fun h=>by rw [h]) fun j hj=>?_
  rw [Nat.zero_add,JV,dP _ _ _ _ hj]
  unfold B9
  rw [if_pos hj]
  exact (X3 _).sees _
 have h3:∀ H:List AO,H[6]?=some (.row 0 R.length (AP l R.length))→Jn H (.osl 6 0 1 0 R.length) (X6 ((List.range R.length).map (Uc l))):=fun H ho=>by
  rw [X5,List.length_map,List.length_range]
  refine QD (.inl ho) (by omega) (fun h=>by rw [h]) fun j hj=>?_
  rw [Nat.zero_add,JV,dP _ _ _ _ hj]
  unfold AP
  rw [if_pos hj]
  exact (Xa _).sees _
 exact Az ⟨(Xa _).sees _,(Xa _).sees _,h1 _ rfl,h2 _ rfl,h3 _ rfl,(X3 _).sees _,(X4 _).sees _,(X3 _).sees _,(X4 _).sees _,(X3 _).sees _,(X4 _).sees _,(X3 _).sees _,(X4 _).sees _,(X3 _).sees _,(X4 _).sees _,(X3 _).sees _,(X4 _).sees _,(X3 _).sees _,(X4 _).sees _,(X3 _).sees _,(X4 _).sees _,(X3 _).sees _,(X4 _).sees _,(X3 _).sees _,(X4 _).sees _,trivial⟩
theorem Mw (l:List Int):(Zg l).rim.length=(GV l).length∧(Zg l).worn.length=(GV l).length∧(Zg l).marks.length=(GV l).length:=⟨rfl,by simp [Zg],by simp [Zg]⟩
theorem F9 (l:List Int):(Zg l).small:=by
 have hro:=(Nz l).1
 have b10:=Xt l 10 3 (by omega)
 have b11:=Xt l 11 6 (by omega)
 have b12:=Xt l 12 4 (by omega)
 have b13:=Xt l 13 100 (by omega)
 have b14:=Xt l 14 5 (by omega)
 have hl:=Mw l
 have z:=fun (n m:Int) (h1:Z8 n) (h2:Z8 m)=>fN n m h1 h2
 have q1:=Be (1+Ab.atF l 11 6) 2 ⟨by omega,by omega⟩ ⟨by omega,by omega⟩
 have q2:=Be (Ab.atF l 12 4) 2 ⟨by omega,by omega⟩ ⟨by omega,by omega⟩
 have q3:=Kt (Rat.divInt (1+Ab.atF l 11 6) 2) (Rat.divInt (Ab.atF l 12 4) 2)
 have q4:=RQ.of_sz (Rat.divInt (1+Ab.atF l 11 6) 2+Rat.divInt (Ab.atF l 12 4) 2)
 refine ⟨by rw [hl.1]; omega,by rw [hl.2.1]; omega,by rw [hl.2.2]; omega,?_,?_,?_,?_,?_⟩
 ·exact Nat.le_trans (z (Ab.atF l 10 3) 4 ⟨by omega,by omega⟩ ⟨by omega,by omega⟩) (by omega)
 ·exact Nat.le_trans (z (1+Ab.atF l 11 6) 2 ⟨by omega,by omega⟩ ⟨by omega,by omega⟩) (by omega)
 ·show (RQ.of (Rat.divInt (1+Ab.atF l 11 6) 2+Rat.divInt (Ab.atF l 12 4) 2)).sz≤_
  omega
 ·exact Nat.le_trans (z (20+Ab.atF l 13 100) 1 ⟨by omega,by omega⟩ ⟨by omega,by omega⟩) (by omega)
 ·exact Nat.le_trans (z (Ab.atF l 14 5) 4 ⟨by omega,by omega⟩ ⟨by omega,by omega⟩) (by omega)
theorem F5 {a:Rat} (h:qb a≤rm):(RQ.of a).sz<4611686018427387904:=Nat.lt_of_le_of_lt (RQ.of_sz a) (by unfold rm at h; omega)
theorem G5 (a b:Rat) (ha:qb a≤rm) (hb:qb b≤rm):Fn Tryz.prog 29 [qA a,qA b] (.bool (decide (a=b))):=by
 have:=PP (RQ.of a) (RQ.of b) (F5 ha) (F5 hb)
 rwa [decide_eq_decide.2 (show RQ.of a=RQ.of b↔a=b from ⟨RQ.of_inj,fun h=>by rw [h]⟩)] at this
theorem Du (a b:Rat) (ha:qb a≤rm) (hb:qb b≤rm):Fn Tryz.prog 86 [qA a,qA b] (.bool (decide (a=b))):=by
 have:=WZ (RQ.of a) (RQ.of b) (F5 ha) (F5 hb)
 rwa [decide_eq_decide.2 (show RQ.of a=RQ.of b↔a=b from ⟨RQ.of_inj,fun h=>by rw [h]⟩)] at this
theorem UB (a:Rat) (ha:qb a≤rm):Fn Tryz.prog 79 [qA a] (.bool true):=by
 have:=MC (RQ.of a) (Nat.lt_of_le_of_lt (RQ.of_sz a) (by unfold rm at ha; omega))
 rwa [decide_eq_true ⟨a,rfl⟩] at this
def L4 (t a:V2):V2:=⟨t.x*a.x - t.y*a.y,t.y*a.x+t.x*a.y⟩
def V2.scale (a:V2) (k:Rat):V2:=⟨a.x*k,a.y*k⟩
def Ga (t:V2):Prop:=t.x*t.x+t.y*t.y=1
def KT:V2:=⟨1,0⟩
theorem Eu (t a:V2):vb (L4 t a)≤2*(vb t+vb a)+1:=by
 have:=Qs t.x a.x; have:=Qs t.y a.y; have:=Qs t.y a.x; have:=Qs t.x a.y
 have:=QO t; have:=QJ t; have:=QO a; have:=QJ a
 have:=El (t.x*a.x) (t.y*a.y); have:=Kt (t.y*a.x) (t.x*a.y)
 unfold L4
 show max (qb (t.x*a.x - t.y*a.y)) (qb (t.y*a.x+t.x*a.y))≤_
 omega
theorem ge (a:V2) (k:Rat):vb (a.scale k)≤vb a+qb k:=by
 have:=Qs a.x k; have:=Qs a.y k; have:=QO a; have:=QJ a
 unfold V2.scale
 show max (qb (a.x*k)) (qb (a.y*k))≤_
 omega
theorem FN:Rat.divInt 1 1=1:=by decide +kernel
theorem V2.ext' {a b:V2}:a=b↔a.x=b.x∧a.y=b.y:=by
 cases a; cases b
 simp
theorem Hh (a b:V2) (ha:vb a≤vm) (hb:vb b≤vm):Fn Tryz.prog 42 [vA a,vA b] (.bool (decide (a=b))):=by
 unfold vm at ha hb
 have:=QO a; have:=QO b; have:=QJ a; have:=QJ b
 have c1:=G5 a.x b.x (by unfold rm; omega) (by unfold rm; omega)
 have c2:=G5 a.y b.y (by unfold rm; omega) (by unfold rm; omega)
 obtain ⟨V,hV⟩:∃ V,V=decide (a=b):=⟨_,rfl⟩
 rw [← hV]
 refine Fq Tryz.call42 Tryz.func42 5 [] [] [] (by simp [wS]) (X0 1000 ?_); simp (config:={ maxSteps:=2000000 }) only [AS.start,↓X2,wA,seval,wE]
 refine X1 c1 rfl ?_
 by_cases h:a.x=b.x
 ·rw [decide_eq_true h]
  simp only [↓X2,wA,seval,wE]
  refine X1 c2 rfl ?_
  simp only [↓X2,wA,seval,wE]
  exact Xv (v:=.bool (decide (a.y=b.y))) rfl rfl (X3 _) (by rw [hV]; exact congrArg AV.bool (decide_eq_decide.2 (show a.y=b.y↔a=b from ⟨fun e=>V2.ext'.2 ⟨h,e⟩,fun e=>(V2.ext'.1 e).2⟩)))
 ·rw [decide_eq_false h]
  simp only [↓X2,wA,seval,wE]
  exact Xv (v:=.bool false) rfl rfl (X3 _) (by rw [hV,decide_eq_false (p:=a=b) fun e=>h (by rw [e])])
theorem AR (a b:V2) (ha:vb a≤vm) (hb:vb b≤vm):Fn Tryz.prog 67 [vA a,vA b] (.bool (decide (a=b))):=by
 unfold vm at ha hb
 have:=QO a; have:=QO b; have:=QJ a; have:=QJ b
 have c1:=G5 a.x b.x (by unfold rm; omega) (by unfold rm; omega)
 have c2:=G5 a.y b.y (by unfold rm; omega) (by unfold rm; omega)
 obtain ⟨V,hV⟩:∃ V,V=decide (a=b):=⟨_,rfl⟩
 rw [← hV]
 refine Fq Tryz.call67 Tryz.func67 5 [] [] [] (by simp [wS]) (X0 1000 ?_); simp (config:={ maxSteps:=2000000 }) only [AS.start,↓X2,wA,seval,wE]
 refine X1 c1 rfl ?_
 by_cases h:a.x=b.x
 ·rw [decide_eq_true h]
  simp only [↓X2,wA,seval,wE]
  refine X1 c2 rfl ?_
  simp only [↓X2,wA,seval,wE]
  exact Xv (v:=.bool (decide (a.y=b.y))) rfl rfl (X3 _) (by rw [hV]; exact congrArg AV.bool (decide_eq_decide.2 (show a.y=b.y↔a=b from ⟨fun e=>V2.ext'.2 ⟨h,e⟩,fun e=>(V2.ext'.1 e).2⟩)))
 ·rw [decide_eq_false h]
  simp only [↓X2,wA,seval,wE]
  exact Xv (v:=.bool false) rfl rfl (X3 _) (by rw [hV,decide_eq_false (p:=a=b) fun e=>h (by rw [e])])
theorem Hd (a b:V2) (ha:vb a≤vm) (hb:vb b≤vm):Fn Tryz.prog 59 [vA a,vA b] (vA (a.add b)):=by
 unfold vm at ha hb
 obtain ⟨R,hR⟩:∃ R,R=vA (a.add b):=⟨_,rfl⟩
 have sR:Settled R:=hR▸Xo _
 have:=QO a; have:=QO b; have:=QJ a; have:=QJ b
 have c1:=Ae a.x b.x (by unfold rm; omega) (by unfold rm; omega)
 have c2:=Ae a.y b.y (by unfold rm; omega) (by unfold rm; omega)
 rw [← hR]
 refine Fq Tryz.call59 Tryz.func59 5 [] [] [] (by simp [wS]) (X0 1000 ?_); simp (config:={ maxSteps:=2000000 }) only [AS.start,↓X2,wA,seval,wE]
 refine X1 c1 rfl ?_
 simp only [↓X2,wA,seval,wE]
 refine X1 c2 rfl ?_
 simp only [↓X2,wA,seval,wE]
 exact A4 rfl Ko rfl rfl rfl sR (hR.trans rfl)
theorem G1 (a:V2) (k:Rat) (ha:vb a≤vm) (hk:qb k≤vm):Fn Tryz.prog 58 [vA a,qA k] (vA (a.scale k)):=by
 unfold vm at ha hk
 obtain ⟨R,hR⟩:∃ R,R=vA (a.scale k):=⟨_,rfl⟩
 have sR:Settled R:=hR▸Xo _
 have:=QO a; have:=QJ a
 have c1:=JO a.x k (by unfold rm; omega) (by unfold rm; omega)
 have c2:=JO a.y k (by unfold rm; omega) (by unfold rm; omega)
 rw [← hR]
 refine Fq Tryz.call58 Tryz.func58 5 [] [] [] (by simp [wS]) (X0 1000 ?_); simp (config:={ maxSteps:=2000000 }) only [AS.start,↓X2,wA,seval,wE]
 refine X1 c1 rfl ?_
 simp only [↓X2,wA,seval,wE]
 refine X1 c2 rfl ?_
 simp only [↓X2,wA,seval,wE]
 exact A4 rfl Ko rfl rfl rfl sR (hR.trans rfl)
theorem WL:Fn Tryz.prog 203 [] (vA KT):=by
 have c1:=C9 1 1 ⟨by omega,by omega⟩ ⟨by omega,by omega⟩
 rw [FN] at c1
 obtain ⟨R,hR⟩:∃ R,R=vA KT:=⟨_,rfl⟩
 have sR:Settled R:=hR▸Xo _
 rw [← hR]
 refine Fq Tryz.call203 Tryz.func203 1 [] [] [] (by simp [wS]) (X0 1000 ?_); simp (config:={ maxSteps:=2000000 }) only [AS.start,↓X2,wA,seval,wE]
 refine X1 c1 rfl ?_
 simp only [↓X2,wA,seval,wE]
 refine Fg rfl M6 rfl rfl rfl ?_
 rw [hR]
 exact Az ⟨(X3 _).sees _,(X4 _).sees _,(X3 _).sees _,(X4 _).sees _,(X3 _).sees _,XG (X4 _) (Qv (by show X8 (0:Rat).num.natAbs=[]; rw [Rat.zero_num]; simp [XQ])),(X3 _).sees _,XG (X4 _) (Qv (CV rfl)),trivial⟩
theorem Em (a b:V2) (ha:vb a≤vm) (hb:vb b≤vm):Fn Tryz.prog 48 [vA a,vA b] (.bool (decide (a=b))):=by
 unfold vm at ha hb
 have:=QO a; have:=QO b; have:=QJ a; have:=QJ b
 have c1:=Du a.x b.x (by unfold rm; omega) (by unfold rm; omega)
 have c2:=Du a.y b.y (by unfold rm; omega) (by unfold rm; omega)
 obtain ⟨V,hV⟩:∃ V,V=decide (a=b):=⟨_,rfl⟩
 rw [← hV]
 refine Fq Tryz.call48 Tryz.func48 5 [] [] [] (by simp [wS]) (X0 1000 ?_); simp (config:={ maxSteps:=2000000 }) only [AS.start,↓X2,wA,seval,wE]
 refine X1 c1 rfl ?_
 by_cases h:a.x=b.x
 ·rw [decide_eq_true h]
  simp only [↓X2,wA,seval,wE]
  refine X1 c2 rfl ?_
  simp only [↓X2,wA,seval,wE]
  exact Xv (v:=.bool (decide (a.y=b.y))) rfl rfl (X3 _) (by rw [hV]; exact congrArg AV.bool (decide_eq_decide.2 (show a.y=b.y↔a=b from ⟨fun e=>V2.ext'.2 ⟨h,e⟩,fun e=>(V2.ext'.1 e).2⟩)))
 ·rw [decide_eq_false h]
  simp only [↓X2,wA,seval,wE]
  exact Xv (v:=.bool false) rfl rfl (X3 _) (by rw [hV,decide_eq_false (p:=a=b) fun e=>h (by rw [e])])
theorem CZ (a b:V2) (ha:vb a≤vm) (hb:vb b≤vm):Fn Tryz.prog 41 [vA a,vA b] (.bool (decide (a=b))):=by
 unfold vm at ha hb
 have:=QO a; have:=QO b; have:=QJ a; have:=QJ b
 have c1:=Du a.x b.x (by unfold rm; omega) (by unfold rm; omega)
 have c2:=Du a.y b.y (by unfold rm; omega) (by unfold rm; omega)
 obtain ⟨V,hV⟩:∃ V,V=decide (a=b):=⟨_,rfl⟩
 rw [← hV]
 refine Fq Tryz.call41 Tryz.func41 5 [] [] [] (by simp [wS]) (X0 1000 ?_); simp (config:={ maxSteps:=2000000 }) only [AS.start,↓X2,wA,seval,wE]
 refine X1 c1 rfl ?_
 by_cases h:a.x=b.x
 ·rw [decide_eq_true h]
  simp only [↓X2,wA,seval,wE]
  refine X1 c2 rfl ?_
  simp only [↓X2,wA,seval,wE]
  exact Xv (v:=.bool (decide (a.y=b.y))) rfl rfl (X3 _) (by rw [hV]; exact congrArg AV.bool (decide_eq_decide.2 (show a.y=b.y↔a=b from ⟨fun e=>V2.ext'.2 ⟨h,e⟩,fun e=>(V2.ext'.1 e).2⟩)))
 ·rw [decide_eq_false h]
  simp only [↓X2,wA,seval,wE]
  exact Xv (v:=.bool false) rfl rfl (X3 _) (by rw [hV,decide_eq_false (p:=a=b) fun e=>h (by rw [e])])
theorem In (t a:V2) (ht:vb t≤vm) (ha:vb a≤vm):Fn Tryz.prog 43 [vA t,vA a] (vA (L4 t a)):=by
 unfold vm at ht ha
 obtain ⟨R,hR⟩:∃ R,R=vA (L4 t a):=⟨_,rfl⟩
 have sR:Settled R:=hR▸Xo _
 have:=QO t; have:=QJ t; have:=QO a; have:=QJ a
 have m1:=Qs t.x a.x; have m2:=Qs t.y a.y; have m3:=Qs t.y a.x; have m4:=Qs t.x a.y
 have c1:=JO t.x a.x (by unfold rm; omega) (by unfold rm; omega)
 have c2:=JO t.y a.y (by unfold rm; omega) (by unfold rm; omega)
 have c3:=C7 (t.y*a.y)
 have c4:=Fa (t.x*a.x) (-(t.y*a.y)) (by omega) (by rw [Bg]; omega)
 rw [← Rat.sub_eq_add_neg] at c4
 have c5:=JO t.y a.x (by unfold rm; omega) (by unfold rm; omega)
 have c6:=JO t.x a.y (by unfold rm; omega) (by unfold rm; omega)
 have c7:=Fa (t.y*a.x) (t.x*a.y) (by omega) (by omega)
 rw [← hR]
 refine Fq Tryz.call43 Tryz.func43 5 [] [] [] (by simp [wS]) (X0 1000 ?_); simp (config:={ maxSteps:=2000000 }) only [AS.start,↓X2,wA,seval,wE]
 refine X1 c1 rfl ?_
 simp only [↓X2,wA,seval,wE]
 refine X1 c2 rfl ?_
 simp only [↓X2,wA,seval,wE]
 refine X1 c3 rfl ?_
 simp only [↓X2,wA,seval,wE]
 refine X1 c4 rfl ?_
 simp only [↓X2,wA,seval,wE]
 refine X1 c5 rfl ?_
 simp only [↓X2,wA,seval,wE]
 refine X1 c6 rfl ?_
 simp only [↓X2,wA,seval,wE]
 refine X1 c7 rfl ?_
 simp only [↓X2,wA,seval,wE]
 exact A4 rfl Ko rfl rfl rfl sR (hR.trans rfl)
theorem Lr (t a:V2) (ht:vb t≤vm) (ha:vb a≤vm):Fn Tryz.prog 105 [vA t,vA a] (vA (L4 t a)):=by
 unfold vm at ht ha
 obtain ⟨R,hR⟩:∃ R,R=vA (L4 t a):=⟨_,rfl⟩
 have sR:Settled R:=hR▸Xo _
 have:=QO t; have:=QJ t; have:=QO a; have:=QJ a
 have m1:=Qs t.x a.x; have m2:=Qs t.y a.y; have m3:=Qs t.y a.x; have m4:=Qs t.x a.y
 have c1:=JL t.x a.x (by unfold rm; omega) (by unfold rm; omega)
 have c2:=JL t.y a.y (by unfold rm; omega) (by unfold rm; omega)
 have c4:=Aw (t.x*a.x) (t.y*a.y) (by unfold rm; omega) (by unfold rm; omega)
 have c5:=JL t.y a.x (by unfold rm; omega) (by unfold rm; omega)
 have c6:=JL t.x a.y (by unfold rm; omega) (by unfold rm; omega)
 have c7:=ZC (t.y*a.x) (t.x*a.y) (by unfold rm; omega) (by unfold rm; omega)
 rw [← hR]
 refine Fq Tryz.call105 Tryz.func105 7 [] [1,20000002,20000003,2,30000002,30000003] [] (by simp [wS]) (X0 1000 ?_); simp (config:={ maxSteps:=2000000 }) only [AS.start,↓X2,wA,seval,wE]
 refine X1 c1 rfl ?_
 simp only [↓X2,wA,seval,wE]
 refine X1 c2 rfl ?_
 simp only [↓X2,wA,seval,wE]
 refine X1 c4 rfl ?_
 simp only [↓X2,wA,seval,wE]
 refine X1 c5 rfl ?_
 simp only [↓X2,wA,seval,wE]
 refine X1 c6 rfl ?_
 simp only [↓X2,wA,seval,wE]
 refine X1 c7 rfl ?_
 simp only [↓X2,wA,seval,wE]
 exact A4 rfl Ko rfl rfl rfl sR (hR.trans rfl)
theorem eZ (t:V2) (ht:vb t≤vm):Fn Tryz.prog 123 [vA t] (.bool (decide (Ga t))):=by
 unfold vm at ht
 have:=QO t; have:=QJ t
 have m1:=Qs t.x t.x; have m2:=Qs t.y t.y; have m3:=Kt (t.x*t.x) (t.y*t.y)
 have v1:=UB t.x (by unfold rm; omega)
 have v2:=UB t.y (by unfold rm; omega)
 have c1:=JO t.x t.x (by unfold rm; omega) (by unfold rm; omega)
 have c2:=JO t.y t.y (by unfold rm; omega) (by unfold rm; omega)
 have c3:=Fa (t.x*t.x) (t.y*t.y) (by omega) (by omega)
 have c4:=C9 1 1 ⟨by omega,by omega⟩ ⟨by omega,by omega⟩
 rw [FN] at c4
 have c5:=G5 (t.x*t.x+t.y*t.y) 1 (by unfold rm; omega) (by have:=(Be 1 1 ⟨by omega,by omega⟩ ⟨by omega,by omega⟩); rw [FN] at this; unfold rm; omega)
 rw [show decide (t.x*t.x+t.y*t.y=1)=decide (Ga t) from decide_eq_decide.2 Iff.rfl] at c5
 refine Fq Tryz.call123 Tryz.func123 3 [] [] [] (by simp [wS]) (X0 1000 ?_); simp (config:={ maxSteps:=2000000 }) only [AS.start,↓X2,wA,seval,wE]
 refine X1 v1 rfl ?_
 simp only [↓X2,wA,seval,wE]
 refine X1 v2 rfl ?_
 simp only [↓X2,wA,seval,wE]
 refine X1 c1 rfl ?_
 simp only [↓X2,wA,seval,wE]
 refine X1 c2 rfl ?_
 simp only [↓X2,wA,seval,wE]
 refine X1 c3 rfl ?_
 simp only [↓X2,wA,seval,wE]
 refine X1 c4 rfl ?_
 simp only [↓X2,wA,seval,wE]
 refine X1 c5 rfl ?_
 simp only [↓X2,wA,seval,wE]
 exact Xv rfl rfl (X3 _) rfl
theorem fe (b:Rat):qb b⁻¹≤qb b:=by
 rw [Rat.inv_def]
 exact JS _ _ _ (T7 b) (JR b) (JK b)
theorem ff (a b:Rat):qb (a / b)≤qb a+qb b:=by
 rw [Rat.div_def]
 have:=Qs a b⁻¹; have:=fe b
 omega
theorem Ux (a b:Rat) (ha:qb a≤vm) (hb:qb b≤vm) (h0:b≠0):Fn Tryz.prog 192 [qA a,qA b] (qA (a / b)):=by
 unfold vm at ha hb
 have q1:=fe b
 have hn:b.num≠0:=fun h=>h0 (Rat.num_eq_zero.1 h)
 have c1:=BN b
 have c2:=Dn b.den b.num hn (by
  have:=b.reduced
  rw [Int.gcd_comm]
  exact this)
 rw [← Rat.inv_def] at c2
 have c3:=JO a b⁻¹ (by unfold rm; omega) (by unfold rm; omega)
 rw [← Rat.div_def] at c3
 obtain ⟨R,hR⟩:∃ R,R=qA (a / b):=⟨_,rfl⟩
 have sR:Settled R:=hR▸Xc _
 have f1:((X8 b.num.natAbs).length=0)=False:=eq_false fun h=>hn (by have:=digs_len_zero.1 h; omega)
 have f2:(((X8 b.num.natAbs).length:Int)=0)=False:=eq_false fun h=>hn (by have:=digs_len_zero.1 (show (X8 b.num.natAbs).length=0 by omega); omega)
 rw [← hR] at c3 ⊢
 refine Fq Tryz.call192 Tryz.func192 5 [] [] [] (by simp [wS]) (X0 1000 ?_); simp (config:={ maxSteps:=2000000 }) only [AS.start,↓X2,wA,seval,wE]
 simp only [f1,f2,↓X2,wA,seval,wE]
 refine X1 c1 rfl ?_
 simp only [↓X2,wA,seval,wE]
 refine X1 c2 rfl ?_
 simp only [↓X2,wA,seval,wE]
 refine X1 c3 rfl ?_
 simp only [hR,↓X2,wA,seval,wE]
 exact JD rfl Q8 rfl rfl rfl sR (hR.trans rfl)
noncomputable def K3 (a b:V2):V2×Int :=
 if Q7 a a=0∨Q7 b b=0 then (v0,1) else if Q7 a a=Q7 b b then (⟨Q7 a b / Q7 a a,Qg a b / Q7 a a⟩,0) else (v0,21)
def Zq:List AV:=[.bool false,.sl 0 0 (fun _=>.any) false,.bool false,.sl 0 0 (fun _=>.any) false,.bool false,.sl 0 0 (fun _=>.any) false,.bool false,.sl 0 0 (fun _=>.any) false]
theorem Cf:WeakL Zq (vC v0) :=
 have h1:X8 (0:Rat).num.natAbs=[]:=by rw [Rat.zero_num]; simp [XQ]
 have h2:X8 (qd (0:Rat))=[]:=CV rfl
 ⟨Weak.rfl' _,Qv h1,Weak.rfl' _,Qv h2,Weak.rfl' _,Qv h1,Weak.rfl' _,Qv h2,trivial⟩
theorem WI (a b:V2) (ha:vb a≤10000) (hb:vb b≤10000):Fn Tryz.prog 114 [vA a,vA b] (.tup [vA (K3 a b).1,I (K3 a b).2]):=by
 obtain ⟨R,hR⟩:∃ R,R=K3 a b:=⟨_,rfl⟩
 rw [← hR]
 have q1:=Bf a a; have q2:=Bf b b; have q3:=Bf a b; have q4:=CU a b
 have c1:=F8 a a (by unfold vm; omega) (by unfold vm; omega)
 have c2:=F8 b b (by unfold vm; omega) (by unfold vm; omega)
 have c3:=F8 a b (by unfold vm; omega) (by unfold vm; omega)
 have c4:=FZ a b (by unfold vm; omega) (by unfold vm; omega)
 have s1:=Kv (Q7 a a)
 have s2:=Kv (Q7 b b)
 have e1:=G5 (Q7 a a) (Q7 b b) (by unfold rm; omega) (by unfold rm; omega)
 have zret:∀ {s:AS} {ver id':Nat} {k:Int},s.get 4=.ref id' ver 0→s.h[id']?=some (.row ver 8 (Xn Zq))→s.get 5=I k→R=(v0,k)→RetOk (J4 Tryz.prog Tryz.f114 [1,20000002,20000003,6,70000002,70000003,70000006] [] (.tup [vA R.1,I R.2])) s:=fun h1 h2 h3 h4=>by
  subst h4
  exact K8 rfl (Xm M6 h1 h2 rfl) (by unfold Jb; rfl) (XG (Xo _) (Qi Cf)) (by rw [h3]; exact (Xa _).sees _)
 refine Fq Tryz.call114 Tryz.func114 8 [] [1,20000002,20000003,6,70000002,70000003,70000006] [] (by simp [wS]) (X0 1000 ?_); simp (config:={ maxSteps:=2000000 }) only [AS.start,↓X2,wA,seval,wE]
 refine X1 c1 rfl ?_
 simp only [↓X2,wA,seval,wE]
 refine X1 c2 rfl ?_
 simp only [↓X2,wA,seval,wE]
 refine X1 s1 rfl ?_
 by_cases h1:Q7 a a=0
 ·have f1:((Q7 a a).num.sign=0)=True:=eq_true ((Fm _).2 h1)
  simp only [f1,↓X2,wA,seval,wE]
  exact zret rfl rfl rfl (by rw [hR]; unfold K3; rw [if_pos (.inl h1)])
 have f1:((Q7 a a).num.sign=0)=False:=eq_false fun h=>h1 ((Fm _).1 h)
 simp only [f1,↓X2,wA,seval,wE]
 refine X1 s2 rfl ?_
 by_cases h2:Q7 b b=0
 ·have f2:((Q7 b b).num.sign=0)=True:=eq_true ((Fm _).2 h2)
  simp only [f1,f2,↓X2,wA,seval,wE]
  exact zret rfl rfl rfl (by rw [hR]; unfold K3; rw [if_pos (.inr h2)])
 have f2:((Q7 b b).num.sign=0)=False:=eq_false fun h=>h2 ((Fm _).1 h)
 simp only [f1,f2,↓X2,wA,seval,wE]
 refine X1 e1 rfl ?_
 have hno:¬ (Q7 a a=0∨Q7 b b=0):=fun h=>h.elim h1 h2
 by_cases h3:Q7 a a=Q7 b b
 rotate_left
 ·rw [decide_eq_false h3]
  simp only [↓X2,wA,seval,wE]
  exact zret rfl rfl rfl (by rw [hR]; unfold K3; rw [if_neg hno,if_neg h3])
 rw [decide_eq_true h3]
 have d1:=Ux (Q7 a b) (Q7 a a) (by unfold vm; omega) (by unfold vm; omega) h1
 have d2:=Ux (Qg a b) (Q7 a a) (by unfold vm; omega) (by unfold vm; omega) h1
 simp only [↓X2,wA,seval,wE]
 refine X1 c3 rfl ?_
 simp only [↓X2,wA,seval,wE]
 refine X1 d1 rfl ?_
 simp only [↓X2,wA,seval,wE]
 refine X1 c4 rfl ?_
 simp only [↓X2,wA,seval,wE]
 refine X1 d2 rfl ?_
 simp only [↓X2,wA,seval,wE]
 have hRe:R=(⟨Q7 a b / Q7 a a,Qg a b / Q7 a a⟩,0):=by rw [hR]; unfold K3; rw [if_neg hno,if_pos h3]
 subst hRe
 exact K8 rfl (Xm M6 rfl rfl rfl) (by unfold Jb; rfl) (XG (Xo _) (Qi (Qc (vC ⟨Q7 a b / Q7 a a,Qg a b / Q7 a a⟩)))) ((Xa _).sees _)
def Lq (t c:V2):List AV:=[.bool (decide (t.x.num<0)),X6 (X8 t.x.num.natAbs),.bool false,X6 (X8 (qd t.x)),.bool (decide (t.y.num<0)),X6 (X8 t.y.num.natAbs),.bool false,X6 (X8 (qd t.y)),
 .bool (decide (c.x.num<0)),X6 (X8 c.x.num.natAbs),.bool false,X6 (X8 (qd c.x)),.bool (decide (c.y.num<0)),X6 (X8 c.y.num.natAbs),.bool false,X6 (X8 (qd c.y))]
def gN (t c:V2):AV:=.agg (Lq t c)
theorem ZU (t c:V2):∀ x∈Lq t c,Settled x:=by simp [Lq,X4,X3]
theorem B7 (t c:V2):Settled (gN t c):=Qd (ZU t c)
def put (t c a:V2):V2:=(L4 t a).add c
def qK (t c:V2):AV:=.ptr 16 (Xn (Lq t c)) 0
theorem GG (t c:V2):Settled (qK t c):=QK fun j _=>Xg (ZU t c) j
theorem pj (t c a:V2):vb (put t c a)≤2*(vb t+vb a)+vb c+2:=by
 have:=Eu t a; have:=Dd (L4 t a) c
 unfold put; omega
theorem WB (t c a:V2) (ht:vb t≤100000) (hc:vb c≤100000) (ha:vb a≤100000):Fn Tryz.prog 206 [vA a,qK t c] (vA (put t c a)):=by
 have m:=Eu t a
 have c1:=In t a (by unfold vm; omega) (by unfold vm; omega)
 have c2:=Hd (L4 t a) c (by unfold vm; omega) (by unfold vm; omega)
 obtain ⟨R,hR⟩:∃ R,R=vA (put t c a):=⟨_,rfl⟩
 have sR:Settled R:=hR▸Xo _
 rw [← hR]
 refine Fq Tryz.call206 Tryz.func206 4 [] [] [] (by simp [Xo,GG]) (X0 1000 ?_)
 simp only [AS.start,qK,Lq,↓X2,wA,seval,wE]
 refine X1 c1 rfl ?_
 simp only [↓X2,wA,seval,wE]
 refine X1 c2 rfl ?_
 simp only [↓X2,wA,seval,wE]
 exact A4 rfl Ko rfl rfl rfl sR (hR.trans rfl)
theorem ee (t c:V2):Fn Tryz.prog 143 [gN t c] (.fn 206 [qK t c]):=by
 have hset:Settled (.fn 206 [qK t c]):=J7 (by simp [GG])
 refine Fq Tryz.call143 Tryz.func143 3 [] [] [] (by simp [B7]) (X0 1000 ?_)
 simp only [AS.start,gN,Lq,↓X2,wA,seval,wE]
 refine AH rfl (AZ ⟨Kw (.inl rfl) (by omega) fun j hj=>?_,trivial⟩)
 exact (Xg (ZU t c) j).sees _
theorem f9 (t c a:V2) (ht:vb t≤100000) (hc:vb c≤100000) (ha:vb a≤100000):Fn Tryz.prog 55 [gN t c,vA a] (vA (put t c a)):=by
 have c1:=ee t c
 have c2:=WB t c a ht hc ha
 obtain ⟨R,hR⟩:∃ R,R=vA (put t c a):=⟨_,rfl⟩
 have sR:Settled R:=hR▸Xo _
 rw [← hR]
 refine Fq Tryz.call55 Tryz.func55 5 [] [] [] (by simp [B7,Xo]) (X0 1000 ?_)
 simp only [AS.start,gN,Lq,↓X2,wA,seval,wE]
 refine X1 c1 rfl ?_
 simp only [↓X2,wA,seval,wE]
 refine X1 c2 rfl ?_
 simp only [↓X2,wA,seval,wE]
 exact A4 rfl Ko rfl rfl rfl sR (hR.trans rfl)
def As (t c:V2) (L:List V2):List V2:=L.map (put t c)
theorem WA (t c:V2) (L:List V2) (i:Nat) (hi:i<L.length):As t c (L.take i) ++ [put t c (L.getD i v0)]=As t c (L.take (i+1)):=by
 rw [AD _ v0 hi]; simp [As]
theorem ed (t c:V2) (L:List V2) (i:Nat) (hi:i≤L.length):(As t c (L.take i)).length=i:=by simp [As]; omega
theorem Rp {P:Program} {fn:Func} {str hcs:List Nat} {s:AS} {t id ver:Nat} (L:List V2) (hr:fn.results=#[.tmp t]) (hs:s.get t=.osl id ver 8 0 L.length) (ho:s.h[id]?=some (.row ver (L.length*8) (Xr vC 8 v0 L))):RetOk (J4 P fn str hcs (Xs L)) s:=by
 refine AH hr ?_
 rw [hs,X7]
 refine QD (.inl ho) (by omega) (fun h=>by rw [h]) fun j hj=>?_
 rw [Nat.zero_add]
 exact (Xg (by simp [vC,X4,X3]) _).sees _
theorem Et (a:V2):∀ j,j<8→((vC a).getD j .any).one=true:=fun j hj=>by
 match j,hj with
 | 0,_=>rfl
 | 1,_=>rfl
 | 2,_=>rfl
 | 3,_=>rfl
 | 4,_=>rfl
 | 5,_=>rfl
 | 6,_=>rfl
 | 7,_=>rfl
 | j+8,h=>omega
theorem eU (t c:V2) (L:List V2) (k:Nat) (h:Qt L k) (hk:k≤100000) (hl:L.length<1000000) (ht:vb t≤100000) (hc:vb c≤100000):Fn Tryz.prog 69 [gN t c,Xs L] (Xs (As t c L)):=by
 have bo:XS 2 (.row 0 16 (Xn (Lq t c)))=True:=eq_true (XM (ZU t c))
 have hvc:∀ a:V2,∀ x∈vC a,Settled x:=fun a=>by simp [vC,X4,X3]
 have bv:Kd 2 (Xs L)=True:=eq_true (X9 (Xk L))
 have br:∀ i l n,XS 2 (.row i n (Xr vC 8 v0 l))=True:=fun i l n=>eq_true fun j _=>X9 (Xg (hvc _) _)
 obtain ⟨R,hR⟩:∃ R,R=Xs (As t c L):=⟨_,rfl⟩
 rw [← hR]
 refine Fq Tryz.call69 Tryz.func69 8 [8,9,10] [] [] (by simp [B7,Xk]) (X0 1000 ?_)
 simp only [AS.start,gN,Lq,X7,↓X2,wA,seval,wE]
 refine Xf (fun i:Nat=>⟨8,[8,9,10],[.any,.any,.ref 0 0 0,.any,.any,.osl 1 i 8 0 i,.any,.any],[(8,Xs L),(9,I L.length),(10,I i)],[.row 0 16 (Xn (Lq t c)),.row i (i*8) (Xr vC 8 v0 (As t c (L.take i)))]⟩) (fun i=>i≤L.length) (fun i=>L.length - i) 0 (by omega)
  (Sub.trans (QL 5 8 (Xr vC 8 v0 []) rfl) (Xb rfl (by simp [AS.put,Xh,I]) (by simp [AS.put,Xi,Xp,X7,I]) (by simp [AS.put,Lq,X5,As]))) ?_
 intro i hi next
 have w1:=wj i (by omega)
 by_cases hi2:i<L.length
 ·have f1:((i:Int)<L.length)=True:=eq_true (by omega)
  have f2:(i<L.length)=True:=eq_true hi2
  have f3:(i*8+8≤L.length*8)=True:=eq_true (by omega)
  have v1:=vF L i
  have hb:=h i
  have c1:=f9 t c (L.getD i v0) ht hc (by omega)
  have hap:=Qq vC 8 v0 (As t c (L.take i)) (put t c (L.getD i v0)) (by omega)
  rw [WA _ _ _ _ hi2,ed _ _ _ _ hi] at hap
  refine X0 1000 ?_
  simp only [Lq,X7,w1,f1,f2,f3,v1,Int.toNat_natCast,↓X2,wA,seval,wE]
  refine X1 c1 rfl ?_
  simp only [w1,↓X2,wA,seval,wE]
  exact ⟨⟨Et _,by omega,by omega⟩,next (i+1) _ (by omega) (by omega) (XA (m:=2) (Nat.zero_le _) rfl (by simp [Xh]) (by simp [Xi,Xp,X7,I]) (by rw [← hap]; rfl) (by simp [Xz]) (by simp [Xz,bv]) (by simp [bo,br]))⟩
 obtain rfl:i=L.length:=by omega
 refine X0 1000 ?_
 simp only [Lq,X7,Int.lt_irrefl,Nat.lt_irrefl,↓X2,wA,seval,wE]
 rw [hR,List.take_length]
 have hlen:(As t c L).length=L.length:=by simp [As]
 exact Rp _ rfl (by rw [hlen]; rfl) (by rw [hlen]; rfl)
end
end Go.Ab.N
