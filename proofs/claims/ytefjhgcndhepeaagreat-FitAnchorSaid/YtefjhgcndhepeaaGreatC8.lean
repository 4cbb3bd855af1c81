/- Contracts of functions of these chapters, for every argument that fits, and what they need. -/
import Derived.Test.YtefjhgcndhepeaaGreatC7
import Derived.Test.YtefjhgcndhepeaaGreatC6
set_option linter.unusedSimpArgs false
set_option linter.unusedVariables false
open Nat renaming reducePow → Y1, reduceLT → Y2, reduceLeDiff → Y3, reduceEqDiff → Y4, reduceAdd → Y5, reduceMul → Y6, reduceSub → Y7, reduceBEq → Y8, reduceDiv → Y9, reduceMod → YA
namespace Go.Ab.N
open Go Go.RowKit Go.Proofs
noncomputable section
set_option maxRecDepth 10000
set_option maxHeartbeats 4000000
open Classical
def Vg (l:List Int) (j:Nat):Bool:=decide (Ab.atF l (15+j) 9=8)
def Uu (l:List Int) (j:Nat):Int:=(Ab.atF l (20+j) 5).tdiv 2
def Nv (l:List Int):Rat:=Rat.divInt (1+Ab.atF l 11 6) 2
def ef (l:List Int):Rat:=Nv l+Rat.divInt (Ab.atF l 12 4) 2
def pV (l:List Int):Rat:=Rat.divInt (Ab.atF l 10 3) 4
def rN (l:List Int):Rat:=Rat.divInt (20+Ab.atF l 13 100) 1
def rI (l:List Int):Rat:=Rat.divInt (Ab.atF l 14 5) 4
def Zz (l:List Int):PV:=⟨Ab.atF l 8 40,Ab.atF l 9 5,H9 l,(List.range (H9 l).length).map (Vg l),(List.range (H9 l).length).map (Uu l),RQ.of (pV l),RQ.of (Nv l),RQ.of (ef l),RQ.of (rN l),RQ.of (rI l)⟩
theorem eI {α:Type} (f:Nat→α) (d:α) (n j:Nat) (h:j<n):((List.range n).map f).getD j d=f j:=by
 rw [List.getD_eq_getElem?_getD,List.getElem?_map,List.getElem?_range h]; rfl
def Bx (l:List Int) (i:Nat) (j:Nat):AV:=.bool (if j<i then Vg l j else false)
def Bj (l:List Int) (i:Nat) (j:Nat):AV:=.int .i64 (if j<i then Uu l j else 0)
theorem RI (l:List Int) (i:Nat):Be (Bx l i) i (.bool (decide (Ab.atF l (15+(i:Int)) 9=8)))=Bx l (i+1):=by
 funext j
 unfold Be Bx
 by_cases h:j=i
 ·subst h; simp [Vg]
 ·rw [if_neg h]
  by_cases h2:j<i
  ·rw [if_pos h2,if_pos (by omega)]
  ·rw [if_neg h2,if_neg (by omega)]
theorem Po (l:List Int) (i:Nat):Be (Bj l i) i (.int .i64 ((Ab.atF l (20+(i:Int)) 5).tdiv 2))=Bj l (i+1):=by
 funext j
 unfold Be Bj
 by_cases h:j=i
 ·subst h; simp [Uu]
 ·rw [if_neg h]
  by_cases h2:j<i
  ·rw [if_pos h2,if_pos (by omega)]
  ·rw [if_neg h2,if_neg (by omega)]
def Vj:List AV:=[I 0,I 0,.sl 0 0 (fun _=>.any) true,.sl 0 0 (fun _=>.any) true,.sl 0 0 (fun _=>.any) true,.bool false,.sl 0 0 (fun _=>.any) true,.bool false,.sl 0 0 (fun _=>.any) true,.bool false,.sl 0 0 (fun _=>.any) true,.bool false,.sl 0 0 (fun _=>.any) true,
 .bool false,.sl 0 0 (fun _=>.any) true,.bool false,.sl 0 0 (fun _=>.any) true,.bool false,.sl 0 0 (fun _=>.any) true,.bool false,.sl 0 0 (fun _=>.any) true,.bool false,.sl 0 0 (fun _=>.any) true,.bool false,.sl 0 0 (fun _=>.any) true]
def pD (id home:Int) (n:Nat) (t l h s r:Rat):List AV:=[I id,I home,.osl 4 0 2 0 n,.osl 5 0 1 0 n,.osl 6 0 1 0 n,.bool (decide (t.num<0)),X6 (X9 t.num.natAbs),.bool false,X6 (X9 (qd t)),
 .bool (decide (l.num<0)),X6 (X9 l.num.natAbs),.bool false,X6 (X9 (qd l)),.bool (decide (h.num<0)),X6 (X9 h.num.natAbs),.bool false,X6 (X9 (qd h)),
 .bool (decide (s.num<0)),X6 (X9 s.num.natAbs),.bool false,X6 (X9 (qd s)),.bool (decide (r.num<0)),X6 (X9 r.num.natAbs),.bool false,X6 (X9 (qd r))]
theorem Mv (l:List Int) (hl:Bg l) (hl2:l.length<9223372036854775808):Fn Tryz.prog 14 [X6 l] (Jg (Zz l)):=by
 obtain ⟨V,hV⟩:∃ V,V=Jg (Zz l):=⟨_,rfl⟩
 have sV:Settled V:=hV▸XC _
 have hro:=(NJ l).1
 have cR:=Yn l hl hl2
 have c8:=Qf l 8 40 hl (by omega)
 have c9:=Qf l 9 5 hl (by omega)
 have c10:=Qf l 10 3 hl (by omega)
 have c11:=Qf l 11 6 hl (by omega)
 have c12:=Qf l 12 4 hl (by omega)
 have c13:=Qf l 13 100 hl (by omega)
 have c14:=Qf l 14 5 hl (by omega)
 have b10:=Xv l 10 3 (by omega)
 have b11:=Xv l 11 6 (by omega)
 have b12:=Xv l 12 4 (by omega)
 have b13:=Xv l 13 100 (by omega)
 have b14:=Xv l 14 5 (by omega)
 have w11:IntKind.i64.wrap (1+Ab.atF l 11 6)=1+Ab.atF l 11 6:=by rw [IntKind.wrap_i64]; omega
 have w13:IntKind.i64.wrap (20+Ab.atF l 13 100)=20+Ab.atF l 13 100:=by rw [IntKind.wrap_i64]; omega
 have q10:=QY (Ab.atF l 10 3) 4 ⟨by omega,by omega⟩ ⟨by omega,by omega⟩
 have q11:=QY (1+Ab.atF l 11 6) 2 ⟨by omega,by omega⟩ ⟨by omega,by omega⟩
 have q12:=QY (Ab.atF l 12 4) 2 ⟨by omega,by omega⟩ ⟨by omega,by omega⟩
 have q13:=QY (20+Ab.atF l 13 100) 1 ⟨by omega,by omega⟩ ⟨by omega,by omega⟩
 have q14:=QY (Ab.atF l 14 5) 4 ⟨by omega,by omega⟩ ⟨by omega,by omega⟩
 have m11:qb (Rat.divInt (1+Ab.atF l 11 6) 2)≤3:=K3 _ _ _ (by omega) (Qm ⟨by omega,by omega⟩) (Qm ⟨by omega,by omega⟩)
 have m12:qb (Rat.divInt (Ab.atF l 12 4) 2)≤3:=K3 _ _ _ (by omega) (Qm ⟨by omega,by omega⟩) (Qm ⟨by omega,by omega⟩)
 have qh:=JV (Rat.divInt (1+Ab.atF l 11 6) 2) (Rat.divInt (Ab.atF l 12 4) 2) (by unfold rm; omega) (by unfold rm; omega)
 have cP:=PI (Ab.atF l 8 40) (H9 l) (by omega)
 rw [← hV]
 unfold Zz Nv ef pV rN rI at hV
 unfold Nv at hV
 generalize Rat.divInt 1 1=u1 at *
 generalize Rat.divInt 100 1=u2 at *
 generalize Rat.divInt 1 2=u3 at *
 generalize (Rat.divInt (1+Ab.atF l 11 6) 2+Rat.divInt (Ab.atF l 12 4) 2)=Q12 at *
 generalize Rat.divInt (Ab.atF l 10 3) 4=Q10 at *
 generalize Rat.divInt (1+Ab.atF l 11 6) 2=Q11 at *
 generalize Rat.divInt (20+Ab.atF l 13 100) 1=Q13 at *
 generalize Rat.divInt (Ab.atF l 14 5) 4=Q14 at *
 generalize H9 l=R at *
 refine Fq Tryz.call14 Tryz.func14 5 [] [5,6001,11,12001,12,13001] [] (by simp [X5]) (X1 1000 ?_)
 simp only [AS.start,↓X2,wA,seval,wE]
 refine X0 c8 rfl ?_
 simp only [↓X2,wA,seval,wE]
 refine X0 cR rfl ?_
 simp only [↓X2,wA,seval,wE]
 refine Ko rfl (cP _) (QN (by simp) (by simp)) (fun id=>by cases id <;> simp) ⟨Weak.rfl' _,Weak.rfl' _,trivial⟩ ?_
 simp only [Tg,↓X2,wA,seval,wE]
 refine X0 c9 rfl ?_
 simp only [↓X2,wA,seval,wE]
 refine X0 c10 rfl ?_
 simp only [↓X2,wA,seval,wE]
 refine X0 q10 rfl ?_
 simp only [↓X2,wA,seval,wE]
 refine X0 c11 rfl ?_
 simp only [w11,↓X2,wA,seval,wE]
 refine X0 q11 rfl ?_
 simp only [↓X2,wA,seval,wE]
 refine X0 c12 rfl ?_
 simp only [↓X2,wA,seval,wE]
 refine X0 q12 rfl ?_
 simp only [↓X2,wA,seval,wE]
 refine X0 qh rfl ?_
 simp only [↓X2,wA,seval,wE]
 refine X0 c13 rfl ?_
 simp only [w13,↓X2,wA,seval,wE]
 refine X0 q13 rfl ?_
 simp only [↓X2,wA,seval,wE]
 refine X0 c14 rfl ?_
 simp only [↓X2,wA,seval,wE]
 refine X0 q14 rfl ?_
 simp only [↓X2,wA,seval,wE]
 refine Xf (fun i:Nat=>⟨5,[],[X6 l,.any,.ref 0 0 0,.ref 7 0 0,I i],[],[.row 0 25 (Xo Vj),.dead,.dead,.dead,.row 0 (R.length*2) (Xs K1 2 (0,0) R),.row 0 R.length (Bx l i),.row 0 R.length (Bj l i),.row 0 25 (Xo (pD (Ab.atF l 8 40) (Ab.atF l 9 5) R.length Q10 Q11 Q12 Q13 Q14))]⟩) (fun i=>i≤R.length) (fun i=>R.length - i) 0 (by omega)
  (Sub.trans (QU 5 R.length (Bx l 0) rfl (Nat.le_refl _) (fun j _=>by simp [Bx])) (Sub.trans (QU 6 R.length (Bj l 0) rfl (Nat.le_refl _) (fun j _=>by simp [Bj])) (Xb rfl (by simp [Xi,X4,I]) (by simp [Xj]) (by simp [Vj,pD,X4,I])))) ?_
 intro i hi next
 have w1:=wj i (by omega)
 by_cases hi2:i<R.length
 ·have f1:((i:Int)<R.length)=True:=eq_true (by omega)
  have f2:(i<R.length)=True:=eq_true hi2
  have w15:IntKind.i64.wrap (15+(i:Int))=15+(i:Int):=by rw [IntKind.wrap_i64]; omega
  have w20:IntKind.i64.wrap (20+(i:Int))=20+(i:Int):=by rw [IntKind.wrap_i64]; omega
  have c15:=Qf l (15+(i:Int)) 9 hl (by omega)
  have c20:=Qf l (20+(i:Int)) 5 hl (by omega)
  have b20:=Xv l (20+(i:Int)) 5 (by omega)
  have e20:(Ab.atF l (20+(i:Int)) 5).tdiv 2=Ab.atF l (20+(i:Int)) 5 / 2:=Int.tdiv_eq_ediv_of_nonneg b20.1
  have wq:IntKind.i64.wrap ((Ab.atF l (20+(i:Int)) 5).tdiv 2)=(Ab.atF l (20+(i:Int)) 5).tdiv 2:=by rw [IntKind.wrap_i64]; omega
  have hU:=RI l i
  have hM:=Po l i
  refine X1 1000 ?_
  simp only [pD,w1,w15,w20,f1,f2,Int.toNat_natCast,↓X2,wA,seval,wE]
  refine X0 c15 rfl ?_
  simp only [pD,w1,w15,w20,f1,f2,hU,Int.toNat_natCast,↓X2,wA,seval,wE]
  refine ⟨by omega,X0 c20 rfl ?_⟩
  simp only [pD,w1,w15,w20,f1,f2,wq,hM,Int.toNat_natCast,Int.reduceEq,↓X2,wA,seval,wE]
  exact ⟨by omega,next (i+1) _ (by omega) (by omega) (Xb rfl (by simp [Xi,X4,I]) (by simp [Xj]) (by simp [Vj,pD,X4,I]))⟩
 obtain rfl:i=R.length:=by omega
 refine X1 1000 ?_
 simp only [Vj,pD,Int.lt_irrefl,Nat.lt_irrefl,↓X2,wA,seval,wE]
 subst hV
 refine Fy rfl Fb rfl rfl rfl ?_
 have h1:∀ H:List AO,H[4]?=some (.row 0 (R.length*2) (Xs K1 2 (0,0) R))→Jt H (.osl 4 0 2 0 R.length) (CO R):=fun H ho=>by
  rw [Xh]
  refine QI (.inl ho) (by omega) (fun h=>by rw [h]) fun j hj=>?_
  rw [Nat.zero_add]
  exact (Xg (Ke _) _).sees _
 have h2:∀ H:List AO,H[5]?=some (.row 0 R.length (Bx l R.length))→Jt H (.osl 5 0 1 0 R.length) (Zt ((List.range R.length).map (Vg l))):=fun H ho=>by
  rw [Xr,List.length_map,List.length_range]
  refine QI (.inl ho) (by omega) (fun h=>by rw [h]) fun j hj=>?_
  rw [Nat.zero_add,JX,eI _ _ _ _ hj]
  unfold Bx
  rw [if_pos hj]
  exact (X3 _).sees _
 have h3:∀ H:List AO,H[6]?=some (.row 0 R.length (Bj l R.length))→Jt H (.osl 6 0 1 0 R.length) (X6 ((List.range R.length).map (Uu l))):=fun H ho=>by
  rw [X4,List.length_map,List.length_range]
  refine QI (.inl ho) (by omega) (fun h=>by rw [h]) fun j hj=>?_
  rw [Nat.zero_add,JX,eI _ _ _ _ hj]
  unfold Bj
  rw [if_pos hj]
  exact (Xa _).sees _
 exact B5 ⟨(Xa _).sees _,(Xa _).sees _,h1 _ rfl,h2 _ rfl,h3 _ rfl,(X3 _).sees _,(X5 _).sees _,(X3 _).sees _,(X5 _).sees _,(X3 _).sees _,(X5 _).sees _,(X3 _).sees _,(X5 _).sees _,(X3 _).sees _,(X5 _).sees _,(X3 _).sees _,(X5 _).sees _,(X3 _).sees _,(X5 _).sees _,(X3 _).sees _,(X5 _).sees _,(X3 _).sees _,(X5 _).sees _,(X3 _).sees _,(X5 _).sees _,trivial⟩
theorem MD (l:List Int):(Zz l).rim.length=(H9 l).length∧(Zz l).worn.length=(H9 l).length∧(Zz l).marks.length=(H9 l).length:=⟨rfl,by simp [Zz],by simp [Zz]⟩
theorem Fo (l:List Int):(Zz l).small:=by
 have hro:=(NJ l).1
 have b10:=Xv l 10 3 (by omega)
 have b11:=Xv l 11 6 (by omega)
 have b12:=Xv l 12 4 (by omega)
 have b13:=Xv l 13 100 (by omega)
 have b14:=Xv l 14 5 (by omega)
 have hl:=MD l
 have z:=fun (n m:Int) (h1:Kg n) (h2:Kg m)=>gu n m h1 h2
 have q1:=AQ (1+Ab.atF l 11 6) 2 ⟨by omega,by omega⟩ ⟨by omega,by omega⟩
 have q2:=AQ (Ab.atF l 12 4) 2 ⟨by omega,by omega⟩ ⟨by omega,by omega⟩
 have q3:=K2 (Rat.divInt (1+Ab.atF l 11 6) 2) (Rat.divInt (Ab.atF l 12 4) 2)
 have q4:=RQ.of_sz (Rat.divInt (1+Ab.atF l 11 6) 2+Rat.divInt (Ab.atF l 12 4) 2)
 refine ⟨by rw [hl.1]; omega,by rw [hl.2.1]; omega,by rw [hl.2.2]; omega,?_,?_,?_,?_,?_⟩
 ·exact Nat.le_trans (z (Ab.atF l 10 3) 4 ⟨by omega,by omega⟩ ⟨by omega,by omega⟩) (by omega)
 ·exact Nat.le_trans (z (1+Ab.atF l 11 6) 2 ⟨by omega,by omega⟩ ⟨by omega,by omega⟩) (by omega)
 ·show (RQ.of (Rat.divInt (1+Ab.atF l 11 6) 2+Rat.divInt (Ab.atF l 12 4) 2)).sz≤_
  omega
 ·exact Nat.le_trans (z (20+Ab.atF l 13 100) 1 ⟨by omega,by omega⟩ ⟨by omega,by omega⟩) (by omega)
 ·exact Nat.le_trans (z (Ab.atF l 14 5) 4 ⟨by omega,by omega⟩ ⟨by omega,by omega⟩) (by omega)
theorem Fi {a:Rat} (h:qb a≤rm):(RQ.of a).sz<4611686018427387904:=Nat.lt_of_le_of_lt (RQ.of_sz a) (by unfold rm at h; omega)
theorem Gk (a b:Rat) (ha:qb a≤rm) (hb:qb b≤rm):Fn Tryz.prog 29 [qA a,qA b] (.bool (decide (a=b))):=by
 have:=gg (RQ.of a) (RQ.of b) (Fi ha) (Fi hb)
 rwa [decide_eq_decide.2 (show RQ.of a=RQ.of b↔a=b from ⟨RQ.of_inj,fun h=>by rw [h]⟩)] at this
theorem Ay (a b:Rat) (ha:qb a≤rm) (hb:qb b≤rm):Fn Tryz.prog 86 [qA a,qA b] (.bool (decide (a=b))):=by
 have:=Yu (RQ.of a) (RQ.of b) (Fi ha) (Fi hb)
 rwa [decide_eq_decide.2 (show RQ.of a=RQ.of b↔a=b from ⟨RQ.of_inj,fun h=>by rw [h]⟩)] at this
theorem UU (a:Rat) (ha:qb a≤rm):Fn Tryz.prog 79 [qA a] (.bool true):=by
 have:=MI (RQ.of a) (Nat.lt_of_le_of_lt (RQ.of_sz a) (by unfold rm at ha; omega))
 rwa [decide_eq_true ⟨a,rfl⟩] at this
theorem IG (a:Rat) (ha:qb a≤rm):Fn Tryz.prog 83 [qA a] (.bool true):=by
 have:=Fw (RQ.of a) (Nat.lt_of_le_of_lt (RQ.of_sz a) (by unfold rm at ha; omega))
 rwa [decide_eq_true ⟨a,rfl⟩] at this
def Ha (t a:V2):V2:=⟨t.x*a.x - t.y*a.y,t.y*a.x+t.x*a.y⟩
def V2.scale (a:V2) (k:Rat):V2:=⟨a.x*k,a.y*k⟩
def CD (t:V2):Prop:=t.x*t.x+t.y*t.y=1
def Z6:V2:=⟨1,0⟩
theorem Du (t a:V2):vb (Ha t a)≤2*(vb t+vb a)+1:=by
 have:=Qs t.x a.x; have:=Qs t.y a.y; have:=Qs t.y a.x; have:=Qs t.x a.y
 have:=Qy t; have:=Qo t; have:=Qy a; have:=Qo a
 have:=EF (t.x*a.x) (t.y*a.y); have:=K2 (t.y*a.x) (t.x*a.y)
 unfold Ha
 show max (qb (t.x*a.x - t.y*a.y)) (qb (t.y*a.x+t.x*a.y))≤_
 omega
theorem gM (a:V2) (k:Rat):vb (a.scale k)≤vb a+qb k:=by
 have:=Qs a.x k; have:=Qs a.y k; have:=Qy a; have:=Qo a
 unfold V2.scale
 show max (qb (a.x*k)) (qb (a.y*k))≤_
 omega
theorem BP:Rat.divInt 1 1=1:=by decide +kernel
theorem V2.ext' {a b:V2}:a=b↔a.x=b.x∧a.y=b.y:=by
 cases a; cases b
 simp
theorem NC (a b:V2) (ha:vb a≤vm) (hb:vb b≤vm):Fn Tryz.prog 42 [vA a,vA b] (.bool (decide (a=b))):=by
 unfold vm at ha hb
 have:=Qy a; have:=Qy b; have:=Qo a; have:=Qo b
 have c1:=Gk a.x b.x (by unfold rm; omega) (by unfold rm; omega)
 have c2:=Gk a.y b.y (by unfold rm; omega) (by unfold rm; omega)
 obtain ⟨V,hV⟩:∃ V,V=decide (a=b):=⟨_,rfl⟩
 rw [← hV]
 refine Fq Tryz.call42 Tryz.func42 5 [] [] [] (by simp [wS]) (X1 1000 ?_); simp (config:={ maxSteps:=2000000 }) only [AS.start,↓X2,wA,seval,wE]
 refine X0 c1 rfl ?_
 by_cases h:a.x=b.x
 ·rw [decide_eq_true h]
  simp only [↓X2,wA,seval,wE]
  refine X0 c2 rfl ?_
  simp only [↓X2,wA,seval,wE]
  exact Xt (v:=.bool (decide (a.y=b.y))) rfl rfl (X3 _) (by rw [hV]; exact congrArg AV.bool (decide_eq_decide.2 (show a.y=b.y↔a=b from ⟨fun e=>V2.ext'.2 ⟨h,e⟩,fun e=>(V2.ext'.1 e).2⟩)))
 ·rw [decide_eq_false h]
  simp only [↓X2,wA,seval,wE]
  exact Xt (v:=.bool false) rfl rfl (X3 _) (by rw [hV,decide_eq_false (p:=a=b) fun e=>h (by rw [e])])
theorem Bl (a b:V2) (ha:vb a≤vm) (hb:vb b≤vm):Fn Tryz.prog 67 [vA a,vA b] (.bool (decide (a=b))):=by
 unfold vm at ha hb
 have:=Qy a; have:=Qy b; have:=Qo a; have:=Qo b
 have c1:=Gk a.x b.x (by unfold rm; omega) (by unfold rm; omega)
 have c2:=Gk a.y b.y (by unfold rm; omega) (by unfold rm; omega)
 obtain ⟨V,hV⟩:∃ V,V=decide (a=b):=⟨_,rfl⟩
 rw [← hV]
 refine Fq Tryz.call67 Tryz.func67 5 [] [] [] (by simp [wS]) (X1 1000 ?_); simp (config:={ maxSteps:=2000000 }) only [AS.start,↓X2,wA,seval,wE]
 refine X0 c1 rfl ?_
 by_cases h:a.x=b.x
 ·rw [decide_eq_true h]
  simp only [↓X2,wA,seval,wE]
  refine X0 c2 rfl ?_
  simp only [↓X2,wA,seval,wE]
  exact Xt (v:=.bool (decide (a.y=b.y))) rfl rfl (X3 _) (by rw [hV]; exact congrArg AV.bool (decide_eq_decide.2 (show a.y=b.y↔a=b from ⟨fun e=>V2.ext'.2 ⟨h,e⟩,fun e=>(V2.ext'.1 e).2⟩)))
 ·rw [decide_eq_false h]
  simp only [↓X2,wA,seval,wE]
  exact Xt (v:=.bool false) rfl rfl (X3 _) (by rw [hV,decide_eq_false (p:=a=b) fun e=>h (by rw [e])])
theorem NA (a b:V2) (ha:vb a≤vm) (hb:vb b≤vm):Fn Tryz.prog 59 [vA a,vA b] (vA (a.add b)):=by
 unfold vm at ha hb
 obtain ⟨R,hR⟩:∃ R,R=vA (a.add b):=⟨_,rfl⟩
 have sR:Settled R:=hR▸Xm _
 have:=Qy a; have:=Qy b; have:=Qo a; have:=Qo b
 have c1:=As a.x b.x (by unfold rm; omega) (by unfold rm; omega)
 have c2:=As a.y b.y (by unfold rm; omega) (by unfold rm; omega)
 rw [← hR]
 refine Fq Tryz.call59 Tryz.func59 5 [] [] [] (by simp [wS]) (X1 1000 ?_); simp (config:={ maxSteps:=2000000 }) only [AS.start,↓X2,wA,seval,wE]
 refine X0 c1 rfl ?_
 simp only [↓X2,wA,seval,wE]
 refine X0 c2 rfl ?_
 simp only [↓X2,wA,seval,wE]
 exact ZD rfl JD rfl rfl rfl sR (hR.trans rfl)
theorem MB (a:V2) (k:Rat) (ha:vb a≤vm) (hk:qb k≤vm):Fn Tryz.prog 58 [vA a,qA k] (vA (a.scale k)):=by
 unfold vm at ha hk
 obtain ⟨R,hR⟩:∃ R,R=vA (a.scale k):=⟨_,rfl⟩
 have sR:Settled R:=hR▸Xm _
 have:=Qy a; have:=Qo a
 have c1:=Kk a.x k (by unfold rm; omega) (by unfold rm; omega)
 have c2:=Kk a.y k (by unfold rm; omega) (by unfold rm; omega)
 rw [← hR]
 refine Fq Tryz.call58 Tryz.func58 5 [] [] [] (by simp [wS]) (X1 1000 ?_); simp (config:={ maxSteps:=2000000 }) only [AS.start,↓X2,wA,seval,wE]
 refine X0 c1 rfl ?_
 simp only [↓X2,wA,seval,wE]
 refine X0 c2 rfl ?_
 simp only [↓X2,wA,seval,wE]
 exact ZD rfl JD rfl rfl rfl sR (hR.trans rfl)
theorem Ye:Fn Tryz.prog 203 [] (vA Z6):=by
 have c1:=EH 1 1 ⟨by omega,by omega⟩ ⟨by omega,by omega⟩
 rw [BP] at c1
 obtain ⟨R,hR⟩:∃ R,R=vA Z6:=⟨_,rfl⟩
 have sR:Settled R:=hR▸Xm _
 rw [← hR]
 refine Fq Tryz.call203 Tryz.func203 1 [] [] [] (by simp [wS]) (X1 1000 ?_); simp (config:={ maxSteps:=2000000 }) only [AS.start,↓X2,wA,seval,wE]
 refine X0 c1 rfl ?_
 simp only [↓X2,wA,seval,wE]
 refine Fy rfl D9 rfl rfl rfl ?_
 rw [hR]
 exact B5 ⟨(X3 _).sees _,(X5 _).sees _,(X3 _).sees _,(X5 _).sees _,(X3 _).sees _,Xu (X5 _) (Qz (by show X9 (0:Rat).num.natAbs=[]; rw [Rat.zero_num]; simp [XX])),(X3 _).sees _,Xu (X5 _) (Qz (Dh rfl)),trivial⟩
theorem AU (a b:V2) (ha:vb a≤vm) (hb:vb b≤vm):Fn Tryz.prog 48 [vA a,vA b] (.bool (decide (a=b))):=by
 unfold vm at ha hb
 have:=Qy a; have:=Qy b; have:=Qo a; have:=Qo b
 have c1:=Ay a.x b.x (by unfold rm; omega) (by unfold rm; omega)
 have c2:=Ay a.y b.y (by unfold rm; omega) (by unfold rm; omega)
 obtain ⟨V,hV⟩:∃ V,V=decide (a=b):=⟨_,rfl⟩
 rw [← hV]
 refine Fq Tryz.call48 Tryz.func48 5 [] [] [] (by simp [wS]) (X1 1000 ?_); simp (config:={ maxSteps:=2000000 }) only [AS.start,↓X2,wA,seval,wE]
 refine X0 c1 rfl ?_
 by_cases h:a.x=b.x
 ·rw [decide_eq_true h]
  simp only [↓X2,wA,seval,wE]
  refine X0 c2 rfl ?_
  simp only [↓X2,wA,seval,wE]
  exact Xt (v:=.bool (decide (a.y=b.y))) rfl rfl (X3 _) (by rw [hV]; exact congrArg AV.bool (decide_eq_decide.2 (show a.y=b.y↔a=b from ⟨fun e=>V2.ext'.2 ⟨h,e⟩,fun e=>(V2.ext'.1 e).2⟩)))
 ·rw [decide_eq_false h]
  simp only [↓X2,wA,seval,wE]
  exact Xt (v:=.bool false) rfl rfl (X3 _) (by rw [hV,decide_eq_false (p:=a=b) fun e=>h (by rw [e])])
theorem AW (a b:V2) (ha:vb a≤vm) (hb:vb b≤vm):Fn Tryz.prog 41 [vA a,vA b] (.bool (decide (a=b))):=by
 unfold vm at ha hb
 have:=Qy a; have:=Qy b; have:=Qo a; have:=Qo b
 have c1:=Ay a.x b.x (by unfold rm; omega) (by unfold rm; omega)
 have c2:=Ay a.y b.y (by unfold rm; omega) (by unfold rm; omega)
 obtain ⟨V,hV⟩:∃ V,V=decide (a=b):=⟨_,rfl⟩
 rw [← hV]
 refine Fq Tryz.call41 Tryz.func41 5 [] [] [] (by simp [wS]) (X1 1000 ?_); simp (config:={ maxSteps:=2000000 }) only [AS.start,↓X2,wA,seval,wE]
 refine X0 c1 rfl ?_
 by_cases h:a.x=b.x
 ·rw [decide_eq_true h]
  simp only [↓X2,wA,seval,wE]
  refine X0 c2 rfl ?_
  simp only [↓X2,wA,seval,wE]
  exact Xt (v:=.bool (decide (a.y=b.y))) rfl rfl (X3 _) (by rw [hV]; exact congrArg AV.bool (decide_eq_decide.2 (show a.y=b.y↔a=b from ⟨fun e=>V2.ext'.2 ⟨h,e⟩,fun e=>(V2.ext'.1 e).2⟩)))
 ·rw [decide_eq_false h]
  simp only [↓X2,wA,seval,wE]
  exact Xt (v:=.bool false) rfl rfl (X3 _) (by rw [hV,decide_eq_false (p:=a=b) fun e=>h (by rw [e])])
theorem EG (a b:V2) (ha:vb a≤vm) (hb:vb b≤vm):Fn Tryz.prog 111 [vA a,vA b] (vA (a.add b)):=by
 unfold vm at ha hb
 obtain ⟨R,hR⟩:∃ R,R=vA (a.add b):=⟨_,rfl⟩
 have sR:Settled R:=hR▸Xm _
 have:=Qy a; have:=Qy b; have:=Qo a; have:=Qo b
 have c1:=JV a.x b.x (by unfold rm; omega) (by unfold rm; omega)
 have c2:=JV a.y b.y (by unfold rm; omega) (by unfold rm; omega)
 rw [← hR]
 refine Fq Tryz.call111 Tryz.func111 5 [] [] [] (by simp [wS]) (X1 1000 ?_); simp (config:={ maxSteps:=2000000 }) only [AS.start,↓X2,wA,seval,wE]
 refine X0 c1 rfl ?_
 simp only [↓X2,wA,seval,wE]
 refine X0 c2 rfl ?_
 simp only [↓X2,wA,seval,wE]
 exact ZD rfl JD rfl rfl rfl sR (hR.trans rfl)
theorem ED (t a:V2) (ht:vb t≤vm) (ha:vb a≤vm):Fn Tryz.prog 43 [vA t,vA a] (vA (Ha t a)):=by
 unfold vm at ht ha
 obtain ⟨R,hR⟩:∃ R,R=vA (Ha t a):=⟨_,rfl⟩
 have sR:Settled R:=hR▸Xm _
 have:=Qy t; have:=Qo t; have:=Qy a; have:=Qo a
 have m1:=Qs t.x a.x; have m2:=Qs t.y a.y; have m3:=Qs t.y a.x; have m4:=Qs t.x a.y
 have c1:=Kk t.x a.x (by unfold rm; omega) (by unfold rm; omega)
 have c2:=Kk t.y a.y (by unfold rm; omega) (by unfold rm; omega)
 have c3:=Cx (t.y*a.y)
 have c4:=Fp (t.x*a.x) (-(t.y*a.y)) (by omega) (by rw [BD]; omega)
 rw [← Rat.sub_eq_add_neg] at c4
 have c5:=Kk t.y a.x (by unfold rm; omega) (by unfold rm; omega)
 have c6:=Kk t.x a.y (by unfold rm; omega) (by unfold rm; omega)
 have c7:=Fp (t.y*a.x) (t.x*a.y) (by omega) (by omega)
 rw [← hR]
 refine Fq Tryz.call43 Tryz.func43 5 [] [] [] (by simp [wS]) (X1 1000 ?_); simp (config:={ maxSteps:=2000000 }) only [AS.start,↓X2,wA,seval,wE]
 refine X0 c1 rfl ?_
 simp only [↓X2,wA,seval,wE]
 refine X0 c2 rfl ?_
 simp only [↓X2,wA,seval,wE]
 refine X0 c3 rfl ?_
 simp only [↓X2,wA,seval,wE]
 refine X0 c4 rfl ?_
 simp only [↓X2,wA,seval,wE]
 refine X0 c5 rfl ?_
 simp only [↓X2,wA,seval,wE]
 refine X0 c6 rfl ?_
 simp only [↓X2,wA,seval,wE]
 refine X0 c7 rfl ?_
 simp only [↓X2,wA,seval,wE]
 exact ZD rfl JD rfl rfl rfl sR (hR.trans rfl)
theorem E9 (t a:V2) (ht:vb t≤vm) (ha:vb a≤vm):Fn Tryz.prog 105 [vA t,vA a] (vA (Ha t a)):=by
 unfold vm at ht ha
 obtain ⟨R,hR⟩:∃ R,R=vA (Ha t a):=⟨_,rfl⟩
 have sR:Settled R:=hR▸Xm _
 have:=Qy t; have:=Qo t; have:=Qy a; have:=Qo a
 have m1:=Qs t.x a.x; have m2:=Qs t.y a.y; have m3:=Qs t.y a.x; have m4:=Qs t.x a.y
 have c1:=Jo t.x a.x (by unfold rm; omega) (by unfold rm; omega)
 have c2:=Jo t.y a.y (by unfold rm; omega) (by unfold rm; omega)
 have c4:=AX (t.x*a.x) (t.y*a.y) (by unfold rm; omega) (by unfold rm; omega)
 have c5:=Jo t.y a.x (by unfold rm; omega) (by unfold rm; omega)
 have c6:=Jo t.x a.y (by unfold rm; omega) (by unfold rm; omega)
 have c7:=JV (t.y*a.x) (t.x*a.y) (by unfold rm; omega) (by unfold rm; omega)
 rw [← hR]
 refine Fq Tryz.call105 Tryz.func105 7 [] [1,20000002,20000003,2,30000002,30000003] [] (by simp [wS]) (X1 1000 ?_); simp (config:={ maxSteps:=2000000 }) only [AS.start,↓X2,wA,seval,wE]
 refine X0 c1 rfl ?_
 simp only [↓X2,wA,seval,wE]
 refine X0 c2 rfl ?_
 simp only [↓X2,wA,seval,wE]
 refine X0 c4 rfl ?_
 simp only [↓X2,wA,seval,wE]
 refine X0 c5 rfl ?_
 simp only [↓X2,wA,seval,wE]
 refine X0 c6 rfl ?_
 simp only [↓X2,wA,seval,wE]
 refine X0 c7 rfl ?_
 simp only [↓X2,wA,seval,wE]
 exact ZD rfl JD rfl rfl rfl sR (hR.trans rfl)
theorem fM (t:V2) (ht:vb t≤vm):Fn Tryz.prog 123 [vA t] (.bool (decide (CD t))):=by
 unfold vm at ht
 have:=Qy t; have:=Qo t
 have m1:=Qs t.x t.x; have m2:=Qs t.y t.y; have m3:=K2 (t.x*t.x) (t.y*t.y)
 have v1:=UU t.x (by unfold rm; omega)
 have v2:=UU t.y (by unfold rm; omega)
 have c1:=Kk t.x t.x (by unfold rm; omega) (by unfold rm; omega)
 have c2:=Kk t.y t.y (by unfold rm; omega) (by unfold rm; omega)
 have c3:=Fp (t.x*t.x) (t.y*t.y) (by omega) (by omega)
 have c4:=EH 1 1 ⟨by omega,by omega⟩ ⟨by omega,by omega⟩
 rw [BP] at c4
 have c5:=Gk (t.x*t.x+t.y*t.y) 1 (by unfold rm; omega) (by have:=(AQ 1 1 ⟨by omega,by omega⟩ ⟨by omega,by omega⟩); rw [BP] at this; unfold rm; omega)
 rw [show decide (t.x*t.x+t.y*t.y=1)=decide (CD t) from decide_eq_decide.2 Iff.rfl] at c5
 refine Fq Tryz.call123 Tryz.func123 3 [] [] [] (by simp [wS]) (X1 1000 ?_); simp (config:={ maxSteps:=2000000 }) only [AS.start,↓X2,wA,seval,wE]
 refine X0 v1 rfl ?_
 simp only [↓X2,wA,seval,wE]
 refine X0 v2 rfl ?_
 simp only [↓X2,wA,seval,wE]
 refine X0 c1 rfl ?_
 simp only [↓X2,wA,seval,wE]
 refine X0 c2 rfl ?_
 simp only [↓X2,wA,seval,wE]
 refine X0 c3 rfl ?_
 simp only [↓X2,wA,seval,wE]
 refine X0 c4 rfl ?_
 simp only [↓X2,wA,seval,wE]
 refine X0 c5 rfl ?_
 simp only [↓X2,wA,seval,wE]
 exact Xt rfl rfl (X3 _) rfl
theorem PS (t:V2) (ht:vb t≤vm):Fn Tryz.prog 128 [vA t] (.bool (decide (CD t))):=by
 unfold vm at ht
 have:=Qy t; have:=Qo t
 have m1:=Qs t.x t.x; have m2:=Qs t.y t.y; have m3:=K2 (t.x*t.x) (t.y*t.y)
 have v1:=IG t.x (by unfold rm; omega)
 have v2:=IG t.y (by unfold rm; omega)
 have c1:=Jo t.x t.x (by unfold rm; omega) (by unfold rm; omega)
 have c2:=Jo t.y t.y (by unfold rm; omega) (by unfold rm; omega)
 have c3:=JV (t.x*t.x) (t.y*t.y) (by unfold rm; omega) (by unfold rm; omega)
 have c4:=QY 1 1 ⟨by omega,by omega⟩ ⟨by omega,by omega⟩
 rw [BP] at c4
 have c5:=Ay (t.x*t.x+t.y*t.y) 1 (by unfold rm; omega) (by have:=(AQ 1 1 ⟨by omega,by omega⟩ ⟨by omega,by omega⟩); rw [BP] at this; unfold rm; omega)
 rw [show decide (t.x*t.x+t.y*t.y=1)=decide (CD t) from decide_eq_decide.2 Iff.rfl] at c5
 refine Fq Tryz.call128 Tryz.func128 4 [] [3,40000001] [] (by simp [wS]) (X1 1000 ?_); simp (config:={ maxSteps:=2000000 }) only [AS.start,↓X2,wA,seval,wE]
 refine X0 v1 rfl ?_
 simp only [↓X2,wA,seval,wE]
 refine X0 v2 rfl ?_
 simp only [↓X2,wA,seval,wE]
 refine X0 c1 rfl ?_
 simp only [↓X2,wA,seval,wE]
 refine X0 c2 rfl ?_
 simp only [↓X2,wA,seval,wE]
 refine X0 c3 rfl ?_
 simp only [↓X2,wA,seval,wE]
 refine X0 c4 rfl ?_
 simp only [↓X2,wA,seval,wE]
 refine X0 c5 rfl ?_
 simp only [↓X2,wA,seval,wE]
 exact Xt rfl rfl (X3 _) rfl
theorem fN (b:Rat):qb b⁻¹≤qb b:=by
 rw [Rat.inv_def]
 exact K3 _ _ _ (Tk b) (JF b) (Jx b)
theorem fO (a b:Rat):qb (a / b)≤qb a+qb b:=by
 rw [Rat.div_def]
 have:=Qs a b⁻¹; have:=fN b
 omega
theorem UR (a b:Rat) (ha:qb a≤vm) (hb:qb b≤vm) (h0:b≠0):Fn Tryz.prog 192 [qA a,qA b] (qA (a / b)):=by
 unfold vm at ha hb
 have q1:=fN b
 have hn:b.num≠0:=fun h=>h0 (Rat.num_eq_zero.1 h)
 have c1:=Ci b
 have c2:=DE b.den b.num hn (by
  have:=b.reduced
  rw [Int.gcd_comm]
  exact this)
 rw [← Rat.inv_def] at c2
 have c3:=Kk a b⁻¹ (by unfold rm; omega) (by unfold rm; omega)
 rw [← Rat.div_def] at c3
 obtain ⟨R,hR⟩:∃ R,R=qA (a / b):=⟨_,rfl⟩
 have sR:Settled R:=hR▸Xc _
 have f1:((X9 b.num.natAbs).length=0)=False:=eq_false fun h=>hn (by have:=digs_len_zero.1 h; omega)
 have f2:(((X9 b.num.natAbs).length:Int)=0)=False:=eq_false fun h=>hn (by have:=digs_len_zero.1 (show (X9 b.num.natAbs).length=0 by omega); omega)
 rw [← hR] at c3 ⊢
 refine Fq Tryz.call192 Tryz.func192 5 [] [] [] (by simp [wS]) (X1 1000 ?_); simp (config:={ maxSteps:=2000000 }) only [AS.start,↓X2,wA,seval,wE]
 simp only [f1,f2,↓X2,wA,seval,wE]
 refine X0 c1 rfl ?_
 simp only [↓X2,wA,seval,wE]
 refine X0 c2 rfl ?_
 simp only [↓X2,wA,seval,wE]
 refine X0 c3 rfl ?_
 simp only [hR,↓X2,wA,seval,wE]
 exact JA rfl Qc rfl rfl rfl sR (hR.trans rfl)
theorem pJ (a b:Rat):Rat.divInt (a.num*b.den) (a.den*b.num)=a / b:=by
 rw [← Rat.divInt_mul_divInt,Rat.div_def,Rat.inv_def,Rat.num_divInt_den]
theorem IF (a b:Rat) (ha:qb a≤vm) (hb:qb b≤vm):Fn Tryz.prog 194 [qA a,qA b] (qA (a / b)):=by
 unfold vm at ha hb
 have a1:=Jx a; have a2:=JF a; have b1:=Jx b; have b2:=JF b
 have m1:=Z5 a.num b.den (by unfold room; omega) (by unfold room; omega)
 have m3:=Z5 a.den b.num (by unfold room; omega) (by unfold room; omega)
 have n1:=JR a.num b.den
 have n3:=JR a.den b.num
 have k:=DF (a.num*b.den) (a.den*b.num) (by omega) (by omega)
 rw [pJ] at k
 have d1:=Zm a
 have d2:=Zm b
 obtain ⟨R,hR⟩:∃ R,R=qA (a / b):=⟨_,rfl⟩
 have sR:Settled R:=hR▸Xc _
 rw [← hR] at k ⊢
 refine Fq Tryz.call194 Tryz.func194 5 [] [1,20000002,20000003] [] (by simp [wS]) (X1 1000 ?_); simp (config:={ maxSteps:=2000000 }) only [AS.start,↓X2,wA,seval,wE]
 refine X0 d2 rfl ?_
 simp only [↓X2,wA,seval,wE]
 refine X0 m1 rfl ?_
 simp only [↓X2,wA,seval,wE]
 refine X0 d1 rfl ?_
 simp only [↓X2,wA,seval,wE]
 refine X0 m3 rfl ?_
 simp only [↓X2,wA,seval,wE]
 refine X0 k rfl ?_
 simp only [hR,↓X2,wA,seval,wE]
 exact JA rfl Qc rfl rfl rfl sR (hR.trans rfl)
noncomputable def QF (a b:V2):V2×Int :=
 if XR a a=0∨XR b b=0 then (v0,1) else if XR a a=XR b b then (⟨XR a b / XR a a,Q2 a b / XR a a⟩,0) else (v0,21)
def KR:List AV:=[.bool false,.sl 0 0 (fun _=>.any) false,.bool false,.sl 0 0 (fun _=>.any) false,.bool false,.sl 0 0 (fun _=>.any) false,.bool false,.sl 0 0 (fun _=>.any) false]
theorem ZI:WeakL KR (vC v0) :=
 have h1:X9 (0:Rat).num.natAbs=[]:=by rw [Rat.zero_num]; simp [XX]
 have h2:X9 (qd (0:Rat))=[]:=Dh rfl
 ⟨Weak.rfl' _,Qz h1,Weak.rfl' _,Qz h2,Weak.rfl' _,Qz h1,Weak.rfl' _,Qz h2,trivial⟩
theorem Yb (a b:V2) (ha:vb a≤10000) (hb:vb b≤10000):Fn Tryz.prog 114 [vA a,vA b] (.tup [vA (QF a b).1,I (QF a b).2]):=by
 obtain ⟨R,hR⟩:∃ R,R=QF a b:=⟨_,rfl⟩
 rw [← hR]
 have q1:=ZX a a; have q2:=ZX b b; have q3:=ZX a b; have q4:=C4 a b
 have c1:=Fm a a (by unfold vm; omega) (by unfold vm; omega)
 have c2:=Fm b b (by unfold vm; omega) (by unfold vm; omega)
 have c3:=Fm a b (by unfold vm; omega) (by unfold vm; omega)
 have c4:=Gf a b (by unfold vm; omega) (by unfold vm; omega)
 have s1:=KE (XR a a)
 have s2:=KE (XR b b)
 have e1:=Gk (XR a a) (XR b b) (by unfold rm; omega) (by unfold rm; omega)
 have zret:∀ {s:AS} {ver id':Nat} {k:Int},s.get 4=.ref id' ver 0→s.h[id']?=some (.row ver 8 (Xo KR))→s.get 5=I k→R=(v0,k)→RetOk (QX Tryz.prog Tryz.f114 [1,20000002,20000003,6,70000002,70000003,70000006] [] (.tup [vA R.1,I R.2])) s:=fun h1 h2 h3 h4=>by
  subst h4
  exact Js rfl (Xn D9 h1 h2 rfl) (by unfold QR; rfl) (Xu (Xm _) (XT ZI)) (by rw [h3]; exact (Xa _).sees _)
 refine Fq Tryz.call114 Tryz.func114 8 [] [1,20000002,20000003,6,70000002,70000003,70000006] [] (by simp [wS]) (X1 1000 ?_); simp (config:={ maxSteps:=2000000 }) only [AS.start,↓X2,wA,seval,wE]
 refine X0 c1 rfl ?_
 simp only [↓X2,wA,seval,wE]
 refine X0 c2 rfl ?_
 simp only [↓X2,wA,seval,wE]
 refine X0 s1 rfl ?_
 by_cases h1:XR a a=0
 ·have f1:((XR a a).num.sign=0)=True:=eq_true ((At _).2 h1)
  simp only [f1,↓X2,wA,seval,wE]
  exact zret rfl rfl rfl (by rw [hR]; unfold QF; rw [if_pos (.inl h1)])
 have f1:((XR a a).num.sign=0)=False:=eq_false fun h=>h1 ((At _).1 h)
 simp only [f1,↓X2,wA,seval,wE]
 refine X0 s2 rfl ?_
 by_cases h2:XR b b=0
 ·have f2:((XR b b).num.sign=0)=True:=eq_true ((At _).2 h2)
  simp only [f1,f2,↓X2,wA,seval,wE]
  exact zret rfl rfl rfl (by rw [hR]; unfold QF; rw [if_pos (.inr h2)])
 have f2:((XR b b).num.sign=0)=False:=eq_false fun h=>h2 ((At _).1 h)
 simp only [f1,f2,↓X2,wA,seval,wE]
 refine X0 e1 rfl ?_
 have hno:¬ (XR a a=0∨XR b b=0):=fun h=>h.elim h1 h2
 by_cases h3:XR a a=XR b b
 rotate_left
 ·rw [decide_eq_false h3]
  simp only [↓X2,wA,seval,wE]
  exact zret rfl rfl rfl (by rw [hR]; unfold QF; rw [if_neg hno,if_neg h3])
 rw [decide_eq_true h3]
 have d1:=UR (XR a b) (XR a a) (by unfold vm; omega) (by unfold vm; omega) h1
 have d2:=UR (Q2 a b) (XR a a) (by unfold vm; omega) (by unfold vm; omega) h1
 simp only [↓X2,wA,seval,wE]
 refine X0 c3 rfl ?_
 simp only [↓X2,wA,seval,wE]
 refine X0 d1 rfl ?_
 simp only [↓X2,wA,seval,wE]
 refine X0 c4 rfl ?_
 simp only [↓X2,wA,seval,wE]
 refine X0 d2 rfl ?_
 simp only [↓X2,wA,seval,wE]
 have hRe:R=(⟨XR a b / XR a a,Q2 a b / XR a a⟩,0):=by rw [hR]; unfold QF; rw [if_neg hno,if_pos h3]
 subst hRe
 exact Js rfl (Xn D9 rfl rfl rfl) (by unfold QR; rfl) (Xu (Xm _) (XT (XY (vC ⟨XR a b / XR a a,Q2 a b / XR a a⟩)))) ((Xa _).sees _)
theorem NI (a b:V2) (ha:vb a≤10000) (hb:vb b≤10000):Fn Tryz.prog 116 [vA a,vA b] (.tup [vA (QF a b).1,I (QF a b).2]):=by
 obtain ⟨R,hR⟩:∃ R,R=QF a b:=⟨_,rfl⟩
 rw [← hR]
 have q1:=ZX a a; have q2:=ZX b b; have q3:=ZX a b; have q4:=C4 a b
 have c1:=Zd a a (by unfold vm; omega) (by unfold vm; omega)
 have c2:=Zd b b (by unfold vm; omega) (by unfold vm; omega)
 have c3:=Zd a b (by unfold vm; omega) (by unfold vm; omega)
 have c4:=Fu a b (by unfold vm; omega) (by unfold vm; omega)
 have s1:=Bo (XR a a) (by unfold rm; omega)
 have s2:=Bo (XR b b) (by unfold rm; omega)
 have e1:=Ay (XR a a) (XR b b) (by unfold rm; omega) (by unfold rm; omega)
 have zret:∀ {s:AS} {ver id':Nat} {k:Int},s.get 4=.ref id' ver 0→s.h[id']?=some (.row ver 8 (Xo KR))→s.get 5=I k→R=(v0,k)→RetOk (QX Tryz.prog Tryz.f116 [4,50000003,50000006,6,70000002,70000003,70000006] [] (.tup [vA R.1,I R.2])) s:=fun h1 h2 h3 h4=>by
  subst h4
  exact Js rfl (Xn D9 h1 h2 rfl) (by unfold QR; rfl) (Xu (Xm _) (XT ZI)) (by rw [h3]; exact (Xa _).sees _)
 refine Fq Tryz.call116 Tryz.func116 7 [] [4,50000003,50000006,6,70000002,70000003,70000006] [] (by simp [wS]) (X1 1000 ?_); simp (config:={ maxSteps:=2000000 }) only [AS.start,↓X2,wA,seval,wE]
 refine X0 c1 rfl ?_
 simp only [↓X2,wA,seval,wE]
 refine X0 s1 rfl ?_
 by_cases h1:XR a a=0
 ·have f1:((XR a a).num.sign=0)=True:=eq_true ((At _).2 h1)
  simp only [f1,↓X2,wA,seval,wE]
  exact zret rfl rfl rfl (by rw [hR]; unfold QF; rw [if_pos (.inl h1)])
 have f1:((XR a a).num.sign=0)=False:=eq_false fun h=>h1 ((At _).1 h)
 simp only [f1,↓X2,wA,seval,wE]
 refine X0 c2 rfl ?_
 simp only [f1,↓X2,wA,seval,wE]
 refine X0 s2 rfl ?_
 by_cases h2:XR b b=0
 ·have f2:((XR b b).num.sign=0)=True:=eq_true ((At _).2 h2)
  simp only [f1,f2,↓X2,wA,seval,wE]
  exact zret rfl rfl rfl (by rw [hR]; unfold QF; rw [if_pos (.inr h2)])
 have f2:((XR b b).num.sign=0)=False:=eq_false fun h=>h2 ((At _).1 h)
 simp only [f1,f2,↓X2,wA,seval,wE]
 refine X0 c2 rfl ?_
 simp only [f1,f2,↓X2,wA,seval,wE]
 refine X0 e1 rfl ?_
 have hno:¬ (XR a a=0∨XR b b=0):=fun h=>h.elim h1 h2
 by_cases h3:XR a a=XR b b
 rotate_left
 ·rw [decide_eq_false h3]
  simp only [↓X2,wA,seval,wE]
  exact zret rfl rfl rfl (by rw [hR]; unfold QF; rw [if_neg hno,if_neg h3])
 rw [decide_eq_true h3]
 have d1:=IF (XR a b) (XR a a) (by unfold vm; omega) (by unfold vm; omega)
 have d2:=IF (Q2 a b) (XR a a) (by unfold vm; omega) (by unfold vm; omega)
 simp only [↓X2,wA,seval,wE]
 refine X0 c3 rfl ?_
 simp only [↓X2,wA,seval,wE]
 refine X0 d1 rfl ?_
 simp only [↓X2,wA,seval,wE]
 refine X0 c4 rfl ?_
 simp only [↓X2,wA,seval,wE]
 refine X0 d2 rfl ?_
 simp only [↓X2,wA,seval,wE]
 have hRe:R=(⟨XR a b / XR a a,Q2 a b / XR a a⟩,0):=by rw [hR]; unfold QF; rw [if_neg hno,if_pos h3]
 subst hRe
 exact Js rfl (Xn D9 rfl rfl rfl) (by unfold QR; rfl) (Xu (Xm _) (XT (XY (vC ⟨XR a b / XR a a,Q2 a b / XR a a⟩)))) ((Xa _).sees _)
def O1 (t c:V2):List AV:=[.bool (decide (t.x.num<0)),X6 (X9 t.x.num.natAbs),.bool false,X6 (X9 (qd t.x)),.bool (decide (t.y.num<0)),X6 (X9 t.y.num.natAbs),.bool false,X6 (X9 (qd t.y)),
 .bool (decide (c.x.num<0)),X6 (X9 c.x.num.natAbs),.bool false,X6 (X9 (qd c.x)),.bool (decide (c.y.num<0)),X6 (X9 c.y.num.natAbs),.bool false,X6 (X9 (qd c.y))]
def iv (t c:V2):AV:=.agg (O1 t c)
theorem Ad (t c:V2):∀ x∈O1 t c,Settled x:=by simp [O1,X5,X3]
theorem Bu (t c:V2):Settled (iv t c):=Qj (Ad t c)
def put (t c a:V2):V2:=(Ha t a).add c
def rC (t c:V2):AV:=.ptr 16 (Xo (O1 t c)) 0
theorem GT (t c:V2):Settled (rC t c):=QS fun j _=>Xg (Ad t c) j
theorem qi (t c a:V2):vb (put t c a)≤2*(vb t+vb a)+vb c+2:=by
 have:=Du t a; have:=Ba (Ha t a) c
 unfold put; omega
theorem WT (t c a:V2) (ht:vb t≤100000) (hc:vb c≤100000) (ha:vb a≤100000):Fn Tryz.prog 206 [vA a,rC t c] (vA (put t c a)):=by
 have m:=Du t a
 have c1:=ED t a (by unfold vm; omega) (by unfold vm; omega)
 have c2:=NA (Ha t a) c (by unfold vm; omega) (by unfold vm; omega)
 obtain ⟨R,hR⟩:∃ R,R=vA (put t c a):=⟨_,rfl⟩
 have sR:Settled R:=hR▸Xm _
 rw [← hR]
 refine Fq Tryz.call206 Tryz.func206 4 [] [] [] (by simp [Xm,GT]) (X1 1000 ?_)
 simp only [AS.start,rC,O1,↓X2,wA,seval,wE]
 refine X0 c1 rfl ?_
 simp only [↓X2,wA,seval,wE]
 refine X0 c2 rfl ?_
 simp only [↓X2,wA,seval,wE]
 exact ZD rfl JD rfl rfl rfl sR (hR.trans rfl)
theorem fg (t c:V2):Fn Tryz.prog 143 [iv t c] (.fn 206 [rC t c]):=by
 have hset:Settled (.fn 206 [rC t c]):=Jc (by simp [GT])
 refine Fq Tryz.call143 Tryz.func143 3 [] [] [] (by simp [Bu]) (X1 1000 ?_)
 simp only [AS.start,iv,O1,↓X2,wA,seval,wE]
 refine Bd rfl (Br ⟨KF (.inl rfl) (by omega) fun j hj=>?_,trivial⟩)
 exact (Xg (Ad t c) j).sees _
theorem pE (t c a:V2) (ht:vb t≤100000) (hc:vb c≤100000) (ha:vb a≤100000):Fn Tryz.prog 55 [iv t c,vA a] (vA (put t c a)):=by
 have c1:=fg t c
 have c2:=WT t c a ht hc ha
 obtain ⟨R,hR⟩:∃ R,R=vA (put t c a):=⟨_,rfl⟩
 have sR:Settled R:=hR▸Xm _
 rw [← hR]
 refine Fq Tryz.call55 Tryz.func55 5 [] [] [] (by simp [Bu,Xm]) (X1 1000 ?_)
 simp only [AS.start,iv,O1,↓X2,wA,seval,wE]
 refine X0 c1 rfl ?_
 simp only [↓X2,wA,seval,wE]
 refine X0 c2 rfl ?_
 simp only [↓X2,wA,seval,wE]
 exact ZD rfl JD rfl rfl rfl sR (hR.trans rfl)
def AK (t c:V2) (L:List V2):List V2:=L.map (put t c)
theorem WS (t c:V2) (L:List V2) (i:Nat) (hi:i<L.length):AK t c (L.take i) ++ [put t c (L.getD i v0)]=AK t c (L.take (i+1)):=by
 rw [B9 _ v0 hi]; simp [AK]
theorem fe (t c:V2) (L:List V2) (i:Nat) (hi:i≤L.length):(AK t c (L.take i)).length=i:=by simp [AK]; omega
theorem RC {P:Program} {fn:Func} {str hcs:List Nat} {s:AS} {t id ver:Nat} (L:List V2) (hr:fn.results=#[.tmp t]) (hs:s.get t=.osl id ver 8 0 L.length) (ho:s.h[id]?=some (.row ver (L.length*8) (Xs vC 8 v0 L))):RetOk (QX P fn str hcs (Xw L)) s:=by
 refine Bd hr ?_
 rw [hs,X7]
 refine QI (.inl ho) (by omega) (fun h=>by rw [h]) fun j hj=>?_
 rw [Nat.zero_add]
 exact (Xg (by simp [vC,X5,X3]) _).sees _
theorem EM (a:V2):∀ j,j<8→((vC a).getD j .any).one=true:=fun j hj=>by
 match j,hj with
 | 0,_=>rfl
 | 1,_=>rfl
 | 2,_=>rfl
 | 3,_=>rfl
 | 4,_=>rfl
 | 5,_=>rfl
 | 6,_=>rfl
 | 7,_=>rfl
 | j+8,h=>omega
theorem fI (t c:V2) (L:List V2) (k:Nat) (h:Qx L k) (hk:k≤100000) (hl:L.length<1000000) (ht:vb t≤100000) (hc:vb c≤100000):Fn Tryz.prog 69 [iv t c,Xw L] (Xw (AK t c L)):=by
 have bo:XQ 2 (.row 0 16 (Xo (O1 t c)))=True:=eq_true (XE (Ad t c))
 have hvc:∀ a:V2,∀ x∈vC a,Settled x:=fun a=>by simp [vC,X5,X3]
 have bv:Kl 2 (Xw L)=True:=eq_true (X8 (Xl L))
 have br:∀ i l n,XQ 2 (.row i n (Xs vC 8 v0 l))=True:=fun i l n=>eq_true fun j _=>X8 (Xg (hvc _) _)
 obtain ⟨R,hR⟩:∃ R,R=Xw (AK t c L):=⟨_,rfl⟩
 rw [← hR]
 refine Fq Tryz.call69 Tryz.func69 8 [8,9,10] [] [] (by simp [Bu,Xl]) (X1 1000 ?_)
 simp only [AS.start,iv,O1,X7,↓X2,wA,seval,wE]
 refine Xf (fun i:Nat=>⟨8,[8,9,10],[.any,.any,.ref 0 0 0,.any,.any,.osl 1 i 8 0 i,.any,.any],[(8,Xw L),(9,I L.length),(10,I i)],[.row 0 16 (Xo (O1 t c)),.row i (i*8) (Xs vC 8 v0 (AK t c (L.take i)))]⟩) (fun i=>i≤L.length) (fun i=>L.length - i) 0 (by omega)
  (Sub.trans (QT 5 8 (Xs vC 8 v0 []) rfl) (Xb rfl (by simp [AS.put,Xi,I]) (by simp [AS.put,Xj,Xp,X7,I]) (by simp [AS.put,O1,X4,AK]))) ?_
 intro i hi next
 have w1:=wj i (by omega)
 by_cases hi2:i<L.length
 ·have f1:((i:Int)<L.length)=True:=eq_true (by omega)
  have f2:(i<L.length)=True:=eq_true hi2
  have f3:(i*8+8≤L.length*8)=True:=eq_true (by omega)
  have v1:=vF L i
  have hb:=h i
  have c1:=pE t c (L.getD i v0) ht hc (by omega)
  have hap:=Qv vC 8 v0 (AK t c (L.take i)) (put t c (L.getD i v0)) (by omega)
  rw [WS _ _ _ _ hi2,fe _ _ _ _ hi] at hap
  refine X1 1000 ?_
  simp only [O1,X7,w1,f1,f2,f3,v1,Int.toNat_natCast,↓X2,wA,seval,wE]
  refine X0 c1 rfl ?_
  simp only [w1,↓X2,wA,seval,wE]
  exact ⟨⟨EM _,by omega,by omega⟩,next (i+1) _ (by omega) (by omega) (Xz (m:=2) (Nat.zero_le _) rfl (by simp [Xi]) (by simp [Xj,Xp,X7,I]) (by rw [← hap]; rfl) (by simp [XA]) (by simp [XA,bv]) (by simp [bo,br]))⟩
 obtain rfl:i=L.length:=by omega
 refine X1 1000 ?_
 simp only [O1,X7,Int.lt_irrefl,Nat.lt_irrefl,↓X2,wA,seval,wE]
 rw [hR,List.take_length]
 have hlen:(AK t c L).length=L.length:=by simp [AK]
 exact RC _ rfl (by rw [hlen]; rfl) (by rw [hlen]; rfl)
end
end Go.Ab.N
