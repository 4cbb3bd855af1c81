/- Contracts of functions of these chapters, for every argument that fits, and what they need. -/
import Derived.Test.YtefjhgcndhepeaaGreatC7
import Derived.Test.YtefjhgcndhepeaaGreatC6
set_option linter.unusedSimpArgs false
set_option linter.unusedVariables false
open Nat renaming reducePow → Y1, reduceLT → Y2, reduceLeDiff → Y3, reduceEqDiff → Y4, reduceAdd → Y5, reduceMul → Y6, reduceSub → Y7, reduceBEq → Y8, reduceDiv → Y9, reduceMod → YA
namespace Go.Ab.N
open Go Go.RowKit Go.Proofs
noncomputable section
set_option maxRecDepth 10000
set_option maxHeartbeats 4000000
open Classical
theorem F9 {a:Rat} (h:qb a≤rm):(RQ.of a).sz<4611686018427387904:=Nat.lt_of_le_of_lt (RQ.of_sz a) (by unfold rm at h; omega)
theorem O5 (a b:Rat) (ha:qb a≤rm) (hb:qb b≤rm):Fn Tryz.prog 29 [qA a,qA b] (.bool (decide (a=b))):=by
 have:=Ry (RQ.of a) (RQ.of b) (F9 ha) (F9 hb)
 rwa [decide_eq_decide.2 (show RQ.of a=RQ.of b↔a=b from ⟨RQ.of_inj,fun h=>by rw [h]⟩)] at this
theorem MW (a b:Rat) (ha:qb a≤rm) (hb:qb b≤rm):Fn Tryz.prog 86 [qA a,qA b] (.bool (decide (a=b))):=by
 have:=an (RQ.of a) (RQ.of b) (F9 ha) (F9 hb)
 rwa [decide_eq_decide.2 (show RQ.of a=RQ.of b↔a=b from ⟨RQ.of_inj,fun h=>by rw [h]⟩)] at this
theorem Vz (a:Rat) (ha:qb a≤rm):Fn Tryz.prog 79 [qA a] (.bool true):=by
 have:=MZ (RQ.of a) (Nat.lt_of_le_of_lt (RQ.of_sz a) (by unfold rm at ha; omega))
 rwa [decide_eq_true ⟨a,rfl⟩] at this
def ZB (t a:V2):V2:=⟨t.x*a.x - t.y*a.y,t.y*a.x+t.x*a.y⟩
def V2.scale (a:V2) (k:Rat):V2:=⟨a.x*k,a.y*k⟩
def Z9 (t:V2):Prop:=t.x*t.x+t.y*t.y=1
def Qm:V2:=⟨1,0⟩
theorem Ez (t a:V2):vb (ZB t a)≤2*(vb t+vb a)+1:=by
 have:=Qu t.x a.x; have:=Qu t.y a.y; have:=Qu t.y a.x; have:=Qu t.x a.y
 have:=QL t; have:=QG t; have:=QL a; have:=QG a
 have:=En (t.x*a.x) (t.y*a.y); have:=Z7 (t.y*a.x) (t.x*a.y)
 unfold ZB
 show max (qb (t.x*a.x - t.y*a.y)) (qb (t.y*a.x+t.x*a.y))≤_
 omega
theorem iM (a:V2) (k:Rat):vb (a.scale k)≤vb a+qb k:=by
 have:=Qu a.x k; have:=Qu a.y k; have:=QL a; have:=QG a
 unfold V2.scale
 show max (qb (a.x*k)) (qb (a.y*k))≤_
 omega
theorem FR:Rat.divInt 1 1=1:=by decide +kernel
theorem V2.ext' {a b:V2}:a=b↔a.x=b.x∧a.y=b.y:=by
 cases a; cases b
 simp
theorem B7 (a b:V2) (ha:vb a≤vm) (hb:vb b≤vm):Fn Tryz.prog 67 [vA a,vA b] (.bool (decide (a=b))):=by
 unfold vm at ha hb
 have:=QL a; have:=QL b; have:=QG a; have:=QG b
 have c1:=O5 a.x b.x (by unfold rm; omega) (by unfold rm; omega)
 have c2:=O5 a.y b.y (by unfold rm; omega) (by unfold rm; omega)
 obtain ⟨V,hV⟩:∃ V,V=decide (a=b):=⟨_,rfl⟩
 rw [← hV]
 refine Fr Tryz.call67 Tryz.func67 5 [] [] [] ?_; simp (maxSteps:=999999) only [AS.start,↓X1,wF,seval]
 refine X0 c1 rfl ?_
 by_cases h:a.x=b.x
 ·rw [decide_eq_true h]
  simp only [↓X1,wF,seval]
  refine X0 c2 rfl ?_
  simp only [↓X1,wF,seval]
  exact Xx (v:=.bool (decide (a.y=b.y))) rfl rfl (X2 _) (by rw [hV]; exact congrArg AV.bool (decide_eq_decide.2 (show a.y=b.y↔a=b from ⟨fun e=>V2.ext'.2 ⟨h,e⟩,fun e=>(V2.ext'.1 e).2⟩)))
 ·rw [decide_eq_false h]
  simp only [↓X1,wF,seval]
  exact Xx (v:=.bool false) rfl rfl (X2 _) (by rw [hV,decide_eq_false (p:=a=b) fun e=>h (by rw [e])])
theorem NT (a b:V2) (ha:vb a≤vm) (hb:vb b≤vm):Fn Tryz.prog 59 [vA a,vA b] (vA (a.add b)):=by
 unfold vm at ha hb
 obtain ⟨R,hR⟩:∃ R,R=vA (a.add b):=⟨_,rfl⟩
 have sR:Settled R:=hR▸Xm _
 have:=QL a; have:=QL b; have:=QG a; have:=QG b
 have c1:=ZW a.x b.x (by unfold rm; omega) (by unfold rm; omega)
 have c2:=ZW a.y b.y (by unfold rm; omega) (by unfold rm; omega)
 rw [← hR]
 refine Fr Tryz.call59 Tryz.func59 5 [] [] [] ?_; simp (maxSteps:=999999) only [AS.start,↓X1,wF,seval]
 refine X0 c1 rfl ?_
 simp only [↓X1,wF,seval]
 refine X0 c2 rfl ?_
 simp only [↓X1,wF,seval]
 exact Ah rfl K8 rfl rfl rfl sR (hR.trans rfl)
theorem MS (a:V2) (k:Rat) (ha:vb a≤vm) (hk:qb k≤vm):Fn Tryz.prog 58 [vA a,qA k] (vA (a.scale k)):=by
 unfold vm at ha hk
 obtain ⟨R,hR⟩:∃ R,R=vA (a.scale k):=⟨_,rfl⟩
 have sR:Settled R:=hR▸Xm _
 have:=QL a; have:=QG a
 have c1:=JW a.x k (by unfold rm; omega) (by unfold rm; omega)
 have c2:=JW a.y k (by unfold rm; omega) (by unfold rm; omega)
 rw [← hR]
 refine Fr Tryz.call58 Tryz.func58 5 [] [] [] ?_; simp (maxSteps:=999999) only [AS.start,↓X1,wF,seval]
 refine X0 c1 rfl ?_
 simp only [↓X1,wF,seval]
 refine X0 c2 rfl ?_
 simp only [↓X1,wF,seval]
 exact Ah rfl K8 rfl rfl rfl sR (hR.trans rfl)
theorem YW:Fn Tryz.prog 203 [] (vA Qm):=by
 have c1:=Er 1 1 ⟨by omega,by omega⟩ ⟨by omega,by omega⟩
 rw [FR] at c1
 obtain ⟨R,hR⟩:∃ R,R=vA Qm:=⟨_,rfl⟩
 have sR:Settled R:=hR▸Xm _
 rw [← hR]
 refine Fr Tryz.call203 Tryz.func203 1 [] [] [] ?_; simp (maxSteps:=999999) only [AS.start,↓X1,wF,seval]
 refine X0 c1 rfl ?_
 simp only [↓X1,wF,seval]
 refine Rw rfl Mt rfl rfl rfl ?_
 rw [hR]
 exact Dc ⟨(X2 _).sees _,(X8 _).sees _,(X2 _).sees _,(X8 _).sees _,(X2 _).sees _,XN (X8 _) (QI (by show X6 (0:Rat).num.natAbs=[]; rw [Rat.zero_num]; simp [Q0])),(X2 _).sees _,XN (X8 _) (QI (Eo rfl)),trivial⟩
theorem IF (a b:V2) (ha:vb a≤vm) (hb:vb b≤vm):Fn Tryz.prog 41 [vA a,vA b] (.bool (decide (a=b))):=by
 unfold vm at ha hb
 have:=QL a; have:=QL b; have:=QG a; have:=QG b
 have c1:=MW a.x b.x (by unfold rm; omega) (by unfold rm; omega)
 have c2:=MW a.y b.y (by unfold rm; omega) (by unfold rm; omega)
 obtain ⟨V,hV⟩:∃ V,V=decide (a=b):=⟨_,rfl⟩
 rw [← hV]
 refine Fr Tryz.call41 Tryz.func41 5 [] [] [] ?_; simp (maxSteps:=999999) only [AS.start,↓X1,wF,seval]
 refine X0 c1 rfl ?_
 by_cases h:a.x=b.x
 ·rw [decide_eq_true h]
  simp only [↓X1,wF,seval]
  refine X0 c2 rfl ?_
  simp only [↓X1,wF,seval]
  exact Xx (v:=.bool (decide (a.y=b.y))) rfl rfl (X2 _) (by rw [hV]; exact congrArg AV.bool (decide_eq_decide.2 (show a.y=b.y↔a=b from ⟨fun e=>V2.ext'.2 ⟨h,e⟩,fun e=>(V2.ext'.1 e).2⟩)))
 ·rw [decide_eq_false h]
  simp only [↓X1,wF,seval]
  exact Xx (v:=.bool false) rfl rfl (X2 _) (by rw [hV,decide_eq_false (p:=a=b) fun e=>h (by rw [e])])
theorem Ix (t a:V2) (ht:vb t≤vm) (ha:vb a≤vm):Fn Tryz.prog 43 [vA t,vA a] (vA (ZB t a)):=by
 unfold vm at ht ha
 obtain ⟨R,hR⟩:∃ R,R=vA (ZB t a):=⟨_,rfl⟩
 have sR:Settled R:=hR▸Xm _
 have:=QL t; have:=QG t; have:=QL a; have:=QG a
 have m1:=Qu t.x a.x; have m2:=Qu t.y a.y; have m3:=Qu t.y a.x; have m4:=Qu t.x a.y
 have c1:=JW t.x a.x (by unfold rm; omega) (by unfold rm; omega)
 have c2:=JW t.y a.y (by unfold rm; omega) (by unfold rm; omega)
 have c3:=Cf (t.y*a.y)
 have c4:=Fe (t.x*a.x) (-(t.y*a.y)) (by omega) (by rw [Bn]; omega)
 rw [← Rat.sub_eq_add_neg] at c4
 have c5:=JW t.y a.x (by unfold rm; omega) (by unfold rm; omega)
 have c6:=JW t.x a.y (by unfold rm; omega) (by unfold rm; omega)
 have c7:=Fe (t.y*a.x) (t.x*a.y) (by omega) (by omega)
 rw [← hR]
 refine Fr Tryz.call43 Tryz.func43 5 [] [] [] ?_; simp (maxSteps:=999999) only [AS.start,↓X1,wF,seval]
 refine X0 c1 rfl ?_
 simp only [↓X1,wF,seval]
 refine X0 c2 rfl ?_
 simp only [↓X1,wF,seval]
 refine X0 c3 rfl ?_
 simp only [↓X1,wF,seval]
 refine X0 c4 rfl ?_
 simp only [↓X1,wF,seval]
 refine X0 c5 rfl ?_
 simp only [↓X1,wF,seval]
 refine X0 c6 rfl ?_
 simp only [↓X1,wF,seval]
 refine X0 c7 rfl ?_
 simp only [↓X1,wF,seval]
 exact Ah rfl K8 rfl rfl rfl sR (hR.trans rfl)
theorem LD (t a:V2) (ht:vb t≤vm) (ha:vb a≤vm):Fn Tryz.prog 105 [vA t,vA a] (vA (ZB t a)):=by
 unfold vm at ht ha
 obtain ⟨R,hR⟩:∃ R,R=vA (ZB t a):=⟨_,rfl⟩
 have sR:Settled R:=hR▸Xm _
 have:=QL t; have:=QG t; have:=QL a; have:=QG a
 have m1:=Qu t.x a.x; have m2:=Qu t.y a.y; have m3:=Qu t.y a.x; have m4:=Qu t.x a.y
 have c1:=JU t.x a.x (by unfold rm; omega) (by unfold rm; omega)
 have c2:=JU t.y a.y (by unfold rm; omega) (by unfold rm; omega)
 have c4:=AJ (t.x*a.x) (t.y*a.y) (by unfold rm; omega) (by unfold rm; omega)
 have c5:=JU t.y a.x (by unfold rm; omega) (by unfold rm; omega)
 have c6:=JU t.x a.y (by unfold rm; omega) (by unfold rm; omega)
 have c7:=AH (t.y*a.x) (t.x*a.y) (by unfold rm; omega) (by unfold rm; omega)
 rw [← hR]
 refine Fr Tryz.call105 Tryz.func105 7 [] [1,20000002,20000003,2,30000002,30000003] [] ?_; simp (maxSteps:=999999) only [AS.start,↓X1,wF,seval]
 refine X0 c1 rfl ?_
 simp only [↓X1,wF,seval]
 refine X0 c2 rfl ?_
 simp only [↓X1,wF,seval]
 refine X0 c4 rfl ?_
 simp only [↓X1,wF,seval]
 refine X0 c5 rfl ?_
 simp only [↓X1,wF,seval]
 refine X0 c6 rfl ?_
 simp only [↓X1,wF,seval]
 refine X0 c7 rfl ?_
 simp only [↓X1,wF,seval]
 exact Ah rfl K8 rfl rfl rfl sR (hR.trans rfl)
theorem gM (t:V2) (ht:vb t≤vm):Fn Tryz.prog 123 [vA t] (.bool (decide (Z9 t))):=by
 unfold vm at ht
 have:=QL t; have:=QG t
 have m1:=Qu t.x t.x; have m2:=Qu t.y t.y; have m3:=Z7 (t.x*t.x) (t.y*t.y)
 have v1:=Vz t.x (by unfold rm; omega)
 have v2:=Vz t.y (by unfold rm; omega)
 have c1:=JW t.x t.x (by unfold rm; omega) (by unfold rm; omega)
 have c2:=JW t.y t.y (by unfold rm; omega) (by unfold rm; omega)
 have c3:=Fe (t.x*t.x) (t.y*t.y) (by omega) (by omega)
 have c4:=Er 1 1 ⟨by omega,by omega⟩ ⟨by omega,by omega⟩
 rw [FR] at c4
 have c5:=O5 (t.x*t.x+t.y*t.y) 1 (by unfold rm; omega) (by have:=(NX 1 1 ⟨by omega,by omega⟩ ⟨by omega,by omega⟩); rw [FR] at this; unfold rm; omega)
 rw [show decide (t.x*t.x+t.y*t.y=1)=decide (Z9 t) from decide_eq_decide.2 Iff.rfl] at c5
 refine Fr Tryz.call123 Tryz.func123 3 [] [] [] ?_; simp (maxSteps:=999999) only [AS.start,↓X1,wF,seval]
 refine X0 v1 rfl ?_
 simp only [↓X1,wF,seval]
 refine X0 v2 rfl ?_
 simp only [↓X1,wF,seval]
 refine X0 c1 rfl ?_
 simp only [↓X1,wF,seval]
 refine X0 c2 rfl ?_
 simp only [↓X1,wF,seval]
 refine X0 c3 rfl ?_
 simp only [↓X1,wF,seval]
 refine X0 c4 rfl ?_
 simp only [↓X1,wF,seval]
 refine X0 c5 rfl ?_
 simp only [↓X1,wF,seval]
 exact Xx rfl rfl (X2 _) rfl
theorem gN (b:Rat):qb b⁻¹≤qb b:=by
 rw [Rat.inv_def]
 exact KM _ _ _ (TS b) (K1 b) (JT b)
theorem gQ (a b:Rat):qb (a / b)≤qb a+qb b:=by
 rw [Rat.div_def]
 have:=Qu a b⁻¹; have:=gN b
 omega
theorem Vv (a b:Rat) (ha:qb a≤vm) (hb:qb b≤vm) (h0:b≠0):Fn Tryz.prog 192 [qA a,qA b] (qA (a / b)):=by
 unfold vm at ha hb
 have q1:=gN b
 have hn:b.num≠0:=fun h=>h0 (Rat.num_eq_zero.1 h)
 have c1:=BU b
 have c2:=Dy b.den b.num hn (by
  have:=b.reduced
  rw [Int.gcd_comm]
  exact this)
 rw [← Rat.inv_def] at c2
 have c3:=JW a b⁻¹ (by unfold rm; omega) (by unfold rm; omega)
 rw [← Rat.div_def] at c3
 obtain ⟨R,hR⟩:∃ R,R=qA (a / b):=⟨_,rfl⟩
 have sR:Settled R:=hR▸Xa _
 have f1:((X6 b.num.natAbs).length=0)=False:=eq_false fun h=>hn (by have:=digs_len_zero.1 h; omega)
 have f2:(((X6 b.num.natAbs).length:Int)=0)=False:=eq_false fun h=>hn (by have:=digs_len_zero.1 (show (X6 b.num.natAbs).length=0 by omega); omega)
 rw [← hR] at c3 ⊢
 refine Fr Tryz.call192 Tryz.func192 5 [] [] [] ?_; simp (maxSteps:=999999) only [AS.start,↓X1,wF,seval]
 simp only [f1,f2,↓X1,wF,seval]
 refine X0 c1 rfl ?_
 simp only [↓X1,wF,seval]
 refine X0 c2 rfl ?_
 simp only [↓X1,wF,seval]
 refine X0 c3 rfl ?_
 simp only [hR,↓X1,wF,seval]
 exact JL rfl Qe rfl rfl rfl sR (hR.trans rfl)
noncomputable def JX (a b:V2):V2×Int :=
 if Q4 a a=0∨Q4 b b=0 then (v0,1) else if Q4 a a=Q4 b b then (⟨Q4 a b / Q4 a a,Q8 a b / Q4 a a⟩,0) else (v0,21)
def ZD:List AV:=[.bool false,.sl 0 0 (fun _=>.any) false,.bool false,.sl 0 0 (fun _=>.any) false,.bool false,.sl 0 0 (fun _=>.any) false,.bool false,.sl 0 0 (fun _=>.any) false]
theorem Co:WeakL ZD (vC v0) :=
 have h1:X6 (0:Rat).num.natAbs=[]:=by rw [Rat.zero_num]; simp [Q0]
 have h2:X6 (qd (0:Rat))=[]:=Eo rfl
 ⟨Weak.rfl' _,QI h1,Weak.rfl' _,QI h2,Weak.rfl' _,QI h1,Weak.rfl' _,QI h2,trivial⟩
theorem YU (a b:V2) (ha:vb a≤10000) (hb:vb b≤10000):Fn Tryz.prog 114 [vA a,vA b] (.tup [vA (JX a b).1,I (JX a b).2]):=by
 obtain ⟨R,hR⟩:∃ R,R=JX a b:=⟨_,rfl⟩
 rw [← hR]
 have q1:=Bm a a; have q2:=Bm b b; have q3:=Bm a b; have q4:=D5 a b
 have c1:=Fd a a (by unfold vm; omega) (by unfold vm; omega)
 have c2:=Fd b b (by unfold vm; omega) (by unfold vm; omega)
 have c3:=Fd a b (by unfold vm; omega) (by unfold vm; omega)
 have c4:=G2 a b (by unfold vm; omega) (by unfold vm; omega)
 have s1:=KB (Q4 a a)
 have s2:=KB (Q4 b b)
 have e1:=O5 (Q4 a a) (Q4 b b) (by unfold rm; omega) (by unfold rm; omega)
 have zret:∀ {s:AS} {ver id':Nat} {k:Int},s.get 4=.ref id' ver 0→s.h[id']?=some (.row ver 8 (Xk ZD))→s.get 5=I k→R=(v0,k)→RetOk (QV Tryz.prog Tryz.f114 [1,20000002,20000003,6,70000002,70000003,70000006] [] (.tup [vA R.1,I R.2])) s:=fun h1 h2 h3 h4=>by
  subst h4
  exact Kd rfl (Xl Mt h1 h2 rfl) (by unfold Je; rfl) (XN (Xm _) (Ji Co)) (by rw [h3]; exact (X9 _).sees _)
 refine Fr Tryz.call114 Tryz.func114 8 [] [1,20000002,20000003,6,70000002,70000003,70000006] [] ?_; simp (maxSteps:=999999) only [AS.start,↓X1,wF,seval]
 refine X0 c1 rfl ?_
 simp only [↓X1,wF,seval]
 refine X0 c2 rfl ?_
 simp only [↓X1,wF,seval]
 refine X0 s1 rfl ?_
 by_cases h1:Q4 a a=0
 ·have f1:((Q4 a a).num.sign=0)=True:=eq_true ((Fs _).2 h1)
  simp only [f1,↓X1,wF,seval]
  exact zret rfl rfl rfl (by rw [hR]; unfold JX; rw [if_pos (.inl h1)])
 have f1:((Q4 a a).num.sign=0)=False:=eq_false fun h=>h1 ((Fs _).1 h)
 simp only [f1,↓X1,wF,seval]
 refine X0 s2 rfl ?_
 by_cases h2:Q4 b b=0
 ·have f2:((Q4 b b).num.sign=0)=True:=eq_true ((Fs _).2 h2)
  simp only [f1,f2,↓X1,wF,seval]
  exact zret rfl rfl rfl (by rw [hR]; unfold JX; rw [if_pos (.inr h2)])
 have f2:((Q4 b b).num.sign=0)=False:=eq_false fun h=>h2 ((Fs _).1 h)
 simp only [f1,f2,↓X1,wF,seval]
 refine X0 e1 rfl ?_
 have hno:¬ (Q4 a a=0∨Q4 b b=0):=fun h=>h.elim h1 h2
 by_cases h3:Q4 a a=Q4 b b
 rotate_left
 ·rw [decide_eq_false h3]
  simp only [↓X1,wF,seval]
  exact zret rfl rfl rfl (by rw [hR]; unfold JX; rw [if_neg hno,if_neg h3])
 rw [decide_eq_true h3]
 have d1:=Vv (Q4 a b) (Q4 a a) (by unfold vm; omega) (by unfold vm; omega) h1
 have d2:=Vv (Q8 a b) (Q4 a a) (by unfold vm; omega) (by unfold vm; omega) h1
 simp only [↓X1,wF,seval]
 refine X0 c3 rfl ?_
 simp only [↓X1,wF,seval]
 refine X0 d1 rfl ?_
 simp only [↓X1,wF,seval]
 refine X0 c4 rfl ?_
 simp only [↓X1,wF,seval]
 refine X0 d2 rfl ?_
 simp only [↓X1,wF,seval]
 have hRe:R=(⟨Q4 a b / Q4 a a,Q8 a b / Q4 a a⟩,0):=by rw [hR]; unfold JX; rw [if_neg hno,if_pos h3]
 subst hRe
 exact Kd rfl (Xl Mt rfl rfl rfl) (by unfold Je; rfl) (XN (Xm _) (Ji (Qn (vC ⟨Q4 a b / Q4 a a,Q8 a b / Q4 a a⟩)))) ((X9 _).sees _)
def Om (t c:V2):List AV:=[.bool (decide (t.x.num<0)),X3 (X6 t.x.num.natAbs),.bool false,X3 (X6 (qd t.x)),.bool (decide (t.y.num<0)),X3 (X6 t.y.num.natAbs),.bool false,X3 (X6 (qd t.y)),
 .bool (decide (c.x.num<0)),X3 (X6 c.x.num.natAbs),.bool false,X3 (X6 (qd c.x)),.bool (decide (c.y.num<0)),X3 (X6 c.y.num.natAbs),.bool false,X3 (X6 (qd c.y))]
def jj (t c:V2):AV:=.agg (Om t c)
theorem A8 (t c:V2):∀ x∈Om t c,Settled x:=by simp [Om,X8,X2]
theorem Bf (t c:V2):Settled (jj t c):=Qh (A8 t c)
def put (t c a:V2):V2:=(ZB t a).add c
def u7 (t c:V2):AV:=.ptr 16 (Xk (Om t c)) 0
theorem GK (t c:V2):Settled (u7 t c):=QF fun j _=>Xe (A8 t c) j
theorem sr (t c a:V2):vb (put t c a)≤2*(vb t+vb a)+vb c+2:=by
 have:=Ez t a; have:=L8 (ZB t a) c
 unfold put; omega
theorem YN (t c a:V2) (ht:vb t≤100000) (hc:vb c≤100000) (ha:vb a≤100000):Fn Tryz.prog 206 [vA a,u7 t c] (vA (put t c a)):=by
 have m:=Ez t a
 have c1:=Ix t a (by unfold vm; omega) (by unfold vm; omega)
 have c2:=NT (ZB t a) c (by unfold vm; omega) (by unfold vm; omega)
 obtain ⟨R,hR⟩:∃ R,R=vA (put t c a):=⟨_,rfl⟩
 have sR:Settled R:=hR▸Xm _
 rw [← hR]
 refine Fq Tryz.call206 Tryz.func206 4 [] [] [] (by simp [Xm,GK]) (Xi ?_)
 simp only [AS.start,u7,Om,↓X1,wF,seval]
 refine X0 c1 rfl ?_
 simp only [↓X1,wF,seval]
 refine X0 c2 rfl ?_
 simp only [↓X1,wF,seval]
 exact Ah rfl K8 rfl rfl rfl sR (hR.trans rfl)
theorem gk (t c:V2):Fn Tryz.prog 143 [jj t c] (.fn 206 [u7 t c]):=by
 have hset:Settled (.fn 206 [u7 t c]):=Jw (by simp [GK])
 refine Fq Tryz.call143 Tryz.func143 3 [] [] [] (by simp [Bf]) (Xi ?_)
 simp only [AS.start,jj,Om,↓X1,wF,seval]
 refine BI rfl (Cj ⟨Z0 (.inl rfl) (by omega) fun j hj=>?_,trivial⟩)
 exact (Xe (A8 t c) j).sees _
theorem rN (t c a:V2) (ht:vb t≤100000) (hc:vb c≤100000) (ha:vb a≤100000):Fn Tryz.prog 55 [jj t c,vA a] (vA (put t c a)):=by
 have c1:=gk t c
 have c2:=YN t c a ht hc ha
 obtain ⟨R,hR⟩:∃ R,R=vA (put t c a):=⟨_,rfl⟩
 have sR:Settled R:=hR▸Xm _
 rw [← hR]
 refine Fq Tryz.call55 Tryz.func55 5 [] [] [] (by simp [Bf,Xm]) (Xi ?_)
 simp only [AS.start,jj,Om,↓X1,wF,seval]
 refine X0 c1 rfl ?_
 simp only [↓X1,wF,seval]
 refine X0 c2 rfl ?_
 simp only [↓X1,wF,seval]
 exact Ah rfl K8 rfl rfl rfl sR (hR.trans rfl)
def Zw (t c:V2) (L:List V2):List V2:=L.map (put t c)
theorem YL (t c:V2) (L:List V2) (i:Nat) (hi:i<L.length):Zw t c (L.take i) ++ [put t c (L.getD i v0)]=Zw t c (L.take (i+1)):=by
 rw [Cn _ v0 hi]; simp [Zw]
theorem gj (t c:V2) (L:List V2) (i:Nat) (hi:i≤L.length):(Zw t c (L.take i)).length=i:=by simp [Zw]; omega
theorem iV {P:Program} {fn:Func} {str hcs:List Nat} {s:AS} {t id ver:Nat} (L:List V2) (hr:fn.results=#[.tmp t]) (hs:s.get t=.osl id ver 8 0 L.length) (ho:s.h[id]?=some (.row ver (L.length*8) (Xt vC 8 v0 L))):RetOk (QV P fn str hcs (Xw L)) s:=by
 refine BI hr ?_
 rw [hs,X5]
 refine Jv (.inl ho) (by omega) (fun h=>by rw [h]) fun j hj=>?_
 rw [Nat.zero_add]
 exact (Xe (by simp [vC,X8,X2]) _).sees _
theorem Gc (a:V2):∀ j,j<8→((vC a).getD j .any).one=true:=fun j hj=>by
 match j,hj with
 | 0,_=>rfl
 | 1,_=>rfl
 | 2,_=>rfl
 | 3,_=>rfl
 | 4,_=>rfl
 | 5,_=>rfl
 | 6,_=>rfl
 | 7,_=>rfl
 | j+8,h=>omega
theorem Rk (t c:V2) (L:List V2) (k:Nat) (h:Qk L k) (hk:k≤100000) (hl:L.length<1000000) (ht:vb t≤100000) (hc:vb c≤100000):Fn Tryz.prog 69 [jj t c,Xw L] (Xw (Zw t c L)):=by
 have bo:XW 2 (.row 0 16 (Xk (Om t c)))=True:=eq_true (XX (A8 t c))
 have hvc:∀ a:V2,∀ x∈vC a,Settled x:=fun a=>by simp [vC,X8,X2]
 have bv:Kn 2 (Xw L)=True:=eq_true (X7 (Xh L))
 have br:∀ i l n,XW 2 (.row i n (Xt vC 8 v0 l))=True:=fun i l n=>eq_true fun j _=>X7 (Xe (hvc _) _)
 obtain ⟨R,hR⟩:∃ R,R=Xw (Zw t c L):=⟨_,rfl⟩
 rw [← hR]
 refine Fq Tryz.call69 Tryz.func69 8 [8,9,10] [] [] (by simp [Bf,Xh]) (Xi ?_)
 simp only [AS.start,jj,Om,X5,↓X1,wF,seval]
 refine Xd (fun i:Nat=>⟨8,[8,9,10],[.any,.any,.ref 0 0 0,.any,.any,.osl 1 i 8 0 i,.any,.any],[(8,Xw L),(9,I L.length),(10,I i)],[.row 0 16 (Xk (Om t c)),.row i (i*8) (Xt vC 8 v0 (Zw t c (L.take i)))]⟩) (fun i=>i≤L.length) (fun i=>L.length - i) 0 (by omega)
  (Sub.trans (Jk 5 8 (Xt vC 8 v0 []) rfl) (Xf rfl (by simp [AS.put,Xg,I]) (by simp [AS.put,Xn,Xr,X5,I]) (by simp [AS.put,Om,X4,Zw]))) ?_
 intro i hi next
 have w1:=wj i (by omega)
 by_cases hi2:i<L.length
 ·have f1:((i:Int)<L.length)=True:=eq_true (by omega)
  have f2:(i<L.length)=True:=eq_true hi2
  have f3:(i*8+8≤L.length*8)=True:=eq_true (by omega)
  have v1:=vF L i
  have hb:=h i
  have c1:=rN t c (L.getD i v0) ht hc (by omega)
  have hap:=QR vC 8 v0 (Zw t c (L.take i)) (put t c (L.getD i v0)) (by omega)
  rw [YL _ _ _ _ hi2,gj _ _ _ _ hi] at hap
  refine Xi ?_
  simp only [Om,X5,w1,f1,f2,f3,v1,Int.toNat_natCast,↓X1,wF,seval]
  refine X0 c1 rfl ?_
  simp only [w1,↓X1,wF,seval]
  exact ⟨⟨Gc _,by omega,by omega⟩,next (i+1) _ (by omega) (by omega) (XD (m:=2) (Nat.zero_le _) rfl (by simp [Xg]) (by simp [Xn,Xr,X5,I]) (by rw [← hap]; rfl) (by simp [XA]) (by simp [XA,bv]) (by simp [bo,br]))⟩
 obtain rfl:i=L.length:=by omega
 refine Xi ?_
 simp only [Om,X5,Int.lt_irrefl,Nat.lt_irrefl,↓X1,wF,seval]
 rw [hR,List.take_length]
 have hlen:(Zw t c L).length=L.length:=by simp [Zw]
 exact iV _ rfl (by rw [hlen]; rfl) (by rw [hlen]; rfl)
end
end Go.Ab.N
