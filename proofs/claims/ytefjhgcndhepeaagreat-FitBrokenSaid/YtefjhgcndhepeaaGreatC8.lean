/- Contracts of functions of these chapters, for every argument that fits, and what they need. -/
import Derived.Test.YtefjhgcndhepeaaGreatC7
import Derived.Test.YtefjhgcndhepeaaGreatC6
set_option linter.unusedSimpArgs false
set_option linter.unusedVariables false
open Nat renaming reducePow → Y1, reduceLT → Y2, reduceLeDiff → Y3, reduceEqDiff → Y4, reduceAdd → Y5, reduceMul → Y6, reduceSub → Y7, reduceBEq → Y8, reduceDiv → Y9, reduceMod → YA
namespace Go.Ab.N
open Go Go.RowKit Go.Proofs
noncomputable section
set_option maxRecDepth 10000
set_option maxHeartbeats 4000000
open Classical
theorem FG {a:Rat} (h:qb a≤rm):(RQ.of a).sz<4611686018427387904:=Nat.lt_of_le_of_lt (RQ.of_sz a) (by unfold rm at h; omega)
theorem GG (a b:Rat) (ha:qb a≤rm) (hb:qb b≤rm):Fn Tryz.prog 29 [qA a,qA b] (.bool (decide (a=b))):=by
 have:=Sm (RQ.of a) (RQ.of b) (FG ha) (FG hb)
 rwa [decide_eq_decide.2 (show RQ.of a=RQ.of b↔a=b from ⟨RQ.of_inj,fun h=>by rw [h]⟩)] at this
theorem E5 (a b:Rat) (ha:qb a≤rm) (hb:qb b≤rm):Fn Tryz.prog 86 [qA a,qA b] (.bool (decide (a=b))):=by
 have:=cG (RQ.of a) (RQ.of b) (FG ha) (FG hb)
 rwa [decide_eq_decide.2 (show RQ.of a=RQ.of b↔a=b from ⟨RQ.of_inj,fun h=>by rw [h]⟩)] at this
theorem Ws (a:Rat) (ha:qb a≤rm):Fn Tryz.prog 79 [qA a] (.bool true):=by
 have:=NC (RQ.of a) (Nat.lt_of_le_of_lt (RQ.of_sz a) (by unfold rm at ha; omega))
 rwa [decide_eq_true ⟨a,rfl⟩] at this
def ZE (t a:V2):V2:=⟨t.x*a.x - t.y*a.y,t.y*a.x+t.x*a.y⟩
def V2.scale (a:V2) (k:Rat):V2:=⟨a.x*k,a.y*k⟩
def Zb (t:V2):Prop:=t.x*t.x+t.y*t.y=1
def Qq:V2:=⟨1,0⟩
theorem F5 (t a:V2):vb (ZE t a)≤2*(vb t+vb a)+1:=by
 have:=QA t.x a.x; have:=QA t.y a.y; have:=QA t.y a.x; have:=QA t.x a.y
 have:=QM t; have:=QG t; have:=QM a; have:=QG a
 have:=EU (t.x*a.x) (t.y*a.y); have:=KW (t.y*a.x) (t.x*a.y)
 unfold ZE
 show max (qb (t.x*a.x - t.y*a.y)) (qb (t.y*a.x+t.x*a.y))≤_
 omega
theorem kc (a:V2) (k:Rat):vb (a.scale k)≤vb a+qb k:=by
 have:=QA a.x k; have:=QA a.y k; have:=QM a; have:=QG a
 unfold V2.scale
 show max (qb (a.x*k)) (qb (a.y*k))≤_
 omega
theorem Gl:Rat.divInt 1 1=1:=by decide +kernel
theorem V2.ext' {a b:V2}:a=b↔a.x=b.x∧a.y=b.y:=by
 cases a; cases b
 simp
theorem Wf (a b:V2) (ha:vb a≤vm) (hb:vb b≤vm):Fn Tryz.prog 42 [vA a,vA b] (.bool (decide (a=b))):=by
 unfold vm at ha hb
 have:=QM a; have:=QM b; have:=QG a; have:=QG b
 have c1:=GG a.x b.x (by unfold rm; omega) (by unfold rm; omega)
 have c2:=GG a.y b.y (by unfold rm; omega) (by unfold rm; omega)
 obtain ⟨V,hV⟩:∃ V,V=decide (a=b):=⟨_,rfl⟩
 rw [← hV]
 refine Fr Tryz.call42 Tryz.func42 5 [] [] [] ?_; simp (maxSteps:=999999) only [AS.start,↓X1,wF,seval]
 refine X0 c1 rfl ?_
 by_cases h:a.x=b.x
 ·rw [decide_eq_true h]
  simp only [↓X1,wF,seval]
  refine X0 c2 rfl ?_
  simp only [↓X1,wF,seval]
  exact Xv (v:=.bool (decide (a.y=b.y))) rfl rfl (X2 _) (by rw [hV]; exact congrArg AV.bool (decide_eq_decide.2 (show a.y=b.y↔a=b from ⟨fun e=>V2.ext'.2 ⟨h,e⟩,fun e=>(V2.ext'.1 e).2⟩)))
 ·rw [decide_eq_false h]
  simp only [↓X1,wF,seval]
  exact Xv (v:=.bool false) rfl rfl (X2 _) (by rw [hV,decide_eq_false (p:=a=b) fun e=>h (by rw [e])])
theorem A9 (a b:V2) (ha:vb a≤vm) (hb:vb b≤vm):Fn Tryz.prog 67 [vA a,vA b] (.bool (decide (a=b))):=by
 unfold vm at ha hb
 have:=QM a; have:=QM b; have:=QG a; have:=QG b
 have c1:=GG a.x b.x (by unfold rm; omega) (by unfold rm; omega)
 have c2:=GG a.y b.y (by unfold rm; omega) (by unfold rm; omega)
 obtain ⟨V,hV⟩:∃ V,V=decide (a=b):=⟨_,rfl⟩
 rw [← hV]
 refine Fr Tryz.call67 Tryz.func67 5 [] [] [] ?_; simp (maxSteps:=999999) only [AS.start,↓X1,wF,seval]
 refine X0 c1 rfl ?_
 by_cases h:a.x=b.x
 ·rw [decide_eq_true h]
  simp only [↓X1,wF,seval]
  refine X0 c2 rfl ?_
  simp only [↓X1,wF,seval]
  exact Xv (v:=.bool (decide (a.y=b.y))) rfl rfl (X2 _) (by rw [hV]; exact congrArg AV.bool (decide_eq_decide.2 (show a.y=b.y↔a=b from ⟨fun e=>V2.ext'.2 ⟨h,e⟩,fun e=>(V2.ext'.1 e).2⟩)))
 ·rw [decide_eq_false h]
  simp only [↓X1,wF,seval]
  exact Xv (v:=.bool false) rfl rfl (X2 _) (by rw [hV,decide_eq_false (p:=a=b) fun e=>h (by rw [e])])
theorem Oz (a b:V2) (ha:vb a≤vm) (hb:vb b≤vm):Fn Tryz.prog 59 [vA a,vA b] (vA (a.add b)):=by
 unfold vm at ha hb
 obtain ⟨R,hR⟩:∃ R,R=vA (a.add b):=⟨_,rfl⟩
 have sR:Settled R:=hR▸Xo _
 have:=QM a; have:=QM b; have:=QG a; have:=QG b
 have c1:=A2 a.x b.x (by unfold rm; omega) (by unfold rm; omega)
 have c2:=A2 a.y b.y (by unfold rm; omega) (by unfold rm; omega)
 rw [← hR]
 refine Fr Tryz.call59 Tryz.func59 5 [] [] [] ?_; simp (maxSteps:=999999) only [AS.start,↓X1,wF,seval]
 refine X0 c1 rfl ?_
 simp only [↓X1,wF,seval]
 refine X0 c2 rfl ?_
 simp only [↓X1,wF,seval]
 exact Ar rfl Kc rfl rfl rfl sR (hR.trans rfl)
theorem Nx (a:V2) (k:Rat) (ha:vb a≤vm) (hk:qb k≤vm):Fn Tryz.prog 58 [vA a,qA k] (vA (a.scale k)):=by
 unfold vm at ha hk
 obtain ⟨R,hR⟩:∃ R,R=vA (a.scale k):=⟨_,rfl⟩
 have sR:Settled R:=hR▸Xo _
 have:=QM a; have:=QG a
 have c1:=JZ a.x k (by unfold rm; omega) (by unfold rm; omega)
 have c2:=JZ a.y k (by unfold rm; omega) (by unfold rm; omega)
 rw [← hR]
 refine Fr Tryz.call58 Tryz.func58 5 [] [] [] ?_; simp (maxSteps:=999999) only [AS.start,↓X1,wF,seval]
 refine X0 c1 rfl ?_
 simp only [↓X1,wF,seval]
 refine X0 c2 rfl ?_
 simp only [↓X1,wF,seval]
 exact Ar rfl Kc rfl rfl rfl sR (hR.trans rfl)
theorem bN:Fn Tryz.prog 203 [] (vA Qq):=by
 have c1:=EX 1 1 ⟨by omega,by omega⟩ ⟨by omega,by omega⟩
 rw [Gl] at c1
 obtain ⟨R,hR⟩:∃ R,R=vA Qq:=⟨_,rfl⟩
 have sR:Settled R:=hR▸Xo _
 rw [← hR]
 refine Fr Tryz.call203 Tryz.func203 1 [] [] [] ?_; simp (maxSteps:=999999) only [AS.start,↓X1,wF,seval]
 refine X0 c1 rfl ?_
 simp only [↓X1,wF,seval]
 refine Lk rfl N9 rfl rfl rfl ?_
 rw [hR]
 exact BW ⟨(X2 _).sees _,(X6 _).sees _,(X2 _).sees _,(X6 _).sees _,(X2 _).sees _,XK (X6 _) (QB (by show X8 (0:Rat).num.natAbs=[]; rw [Rat.zero_num]; simp [XV])),(X2 _).sees _,XK (X6 _) (QB (Dn rfl)),trivial⟩
theorem EV (a b:V2) (ha:vb a≤vm) (hb:vb b≤vm):Fn Tryz.prog 48 [vA a,vA b] (.bool (decide (a=b))):=by
 unfold vm at ha hb
 have:=QM a; have:=QM b; have:=QG a; have:=QG b
 have c1:=E5 a.x b.x (by unfold rm; omega) (by unfold rm; omega)
 have c2:=E5 a.y b.y (by unfold rm; omega) (by unfold rm; omega)
 obtain ⟨V,hV⟩:∃ V,V=decide (a=b):=⟨_,rfl⟩
 rw [← hV]
 refine Fr Tryz.call48 Tryz.func48 5 [] [] [] ?_; simp (maxSteps:=999999) only [AS.start,↓X1,wF,seval]
 refine X0 c1 rfl ?_
 by_cases h:a.x=b.x
 ·rw [decide_eq_true h]
  simp only [↓X1,wF,seval]
  refine X0 c2 rfl ?_
  simp only [↓X1,wF,seval]
  exact Xv (v:=.bool (decide (a.y=b.y))) rfl rfl (X2 _) (by rw [hV]; exact congrArg AV.bool (decide_eq_decide.2 (show a.y=b.y↔a=b from ⟨fun e=>V2.ext'.2 ⟨h,e⟩,fun e=>(V2.ext'.1 e).2⟩)))
 ·rw [decide_eq_false h]
  simp only [↓X1,wF,seval]
  exact Xv (v:=.bool false) rfl rfl (X2 _) (by rw [hV,decide_eq_false (p:=a=b) fun e=>h (by rw [e])])
theorem AW (a b:V2) (ha:vb a≤vm) (hb:vb b≤vm):Fn Tryz.prog 41 [vA a,vA b] (.bool (decide (a=b))):=by
 unfold vm at ha hb
 have:=QM a; have:=QM b; have:=QG a; have:=QG b
 have c1:=E5 a.x b.x (by unfold rm; omega) (by unfold rm; omega)
 have c2:=E5 a.y b.y (by unfold rm; omega) (by unfold rm; omega)
 obtain ⟨V,hV⟩:∃ V,V=decide (a=b):=⟨_,rfl⟩
 rw [← hV]
 refine Fr Tryz.call41 Tryz.func41 5 [] [] [] ?_; simp (maxSteps:=999999) only [AS.start,↓X1,wF,seval]
 refine X0 c1 rfl ?_
 by_cases h:a.x=b.x
 ·rw [decide_eq_true h]
  simp only [↓X1,wF,seval]
  refine X0 c2 rfl ?_
  simp only [↓X1,wF,seval]
  exact Xv (v:=.bool (decide (a.y=b.y))) rfl rfl (X2 _) (by rw [hV]; exact congrArg AV.bool (decide_eq_decide.2 (show a.y=b.y↔a=b from ⟨fun e=>V2.ext'.2 ⟨h,e⟩,fun e=>(V2.ext'.1 e).2⟩)))
 ·rw [decide_eq_false h]
  simp only [↓X1,wF,seval]
  exact Xv (v:=.bool false) rfl rfl (X2 _) (by rw [hV,decide_eq_false (p:=a=b) fun e=>h (by rw [e])])
theorem L9 (t a:V2) (ht:vb t≤vm) (ha:vb a≤vm):Fn Tryz.prog 43 [vA t,vA a] (vA (ZE t a)):=by
 unfold vm at ht ha
 obtain ⟨R,hR⟩:∃ R,R=vA (ZE t a):=⟨_,rfl⟩
 have sR:Settled R:=hR▸Xo _
 have:=QM t; have:=QG t; have:=QM a; have:=QG a
 have m1:=QA t.x a.x; have m2:=QA t.y a.y; have m3:=QA t.y a.x; have m4:=QA t.x a.y
 have c1:=JZ t.x a.x (by unfold rm; omega) (by unfold rm; omega)
 have c2:=JZ t.y a.y (by unfold rm; omega) (by unfold rm; omega)
 have c3:=Cu (t.y*a.y)
 have c4:=FK (t.x*a.x) (-(t.y*a.y)) (by omega) (by rw [Bz]; omega)
 rw [← Rat.sub_eq_add_neg] at c4
 have c5:=JZ t.y a.x (by unfold rm; omega) (by unfold rm; omega)
 have c6:=JZ t.x a.y (by unfold rm; omega) (by unfold rm; omega)
 have c7:=FK (t.y*a.x) (t.x*a.y) (by omega) (by omega)
 rw [← hR]
 refine Fr Tryz.call43 Tryz.func43 5 [] [] [] ?_; simp (maxSteps:=999999) only [AS.start,↓X1,wF,seval]
 refine X0 c1 rfl ?_
 simp only [↓X1,wF,seval]
 refine X0 c2 rfl ?_
 simp only [↓X1,wF,seval]
 refine X0 c3 rfl ?_
 simp only [↓X1,wF,seval]
 refine X0 c4 rfl ?_
 simp only [↓X1,wF,seval]
 refine X0 c5 rfl ?_
 simp only [↓X1,wF,seval]
 refine X0 c6 rfl ?_
 simp only [↓X1,wF,seval]
 refine X0 c7 rfl ?_
 simp only [↓X1,wF,seval]
 exact Ar rfl Kc rfl rfl rfl sR (hR.trans rfl)
theorem Mk (t a:V2) (ht:vb t≤vm) (ha:vb a≤vm):Fn Tryz.prog 105 [vA t,vA a] (vA (ZE t a)):=by
 unfold vm at ht ha
 obtain ⟨R,hR⟩:∃ R,R=vA (ZE t a):=⟨_,rfl⟩
 have sR:Settled R:=hR▸Xo _
 have:=QM t; have:=QG t; have:=QM a; have:=QG a
 have m1:=QA t.x a.x; have m2:=QA t.y a.y; have m3:=QA t.y a.x; have m4:=QA t.x a.y
 have c1:=JX t.x a.x (by unfold rm; omega) (by unfold rm; omega)
 have c2:=JX t.y a.y (by unfold rm; omega) (by unfold rm; omega)
 have c4:=AY (t.x*a.x) (t.y*a.y) (by unfold rm; omega) (by unfold rm; omega)
 have c5:=JX t.y a.x (by unfold rm; omega) (by unfold rm; omega)
 have c6:=JX t.x a.y (by unfold rm; omega) (by unfold rm; omega)
 have c7:=AX (t.y*a.x) (t.x*a.y) (by unfold rm; omega) (by unfold rm; omega)
 rw [← hR]
 refine Fr Tryz.call105 Tryz.func105 7 [] [1,20000002,20000003,2,30000002,30000003] [] ?_; simp (maxSteps:=999999) only [AS.start,↓X1,wF,seval]
 refine X0 c1 rfl ?_
 simp only [↓X1,wF,seval]
 refine X0 c2 rfl ?_
 simp only [↓X1,wF,seval]
 refine X0 c4 rfl ?_
 simp only [↓X1,wF,seval]
 refine X0 c5 rfl ?_
 simp only [↓X1,wF,seval]
 refine X0 c6 rfl ?_
 simp only [↓X1,wF,seval]
 refine X0 c7 rfl ?_
 simp only [↓X1,wF,seval]
 exact Ar rfl Kc rfl rfl rfl sR (hR.trans rfl)
theorem jh (t:V2) (ht:vb t≤vm):Fn Tryz.prog 123 [vA t] (.bool (decide (Zb t))):=by
 unfold vm at ht
 have:=QM t; have:=QG t
 have m1:=QA t.x t.x; have m2:=QA t.y t.y; have m3:=KW (t.x*t.x) (t.y*t.y)
 have v1:=Ws t.x (by unfold rm; omega)
 have v2:=Ws t.y (by unfold rm; omega)
 have c1:=JZ t.x t.x (by unfold rm; omega) (by unfold rm; omega)
 have c2:=JZ t.y t.y (by unfold rm; omega) (by unfold rm; omega)
 have c3:=FK (t.x*t.x) (t.y*t.y) (by omega) (by omega)
 have c4:=EX 1 1 ⟨by omega,by omega⟩ ⟨by omega,by omega⟩
 rw [Gl] at c4
 have c5:=GG (t.x*t.x+t.y*t.y) 1 (by unfold rm; omega) (by have:=(OD 1 1 ⟨by omega,by omega⟩ ⟨by omega,by omega⟩); rw [Gl] at this; unfold rm; omega)
 rw [show decide (t.x*t.x+t.y*t.y=1)=decide (Zb t) from decide_eq_decide.2 Iff.rfl] at c5
 refine Fr Tryz.call123 Tryz.func123 3 [] [] [] ?_; simp (maxSteps:=999999) only [AS.start,↓X1,wF,seval]
 refine X0 v1 rfl ?_
 simp only [↓X1,wF,seval]
 refine X0 v2 rfl ?_
 simp only [↓X1,wF,seval]
 refine X0 c1 rfl ?_
 simp only [↓X1,wF,seval]
 refine X0 c2 rfl ?_
 simp only [↓X1,wF,seval]
 refine X0 c3 rfl ?_
 simp only [↓X1,wF,seval]
 refine X0 c4 rfl ?_
 simp only [↓X1,wF,seval]
 refine X0 c5 rfl ?_
 simp only [↓X1,wF,seval]
 exact Xv rfl rfl (X2 _) rfl
theorem ji (b:Rat):qb b⁻¹≤qb b:=by
 rw [Rat.inv_def]
 exact KO _ _ _ (UE b) (K4 b) (JW b)
theorem jl (a b:Rat):qb (a / b)≤qb a+qb b:=by
 rw [Rat.div_def]
 have:=QA a b⁻¹; have:=ji b
 omega
theorem Wo (a b:Rat) (ha:qb a≤vm) (hb:qb b≤vm) (h0:b≠0):Fn Tryz.prog 192 [qA a,qA b] (qA (a / b)):=by
 unfold vm at ha hb
 have q1:=ji b
 have hn:b.num≠0:=fun h=>h0 (Rat.num_eq_zero.1 h)
 have c1:=C9 b
 have c2:=DU b.den b.num hn (by
  have:=b.reduced
  rw [Int.gcd_comm]
  exact this)
 rw [← Rat.inv_def] at c2
 have c3:=JZ a b⁻¹ (by unfold rm; omega) (by unfold rm; omega)
 rw [← Rat.div_def] at c3
 obtain ⟨R,hR⟩:∃ R,R=qA (a / b):=⟨_,rfl⟩
 have sR:Settled R:=hR▸Xa _
 have f1:((X8 b.num.natAbs).length=0)=False:=eq_false fun h=>hn (by have:=digs_len_zero.1 h; omega)
 have f2:(((X8 b.num.natAbs).length:Int)=0)=False:=eq_false fun h=>hn (by have:=digs_len_zero.1 (show (X8 b.num.natAbs).length=0 by omega); omega)
 rw [← hR] at c3 ⊢
 refine Fr Tryz.call192 Tryz.func192 5 [] [] [] ?_; simp (maxSteps:=999999) only [AS.start,↓X1,wF,seval]
 simp only [f1,f2,↓X1,wF,seval]
 refine X0 c1 rfl ?_
 simp only [↓X1,wF,seval]
 refine X0 c2 rfl ?_
 simp only [↓X1,wF,seval]
 refine X0 c3 rfl ?_
 simp only [hR,↓X1,wF,seval]
 exact JO rfl Qh rfl rfl rfl sR (hR.trans rfl)
noncomputable def K0 (a b:V2):V2×Int :=
 if Q1 a a=0∨Q1 b b=0 then (v0,1) else if Q1 a a=Q1 b b then (⟨Q1 a b / Q1 a a,Q6 a b / Q1 a a⟩,0) else (v0,21)
def ZG:List AV:=[.bool false,.sl 0 0 (fun _=>.any) false,.bool false,.sl 0 0 (fun _=>.any) false,.bool false,.sl 0 0 (fun _=>.any) false,.bool false,.sl 0 0 (fun _=>.any) false]
theorem CC:WeakL ZG (vC v0) :=
 have h1:X8 (0:Rat).num.natAbs=[]:=by rw [Rat.zero_num]; simp [XV]
 have h2:X8 (qd (0:Rat))=[]:=Dn rfl
 ⟨Weak.rfl' _,QB h1,Weak.rfl' _,QB h2,Weak.rfl' _,QB h1,Weak.rfl' _,QB h2,trivial⟩
theorem bK (a b:V2) (ha:vb a≤10000) (hb:vb b≤10000):Fn Tryz.prog 114 [vA a,vA b] (.tup [vA (K0 a b).1,I (K0 a b).2]):=by
 obtain ⟨R,hR⟩:∃ R,R=K0 a b:=⟨_,rfl⟩
 rw [← hR]
 have q1:=Bx a a; have q2:=Bx b b; have q3:=Bx a b; have q4:=Dm a b
 have c1:=FJ a a (by unfold vm; omega) (by unfold vm; omega)
 have c2:=FJ b b (by unfold vm; omega) (by unfold vm; omega)
 have c3:=FJ a b (by unfold vm; omega) (by unfold vm; omega)
 have c4:=Gz a b (by unfold vm; omega) (by unfold vm; omega)
 have s1:=KD (Q1 a a)
 have s2:=KD (Q1 b b)
 have e1:=GG (Q1 a a) (Q1 b b) (by unfold rm; omega) (by unfold rm; omega)
 have zret:∀ {s:AS} {ver id':Nat} {k:Int},s.get 4=.ref id' ver 0→s.h[id']?=some (.row ver 8 (Xk ZG))→s.get 5=I k→R=(v0,k)→RetOk (QS Tryz.prog Tryz.f114 [1,20000002,20000003,6,70000002,70000003,70000006] [] (.tup [vA R.1,I R.2])) s:=fun h1 h2 h3 h4=>by
  subst h4
  exact Ki rfl (Xn N9 h1 h2 rfl) (by unfold Jj; rfl) (XK (Xo _) (QY CC)) (by rw [h3]; exact (X9 _).sees _)
 refine Fr Tryz.call114 Tryz.func114 8 [] [1,20000002,20000003,6,70000002,70000003,70000006] [] ?_; simp (maxSteps:=999999) only [AS.start,↓X1,wF,seval]
 refine X0 c1 rfl ?_
 simp only [↓X1,wF,seval]
 refine X0 c2 rfl ?_
 simp only [↓X1,wF,seval]
 refine X0 s1 rfl ?_
 by_cases h1:Q1 a a=0
 ·have f1:((Q1 a a).num.sign=0)=True:=eq_true ((FW _).2 h1)
  simp only [f1,↓X1,wF,seval]
  exact zret rfl rfl rfl (by rw [hR]; unfold K0; rw [if_pos (.inl h1)])
 have f1:((Q1 a a).num.sign=0)=False:=eq_false fun h=>h1 ((FW _).1 h)
 simp only [f1,↓X1,wF,seval]
 refine X0 s2 rfl ?_
 by_cases h2:Q1 b b=0
 ·have f2:((Q1 b b).num.sign=0)=True:=eq_true ((FW _).2 h2)
  simp only [f1,f2,↓X1,wF,seval]
  exact zret rfl rfl rfl (by rw [hR]; unfold K0; rw [if_pos (.inr h2)])
 have f2:((Q1 b b).num.sign=0)=False:=eq_false fun h=>h2 ((FW _).1 h)
 simp only [f1,f2,↓X1,wF,seval]
 refine X0 e1 rfl ?_
 have hno:¬ (Q1 a a=0∨Q1 b b=0):=fun h=>h.elim h1 h2
 by_cases h3:Q1 a a=Q1 b b
 rotate_left
 ·rw [decide_eq_false h3]
  simp only [↓X1,wF,seval]
  exact zret rfl rfl rfl (by rw [hR]; unfold K0; rw [if_neg hno,if_neg h3])
 rw [decide_eq_true h3]
 have d1:=Wo (Q1 a b) (Q1 a a) (by unfold vm; omega) (by unfold vm; omega) h1
 have d2:=Wo (Q6 a b) (Q1 a a) (by unfold vm; omega) (by unfold vm; omega) h1
 simp only [↓X1,wF,seval]
 refine X0 c3 rfl ?_
 simp only [↓X1,wF,seval]
 refine X0 d1 rfl ?_
 simp only [↓X1,wF,seval]
 refine X0 c4 rfl ?_
 simp only [↓X1,wF,seval]
 refine X0 d2 rfl ?_
 simp only [↓X1,wF,seval]
 have hRe:R=(⟨Q1 a b / Q1 a a,Q6 a b / Q1 a a⟩,0):=by rw [hR]; unfold K0; rw [if_neg hno,if_pos h3]
 subst hRe
 exact Ki rfl (Xn N9 rfl rfl rfl) (by unfold Jj; rfl) (XK (Xo _) (QY (Qj (vC ⟨Q1 a b / Q1 a a,Q6 a b / Q1 a a⟩)))) ((X9 _).sees _)
def P5 (t c:V2):List AV:=[.bool (decide (t.x.num<0)),X4 (X8 t.x.num.natAbs),.bool false,X4 (X8 (qd t.x)),.bool (decide (t.y.num<0)),X4 (X8 t.y.num.natAbs),.bool false,X4 (X8 (qd t.y)),
 .bool (decide (c.x.num<0)),X4 (X8 c.x.num.natAbs),.bool false,X4 (X8 (qd c.x)),.bool (decide (c.y.num<0)),X4 (X8 c.y.num.natAbs),.bool false,X4 (X8 (qd c.y))]
def kK (t c:V2):AV:=.agg (P5 t c)
theorem Ag (t c:V2):∀ x∈P5 t c,Settled x:=by simp [P5,X6,X2]
theorem Bq (t c:V2):Settled (kK t c):=Qo (Ag t c)
def put (t c a:V2):V2:=(ZE t a).add c
def vX (t c:V2):AV:=.ptr 16 (Xk (P5 t c)) 0
theorem Ho (t c:V2):Settled (vX t c):=QO fun j _=>Xe (Ag t c) j
theorem ul (t c a:V2):vb (put t c a)≤2*(vb t+vb a)+vb c+2:=by
 have:=F5 t a; have:=GN (ZE t a) c
 unfold put; omega
theorem bw (t c a:V2) (ht:vb t≤100000) (hc:vb c≤100000) (ha:vb a≤100000):Fn Tryz.prog 206 [vA a,vX t c] (vA (put t c a)):=by
 have m:=F5 t a
 have c1:=L9 t a (by unfold vm; omega) (by unfold vm; omega)
 have c2:=Oz (ZE t a) c (by unfold vm; omega) (by unfold vm; omega)
 obtain ⟨R,hR⟩:∃ R,R=vA (put t c a):=⟨_,rfl⟩
 have sR:Settled R:=hR▸Xo _
 rw [← hR]
 refine Fq Tryz.call206 Tryz.func206 4 [] [] [] (by simp [Xo,Ho]) (Xj ?_)
 simp only [AS.start,vX,P5,↓X1,wF,seval]
 refine X0 c1 rfl ?_
 simp only [↓X1,wF,seval]
 refine X0 c2 rfl ?_
 simp only [↓X1,wF,seval]
 exact Ar rfl Kc rfl rfl rfl sR (hR.trans rfl)
theorem iI (t c:V2):Fn Tryz.prog 143 [kK t c] (.fn 206 [vX t c]):=by
 have hset:Settled (.fn 206 [vX t c]):=Jb (by simp [Ho])
 refine Fq Tryz.call143 Tryz.func143 3 [] [] [] (by simp [Bq]) (Xj ?_)
 simp only [AS.start,kK,P5,↓X1,wF,seval]
 refine BU rfl (Bm ⟨KE (.inl rfl) (by omega) fun j hj=>?_,trivial⟩)
 exact (Xe (Ag t c) j).sees _
theorem tM (t c a:V2) (ht:vb t≤100000) (hc:vb c≤100000) (ha:vb a≤100000):Fn Tryz.prog 55 [kK t c,vA a] (vA (put t c a)):=by
 have c1:=iI t c
 have c2:=bw t c a ht hc ha
 obtain ⟨R,hR⟩:∃ R,R=vA (put t c a):=⟨_,rfl⟩
 have sR:Settled R:=hR▸Xo _
 rw [← hR]
 refine Fq Tryz.call55 Tryz.func55 5 [] [] [] (by simp [Bq,Xo]) (Xj ?_)
 simp only [AS.start,kK,P5,↓X1,wF,seval]
 refine X0 c1 rfl ?_
 simp only [↓X1,wF,seval]
 refine X0 c2 rfl ?_
 simp only [↓X1,wF,seval]
 exact Ar rfl Kc rfl rfl rfl sR (hR.trans rfl)
def Zs (t c:V2) (L:List V2):List V2:=L.map (put t c)
theorem bm (t c:V2) (L:List V2) (i:Nat) (hi:i<L.length):Zs t c (L.take i) ++ [put t c (L.getD i v0)]=Zs t c (L.take (i+1)):=by
 rw [CB _ v0 hi]; simp [Zs]
theorem iH (t c:V2) (L:List V2) (i:Nat) (hi:i≤L.length):(Zs t c (L.take i)).length=i:=by simp [Zs]; omega
theorem SU {P:Program} {fn:Func} {str hcs:List Nat} {s:AS} {t id ver:Nat} (L:List V2) (hr:fn.results=#[.tmp t]) (hs:s.get t=.osl id ver 8 0 L.length) (ho:s.h[id]?=some (.row ver (L.length*8) (Xt vC 8 v0 L))):RetOk (QS P fn str hcs (Xx L)) s:=by
 refine BU hr ?_
 rw [hs,X5]
 refine Jk (.inl ho) (by omega) (fun h=>by rw [h]) fun j hj=>?_
 rw [Nat.zero_add]
 exact (Xe (by simp [vC,X6,X2]) _).sees _
theorem F4 (a:V2):∀ j,j<8→((vC a).getD j .any).one=true:=fun j hj=>by
 match j,hj with
 | 0,_=>rfl
 | 1,_=>rfl
 | 2,_=>rfl
 | 3,_=>rfl
 | 4,_=>rfl
 | 5,_=>rfl
 | 6,_=>rfl
 | 7,_=>rfl
 | j+8,h=>omega
theorem Sa (t c:V2) (L:List V2) (k:Nat) (h:Qs L k) (hk:k≤100000) (hl:L.length<1000000) (ht:vb t≤100000) (hc:vb c≤100000):Fn Tryz.prog 69 [kK t c,Xx L] (Xx (Zs t c L)):=by
 have bo:XT 2 (.row 0 16 (Xk (P5 t c)))=True:=eq_true (XL (Ag t c))
 have hvc:∀ a:V2,∀ x∈vC a,Settled x:=fun a=>by simp [vC,X6,X2]
 have bv:Ko 2 (Xx L)=True:=eq_true (X7 (Xh L))
 have br:∀ i l n,XT 2 (.row i n (Xt vC 8 v0 l))=True:=fun i l n=>eq_true fun j _=>X7 (Xe (hvc _) _)
 obtain ⟨R,hR⟩:∃ R,R=Xx (Zs t c L):=⟨_,rfl⟩
 rw [← hR]
 refine Fq Tryz.call69 Tryz.func69 8 [8,9,10] [] [] (by simp [Bq,Xh]) (Xj ?_)
 simp only [AS.start,kK,P5,X5,↓X1,wF,seval]
 refine Xd (fun i:Nat=>⟨8,[8,9,10],[.any,.any,.ref 0 0 0,.any,.any,.osl 1 i 8 0 i,.any,.any],[(8,Xx L),(9,I L.length),(10,I i)],[.row 0 16 (Xk (P5 t c)),.row i (i*8) (Xt vC 8 v0 (Zs t c (L.take i)))]⟩) (fun i=>i≤L.length) (fun i=>L.length - i) 0 (by omega)
  (Sub.trans (Jd 5 8 (Xt vC 8 v0 []) rfl) (Xg rfl (by simp [AS.put,Xf,I]) (by simp [AS.put,Xm,Xq,X5,I]) (by simp [AS.put,P5,X3,Zs]))) ?_
 intro i hi next
 have w1:=wj i (by omega)
 by_cases hi2:i<L.length
 ·have f1:((i:Int)<L.length)=True:=eq_true (by omega)
  have f2:(i<L.length)=True:=eq_true hi2
  have f3:(i*8+8≤L.length*8)=True:=eq_true (by omega)
  have v1:=vF L i
  have hb:=h i
  have c1:=tM t c (L.getD i v0) ht hc (by omega)
  have hap:=QN vC 8 v0 (Zs t c (L.take i)) (put t c (L.getD i v0)) (by omega)
  rw [bm _ _ _ _ hi2,iH _ _ _ _ hi] at hap
  refine Xj ?_
  simp only [P5,X5,w1,f1,f2,f3,v1,Int.toNat_natCast,↓X1,wF,seval]
  refine X0 c1 rfl ?_
  simp only [w1,↓X1,wF,seval]
  exact ⟨⟨F4 _,by omega,by omega⟩,next (i+1) _ (by omega) (by omega) (XD (m:=2) (Nat.zero_le _) rfl (by simp [Xf]) (by simp [Xm,Xq,X5,I]) (by rw [← hap]; rfl) (by simp [XA]) (by simp [XA,bv]) (by simp [bo,br]))⟩
 obtain rfl:i=L.length:=by omega
 refine Xj ?_
 simp only [P5,X5,Int.lt_irrefl,Nat.lt_irrefl,↓X1,wF,seval]
 rw [hR,List.take_length]
 have hlen:(Zs t c L).length=L.length:=by simp [Zs]
 exact SU _ rfl (by rw [hlen]; rfl) (by rw [hlen]; rfl)
end
end Go.Ab.N
