/- Contracts of functions of these chapters, for every argument that fits, and what they need. -/
import Derived.Test.YtefjhgcndhepeaaGreatC7
import Derived.Test.YtefjhgcndhepeaaGreatC6
set_option linter.unusedSimpArgs false
set_option linter.unusedVariables false
open Nat renaming reducePow → Y1, reduceLT → Y2, reduceLeDiff → Y3, reduceEqDiff → Y4, reduceAdd → Y5, reduceMul → Y6, reduceSub → Y7, reduceBEq → Y8, reduceDiv → Y9, reduceMod → YA
namespace Go.Ab.N
open Go Go.RowKit Go.Proofs
noncomputable section
set_option maxRecDepth 10000
set_option maxHeartbeats 4000000
open Classical
theorem G9 {a:Rat} (h:qb a≤rm):(RQ.of a).sz<4611686018427387904:=Nat.lt_of_le_of_lt (RQ.of_sz a) (by unfold rm at h; omega)
theorem Hd (a b:Rat) (ha:qb a≤rm) (hb:qb b≤rm):Fn Tryz.prog 29 [qA a,qA b] (.bool (decide (a=b))):=by
 have:=Sz (RQ.of a) (RQ.of b) (G9 ha) (G9 hb)
 rwa [decide_eq_decide.2 (show RQ.of a=RQ.of b↔a=b from ⟨RQ.of_inj,fun h=>by rw [h]⟩)] at this
theorem Br (a b:Rat) (ha:qb a≤rm) (hb:qb b≤rm):Fn Tryz.prog 86 [qA a,qA b] (.bool (decide (a=b))):=by
 have:=Ay (RQ.of a) (RQ.of b) (G9 ha) (G9 hb)
 rwa [decide_eq_decide.2 (show RQ.of a=RQ.of b↔a=b from ⟨RQ.of_inj,fun h=>by rw [h]⟩)] at this
theorem Wo (a:Rat) (ha:qb a≤rm):Fn Tryz.prog 79 [qA a] (.bool true):=by
 have:=EC (RQ.of a) (Nat.lt_of_le_of_lt (RQ.of_sz a) (by unfold rm at ha; omega))
 rwa [decide_eq_true ⟨a,rfl⟩] at this
theorem LW (a:Rat) (ha:qb a≤rm):Fn Tryz.prog 83 [qA a] (.bool true):=by
 have:=Gs (RQ.of a) (Nat.lt_of_le_of_lt (RQ.of_sz a) (by unfold rm at ha; omega))
 rwa [decide_eq_true ⟨a,rfl⟩] at this
def M5 (t a:V2):V2:=⟨t.x*a.x - t.y*a.y,t.y*a.x+t.x*a.y⟩
def V2.scale (a:V2) (k:Rat):V2:=⟨a.x*k,a.y*k⟩
def Dk (t:V2):Prop:=t.x*t.x+t.y*t.y=1
def KI:V2:=⟨1,0⟩
theorem Dl (t a:V2):vb (M5 t a)≤2*(vb t+vb a)+1:=by
 have:=QE t.x a.x; have:=QE t.y a.y; have:=QE t.y a.x; have:=QE t.x a.y
 have:=Qw t; have:=Qq t; have:=Qw a; have:=Qq a
 have:=Fv (t.x*a.x) (t.y*a.y); have:=Jy (t.y*a.x) (t.x*a.y)
 unfold M5
 show max (qb (t.x*a.x - t.y*a.y)) (qb (t.y*a.x+t.x*a.y))≤_
 omega
theorem jT (a:V2) (k:Rat):vb (a.scale k)≤vb a+qb k:=by
 have:=QE a.x k; have:=QE a.y k; have:=Qw a; have:=Qq a
 unfold V2.scale
 show max (qb (a.x*k)) (qb (a.y*k))≤_
 omega
theorem Bo:Rat.divInt 1 1=1:=by decide +kernel
theorem V2.ext' {a b:V2}:a=b↔a.x=b.x∧a.y=b.y:=by
 cases a; cases b
 simp
theorem OP (a b:V2) (ha:vb a≤vm) (hb:vb b≤vm):Fn Tryz.prog 42 [vA a,vA b] (.bool (decide (a=b))):=by
 unfold vm at ha hb
 have:=Qw a; have:=Qw b; have:=Qq a; have:=Qq b
 have c1:=Hd a.x b.x (by unfold rm; omega) (by unfold rm; omega)
 have c2:=Hd a.y b.y (by unfold rm; omega) (by unfold rm; omega)
 obtain ⟨V,hV⟩:∃ V,V=decide (a=b):=⟨_,rfl⟩
 rw [← hV]
 refine Fq Tryz.call42 Tryz.func42 5 [] [] [] (by simp [wS]) (X0 1000 ?_); simp (config:={ maxSteps:=2000000 }) only [AS.start,↓X2,wA,seval,wE]
 refine X1 c1 rfl ?_
 by_cases h:a.x=b.x
 ·rw [decide_eq_true h]
  simp only [↓X2,wA,seval,wE]
  refine X1 c2 rfl ?_
  simp only [↓X2,wA,seval,wE]
  exact Xr (v:=.bool (decide (a.y=b.y))) rfl rfl (X3 _) (by rw [hV]; exact congrArg AV.bool (decide_eq_decide.2 (show a.y=b.y↔a=b from ⟨fun e=>V2.ext'.2 ⟨h,e⟩,fun e=>(V2.ext'.1 e).2⟩)))
 ·rw [decide_eq_false h]
  simp only [↓X2,wA,seval,wE]
  exact Xr (v:=.bool false) rfl rfl (X3 _) (by rw [hV,decide_eq_false (p:=a=b) fun e=>h (by rw [e])])
theorem C9 (a b:V2) (ha:vb a≤vm) (hb:vb b≤vm):Fn Tryz.prog 67 [vA a,vA b] (.bool (decide (a=b))):=by
 unfold vm at ha hb
 have:=Qw a; have:=Qw b; have:=Qq a; have:=Qq b
 have c1:=Hd a.x b.x (by unfold rm; omega) (by unfold rm; omega)
 have c2:=Hd a.y b.y (by unfold rm; omega) (by unfold rm; omega)
 obtain ⟨V,hV⟩:∃ V,V=decide (a=b):=⟨_,rfl⟩
 rw [← hV]
 refine Fq Tryz.call67 Tryz.func67 5 [] [] [] (by simp [wS]) (X0 1000 ?_); simp (config:={ maxSteps:=2000000 }) only [AS.start,↓X2,wA,seval,wE]
 refine X1 c1 rfl ?_
 by_cases h:a.x=b.x
 ·rw [decide_eq_true h]
  simp only [↓X2,wA,seval,wE]
  refine X1 c2 rfl ?_
  simp only [↓X2,wA,seval,wE]
  exact Xr (v:=.bool (decide (a.y=b.y))) rfl rfl (X3 _) (by rw [hV]; exact congrArg AV.bool (decide_eq_decide.2 (show a.y=b.y↔a=b from ⟨fun e=>V2.ext'.2 ⟨h,e⟩,fun e=>(V2.ext'.1 e).2⟩)))
 ·rw [decide_eq_false h]
  simp only [↓X2,wA,seval,wE]
  exact Xr (v:=.bool false) rfl rfl (X3 _) (by rw [hV,decide_eq_false (p:=a=b) fun e=>h (by rw [e])])
theorem Gd (a b:V2) (ha:vb a≤vm) (hb:vb b≤vm):Fn Tryz.prog 59 [vA a,vA b] (vA (a.add b)):=by
 unfold vm at ha hb
 obtain ⟨R,hR⟩:∃ R,R=vA (a.add b):=⟨_,rfl⟩
 have sR:Settled R:=hR▸Xn _
 have:=Qw a; have:=Qw b; have:=Qq a; have:=Qq b
 have c1:=AM a.x b.x (by unfold rm; omega) (by unfold rm; omega)
 have c2:=AM a.y b.y (by unfold rm; omega) (by unfold rm; omega)
 rw [← hR]
 refine Fq Tryz.call59 Tryz.func59 5 [] [] [] (by simp [wS]) (X0 1000 ?_); simp (config:={ maxSteps:=2000000 }) only [AS.start,↓X2,wA,seval,wE]
 refine X1 c1 rfl ?_
 simp only [↓X2,wA,seval,wE]
 refine X1 c2 rfl ?_
 simp only [↓X2,wA,seval,wE]
 exact Zh rfl Jp rfl rfl rfl sR (hR.trans rfl)
theorem NQ (a:V2) (k:Rat) (ha:vb a≤vm) (hk:qb k≤vm):Fn Tryz.prog 58 [vA a,qA k] (vA (a.scale k)):=by
 unfold vm at ha hk
 obtain ⟨R,hR⟩:∃ R,R=vA (a.scale k):=⟨_,rfl⟩
 have sR:Settled R:=hR▸Xn _
 have:=Qw a; have:=Qq a
 have c1:=Kx a.x k (by unfold rm; omega) (by unfold rm; omega)
 have c2:=Kx a.y k (by unfold rm; omega) (by unfold rm; omega)
 rw [← hR]
 refine Fq Tryz.call58 Tryz.func58 5 [] [] [] (by simp [wS]) (X0 1000 ?_); simp (config:={ maxSteps:=2000000 }) only [AS.start,↓X2,wA,seval,wE]
 refine X1 c1 rfl ?_
 simp only [↓X2,wA,seval,wE]
 refine X1 c2 rfl ?_
 simp only [↓X2,wA,seval,wE]
 exact Zh rfl Jp rfl rfl rfl sR (hR.trans rfl)
theorem bi:Fn Tryz.prog 203 [] (vA KI):=by
 have c1:=Dg 1 1 ⟨by omega,by omega⟩ ⟨by omega,by omega⟩
 rw [Bo] at c1
 obtain ⟨R,hR⟩:∃ R,R=vA KI:=⟨_,rfl⟩
 have sR:Settled R:=hR▸Xn _
 rw [← hR]
 refine Fq Tryz.call203 Tryz.func203 1 [] [] [] (by simp [wS]) (X0 1000 ?_); simp (config:={ maxSteps:=2000000 }) only [AS.start,↓X2,wA,seval,wE]
 refine X1 c1 rfl ?_
 simp only [↓X2,wA,seval,wE]
 refine Gt rfl DL rfl rfl rfl ?_
 rw [hR]
 exact A7 ⟨(X3 _).sees _,(X7 _).sees _,(X3 _).sees _,(X7 _).sees _,(X3 _).sees _,Xs (X7 _) (QL (by show Xb (0:Rat).num.natAbs=[]; rw [Rat.zero_num]; simp [Q2])),(X3 _).sees _,Xs (X7 _) (QL (DU rfl)),trivial⟩
theorem Db (a b:V2) (ha:vb a≤vm) (hb:vb b≤vm):Fn Tryz.prog 48 [vA a,vA b] (.bool (decide (a=b))):=by
 unfold vm at ha hb
 have:=Qw a; have:=Qw b; have:=Qq a; have:=Qq b
 have c1:=Br a.x b.x (by unfold rm; omega) (by unfold rm; omega)
 have c2:=Br a.y b.y (by unfold rm; omega) (by unfold rm; omega)
 obtain ⟨V,hV⟩:∃ V,V=decide (a=b):=⟨_,rfl⟩
 rw [← hV]
 refine Fq Tryz.call48 Tryz.func48 5 [] [] [] (by simp [wS]) (X0 1000 ?_); simp (config:={ maxSteps:=2000000 }) only [AS.start,↓X2,wA,seval,wE]
 refine X1 c1 rfl ?_
 by_cases h:a.x=b.x
 ·rw [decide_eq_true h]
  simp only [↓X2,wA,seval,wE]
  refine X1 c2 rfl ?_
  simp only [↓X2,wA,seval,wE]
  exact Xr (v:=.bool (decide (a.y=b.y))) rfl rfl (X3 _) (by rw [hV]; exact congrArg AV.bool (decide_eq_decide.2 (show a.y=b.y↔a=b from ⟨fun e=>V2.ext'.2 ⟨h,e⟩,fun e=>(V2.ext'.1 e).2⟩)))
 ·rw [decide_eq_false h]
  simp only [↓X2,wA,seval,wE]
  exact Xr (v:=.bool false) rfl rfl (X3 _) (by rw [hV,decide_eq_false (p:=a=b) fun e=>h (by rw [e])])
theorem BM (a b:V2) (ha:vb a≤vm) (hb:vb b≤vm):Fn Tryz.prog 41 [vA a,vA b] (.bool (decide (a=b))):=by
 unfold vm at ha hb
 have:=Qw a; have:=Qw b; have:=Qq a; have:=Qq b
 have c1:=Br a.x b.x (by unfold rm; omega) (by unfold rm; omega)
 have c2:=Br a.y b.y (by unfold rm; omega) (by unfold rm; omega)
 obtain ⟨V,hV⟩:∃ V,V=decide (a=b):=⟨_,rfl⟩
 rw [← hV]
 refine Fq Tryz.call41 Tryz.func41 5 [] [] [] (by simp [wS]) (X0 1000 ?_); simp (config:={ maxSteps:=2000000 }) only [AS.start,↓X2,wA,seval,wE]
 refine X1 c1 rfl ?_
 by_cases h:a.x=b.x
 ·rw [decide_eq_true h]
  simp only [↓X2,wA,seval,wE]
  refine X1 c2 rfl ?_
  simp only [↓X2,wA,seval,wE]
  exact Xr (v:=.bool (decide (a.y=b.y))) rfl rfl (X3 _) (by rw [hV]; exact congrArg AV.bool (decide_eq_decide.2 (show a.y=b.y↔a=b from ⟨fun e=>V2.ext'.2 ⟨h,e⟩,fun e=>(V2.ext'.1 e).2⟩)))
 ·rw [decide_eq_false h]
  simp only [↓X2,wA,seval,wE]
  exact Xr (v:=.bool false) rfl rfl (X3 _) (by rw [hV,decide_eq_false (p:=a=b) fun e=>h (by rw [e])])
theorem Fw (a b:V2) (ha:vb a≤vm) (hb:vb b≤vm):Fn Tryz.prog 111 [vA a,vA b] (vA (a.add b)):=by
 unfold vm at ha hb
 obtain ⟨R,hR⟩:∃ R,R=vA (a.add b):=⟨_,rfl⟩
 have sR:Settled R:=hR▸Xn _
 have:=Qw a; have:=Qw b; have:=Qq a; have:=Qq b
 have c1:=Jz a.x b.x (by unfold rm; omega) (by unfold rm; omega)
 have c2:=Jz a.y b.y (by unfold rm; omega) (by unfold rm; omega)
 rw [← hR]
 refine Fq Tryz.call111 Tryz.func111 5 [] [] [] (by simp [wS]) (X0 1000 ?_); simp (config:={ maxSteps:=2000000 }) only [AS.start,↓X2,wA,seval,wE]
 refine X1 c1 rfl ?_
 simp only [↓X2,wA,seval,wE]
 refine X1 c2 rfl ?_
 simp only [↓X2,wA,seval,wE]
 exact Zh rfl Jp rfl rfl rfl sR (hR.trans rfl)
theorem OX (a:V2) (k:Rat) (ha:vb a≤vm) (hk:qb k≤vm):Fn Tryz.prog 211 [vA a,qA k] (vA (a.scale k)):=by
 unfold vm at ha hk
 obtain ⟨R,hR⟩:∃ R,R=vA (a.scale k):=⟨_,rfl⟩
 have sR:Settled R:=hR▸Xn _
 have:=Qw a; have:=Qq a
 have c1:=QW a.x k (by unfold rm; omega) (by unfold rm; omega)
 have c2:=QW a.y k (by unfold rm; omega) (by unfold rm; omega)
 rw [← hR]
 refine Fq Tryz.call211 Tryz.func211 5 [] [] [] (by simp [wS]) (X0 1000 ?_); simp (config:={ maxSteps:=2000000 }) only [AS.start,↓X2,wA,seval,wE]
 refine X1 c1 rfl ?_
 simp only [↓X2,wA,seval,wE]
 refine X1 c2 rfl ?_
 simp only [↓X2,wA,seval,wE]
 exact Zh rfl Jp rfl rfl rfl sR (hR.trans rfl)
theorem OY:Fn Tryz.prog 213 [] (vA KI):=by
 have c1:=Jt 1 1 ⟨by omega,by omega⟩ ⟨by omega,by omega⟩
 rw [Bo] at c1
 obtain ⟨R,hR⟩:∃ R,R=vA KI:=⟨_,rfl⟩
 have sR:Settled R:=hR▸Xn _
 rw [← hR]
 refine Fq Tryz.call213 Tryz.func213 1 [] [] [] (by simp [wS]) (X0 1000 ?_); simp (config:={ maxSteps:=2000000 }) only [AS.start,↓X2,wA,seval,wE]
 refine X1 c1 rfl ?_
 simp only [↓X2,wA,seval,wE]
 refine Gt rfl DL rfl rfl rfl ?_
 rw [hR]
 exact A7 ⟨(X3 _).sees _,(X7 _).sees _,(X3 _).sees _,(X7 _).sees _,(X3 _).sees _,Xs (X7 _) (QL (by show Xb (0:Rat).num.natAbs=[]; rw [Rat.zero_num]; simp [Q2])),(X3 _).sees _,Xs (X7 _) (QL (DU rfl)),trivial⟩
theorem LN (t a:V2) (ht:vb t≤vm) (ha:vb a≤vm):Fn Tryz.prog 43 [vA t,vA a] (vA (M5 t a)):=by
 unfold vm at ht ha
 obtain ⟨R,hR⟩:∃ R,R=vA (M5 t a):=⟨_,rfl⟩
 have sR:Settled R:=hR▸Xn _
 have:=Qw t; have:=Qq t; have:=Qw a; have:=Qq a
 have m1:=QE t.x a.x; have m2:=QE t.y a.y; have m3:=QE t.y a.x; have m4:=QE t.x a.y
 have c1:=Kx t.x a.x (by unfold rm; omega) (by unfold rm; omega)
 have c2:=Kx t.y a.y (by unfold rm; omega) (by unfold rm; omega)
 have c3:=De (t.y*a.y)
 have c4:=Gi (t.x*a.x) (-(t.y*a.y)) (by omega) (by rw [BK]; omega)
 rw [← Rat.sub_eq_add_neg] at c4
 have c5:=Kx t.y a.x (by unfold rm; omega) (by unfold rm; omega)
 have c6:=Kx t.x a.y (by unfold rm; omega) (by unfold rm; omega)
 have c7:=Gi (t.y*a.x) (t.x*a.y) (by omega) (by omega)
 rw [← hR]
 refine Fq Tryz.call43 Tryz.func43 5 [] [] [] (by simp [wS]) (X0 1000 ?_); simp (config:={ maxSteps:=2000000 }) only [AS.start,↓X2,wA,seval,wE]
 refine X1 c1 rfl ?_
 simp only [↓X2,wA,seval,wE]
 refine X1 c2 rfl ?_
 simp only [↓X2,wA,seval,wE]
 refine X1 c3 rfl ?_
 simp only [↓X2,wA,seval,wE]
 refine X1 c4 rfl ?_
 simp only [↓X2,wA,seval,wE]
 refine X1 c5 rfl ?_
 simp only [↓X2,wA,seval,wE]
 refine X1 c6 rfl ?_
 simp only [↓X2,wA,seval,wE]
 refine X1 c7 rfl ?_
 simp only [↓X2,wA,seval,wE]
 exact Zh rfl Jp rfl rfl rfl sR (hR.trans rfl)
theorem Cn (t a:V2) (ht:vb t≤vm) (ha:vb a≤vm):Fn Tryz.prog 105 [vA t,vA a] (vA (M5 t a)):=by
 unfold vm at ht ha
 obtain ⟨R,hR⟩:∃ R,R=vA (M5 t a):=⟨_,rfl⟩
 have sR:Settled R:=hR▸Xn _
 have:=Qw t; have:=Qq t; have:=Qw a; have:=Qq a
 have m1:=QE t.x a.x; have m2:=QE t.y a.y; have m3:=QE t.y a.x; have m4:=QE t.x a.y
 have c1:=QW t.x a.x (by unfold rm; omega) (by unfold rm; omega)
 have c2:=QW t.y a.y (by unfold rm; omega) (by unfold rm; omega)
 have c4:=ZE (t.x*a.x) (t.y*a.y) (by unfold rm; omega) (by unfold rm; omega)
 have c5:=QW t.y a.x (by unfold rm; omega) (by unfold rm; omega)
 have c6:=QW t.x a.y (by unfold rm; omega) (by unfold rm; omega)
 have c7:=Jz (t.y*a.x) (t.x*a.y) (by unfold rm; omega) (by unfold rm; omega)
 rw [← hR]
 refine Fq Tryz.call105 Tryz.func105 7 [] [1,20000002,20000003,2,30000002,30000003] [] (by simp [wS]) (X0 1000 ?_); simp (config:={ maxSteps:=2000000 }) only [AS.start,↓X2,wA,seval,wE]
 refine X1 c1 rfl ?_
 simp only [↓X2,wA,seval,wE]
 refine X1 c2 rfl ?_
 simp only [↓X2,wA,seval,wE]
 refine X1 c4 rfl ?_
 simp only [↓X2,wA,seval,wE]
 refine X1 c5 rfl ?_
 simp only [↓X2,wA,seval,wE]
 refine X1 c6 rfl ?_
 simp only [↓X2,wA,seval,wE]
 refine X1 c7 rfl ?_
 simp only [↓X2,wA,seval,wE]
 exact Zh rfl Jp rfl rfl rfl sR (hR.trans rfl)
theorem iZ (t:V2) (ht:vb t≤vm):Fn Tryz.prog 123 [vA t] (.bool (decide (Dk t))):=by
 unfold vm at ht
 have:=Qw t; have:=Qq t
 have m1:=QE t.x t.x; have m2:=QE t.y t.y; have m3:=Jy (t.x*t.x) (t.y*t.y)
 have v1:=Wo t.x (by unfold rm; omega)
 have v2:=Wo t.y (by unfold rm; omega)
 have c1:=Kx t.x t.x (by unfold rm; omega) (by unfold rm; omega)
 have c2:=Kx t.y t.y (by unfold rm; omega) (by unfold rm; omega)
 have c3:=Gi (t.x*t.x) (t.y*t.y) (by omega) (by omega)
 have c4:=Dg 1 1 ⟨by omega,by omega⟩ ⟨by omega,by omega⟩
 rw [Bo] at c4
 have c5:=Hd (t.x*t.x+t.y*t.y) 1 (by unfold rm; omega) (by have:=(D7 1 1 ⟨by omega,by omega⟩ ⟨by omega,by omega⟩); rw [Bo] at this; unfold rm; omega)
 rw [show decide (t.x*t.x+t.y*t.y=1)=decide (Dk t) from decide_eq_decide.2 Iff.rfl] at c5
 refine Fq Tryz.call123 Tryz.func123 3 [] [] [] (by simp [wS]) (X0 1000 ?_); simp (config:={ maxSteps:=2000000 }) only [AS.start,↓X2,wA,seval,wE]
 refine X1 v1 rfl ?_
 simp only [↓X2,wA,seval,wE]
 refine X1 v2 rfl ?_
 simp only [↓X2,wA,seval,wE]
 refine X1 c1 rfl ?_
 simp only [↓X2,wA,seval,wE]
 refine X1 c2 rfl ?_
 simp only [↓X2,wA,seval,wE]
 refine X1 c3 rfl ?_
 simp only [↓X2,wA,seval,wE]
 refine X1 c4 rfl ?_
 simp only [↓X2,wA,seval,wE]
 refine X1 c5 rfl ?_
 simp only [↓X2,wA,seval,wE]
 exact Xr rfl rfl (X3 _) rfl
theorem Sq (t:V2) (ht:vb t≤vm):Fn Tryz.prog 128 [vA t] (.bool (decide (Dk t))):=by
 unfold vm at ht
 have:=Qw t; have:=Qq t
 have m1:=QE t.x t.x; have m2:=QE t.y t.y; have m3:=Jy (t.x*t.x) (t.y*t.y)
 have v1:=LW t.x (by unfold rm; omega)
 have v2:=LW t.y (by unfold rm; omega)
 have c1:=QW t.x t.x (by unfold rm; omega) (by unfold rm; omega)
 have c2:=QW t.y t.y (by unfold rm; omega) (by unfold rm; omega)
 have c3:=Jz (t.x*t.x) (t.y*t.y) (by unfold rm; omega) (by unfold rm; omega)
 have c4:=Jt 1 1 ⟨by omega,by omega⟩ ⟨by omega,by omega⟩
 rw [Bo] at c4
 have c5:=Br (t.x*t.x+t.y*t.y) 1 (by unfold rm; omega) (by have:=(D7 1 1 ⟨by omega,by omega⟩ ⟨by omega,by omega⟩); rw [Bo] at this; unfold rm; omega)
 rw [show decide (t.x*t.x+t.y*t.y=1)=decide (Dk t) from decide_eq_decide.2 Iff.rfl] at c5
 refine Fq Tryz.call128 Tryz.func128 4 [] [3,40000001] [] (by simp [wS]) (X0 1000 ?_); simp (config:={ maxSteps:=2000000 }) only [AS.start,↓X2,wA,seval,wE]
 refine X1 v1 rfl ?_
 simp only [↓X2,wA,seval,wE]
 refine X1 v2 rfl ?_
 simp only [↓X2,wA,seval,wE]
 refine X1 c1 rfl ?_
 simp only [↓X2,wA,seval,wE]
 refine X1 c2 rfl ?_
 simp only [↓X2,wA,seval,wE]
 refine X1 c3 rfl ?_
 simp only [↓X2,wA,seval,wE]
 refine X1 c4 rfl ?_
 simp only [↓X2,wA,seval,wE]
 refine X1 c5 rfl ?_
 simp only [↓X2,wA,seval,wE]
 exact Xr rfl rfl (X3 _) rfl
theorem j8 (b:Rat):qb b⁻¹≤qb b:=by
 rw [Rat.inv_def]
 exact KC _ _ _ (UO b) (JX b) (JM b)
theorem j9 (a b:Rat):qb (a / b)≤qb a+qb b:=by
 rw [Rat.div_def]
 have:=QE a b⁻¹; have:=j8 b
 omega
theorem Wl (a b:Rat) (ha:qb a≤vm) (hb:qb b≤vm) (h0:b≠0):Fn Tryz.prog 192 [qA a,qA b] (qA (a / b)):=by
 unfold vm at ha hb
 have q1:=j8 b
 have hn:b.num≠0:=fun h=>h0 (Rat.num_eq_zero.1 h)
 have c1:=CT b
 have c2:=En b.den b.num hn (by
  have:=b.reduced
  rw [Int.gcd_comm]
  exact this)
 rw [← Rat.inv_def] at c2
 have c3:=Kx a b⁻¹ (by unfold rm; omega) (by unfold rm; omega)
 rw [← Rat.div_def] at c3
 obtain ⟨R,hR⟩:∃ R,R=qA (a / b):=⟨_,rfl⟩
 have sR:Settled R:=hR▸Xc _
 have f1:((Xb b.num.natAbs).length=0)=False:=eq_false fun h=>hn (by have:=digs_len_zero.1 h; omega)
 have f2:(((Xb b.num.natAbs).length:Int)=0)=False:=eq_false fun h=>hn (by have:=digs_len_zero.1 (show (Xb b.num.natAbs).length=0 by omega); omega)
 rw [← hR] at c3 ⊢
 refine Fq Tryz.call192 Tryz.func192 5 [] [] [] (by simp [wS]) (X0 1000 ?_); simp (config:={ maxSteps:=2000000 }) only [AS.start,↓X2,wA,seval,wE]
 simp only [f1,f2,↓X2,wA,seval,wE]
 refine X1 c1 rfl ?_
 simp only [↓X2,wA,seval,wE]
 refine X1 c2 rfl ?_
 simp only [↓X2,wA,seval,wE]
 refine X1 c3 rfl ?_
 simp only [hR,↓X2,wA,seval,wE]
 exact JE rfl Qc rfl rfl rfl sR (hR.trans rfl)
theorem su (a b:Rat):Rat.divInt (a.num*b.den) (a.den*b.num)=a / b:=by
 rw [← Rat.divInt_mul_divInt,Rat.div_def,Rat.inv_def,Rat.num_divInt_den]
theorem LV (a b:Rat) (ha:qb a≤vm) (hb:qb b≤vm):Fn Tryz.prog 194 [qA a,qA b] (qA (a / b)):=by
 unfold vm at ha hb
 have a1:=JM a; have a2:=JX a; have b1:=JM b; have b2:=JX b
 have m1:=Zs a.num b.den (by unfold room; omega) (by unfold room; omega)
 have m3:=Zs a.den b.num (by unfold room; omega) (by unfold room; omega)
 have n1:=K8 a.num b.den
 have n3:=K8 a.den b.num
 have k:=Eo (a.num*b.den) (a.den*b.num) (by omega) (by omega)
 rw [su] at k
 have d1:=ZM a
 have d2:=ZM b
 obtain ⟨R,hR⟩:∃ R,R=qA (a / b):=⟨_,rfl⟩
 have sR:Settled R:=hR▸Xc _
 rw [← hR] at k ⊢
 refine Fq Tryz.call194 Tryz.func194 5 [] [1,20000002,20000003] [] (by simp [wS]) (X0 1000 ?_); simp (config:={ maxSteps:=2000000 }) only [AS.start,↓X2,wA,seval,wE]
 refine X1 d2 rfl ?_
 simp only [↓X2,wA,seval,wE]
 refine X1 m1 rfl ?_
 simp only [↓X2,wA,seval,wE]
 refine X1 d1 rfl ?_
 simp only [↓X2,wA,seval,wE]
 refine X1 m3 rfl ?_
 simp only [↓X2,wA,seval,wE]
 refine X1 k rfl ?_
 simp only [hR,↓X2,wA,seval,wE]
 exact JE rfl Qc rfl rfl rfl sR (hR.trans rfl)
noncomputable def Jd (a b:V2):V2×Int :=
 if Qb a a=0∨Qb b b=0 then (v0,1) else if Qb a a=Qb b b then (⟨Qb a b / Qb a a,Qx a b / Qb a a⟩,0) else (v0,21)
def Zd:List AV:=[.bool false,.sl 0 0 (fun _=>.any) false,.bool false,.sl 0 0 (fun _=>.any) false,.bool false,.sl 0 0 (fun _=>.any) false,.bool false,.sl 0 0 (fun _=>.any) false]
theorem Za:WeakL Zd (vC v0) :=
 have h1:Xb (0:Rat).num.natAbs=[]:=by rw [Rat.zero_num]; simp [Q2]
 have h2:Xb (qd (0:Rat))=[]:=DU rfl
 ⟨Weak.rfl' _,QL h1,Weak.rfl' _,QL h2,Weak.rfl' _,QL h1,Weak.rfl' _,QL h2,trivial⟩
theorem bc (a b:V2) (ha:vb a≤10000) (hb:vb b≤10000):Fn Tryz.prog 114 [vA a,vA b] (.tup [vA (Jd a b).1,I (Jd a b).2]):=by
 obtain ⟨R,hR⟩:∃ R,R=Jd a b:=⟨_,rfl⟩
 rw [← hR]
 have q1:=A3 a a; have q2:=A3 b b; have q3:=A3 a b; have q4:=CH a b
 have c1:=Ge a a (by unfold vm; omega) (by unfold vm; omega)
 have c2:=Ge b b (by unfold vm; omega) (by unfold vm; omega)
 have c3:=Ge a b (by unfold vm; omega) (by unfold vm; omega)
 have c4:=H9 a b (by unfold vm; omega) (by unfold vm; omega)
 have s1:=Kz (Qb a a)
 have s2:=Kz (Qb b b)
 have e1:=Hd (Qb a a) (Qb b b) (by unfold rm; omega) (by unfold rm; omega)
 have zret:∀ {s:AS} {ver id':Nat} {k:Int},s.get 4=.ref id' ver 0→s.h[id']?=some (.row ver 8 (Xp Zd))→s.get 5=I k→R=(v0,k)→RetOk (Qr Tryz.prog Tryz.f114 [1,20000002,20000003,6,70000002,70000003,70000006] [] (.tup [vA R.1,I R.2])) s:=fun h1 h2 h3 h4=>by
  subst h4
  exact QV rfl (Xq DL h1 h2 rfl) (by unfold QA; rfl) (Xs (Xn _) (XT Za)) (by rw [h3]; exact (X8 _).sees _)
 refine Fq Tryz.call114 Tryz.func114 8 [] [1,20000002,20000003,6,70000002,70000003,70000006] [] (by simp [wS]) (X0 1000 ?_); simp (config:={ maxSteps:=2000000 }) only [AS.start,↓X2,wA,seval,wE]
 refine X1 c1 rfl ?_
 simp only [↓X2,wA,seval,wE]
 refine X1 c2 rfl ?_
 simp only [↓X2,wA,seval,wE]
 refine X1 s1 rfl ?_
 by_cases h1:Qb a a=0
 ·have f1:((Qb a a).num.sign=0)=True:=eq_true ((AN _).2 h1)
  simp only [f1,↓X2,wA,seval,wE]
  exact zret rfl rfl rfl (by rw [hR]; unfold Jd; rw [if_pos (.inl h1)])
 have f1:((Qb a a).num.sign=0)=False:=eq_false fun h=>h1 ((AN _).1 h)
 simp only [f1,↓X2,wA,seval,wE]
 refine X1 s2 rfl ?_
 by_cases h2:Qb b b=0
 ·have f2:((Qb b b).num.sign=0)=True:=eq_true ((AN _).2 h2)
  simp only [f1,f2,↓X2,wA,seval,wE]
  exact zret rfl rfl rfl (by rw [hR]; unfold Jd; rw [if_pos (.inr h2)])
 have f2:((Qb b b).num.sign=0)=False:=eq_false fun h=>h2 ((AN _).1 h)
 simp only [f1,f2,↓X2,wA,seval,wE]
 refine X1 e1 rfl ?_
 have hno:¬ (Qb a a=0∨Qb b b=0):=fun h=>h.elim h1 h2
 by_cases h3:Qb a a=Qb b b
 rotate_left
 ·rw [decide_eq_false h3]
  simp only [↓X2,wA,seval,wE]
  exact zret rfl rfl rfl (by rw [hR]; unfold Jd; rw [if_neg hno,if_neg h3])
 rw [decide_eq_true h3]
 have d1:=Wl (Qb a b) (Qb a a) (by unfold vm; omega) (by unfold vm; omega) h1
 have d2:=Wl (Qx a b) (Qb a a) (by unfold vm; omega) (by unfold vm; omega) h1
 simp only [↓X2,wA,seval,wE]
 refine X1 c3 rfl ?_
 simp only [↓X2,wA,seval,wE]
 refine X1 d1 rfl ?_
 simp only [↓X2,wA,seval,wE]
 refine X1 c4 rfl ?_
 simp only [↓X2,wA,seval,wE]
 refine X1 d2 rfl ?_
 simp only [↓X2,wA,seval,wE]
 have hRe:R=(⟨Qb a b / Qb a a,Qx a b / Qb a a⟩,0):=by rw [hR]; unfold Jd; rw [if_neg hno,if_pos h3]
 subst hRe
 exact QV rfl (Xq DL rfl rfl rfl) (by unfold QA; rfl) (Xs (Xn _) (XT (XS (vC ⟨Qb a b / Qb a a,Qx a b / Qb a a⟩)))) ((X8 _).sees _)
theorem OW (a b:V2) (ha:vb a≤10000) (hb:vb b≤10000):Fn Tryz.prog 116 [vA a,vA b] (.tup [vA (Jd a b).1,I (Jd a b).2]):=by
 obtain ⟨R,hR⟩:∃ R,R=Jd a b:=⟨_,rfl⟩
 rw [← hR]
 have q1:=A3 a a; have q2:=A3 b b; have q3:=A3 a b; have q4:=CH a b
 have c1:=KS a a (by unfold vm; omega) (by unfold vm; omega)
 have c2:=KS b b (by unfold vm; omega) (by unfold vm; omega)
 have c3:=KS a b (by unfold vm; omega) (by unfold vm; omega)
 have c4:=Gq a b (by unfold vm; omega) (by unfold vm; omega)
 have s1:=B6 (Qb a a) (by unfold rm; omega)
 have s2:=B6 (Qb b b) (by unfold rm; omega)
 have e1:=Br (Qb a a) (Qb b b) (by unfold rm; omega) (by unfold rm; omega)
 have zret:∀ {s:AS} {ver id':Nat} {k:Int},s.get 4=.ref id' ver 0→s.h[id']?=some (.row ver 8 (Xp Zd))→s.get 5=I k→R=(v0,k)→RetOk (Qr Tryz.prog Tryz.f116 [4,50000003,50000006,6,70000002,70000003,70000006] [] (.tup [vA R.1,I R.2])) s:=fun h1 h2 h3 h4=>by
  subst h4
  exact QV rfl (Xq DL h1 h2 rfl) (by unfold QA; rfl) (Xs (Xn _) (XT Za)) (by rw [h3]; exact (X8 _).sees _)
 refine Fq Tryz.call116 Tryz.func116 7 [] [4,50000003,50000006,6,70000002,70000003,70000006] [] (by simp [wS]) (X0 1000 ?_); simp (config:={ maxSteps:=2000000 }) only [AS.start,↓X2,wA,seval,wE]
 refine X1 c1 rfl ?_
 simp only [↓X2,wA,seval,wE]
 refine X1 s1 rfl ?_
 by_cases h1:Qb a a=0
 ·have f1:((Qb a a).num.sign=0)=True:=eq_true ((AN _).2 h1)
  simp only [f1,↓X2,wA,seval,wE]
  exact zret rfl rfl rfl (by rw [hR]; unfold Jd; rw [if_pos (.inl h1)])
 have f1:((Qb a a).num.sign=0)=False:=eq_false fun h=>h1 ((AN _).1 h)
 simp only [f1,↓X2,wA,seval,wE]
 refine X1 c2 rfl ?_
 simp only [f1,↓X2,wA,seval,wE]
 refine X1 s2 rfl ?_
 by_cases h2:Qb b b=0
 ·have f2:((Qb b b).num.sign=0)=True:=eq_true ((AN _).2 h2)
  simp only [f1,f2,↓X2,wA,seval,wE]
  exact zret rfl rfl rfl (by rw [hR]; unfold Jd; rw [if_pos (.inr h2)])
 have f2:((Qb b b).num.sign=0)=False:=eq_false fun h=>h2 ((AN _).1 h)
 simp only [f1,f2,↓X2,wA,seval,wE]
 refine X1 c2 rfl ?_
 simp only [f1,f2,↓X2,wA,seval,wE]
 refine X1 e1 rfl ?_
 have hno:¬ (Qb a a=0∨Qb b b=0):=fun h=>h.elim h1 h2
 by_cases h3:Qb a a=Qb b b
 rotate_left
 ·rw [decide_eq_false h3]
  simp only [↓X2,wA,seval,wE]
  exact zret rfl rfl rfl (by rw [hR]; unfold Jd; rw [if_neg hno,if_neg h3])
 rw [decide_eq_true h3]
 have d1:=LV (Qb a b) (Qb a a) (by unfold vm; omega) (by unfold vm; omega)
 have d2:=LV (Qx a b) (Qb a a) (by unfold vm; omega) (by unfold vm; omega)
 simp only [↓X2,wA,seval,wE]
 refine X1 c3 rfl ?_
 simp only [↓X2,wA,seval,wE]
 refine X1 d1 rfl ?_
 simp only [↓X2,wA,seval,wE]
 refine X1 c4 rfl ?_
 simp only [↓X2,wA,seval,wE]
 refine X1 d2 rfl ?_
 simp only [↓X2,wA,seval,wE]
 have hRe:R=(⟨Qb a b / Qb a a,Qx a b / Qb a a⟩,0):=by rw [hR]; unfold Jd; rw [if_neg hno,if_pos h3]
 subst hRe
 exact QV rfl (Xq DL rfl rfl rfl) (by unfold QA; rfl) (Xs (Xn _) (XT (XS (vC ⟨Qb a b / Qb a a,Qx a b / Qb a a⟩)))) ((X8 _).sees _)
def Gf (t c:V2):List AV:=[.bool (decide (t.x.num<0)),X9 (Xb t.x.num.natAbs),.bool false,X9 (Xb (qd t.x)),.bool (decide (t.y.num<0)),X9 (Xb t.y.num.natAbs),.bool false,X9 (Xb (qd t.y)),
 .bool (decide (c.x.num<0)),X9 (Xb c.x.num.natAbs),.bool false,X9 (Xb (qd c.x)),.bool (decide (c.y.num<0)),X9 (Xb c.y.num.natAbs),.bool false,X9 (Xb (qd c.y))]
def We (t c:V2):AV:=.agg (Gf t c)
theorem KX (t c:V2):∀ x∈Gf t c,Settled x:=by simp [Gf,X7,X3]
theorem ZO (t c:V2):Settled (We t c):=Q7 (KX t c)
def put (t c a:V2):V2:=(M5 t a).add c
def uD (t c:V2):AV:=.ptr 16 (Xp (Gf t c)) 0
theorem HV (t c:V2):Settled (uD t c):=QX fun j _=>Xd (KX t c) j
theorem sY (t c a:V2):vb (put t c a)≤2*(vb t+vb a)+vb c+2:=by
 have:=Dl t a; have:=Bc (M5 t a) c
 unfold put; omega
theorem aT (t c a:V2) (ht:vb t≤100000) (hc:vb c≤100000) (ha:vb a≤100000):Fn Tryz.prog 206 [vA a,uD t c] (vA (put t c a)):=by
 have m:=Dl t a
 have c1:=LN t a (by unfold vm; omega) (by unfold vm; omega)
 have c2:=Gd (M5 t a) c (by unfold vm; omega) (by unfold vm; omega)
 obtain ⟨R,hR⟩:∃ R,R=vA (put t c a):=⟨_,rfl⟩
 have sR:Settled R:=hR▸Xn _
 rw [← hR]
 refine Fq Tryz.call206 Tryz.func206 4 [] [] [] (by simp [Xn,HV]) (X0 1000 ?_)
 simp only [AS.start,uD,Gf,↓X2,wA,seval,wE]
 refine X1 c1 rfl ?_
 simp only [↓X2,wA,seval,wE]
 refine X1 c2 rfl ?_
 simp only [↓X2,wA,seval,wE]
 exact Zh rfl Jp rfl rfl rfl sR (hR.trans rfl)
theorem iB (t c:V2):Fn Tryz.prog 143 [We t c] (.fn 206 [uD t c]):=by
 have hset:Settled (.fn 206 [uD t c]):=Ji (by simp [HV])
 refine Fq Tryz.call143 Tryz.func143 3 [] [] [] (by simp [ZO]) (X0 1000 ?_)
 simp only [AS.start,We,Gf,↓X2,wA,seval,wE]
 refine Av rfl (Cd ⟨KU (.inl rfl) (by omega) fun j hj=>?_,trivial⟩)
 exact (Xd (KX t c) j).sees _
theorem sn (t c a:V2) (ht:vb t≤100000) (hc:vb c≤100000) (ha:vb a≤100000):Fn Tryz.prog 55 [We t c,vA a] (vA (put t c a)):=by
 have c1:=iB t c
 have c2:=aT t c a ht hc ha
 obtain ⟨R,hR⟩:∃ R,R=vA (put t c a):=⟨_,rfl⟩
 have sR:Settled R:=hR▸Xn _
 rw [← hR]
 refine Fq Tryz.call55 Tryz.func55 5 [] [] [] (by simp [ZO,Xn]) (X0 1000 ?_)
 simp only [AS.start,We,Gf,↓X2,wA,seval,wE]
 refine X1 c1 rfl ?_
 simp only [↓X2,wA,seval,wE]
 refine X1 c2 rfl ?_
 simp only [↓X2,wA,seval,wE]
 exact Zh rfl Jp rfl rfl rfl sR (hR.trans rfl)
def Ks (t c:V2) (L:List V2):List V2:=L.map (put t c)
theorem Nz (t c:V2) (L:List V2) (i:Nat) (hi:i<L.length):Ks t c (L.take i) ++ [put t c (L.getD i v0)]=Ks t c (L.take (i+1)):=by
 rw [AB _ v0 hi]; simp [Ks]
theorem RW (t c:V2) (L:List V2) (i:Nat) (hi:i≤L.length):(Ks t c (L.take i)).length=i:=by simp [Ks]; omega
theorem Mo {P:Program} {fn:Func} {str hcs:List Nat} {s:AS} {t id ver:Nat} (L:List V2) (hr:fn.results=#[.tmp t]) (hs:s.get t=.osl id ver 8 0 L.length) (ho:s.h[id]?=some (.row ver (L.length*8) (Xw vC 8 v0 L))):RetOk (Qr P fn str hcs (Xt L)) s:=by
 refine Av hr ?_
 rw [hs,X5]
 refine QB (.inl ho) (by omega) (fun h=>by rw [h]) fun j hj=>?_
 rw [Nat.zero_add]
 exact (Xd (by simp [vC,X7,X3]) _).sees _
theorem BT (a:V2):∀ j,j<8→((vC a).getD j .any).one=true:=fun j hj=>by
 match j,hj with
 | 0,_=>rfl
 | 1,_=>rfl
 | 2,_=>rfl
 | 3,_=>rfl
 | 4,_=>rfl
 | 5,_=>rfl
 | 6,_=>rfl
 | 7,_=>rfl
 | j+8,h=>omega
theorem iV (t c:V2) (L:List V2) (k:Nat) (h:XW L k) (hk:k≤100000) (hl:L.length<1000000) (ht:vb t≤100000) (hc:vb c≤100000):Fn Tryz.prog 69 [We t c,Xt L] (Xt (Ks t c L)):=by
 have bo:XH 2 (.row 0 16 (Xp (Gf t c)))=True:=eq_true (XF (KX t c))
 have hvc:∀ a:V2,∀ x∈vC a,Settled x:=fun a=>by simp [vC,X7,X3]
 have bv:Js 2 (Xt L)=True:=eq_true (X6 (Xf L))
 have br:∀ i l n,XH 2 (.row i n (Xw vC 8 v0 l))=True:=fun i l n=>eq_true fun j _=>X6 (Xd (hvc _) _)
 obtain ⟨R,hR⟩:∃ R,R=Xt (Ks t c L):=⟨_,rfl⟩
 rw [← hR]
 refine Fq Tryz.call69 Tryz.func69 8 [8,9,10] [] [] (by simp [ZO,Xf]) (X0 1000 ?_)
 simp only [AS.start,We,Gf,X5,↓X2,wA,seval,wE]
 refine Xe (fun i:Nat=>⟨8,[8,9,10],[.any,.any,.ref 0 0 0,.any,.any,.osl 1 i 8 0 i,.any,.any],[(8,Xt L),(9,I L.length),(10,I i)],[.row 0 16 (Xp (Gf t c)),.row i (i*8) (Xw vC 8 v0 (Ks t c (L.take i)))]⟩) (fun i=>i≤L.length) (fun i=>L.length - i) 0 (by omega)
  (Sub.trans (Qi 5 8 (Xw vC 8 v0 []) rfl) (Xa rfl (by simp [AS.put,Xh,I]) (by simp [AS.put,Xi,Xv,X5,I]) (by simp [AS.put,Gf,X4,Ks]))) ?_
 intro i hi next
 have w1:=wj i (by omega)
 by_cases hi2:i<L.length
 ·have f1:((i:Int)<L.length)=True:=eq_true (by omega)
  have f2:(i<L.length)=True:=eq_true hi2
  have f3:(i*8+8≤L.length*8)=True:=eq_true (by omega)
  have v1:=vF L i
  have hb:=h i
  have c1:=sn t c (L.getD i v0) ht hc (by omega)
  have hap:=Q0 vC 8 v0 (Ks t c (L.take i)) (put t c (L.getD i v0)) (by omega)
  rw [Nz _ _ _ _ hi2,RW _ _ _ _ hi] at hap
  refine X0 1000 ?_
  simp only [Gf,X5,w1,f1,f2,f3,v1,Int.toNat_natCast,↓X2,wA,seval,wE]
  refine X1 c1 rfl ?_
  simp only [w1,↓X2,wA,seval,wE]
  exact ⟨⟨BT _,by omega,by omega⟩,next (i+1) _ (by omega) (by omega) (Xz (m:=2) (Nat.zero_le _) rfl (by simp [Xh]) (by simp [Xi,Xv,X5,I]) (by rw [← hap]; rfl) (by simp [Xy]) (by simp [Xy,bv]) (by simp [bo,br]))⟩
 obtain rfl:i=L.length:=by omega
 refine X0 1000 ?_
 simp only [Gf,X5,Int.lt_irrefl,Nat.lt_irrefl,↓X2,wA,seval,wE]
 rw [hR,List.take_length]
 have hlen:(Ks t c L).length=L.length:=by simp [Ks]
 exact Mo _ rfl (by rw [hlen]; rfl) (by rw [hlen]; rfl)
theorem Sp (t c:V2) (L:List V2) (k:Nat) (h:XW L k) (hk:k≤100000) (hl:L.length<1000000) (ht:vb t≤100000) (hc:vb c≤100000):Fn Tryz.prog 247 [We t c,Xt L] (Xt (Ks t c L)):=by
 have bo:XH 2 (.con 0 16 (Xp (Gf t c)))=True:=eq_true (fun j _=>X6 (Xd (KX t c) j))
 have hvc:∀ a:V2,∀ x∈vC a,Settled x:=fun a=>by simp [vC,X7,X3]
 have bv:Js 2 (Xt L)=True:=eq_true (X6 (Xf L))
 have br:∀ i l n,XH 2 (.row i n (Xw vC 8 v0 l))=True:=fun i l n=>eq_true fun j _=>X6 (Xd (hvc _) _)
 obtain ⟨R,hR⟩:∃ R,R=Xt (Ks t c L):=⟨_,rfl⟩
 rw [← hR]
 refine Fq Tryz.call247 Tryz.func247 7 [] [5,60000002] [] (by simp [ZO,Xf]) (X0 1000 ?_)
 simp only [AS.start,We,Gf,X5,↓X2,wA,seval,wE]
 refine Xe (fun i:Nat=>⟨7,[],[.any,Xt L,.ref 0 0 0,.any,.any,.osl 1 i 8 0 i,I i],[],[.con 0 16 (Xp (Gf t c)),.row i (i*8) (Xw vC 8 v0 (Ks t c (L.take i)))]⟩) (fun i=>i≤L.length) (fun i=>L.length - i) 0 (by omega)
  (Sub.trans (Qt 0 rfl) (Sub.trans (Qi 5 8 (Xw vC 8 v0 []) rfl) (Xa rfl (by simp [AS.put,X5,Xh,I]) (by simp [AS.put,Xi]) (by simp [AS.put,Gf,X4,Ks])))) ?_
 intro i hi next
 have w1:=wj i (by omega)
 by_cases hi2:i<L.length
 ·have f1:((i:Int)<L.length)=True:=eq_true (by omega)
  have f2:(i<L.length)=True:=eq_true hi2
  have f3:(i*8+8≤L.length*8)=True:=eq_true (by omega)
  have v1:=vF L i
  have hb:=h i
  have m:=Dl t (L.getD i v0)
  have c1:=Cn t (L.getD i v0) (by unfold vm; omega) (by unfold vm; omega)
  have c2:=Fw (M5 t (L.getD i v0)) c (by unfold vm; omega) (by unfold vm; omega)
  have hap:=Q0 vC 8 v0 (Ks t c (L.take i)) (put t c (L.getD i v0)) (by omega)
  rw [Nz _ _ _ _ hi2,RW _ _ _ _ hi] at hap
  refine X0 1000 ?_
  simp only [Gf,X5,w1,f1,f2,f3,v1,Int.toNat_natCast,↓X2,wA,seval,wE]
  refine X1 c1 rfl ?_
  simp only [Gf,X5,w1,f1,f2,f3,v1,Int.toNat_natCast,↓X2,wA,seval,wE]
  refine X1 c2 rfl ?_
  simp only [w1,↓X2,wA,seval,wE]
  exact ⟨⟨BT _,by omega,by omega⟩,next (i+1) _ (by omega) (by omega) (Xz (m:=2) (Nat.zero_le _) rfl (by simp [X5,Xh,I]) (by simp [Xi]) (by rw [← hap]; rfl) (by simp [Xy,bv]) (by simp [Xy]) (by simp [bo,br]))⟩
 obtain rfl:i=L.length:=by omega
 refine X0 1000 ?_
 simp only [Gf,X5,Int.lt_irrefl,Nat.lt_irrefl,↓X2,wA,seval,wE]
 rw [hR,List.take_length]
 have hlen:(Ks t c L).length=L.length:=by simp [Ks]
 exact Mo _ rfl (by rw [hlen]; rfl) (by rw [hlen]; rfl)
structure FV where
 A:Int
 B:Int
 EA:Int
 EB:Int
 M:Int
 turn:V2
 lo:V2
 hi:V2
def Q8 (f:FV):List AV:=[I f.A,I f.B,I f.EA,I f.EB,I f.M,.bool (decide (f.turn.x.num<0)),X9 (Xb f.turn.x.num.natAbs),.bool false,X9 (Xb (qd f.turn.x)),.bool (decide (f.turn.y.num<0)),X9 (Xb f.turn.y.num.natAbs),.bool false,X9 (Xb (qd f.turn.y)),
 .bool (decide (f.lo.x.num<0)),X9 (Xb f.lo.x.num.natAbs),.bool false,X9 (Xb (qd f.lo.x)),.bool (decide (f.lo.y.num<0)),X9 (Xb f.lo.y.num.natAbs),.bool false,X9 (Xb (qd f.lo.y)),
 .bool (decide (f.hi.x.num<0)),X9 (Xb f.hi.x.num.natAbs),.bool false,X9 (Xb (qd f.hi.x)),.bool (decide (f.hi.y.num<0)),X9 (Xb f.hi.y.num.natAbs),.bool false,X9 (Xb (qd f.hi.y))]
def Ke (f:FV):AV:=.agg (Q8 f)
theorem Qe (f:FV):∀ x∈Q8 f,Settled x:=by simp [Q8,X8,X7,X3]
theorem XK (f:FV):Settled (Ke f):=Q7 (Qe f)
theorem N2 (k:Int) (n:Nat) (h:0<n):(k.tmod n+n).tmod n=k % n:=by
 have h1:=Int.tmod_lt_of_pos k (show (0:Int)<n by omega)
 have h2:-(n:Int)<k.tmod n:=by
  have:=Int.lt_tmod_of_pos k (show (0:Int)<n by omega)
  omega
 rw [Int.tmod_eq_emod_of_nonneg (by omega),Int.add_emod_right]
 have h3:=Int.mul_tdiv_add_tmod k n
 have h4:k % n=(k.tmod n+n*k.tdiv n) % n:=by rw [Int.add_comm]; rw [h3]
 rw [h4,Int.add_mul_emod_self_left]
theorem Ao (k:Int) (n:Nat) (h:0<n) (hk:-1000000000≤k∧k≤1000000000) (hn:n≤1000000000):Fn Tryz.prog 124 [I k,I n] (I (k % n)):=by
 have h1:=Int.tmod_lt_of_pos k (show (0:Int)<n by omega)
 have h2:=Int.lt_tmod_of_pos k (show (0:Int)<n by omega)
 have w1:IntKind.i64.wrap (k.tmod n+n)=k.tmod n+n:=by rw [IntKind.wrap_i64]; omega
 have f1:((n:Int)=0)=False:=eq_false (by omega)
 have f1':(n=0)=False:=eq_false (by omega)
 obtain ⟨R,hR⟩:∃ R,R=k % (n:Int):=⟨_,rfl⟩
 have e:=N2 k n h
 rw [← hR] at e ⊢
 refine Fq Tryz.call124 Tryz.func124 5 [] [] [] (by simp [X8]) (X0 1000 ?_)
 simp only [AS.start,f1,f1',w1,e,↓X2,wA,seval,wE]
 exact Xr rfl rfl (X8 _) rfl
theorem QS (k:Int) (n:Nat) (h:0<n) (hk:-1000000000≤k∧k≤1000000000) (hn:n≤1000000000):Fn Tryz.prog 129 [I k,I n] (I (k % n)):=by
 have h1:=Int.tmod_lt_of_pos k (show (0:Int)<n by omega)
 have h2:=Int.lt_tmod_of_pos k (show (0:Int)<n by omega)
 have w1:IntKind.i64.wrap (k.tmod n+n)=k.tmod n+n:=by rw [IntKind.wrap_i64]; omega
 have f1:((n:Int)=0)=False:=eq_false (by omega)
 have f1':(n=0)=False:=eq_false (by omega)
 obtain ⟨R,hR⟩:∃ R,R=k % (n:Int):=⟨_,rfl⟩
 have e:=N2 k n h
 rw [← hR] at e ⊢
 refine Fq Tryz.call129 Tryz.func129 5 [] [] [] (by simp [X8]) (X0 1000 ?_)
 simp only [AS.start,f1,f1',w1,e,↓X2,wA,seval,wE]
 exact Xr rfl rfl (X8 _) rfl
def Cp (n m:Nat) (f:FV):Prop:=(0≤f.EA∧f.EA<n)∧(0≤f.EB∧f.EB<m)∧1≤f.M∧f.M<n∧f.M<m
theorem Hx (a b:PV) (f:FV) (ha:a.rim.length<1000000) (hb:b.rim.length<1000000):Fn Tryz.prog 122 [Qf a,Qf b,Ke f] (.bool (decide (Cp a.rim.length b.rim.length f))):=by
 obtain ⟨V,hV⟩:∃ V,V=decide (Cp a.rim.length b.rim.length f):=⟨_,rfl⟩
 have fin:∀ {s:AS} {v:Bool},s.get 6=.bool v→v=V→RetOk (Qr Tryz.prog Tryz.f122 [] [] (.bool V)) s:=fun h e=>Xr rfl h (X3 _) (by rw [e])
 rw [← hV]
 refine Fq Tryz.call122 Tryz.func122 9 [] [] [] (by simp [Xu,XK]) (X0 1000 ?_)
 by_cases hmn:(b.rim.length:Int)<a.rim.length
 ·have fmn:((b.rim.length:Int)<a.rim.length)=True:=eq_true hmn
  by_cases g0:0≤f.EA
  rotate_left
  ·have f0:(0≤f.EA)=False:=eq_false g0
   simp only [AS.start,Qf,XD,Ke,Q8,fmn,if_true,f0,↓X2,wA,seval,wE]
   exact fin rfl (by rw [hV,decide_eq_false fun h=>g0 h.1.1])
  have f0:(0≤f.EA)=True:=eq_true g0
  by_cases g1:f.EA<(a.rim.length:Int)
  rotate_left
  ·have f1:(f.EA<(a.rim.length:Int))=False:=eq_false g1
   simp only [AS.start,Qf,XD,Ke,Q8,fmn,if_true,f0,f1,↓X2,wA,seval,wE]
   exact fin rfl (by rw [hV,decide_eq_false fun h=>g1 h.1.2])
  have f1:(f.EA<(a.rim.length:Int))=True:=eq_true g1
  by_cases g2:0≤f.EB
  rotate_left
  ·have f2:(0≤f.EB)=False:=eq_false g2
   simp only [AS.start,Qf,XD,Ke,Q8,fmn,if_true,f0,f1,f2,↓X2,wA,seval,wE]
   exact fin rfl (by rw [hV,decide_eq_false fun h=>g2 h.2.1.1])
  have f2:(0≤f.EB)=True:=eq_true g2
  by_cases g3:f.EB<(b.rim.length:Int)
  rotate_left
  ·have f3:(f.EB<(b.rim.length:Int))=False:=eq_false g3
   simp only [AS.start,Qf,XD,Ke,Q8,fmn,if_true,f0,f1,f2,f3,↓X2,wA,seval,wE]
   exact fin rfl (by rw [hV,decide_eq_false fun h=>g3 h.2.1.2])
  have f3:(f.EB<(b.rim.length:Int))=True:=eq_true g3
  by_cases g4:1≤f.M
  rotate_left
  ·have f4:(1≤f.M)=False:=eq_false g4
   simp only [AS.start,Qf,XD,Ke,Q8,fmn,if_true,f0,f1,f2,f3,f4,↓X2,wA,seval,wE]
   exact fin rfl (by rw [hV,decide_eq_false fun h=>g4 h.2.2.1])
  have f4:(1≤f.M)=True:=eq_true g4
  by_cases g5:f.M<(b.rim.length:Int)
  rotate_left
  ·have f5:(f.M<(b.rim.length:Int))=False:=eq_false g5
   simp only [AS.start,Qf,XD,Ke,Q8,fmn,if_true,f0,f1,f2,f3,f4,f5,↓X2,wA,seval,wE]
   exact fin rfl (by rw [hV,decide_eq_false fun h=>g5 h.2.2.2.2])
  have f5:(f.M<(b.rim.length:Int))=True:=eq_true g5
  simp only [AS.start,Qf,XD,Ke,Q8,fmn,if_true,f0,f1,f2,f3,f4,f5,↓X2,wA,seval,wE]
  exact fin rfl (by rw [hV,decide_eq_true]; exact ⟨⟨g0,g1⟩,⟨g2,g3⟩,g4,by omega,g5⟩)
 ·have fmn:((b.rim.length:Int)<a.rim.length)=False:=eq_false hmn
  by_cases g0:0≤f.EA
  rotate_left
  ·have f0:(0≤f.EA)=False:=eq_false g0
   simp only [AS.start,Qf,XD,Ke,Q8,fmn,if_false,f0,↓X2,wA,seval,wE]
   exact fin rfl (by rw [hV,decide_eq_false fun h=>g0 h.1.1])
  have f0:(0≤f.EA)=True:=eq_true g0
  by_cases g1:f.EA<(a.rim.length:Int)
  rotate_left
  ·have f1:(f.EA<(a.rim.length:Int))=False:=eq_false g1
   simp only [AS.start,Qf,XD,Ke,Q8,fmn,if_false,f0,f1,↓X2,wA,seval,wE]
   exact fin rfl (by rw [hV,decide_eq_false fun h=>g1 h.1.2])
  have f1:(f.EA<(a.rim.length:Int))=True:=eq_true g1
  by_cases g2:0≤f.EB
  rotate_left
  ·have f2:(0≤f.EB)=False:=eq_false g2
   simp only [AS.start,Qf,XD,Ke,Q8,fmn,if_false,f0,f1,f2,↓X2,wA,seval,wE]
   exact fin rfl (by rw [hV,decide_eq_false fun h=>g2 h.2.1.1])
  have f2:(0≤f.EB)=True:=eq_true g2
  by_cases g3:f.EB<(b.rim.length:Int)
  rotate_left
  ·have f3:(f.EB<(b.rim.length:Int))=False:=eq_false g3
   simp only [AS.start,Qf,XD,Ke,Q8,fmn,if_false,f0,f1,f2,f3,↓X2,wA,seval,wE]
   exact fin rfl (by rw [hV,decide_eq_false fun h=>g3 h.2.1.2])
  have f3:(f.EB<(b.rim.length:Int))=True:=eq_true g3
  by_cases g4:1≤f.M
  rotate_left
  ·have f4:(1≤f.M)=False:=eq_false g4
   simp only [AS.start,Qf,XD,Ke,Q8,fmn,if_false,f0,f1,f2,f3,f4,↓X2,wA,seval,wE]
   exact fin rfl (by rw [hV,decide_eq_false fun h=>g4 h.2.2.1])
  have f4:(1≤f.M)=True:=eq_true g4
  by_cases g5:f.M<(a.rim.length:Int)
  rotate_left
  ·have f5:(f.M<(a.rim.length:Int))=False:=eq_false g5
   simp only [AS.start,Qf,XD,Ke,Q8,fmn,if_false,f0,f1,f2,f3,f4,f5,↓X2,wA,seval,wE]
   exact fin rfl (by rw [hV,decide_eq_false fun h=>g5 h.2.2.2.1])
  have f5:(f.M<(a.rim.length:Int))=True:=eq_true g5
  simp only [AS.start,Qf,XD,Ke,Q8,fmn,if_false,f0,f1,f2,f3,f4,f5,↓X2,wA,seval,wE]
  exact fin rfl (by rw [hV,decide_eq_true]; exact ⟨⟨g0,g1⟩,⟨g2,g3⟩,g4,g5,by omega⟩)
theorem HO (a b:PV) (f:FV) (ha:a.rim.length<1000000) (hb:b.rim.length<1000000):Fn Tryz.prog 127 [Qf a,Qf b,Ke f] (.bool (decide (Cp a.rim.length b.rim.length f))):=by
 obtain ⟨V,hV⟩:∃ V,V=decide (Cp a.rim.length b.rim.length f):=⟨_,rfl⟩
 have fin:∀ {s:AS} {v:Bool},s.get 6=.bool v→v=V→RetOk (Qr Tryz.prog Tryz.f127 [] [] (.bool V)) s:=fun h e=>Xr rfl h (X3 _) (by rw [e])
 rw [← hV]
 refine Fq Tryz.call127 Tryz.func127 9 [] [] [] (by simp [Xu,XK]) (X0 1000 ?_)
 by_cases g0:0≤f.EA
 rotate_left
 ·have f0:(0≤f.EA)=False:=eq_false g0
  simp only [AS.start,Qf,XD,Ke,Q8,f0,↓X2,wA,seval,wE]
  exact fin rfl (by rw [hV,decide_eq_false fun h=>g0 h.1.1])
 have f0:(0≤f.EA)=True:=eq_true g0
 by_cases g1:f.EA<(a.rim.length:Int)
 rotate_left
 ·have f1:(f.EA<(a.rim.length:Int))=False:=eq_false g1
  simp only [AS.start,Qf,XD,Ke,Q8,f0,f1,↓X2,wA,seval,wE]
  exact fin rfl (by rw [hV,decide_eq_false fun h=>g1 h.1.2])
 have f1:(f.EA<(a.rim.length:Int))=True:=eq_true g1
 by_cases g2:0≤f.EB
 rotate_left
 ·have f2:(0≤f.EB)=False:=eq_false g2
  simp only [AS.start,Qf,XD,Ke,Q8,f0,f1,f2,↓X2,wA,seval,wE]
  exact fin rfl (by rw [hV,decide_eq_false fun h=>g2 h.2.1.1])
 have f2:(0≤f.EB)=True:=eq_true g2
 by_cases g3:f.EB<(b.rim.length:Int)
 rotate_left
 ·have f3:(f.EB<(b.rim.length:Int))=False:=eq_false g3
  simp only [AS.start,Qf,XD,Ke,Q8,f0,f1,f2,f3,↓X2,wA,seval,wE]
  exact fin rfl (by rw [hV,decide_eq_false fun h=>g3 h.2.1.2])
 have f3:(f.EB<(b.rim.length:Int))=True:=eq_true g3
 by_cases g4:1≤f.M
 rotate_left
 ·have f4:(1≤f.M)=False:=eq_false g4
  simp only [AS.start,Qf,XD,Ke,Q8,f0,f1,f2,f3,f4,↓X2,wA,seval,wE]
  exact fin rfl (by rw [hV,decide_eq_false fun h=>g4 h.2.2.1])
 have f4:(1≤f.M)=True:=eq_true g4
 by_cases g5:f.M<(a.rim.length:Int)
 rotate_left
 ·have f5:(f.M<(a.rim.length:Int))=False:=eq_false g5
  simp only [AS.start,Qf,XD,Ke,Q8,f0,f1,f2,f3,f4,f5,↓X2,wA,seval,wE]
  exact fin rfl (by rw [hV,decide_eq_false fun h=>g5 h.2.2.2.1])
 have f5:(f.M<(a.rim.length:Int))=True:=eq_true g5
 by_cases g6:f.M<(b.rim.length:Int)
 rotate_left
 ·have f6:(f.M<(b.rim.length:Int))=False:=eq_false g6
  simp only [AS.start,Qf,XD,Ke,Q8,f0,f1,f2,f3,f4,f5,f6,↓X2,wA,seval,wE]
  exact fin rfl (by rw [hV,decide_eq_false fun h=>g6 h.2.2.2.2])
 have f6:(f.M<(b.rim.length:Int))=True:=eq_true g6
 simp only [AS.start,Qf,XD,Ke,Q8,f0,f1,f2,f3,f4,f5,f6,↓X2,wA,seval,wE]
 exact fin rfl (by rw [hV,decide_eq_true]; exact ⟨⟨g0,g1⟩,⟨g2,g3⟩,g4,g5,g6⟩)
def Oz (R:List (Int×Int)) (k:Nat):Int×Int:=((R.getD ((k+1) % R.length) (0,0)).1 - (R.getD k (0,0)).1,(R.getD ((k+1) % R.length) (0,0)).2 - (R.getD k (0,0)).2)
def EJ (R:List (Int×Int)) (k:Nat):V2:=(JB (R.getD ((k+1) % R.length) (0,0))).sub (JB (R.getD k (0,0)))
def kF (R:List (Int×Int)) (k:Nat):Int:=(Oz R k).1*(Oz R k).1+(Oz R k).2*(Oz R k).2
theorem Uj (R:List (Int×Int)) (k:Nat):EJ R k=⟨((Oz R k).1:Rat),((Oz R k).2:Rat)⟩:=by
 unfold EJ Oz V2.sub JB
 simp only [Rat.intCast_sub]
def J0 (R:List (Int×Int)):Prop:=∀ c∈R,(-65536≤c.1∧c.1≤65536)∧(-65536≤c.2∧c.2≤65536)
theorem DQ {R:List (Int×Int)} (h:J0 R) (i:Nat):(-65536≤(R.getD i (0,0)).1∧(R.getD i (0,0)).1≤65536)∧(-65536≤(R.getD i (0,0)).2∧(R.getD i (0,0)).2≤65536):=by
 rw [List.getD_eq_getElem?_getD]
 cases hx:R[i]? with
 | none=>exact ⟨⟨by decide,by decide⟩,⟨by decide,by decide⟩⟩
 | some c=>exact h c (List.mem_of_getElem? hx)
theorem AX {R:List (Int×Int)} (h:J0 R):∀ i,i<R.length→Du (R.getD i (0,0))=true:=fun i _=>by
 have:=DQ h i
 unfold Du wb
 simp only [Bool.and_eq_true,decide_eq_true_eq]
 omega
theorem FU {R:List (Int×Int)} (h:J0 R) (k:Nat):(-131072≤(Oz R k).1∧(Oz R k).1≤131072)∧(-131072≤(Oz R k).2∧(Oz R k).2≤131072):=by
 have h1:=DQ h k
 have h2:=DQ h ((k+1) % R.length)
 unfold Oz
 simp only
 omega
theorem Bp {R:List (Int×Int)} (h:J0 R) (k:Nat):vb (EJ R k)≤3:=by
 have:=FU h k
 rw [Uj]
 have q1:=ZC (Oz R k).1 3 (by omega) (QO ⟨by omega,by omega⟩)
 have q2:=ZC (Oz R k).2 3 (by omega) (QO ⟨by omega,by omega⟩)
 unfold vb
 simp only
 omega
theorem Sf (p:PV) (k:Nat) (hk:k<p.rim.length) (hl:p.rim.length<1000000) (hn:J0 p.rim):Fn Tryz.prog 121 [Qf p,I k] (.tup [I (Oz p.rim k).1,I (Oz p.rim k).2]):=by
 obtain ⟨D,hD⟩:∃ D,D=Oz p.rim k:=⟨_,rfl⟩
 have h0:=FU hn k
 rw [← hD] at h0 ⊢
 have hD1:(p.rim.getD ((k+1) % p.rim.length) (0,0)).1 - (p.rim.getD k (0,0)).1=D.1:=by rw [hD]; rfl
 have hD2:(p.rim.getD ((k+1) % p.rim.length) (0,0)).2 - (p.rim.getD k (0,0)).2=D.2:=by rw [hD]; rfl
 have f0:((p.rim.length:Int)=0)=False:=eq_false (by omega)
 have f0':(p.rim.length=0)=False:=eq_false (by omega)
 have r1:(k:Int).tmod p.rim.length=(k:Int):=by rw [show (k:Int).tmod p.rim.length=((k % p.rim.length:Nat):Int) from rfl,Nat.mod_eq_of_lt hk]
 have w1:IntKind.i64.wrap ((k:Int)+p.rim.length)=((k+p.rim.length:Nat):Int):=by rw [IntKind.wrap_i64]; omega
 have r2:((k+p.rim.length:Nat):Int).tmod p.rim.length=(k:Int):=by rw [show ((k+p.rim.length:Nat):Int).tmod p.rim.length=(((k+p.rim.length) % p.rim.length:Nat):Int) from rfl,Nat.add_mod_right,Nat.mod_eq_of_lt hk]
 have w2:=wj k (by omega)
 have r3:((k+1:Nat):Int).tmod p.rim.length=(((k+1) % p.rim.length:Nat):Int):=rfl
 have hm:(k+1) % p.rim.length<p.rim.length:=Nat.mod_lt _ (by omega)
 obtain ⟨m,hme⟩:∃ m,m=(k+1) % p.rim.length:=⟨_,rfl⟩
 rw [← hme] at hD1 hD2 r3 hm
 have f1:((k:Int)<p.rim.length)=True:=eq_true (by omega)
 have f2:(k<p.rim.length)=True:=eq_true hk
 have f3:((m:Int)<p.rim.length)=True:=eq_true (by omega)
 have f4:(m<p.rim.length)=True:=eq_true hm
 have f5:(k*2+2≤p.rim.length*2)=True:=eq_true (by omega)
 have f6:(m*2+2≤p.rim.length*2)=True:=eq_true (by omega)
 have v1:=bj p.rim k
 have v2:=bj p.rim m
 have w3:IntKind.i64.wrap D.1=D.1:=by rw [IntKind.wrap_i64]; omega
 have w4:IntKind.i64.wrap D.2=D.2:=by rw [IntKind.wrap_i64]; omega
 refine Fq Tryz.call121 Tryz.func121 9 [] [3,40000002] [] (by simp [Xu,X8]) (X0 1000 ?_)
 simp only [AS.start,Qf,XD,f0,f0',f1,f2,f3,f4,f5,f6,r1,r2,r3,w1,w2,w3,w4,v1,v2,hD1,hD2,Int.toNat_natCast,↓X2,wA,seval,wE]
 exact Sw rfl rfl rfl (X8 _) (X8 _) rfl rfl
theorem Sd (p:PV) (k:Nat) (hk:k<p.rim.length) (hl:p.rim.length<1000000) (hn:J0 p.rim):Fn Tryz.prog 45 [Qf p,I k] (vA (EJ p.rim k)):=by
 have c1:=Sf p k hk hl hn
 have h0:=FU hn k
 rw [Uj]
 generalize Oz p.rim k=D at *
 have c2:=Ha D.1 D.2 ⟨by omega,by omega⟩ ⟨by omega,by omega⟩
 obtain ⟨R,hR⟩:∃ R,R=vA ⟨(D.1:Rat),(D.2:Rat)⟩:=⟨_,rfl⟩
 have sR:Settled R:=hR▸Xn _
 rw [← hR]
 refine Fq Tryz.call45 Tryz.func45 5 [] [] [] (by simp [Xu,X8]) (X0 1000 ?_)
 simp only [AS.start,Qf,XD,↓X2,wA,seval,wE]
 refine X1 c1 rfl ?_
 simp only [↓X2,wA,seval,wE]
 refine X1 c2 rfl ?_
 simp only [↓X2,wA,seval,wE]
 exact Zh rfl Jp rfl rfl rfl sR (hR.trans rfl)
theorem LI (p:PV) (k:Nat) (hk:k<p.rim.length) (hl:p.rim.length<1000000) (hn:J0 p.rim):Fn Tryz.prog 113 [Qf p,I k] (I (kF p.rim k)):=by
 have c1:=Sf p k hk hl hn
 have h0:=FU hn k
 unfold kF
 generalize Oz p.rim k=D at *
 have b1:D.1*D.1≤131072*131072:=by
  rcases Int.le_total 0 D.1 with h | h
  ·exact Int.mul_le_mul h0.1.2 h0.1.2 h (by omega)
  ·have:=Int.mul_le_mul (show -D.1≤131072 by omega) (show -D.1≤131072 by omega) (by omega) (by omega)
   rwa [Int.neg_mul_neg] at this
 have b2:D.2*D.2≤131072*131072:=by
  rcases Int.le_total 0 D.2 with h | h
  ·exact Int.mul_le_mul h0.2.2 h0.2.2 h (by omega)
  ·have:=Int.mul_le_mul (show -D.2≤131072 by omega) (show -D.2≤131072 by omega) (by omega) (by omega)
   rwa [Int.neg_mul_neg] at this
 have b3:0≤D.1*D.1:=by
  rcases Int.le_total 0 D.1 with h | h
  ·exact Int.mul_nonneg h h
  ·exact Int.mul_nonneg_of_nonpos_of_nonpos h h
 have b4:0≤D.2*D.2:=by
  rcases Int.le_total 0 D.2 with h | h
  ·exact Int.mul_nonneg h h
  ·exact Int.mul_nonneg_of_nonpos_of_nonpos h h
 have w1:IntKind.i64.wrap (D.1*D.1)=D.1*D.1:=by rw [IntKind.wrap_i64]; omega
 have w2:IntKind.i64.wrap (D.2*D.2)=D.2*D.2:=by rw [IntKind.wrap_i64]; omega
 have w3:IntKind.i64.wrap (D.1*D.1+D.2*D.2)=D.1*D.1+D.2*D.2:=by rw [IntKind.wrap_i64]; omega
 refine Fq Tryz.call113 Tryz.func113 7 [] [] [] (by simp [Xu,X8]) (X0 1000 ?_)
 simp only [AS.start,Qf,XD,↓X2,wA,seval,wE]
 refine X1 c1 rfl ?_
 simp only [w1,w2,w3,↓X2,wA,seval,wE]
 exact Xr rfl rfl (X8 _) rfl
theorem Gv (R:List (Int×Int)) (i:Nat):(XB R).getD i v0=JB (R.getD i (0,0)):=by
 unfold XB
 rw [List.getD_eq_getElem?_getD,List.getD_eq_getElem?_getD,List.getElem?_map]
 cases R[i]? with
 | none=>show v0=JB (0,0); unfold v0 JB; simp
 | some c=>rfl
theorem So (p:PV) (k:Nat) (hk:k<p.rim.length) (hl:p.rim.length<1000000) (hn:J0 p.rim):Fn Tryz.prog 115 [Qf p,I k] (vA (EJ p.rim k)):=by
 have cr:=Gu p hl (AX hn)
 have hlen:(XB p.rim).length=p.rim.length:=by simp [XB]
 have hs:=Sy (AX hn)
 have hm:(k+1) % p.rim.length<p.rim.length:=Nat.mod_lt _ (by omega)
 have cs:=JN ((XB p.rim).getD ((k+1) % p.rim.length) v0) ((XB p.rim).getD k v0) (by have:=hs ((k+1) % p.rim.length); unfold rm; omega) (by have:=hs k; unfold rm; omega)
 rw [show ((XB p.rim).getD ((k+1) % p.rim.length) v0).sub ((XB p.rim).getD k v0)=EJ p.rim k by rw [Gv,Gv]; rfl] at cs
 obtain ⟨R,hR⟩:∃ R,R=vA (EJ p.rim k):=⟨_,rfl⟩
 have sR:Settled R:=hR▸Xn _
 rw [← hR] at cs ⊢
 have w2:=wj k (by omega)
 have f0:((p.rim.length:Int)=0)=False:=eq_false (by omega)
 have f0':(p.rim.length=0)=False:=eq_false (by omega)
 have r3:((k+1:Nat):Int).tmod p.rim.length=(((k+1) % p.rim.length:Nat):Int):=rfl
 have v1:=vF (XB p.rim) k
 have v2:=vF (XB p.rim) ((k+1) % p.rim.length)
 generalize (k+1) % p.rim.length=m at *
 have f1:((k:Int)<p.rim.length)=True:=eq_true (by omega)
 have f2:(k<p.rim.length)=True:=eq_true hk
 have f3:((m:Int)<p.rim.length)=True:=eq_true (by omega)
 have f4:(m<p.rim.length)=True:=eq_true hm
 have f5:(k*8+8≤p.rim.length*8)=True:=eq_true (by omega)
 have f6:(m*8+8≤p.rim.length*8)=True:=eq_true (by omega)
 refine Fq Tryz.call115 Tryz.func115 6 [] [2] [] (by simp [Xu,X8]) (X0 1000 ?_)
 simp only [AS.start,Qf,XD,↓X2,wA,seval,wE]
 refine X1 cr rfl ?_
 simp only [X5,hlen,f0,f0',f1,f2,f3,f4,f5,f6,w2,r3,v1,v2,Int.toNat_natCast,↓X2,wA,seval,wE]
 refine X1 cs rfl ?_
 simp only [hR,↓X2,wA,seval,wE]
 exact Zh rfl Jp rfl rfl rfl sR (hR.trans rfl)
def Bk (a:V2):V2:=⟨-a.x,-a.y⟩
theorem Ve (a:V2):vb (Bk a)=vb a:=by
 unfold vb Bk
 simp only [OU]
theorem bU (a:V2):a.scale (-1)=Bk a:=by
 unfold V2.scale Bk
 rw [V2.ext']
 exact ⟨by simp only; grind,by simp only; grind⟩
theorem sX (a:V2):v0.sub a=Bk a:=by
 unfold V2.sub Bk v0
 rw [V2.ext']
 exact ⟨by simp only; grind,by simp only; grind⟩
theorem my (a:V2):Qb (Bk a) (Bk a)=Qb a a:=by unfold Qb Bk; grind
theorem VJ (R:List (Int×Int)) (k:Nat):Qb (EJ R k) (EJ R k)=(kF R k:Rat):=by
 rw [Uj]
 unfold Qb kF
 simp only [Rat.intCast_add,Rat.intCast_mul]
theorem Mr (t:Bool):WeakL [.bool false,.sl 0 0 (fun _=>.any) t,.bool false,.sl 0 0 (fun _=>.any) t,.bool false,.sl 0 0 (fun _=>.any) t,.bool false,.sl 0 0 (fun _=>.any) t] (vC v0) :=
 have h1:Xb (0:Rat).num.natAbs=[]:=by rw [Rat.zero_num]; simp [Q2]
 have h2:Xb (qd (0:Rat))=[]:=DU rfl
 ⟨Weak.rfl' _,QL h1,Weak.rfl' _,QL h2,Weak.rfl' _,QL h1,Weak.rfl' _,QL h2,trivial⟩
def VW (n m:Nat) (i j:Int):Prop:=(0≤i∧i<n)∧0≤j∧j<m
noncomputable def J9 (a b:List (Int×Int)) (i j:Int):V2×Bool :=
 if VW a.length b.length i j then ((Jd (Bk (EJ b j.toNat)) (EJ a i.toNat)).1,decide ((Jd (Bk (EJ b j.toNat)) (EJ a i.toNat)).2=0)) else (v0,false)
theorem Oj (a b:V2) (h:Qb a a≠Qb b b):(Jd a b).1=v0∧(Jd a b).2≠0:=by
 unfold Jd
 by_cases h0:Qb a a=0∨Qb b b=0
 ·rw [if_pos h0]; exact ⟨rfl,by decide⟩
 ·rw [if_neg h0,if_neg h]; exact ⟨rfl,by decide⟩
theorem jR (a b:V2) (k:Nat) (ha:vb a≤k) (hb:vb b≤k):vb (Jd a b).1≤8*k+2:=by
 have q0:=Bl
 have z:vb v0≤8*k+2:=by unfold vb v0; simp only; omega
 have q1:=A3 a a; have q3:=A3 a b; have q4:=CH a b
 have d1:=j9 (Qb a b) (Qb a a); have d2:=j9 (Qx a b) (Qb a a)
 unfold Jd
 by_cases h0:Qb a a=0∨Qb b b=0
 ·rw [if_pos h0]; exact z
 ·rw [if_neg h0]
  by_cases h1:Qb a a=Qb b b
  ·rw [if_pos h1]
   show max (qb (Qb a b / Qb a a)) (qb (Qx a b / Qb a a))≤_
   omega
  ·rw [if_neg h1]; exact z
theorem CO {a b:List (Int×Int)} (ha:J0 a) (hb:J0 b) (i j:Int):vb (J9 a b i j).1≤26:=by
 unfold J9
 by_cases h:VW a.length b.length i j
 ·rw [if_pos h]
  exact jR _ _ 3 (by rw [Ve]; exact Bp hb _) (Bp ha _)
 ·rw [if_neg h]
  have q0:=Bl
  unfold vb v0; simp only; omega
theorem LL (a b:PV) (i j:Int) (hla:a.rim.length<1000000) (hlb:b.rim.length<1000000) (na:J0 a.rim) (nb:J0 b.rim):Fn Tryz.prog 39 [Qf a,Qf b,I i,I j] (.tup [vA (J9 a.rim b.rim i j).1,.bool (J9 a.rim b.rim i j).2]):=by
 obtain ⟨R,hR⟩:∃ R,R=J9 a.rim b.rim i j:=⟨_,rfl⟩
 rw [← hR]
 have zret:∀ {s:AS} {ver id':Nat},s.get 8=.ref id' ver 0→s.h[id']?=some (.row ver 8 (Xp Zd))→s.get 9=.bool false→R=(v0,false)→RetOk (Qr Tryz.prog Tryz.f39 [3,40000004,40000005] [] (.tup [vA R.1,.bool R.2])) s:=fun h1 h2 h3 h4=>by
  subst h4
  exact QV rfl (Xq DL h1 h2 rfl) (by unfold QA; rfl) (Xs (Xn _) (XT Za)) (by rw [h3]; exact (X3 _).sees _)
 refine Fq Tryz.call39 Tryz.func39 12 [] [3,40000004,40000005] [] (by simp [Xu,X8]) (X0 1000 ?_)
 by_cases g0:i<0
 ·have f0:(i<0)=True:=eq_true g0
  simp only [AS.start,Qf,XD,f0,↓X2,wA,seval,wE]
  exact zret rfl rfl rfl (by rw [hR]; unfold J9; rw [if_neg (by unfold VW; omega)])
 have f0:(i<0)=False:=eq_false g0
 by_cases g1:(a.rim.length:Int)≤i
 ·have f1:((a.rim.length:Int)≤i)=True:=eq_true g1
  simp only [AS.start,Qf,XD,f0,f1,↓X2,wA,seval,wE]
  exact zret rfl rfl rfl (by rw [hR]; unfold J9; rw [if_neg (by unfold VW; omega)])
 have f1:((a.rim.length:Int)≤i)=False:=eq_false g1
 by_cases g2:j<0
 ·have f2:(j<0)=True:=eq_true g2
  simp only [AS.start,Qf,XD,f0,f1,f2,↓X2,wA,seval,wE]
  exact zret rfl rfl rfl (by rw [hR]; unfold J9; rw [if_neg (by unfold VW; omega)])
 have f2:(j<0)=False:=eq_false g2
 by_cases g3:(b.rim.length:Int)≤j
 ·have f3:((b.rim.length:Int)≤j)=True:=eq_true g3
  simp only [AS.start,Qf,XD,f0,f1,f2,f3,↓X2,wA,seval,wE]
  exact zret rfl rfl rfl (by rw [hR]; unfold J9; rw [if_neg (by unfold VW; omega)])
 have f3:((b.rim.length:Int)≤j)=False:=eq_false g3
 obtain ⟨i,rfl⟩:∃ n:Nat,i=n:=⟨i.toNat,by omega⟩
 obtain ⟨j,rfl⟩:∃ n:Nat,j=n:=⟨j.toNat,by omega⟩
 have hin:VW a.rim.length b.rim.length i j:=by unfold VW; omega
 have hR1:R=((Jd (Bk (EJ b.rim j)) (EJ a.rim i)).1,decide ((Jd (Bk (EJ b.rim j)) (EJ a.rim i)).2=0)):=by rw [hR]; unfold J9; rw [if_pos hin]; rfl
 have s1:=LI a i (by omega) hla na
 have s2:=LI b j (by omega) hlb nb
 simp only [AS.start,Qf,XD,f0,f1,f2,f3,↓X2,wA,seval,wE]
 refine X1 s1 rfl ?_
 simp only [f0,f1,f2,f3,↓X2,wA,seval,wE]
 refine X1 s2 rfl ?_
 by_cases hs:kF a.rim i=kF b.rim j
 rotate_left
 ·have fs:(kF a.rim i=kF b.rim j)=False:=eq_false hs
  simp only [fs,↓X2,wA,seval,wE]
  refine zret rfl rfl rfl ?_
  have hd:=Oj (Bk (EJ b.rim j)) (EJ a.rim i) (by rw [my,VJ,VJ]; exact fun h=>hs (Rat.intCast_inj.1 h).symm)
  rw [hR1,hd.1,decide_eq_false hd.2]
 have fs:(kF a.rim i=kF b.rim j)=True:=eq_true hs
 have e1:=Sd b j (by omega) hlb nb
 have e2:=Sd a i (by omega) hla na
 have k1:=Bp nb j; have k2:=Bp na i
 have o1:=Dg (-1) 1 ⟨by omega,by omega⟩ ⟨by omega,by omega⟩
 rw [show Rat.divInt (-1) 1 = -1 by decide +kernel] at o1
 have o2:=NQ (EJ b.rim j) (-1) (by unfold vm; omega) (by have:=D7 (-1) 1 ⟨by omega,by omega⟩ ⟨by omega,by omega⟩; rw [show Rat.divInt (-1) 1 = -1 by decide +kernel] at this; unfold vm; omega)
 rw [bU] at o2
 have o3:=bc (Bk (EJ b.rim j)) (EJ a.rim i) (by rw [Ve]; omega) (by omega)
 generalize Jd (Bk (EJ b.rim j)) (EJ a.rim i)=X at *
 simp only [fs,↓X2,wA,seval,wE]
 refine X1 e1 rfl ?_
 simp only [↓X2,wA,seval,wE]
 refine X1 o1 rfl ?_
 simp only [↓X2,wA,seval,wE]
 refine X1 o2 rfl ?_
 simp only [↓X2,wA,seval,wE]
 refine X1 e2 rfl ?_
 simp only [↓X2,wA,seval,wE]
 refine X1 o3 rfl ?_
 simp only [↓X2,wA,seval,wE]
 subst hR1
 exact QV rfl (Xq DL rfl rfl rfl) (by unfold QA; rfl) (Xs (Xn _) (XT (XS (vC X.1)))) ((X3 _).sees _)
theorem UR (a b:PV) (i j:Int) (hla:a.rim.length<1000000) (hlb:b.rim.length<1000000) (na:J0 a.rim) (nb:J0 b.rim):Fn Tryz.prog 40 [Qf a,Qf b,I i,I j] (.tup [vA (J9 a.rim b.rim i j).1,.bool (J9 a.rim b.rim i j).2]):=by
 obtain ⟨R,hR⟩:∃ R,R=J9 a.rim b.rim i j:=⟨_,rfl⟩
 rw [← hR]
 have zret:∀ {s:AS} {ver id':Nat},s.get 8=.ref id' ver 0→s.h[id']?=some (.row ver 8 (Xp Zd))→s.get 9=.bool false→R=(v0,false)→RetOk (Qr Tryz.prog Tryz.f40 [] [] (.tup [vA R.1,.bool R.2])) s:=fun h1 h2 h3 h4=>by
  subst h4
  exact QV rfl (Xq DL h1 h2 rfl) (by unfold QA; rfl) (Xs (Xn _) (XT Za)) (by rw [h3]; exact (X3 _).sees _)
 refine Fq Tryz.call40 Tryz.func40 14 [] [] [] (by simp [Xu,X8]) (X0 1000 ?_)
 by_cases g0:i<0
 ·have f0:(i<0)=True:=eq_true g0
  simp only [AS.start,Qf,XD,f0,↓X2,wA,seval,wE]
  exact zret rfl rfl rfl (by rw [hR]; unfold J9; rw [if_neg (by unfold VW; omega)])
 have f0:(i<0)=False:=eq_false g0
 by_cases g1:(a.rim.length:Int)≤i
 ·have f1:((a.rim.length:Int)≤i)=True:=eq_true g1
  simp only [AS.start,Qf,XD,f0,f1,↓X2,wA,seval,wE]
  exact zret rfl rfl rfl (by rw [hR]; unfold J9; rw [if_neg (by unfold VW; omega)])
 have f1:((a.rim.length:Int)≤i)=False:=eq_false g1
 by_cases g2:j<0
 ·have f2:(j<0)=True:=eq_true g2
  simp only [AS.start,Qf,XD,f0,f1,f2,↓X2,wA,seval,wE]
  exact zret rfl rfl rfl (by rw [hR]; unfold J9; rw [if_neg (by unfold VW; omega)])
 have f2:(j<0)=False:=eq_false g2
 by_cases g3:(b.rim.length:Int)≤j
 ·have f3:((b.rim.length:Int)≤j)=True:=eq_true g3
  simp only [AS.start,Qf,XD,f0,f1,f2,f3,↓X2,wA,seval,wE]
  exact zret rfl rfl rfl (by rw [hR]; unfold J9; rw [if_neg (by unfold VW; omega)])
 have f3:((b.rim.length:Int)≤j)=False:=eq_false g3
 obtain ⟨i,rfl⟩:∃ n:Nat,i=n:=⟨i.toNat,by omega⟩
 obtain ⟨j,rfl⟩:∃ n:Nat,j=n:=⟨j.toNat,by omega⟩
 have hin:VW a.rim.length b.rim.length i j:=by unfold VW; omega
 have hR1:R=((Jd (Bk (EJ b.rim j)) (EJ a.rim i)).1,decide ((Jd (Bk (EJ b.rim j)) (EJ a.rim i)).2=0)):=by rw [hR]; unfold J9; rw [if_pos hin]; rfl
 have e1:=So b j (by omega) hlb nb
 have e2:=So a i (by omega) hla na
 have k1:=Bp nb j; have k2:=Bp na i
 have o2:=JN v0 (EJ b.rim j) (by have:=Bl; unfold vb v0 rm; simp only; omega) (by unfold rm; omega)
 rw [sX] at o2
 have o3:=OW (Bk (EJ b.rim j)) (EJ a.rim i) (by rw [Ve]; omega) (by omega)
 generalize Jd (Bk (EJ b.rim j)) (EJ a.rim i)=X at *
 simp only [AS.start,Qf,XD,f0,f1,f2,f3,↓X2,wA,seval,wE]
 refine X1 e2 rfl ?_
 simp only [↓X2,wA,seval,wE]
 refine X1 e1 rfl ?_
 simp only [↓X2,wA,seval,wE]
 refine Qv o2 ⟨XT (Mr _),Weak.rfl' _,trivial⟩ ?_
 simp only [↓X2,wA,seval,wE]
 refine X1 o3 rfl ?_
 simp only [↓X2,wA,seval,wE]
 subst hR1
 exact QV rfl (Xq DL rfl rfl rfl) (by unfold QA; rfl) (Xs (Xn _) (XT (XS (vC X.1)))) ((X3 _).sees _)
def xK (n:Nat) (f:FV) (k:Nat):Nat:=((f.EA+k) % n).toNat
def yK (m:Nat) (f:FV) (k:Nat):Nat:=((f.EB - k) % m).toNat
theorem Mu (n:Nat) (f:FV) (k:Nat) (h:0<n):(f.EA+k) % (n:Int)=(xK n f k:Int):=by
 have:=Int.emod_nonneg (f.EA+k) (show (n:Int)≠0 by omega)
 unfold xK; omega
theorem Th (m:Nat) (f:FV) (k:Nat) (h:0<m):(f.EB - k) % (m:Int)=(yK m f k:Int):=by
 have:=Int.emod_nonneg (f.EB - k) (show (m:Int)≠0 by omega)
 unfold yK; omega
theorem WG (n:Nat) (f:FV) (k:Nat) (h:0<n):xK n f k<n:=by
 have:=Mu n f k h
 have:=Int.emod_lt_of_pos (f.EA+k) (show (0:Int)<n by omega)
 omega
theorem pZ (m:Nat) (f:FV) (k:Nat) (h:0<m):yK m f k<m:=by
 have:=Th m f k h
 have:=Int.emod_lt_of_pos (f.EB - k) (show (0:Int)<m by omega)
 omega
def Fg (n m:Nat) (f:FV):List (Int×Int):=(List.range f.M.toNat).map fun k=>((xK n f k:Int),(yK m f k:Int))
theorem Gw {α:Type} (f:Nat→α) (d:α) (n j:Nat) (h:j<n):((List.range n).map f).getD j d=f j:=by
 rw [List.getD_eq_getElem?_getD,List.getElem?_map,List.getElem?_range h]; rfl
theorem CW (n m:Nat) (f:FV):(Fg n m f).length=f.M.toNat:=by simp [Fg]
theorem nY {P:Program} {fn:Func} {str hcs:List Nat} {s:AS} {t id ver:Nat} (L:List (Int×Int)) (hr:fn.results=#[.tmp t]) (hs:s.get t=.osl id ver 2 0 L.length) (ho:s.h[id]?=some (.row ver (L.length*2) (Xw KJ 2 (0,0) L))):RetOk (Qr P fn str hcs (BW L)) s:=by
 refine Av hr ?_
 rw [hs,Xg]
 refine QB (.inl ho) (by omega) (fun h=>by rw [h]) fun j hj=>?_
 rw [Nat.zero_add]
 exact (Xd (Kp _) _).sees _
theorem Et (c:Int×Int):∀ j,j<2→((KJ c).getD j .any).one=true:=fun j hj=>by
 match j,hj with
 | 0,_=>rfl
 | 1,_=>rfl
 | j+2,h=>omega
theorem Lk (a b:PV) (f:FV) (hf:Cp a.rim.length b.rim.length f) (ha:a.rim.length<1000000) (hb:b.rim.length<1000000):Fn Tryz.prog 152 [Qf a,Qf b,Ke f] (BW (Fg a.rim.length b.rim.length f)):=by
 obtain ⟨⟨s1,s2⟩,⟨s3,s4⟩,s5,s6,s7⟩:=hf
 obtain ⟨N,hN⟩:∃ N:Nat,f.M=N:=⟨f.M.toNat,by omega⟩
 obtain ⟨L,hL⟩:∃ L,L=Fg a.rim.length b.rim.length f:=⟨_,rfl⟩
 have hlen:L.length=N:=by rw [hL,CW,hN]; rfl
 have hat:∀ k,k<N→L.getD k (0,0)=((xK a.rim.length f k:Int),(yK b.rim.length f k:Int)):=fun k hk=>by rw [hL]; exact Gw _ _ _ _ (by omega)
 rw [← hL]
 have ba:XH 4 (.con 0 25 (Xp (XD a)))=True:=eq_true (fun j _=>X6 (Xd (XE a) j))
 have bb:XH 4 (.con 0 25 (Xp (XD b)))=True:=eq_true (fun j _=>X6 (Xd (XE b) j))
 have bf:XH 4 (.con 0 29 (Xp (Q8 f)))=True:=eq_true (fun j _=>X6 (Xd (Qe f) j))
 have br:∀ i l n,XH 4 (.row i n (Xw KJ 2 (0,0) l))=True:=fun i l n=>eq_true fun j _=>X6 (Xd (Kp _) _)
 refine Fq Tryz.call152 Tryz.func152 9 [10,11] [5,60000003,60000004,60000005] [] (by simp [Xu,XK]) (X0 1000 ?_)
 simp only [AS.start,Qf,XD,Ke,Q8,↓X2,wA,seval,wE]
 refine Xe (fun k:Nat=>⟨9,[10,11],[.any,.any,.any,.ref 0 0 0,.ref 1 0 0,.ref 2 0 0,.any,.osl 3 k 2 0 k,.any],[(10,I f.M),(11,I k)],[.con 0 25 (Xp (XD a)),.con 0 25 (Xp (XD b)),.con 0 29 (Xp (Q8 f)),.row k (k*2) (Xw KJ 2 (0,0) (L.take k))]⟩) (fun k=>k≤N) (fun k=>N - k) 0 (by omega)
  (Sub.trans (Qt 0 rfl) (Sub.trans (Qt 1 rfl) (Sub.trans (Qt 2 rfl) (Sub.trans (Qi 7 2 (Xw KJ 2 (0,0) []) rfl) (Xa rfl (by simp [AS.put,Xh,I]) (by simp [AS.put,Xi,Xv,I]) (by simp [AS.put,XD,Q8,Xg,Xm,X4,I])))))) ?_
 intro k hk next
 have w1:=wj k (by omega)
 by_cases hk2:k<N
 ·have f1:((k:Int)<f.M)=True:=eq_true (by omega)
  have wx:IntKind.i64.wrap (f.EA+(k:Int))=f.EA+(k:Int):=by rw [IntKind.wrap_i64]; omega
  have wy:IntKind.i64.wrap (f.EB - (k:Int))=f.EB - (k:Int):=by rw [IntKind.wrap_i64]; omega
  have c1:=Ao (f.EA+(k:Int)) a.rim.length (by omega) (by omega) (by omega)
  have c2:=Ao (f.EB - (k:Int)) b.rim.length (by omega) (by omega) (by omega)
  rw [Mu _ _ _ (by omega)] at c1
  rw [Th _ _ _ (by omega)] at c2
  have hap:=Q0 KJ 2 (0,0) (L.take k) (L.getD k (0,0)) (by omega)
  rw [← AB _ _ (by omega),hat k hk2,show (L.take k).length=k by simp; omega] at hap
  refine X0 1000 ?_
  simp only [XD,Q8,Xg,w1,wx,wy,f1,Int.toNat_natCast,↓X2,wA,seval,wE]
  refine X1 c1 rfl ?_
  simp only [XD,Q8,Xg,w1,wx,wy,f1,Int.toNat_natCast,↓X2,wA,seval,wE]
  refine X1 c2 rfl ?_
  simp only [XD,Q8,Xg,w1,wx,wy,f1,Int.toNat_natCast,↓X2,wA,seval,wE]
  exact ⟨⟨Et ((xK a.rim.length f k:Int),(yK b.rim.length f k:Int)),by omega,by omega⟩,next (k+1) _ (by omega) (by omega) (Xz (m:=4) (Nat.zero_le _) rfl (by simp [Xh,I]) (by simp [Xi,Xv,I]) (by rw [← hap]; simp [XD,Q8,Xg,Xm,X4,I,KJ]) (by simp [Xy]) (by simp [Xy]) (by simp [ba,bb,bf,br]))⟩
 obtain rfl:k=N:=by omega
 have f1:((k:Int)<f.M)=False:=eq_false (by omega)
 refine X0 1000 ?_
 simp only [XD,Q8,f1,↓X2,wA,seval,wE]
 rw [List.take_of_length_le (by omega)]
 exact nY _ rfl (by rw [hlen]; rfl) (by rw [hlen]; rfl)
def MJ (wa wb:Bool) (x y:Int):Bool:=wa || wb || (decide (x≠y) && decide (x≠0) && decide (y≠0))
def U1 (a b:PV) (f:FV) (k:Nat):Bool:=MJ (a.worn.getD (xK a.rim.length f k) false) (b.worn.getD (yK b.rim.length f k) false) (a.marks.getD (xK a.rim.length f k) 0) (b.marks.getD (yK b.rim.length f k) 0)
def Gg (a b:PV) (f:FV):Prop:=∀ k,k<f.M.toNat→U1 a b f k=false
theorem PN (wa wb:Bool) (x y:Int) :
  (MJ wa wb x y=true∧wa=true∧True∧True∧True∧True)∨(MJ wa wb x y=true∧wa=false∧wb=true∧True∧True∧True)∨(MJ wa wb x y=false∧wa=false∧wb=false∧(x=y)=True∧True∧True) ∨
  (MJ wa wb x y=false∧wa=false∧wb=false∧(x=y)=False∧(x=0)=True∧True)∨(MJ wa wb x y=false∧wa=false∧wb=false∧(x=y)=False∧(x=0)=False∧(y=0)=True) ∨
  (MJ wa wb x y=true∧wa=false∧wb=false∧(x=y)=False∧(x=0)=False∧(y=0)=False):=by
 unfold MJ
 cases wa
 rotate_left
 ·exact .inl ⟨rfl,rfl,trivial,trivial,trivial,trivial⟩
 cases wb
 rotate_left
 ·exact .inr (.inl ⟨rfl,rfl,rfl,trivial,trivial,trivial⟩)
 by_cases h1:x=y
 ·exact .inr (.inr (.inl ⟨by simp [h1],rfl,rfl,eq_true h1,trivial,trivial⟩))
 by_cases h2:x=0
 ·exact .inr (.inr (.inr (.inl ⟨by simp [h2],rfl,rfl,eq_false h1,eq_true h2,trivial⟩)))
 by_cases h3:y=0
 ·exact .inr (.inr (.inr (.inr (.inl ⟨by simp [h3],rfl,rfl,eq_false h1,eq_false h2,eq_true h3⟩))))
 ·exact .inr (.inr (.inr (.inr (.inr ⟨by simp [h1,h2,h3],rfl,rfl,eq_false h1,eq_false h2,eq_false h3⟩))))
structure PV.even (p:PV):Prop where
 rim:p.rim.length<1000000
 worn:p.worn.length=p.rim.length
 marks:p.marks.length=p.rim.length
 near:J0 p.rim
theorem HK (a b:PV) (f:FV) (hf:Cp a.rim.length b.rim.length f) (ha:a.even) (hb:b.even):Fn Tryz.prog 132 [Qf a,Qf b,Ke f] (.bool (decide (Gg a b f))):=by
 have ce:=Lk a b f hf ha.rim hb.rim
 obtain ⟨⟨s1,s2⟩,⟨s3,s4⟩,s5,s6,s7⟩:=hf
 obtain ⟨N,hN⟩:∃ N:Nat,f.M=N:=⟨f.M.toNat,by omega⟩
 have la:=ha.rim; have lb:=hb.rim
 obtain ⟨V,hV⟩:∃ V,V=decide (Gg a b f):=⟨_,rfl⟩
 rw [← hV]
 obtain ⟨L,hL⟩:∃ L,L=Fg a.rim.length b.rim.length f:=⟨_,rfl⟩
 have hlen:L.length=N:=by rw [hL,CW,hN]; rfl
 have hat:∀ k,k<N→L.getD k (0,0)=((xK a.rim.length f k:Int),(yK b.rim.length f k:Int)):=fun k hk=>by rw [hL]; exact Gw _ _ _ _ (by omega)
 rw [← hL] at ce
 clear hL
 have fin:∀ {s:AS} {v:Bool},s.get 6=.bool v→v=V→RetOk (Qr Tryz.prog Tryz.f132 [] [] (.bool V)) s:=fun h e=>Xr rfl h (X3 _) (by rw [e])
 have ba:XH 3 (.row 0 25 (Xp (XD a)))=True:=eq_true (XF (XE a))
 have bb:XH 3 (.row 0 25 (Xp (XD b)))=True:=eq_true (XF (XE b))
 have bf:XH 3 (.row 0 29 (Xp (Q8 f)))=True:=eq_true (XF (Qe f))
 have bL:Js 3 (BW L)=True:=eq_true (X6 (Qy _))
 refine Fq Tryz.call132 Tryz.func132 12 [15,16,17] [] [] (by simp [Xu,XK]) (X0 1000 ?_)
 simp only [AS.start,Qf,XD,Ke,Q8,↓X2,wA,seval,wE]
 refine X1 ce rfl ?_
 simp only [Xg,hlen,↓X2,wA,seval,wE]
 refine Xe (fun k:Nat=>⟨12,[15,16,17],[.any,.any,.any,.ref 0 0 0,.ref 1 0 0,.ref 2 0 0,.any,.bool true,.any,.any,.any,.any],[(15,BW L),(16,I N),(17,I k)],[.row 0 25 (Xp (XD a)),.row 0 25 (Xp (XD b)),.row 0 29 (Xp (Q8 f))]⟩) (fun k=>k≤N∧∀ j,j<k→U1 a b f j=false) (fun k=>N - k) 0 ⟨by omega,by omega⟩
  (Xa rfl (by simp [Xh,I]) (by simp [Xi,Xv,Xg,hlen,I]) (by simp [XD,Q8,Xg,Xm,X4,I])) ?_
 rintro k ⟨hk,hok⟩ next
 have w1:=wj k (by omega)
 by_cases hk2:k<N
 rotate_left
 ·obtain rfl:k=N:=by omega
  refine X0 1000 ?_
  simp only [XD,Q8,Int.lt_irrefl,Nat.lt_irrefl,↓X2,wA,seval,wE]
  exact fin rfl (by rw [hV,decide_eq_true]; exact fun j hj=>hok j (by omega))
 have nx:=next (k+1)
 have f1:((k:Int)<N)=True:=eq_true (by omega)
 have f2:(k<N)=True:=eq_true hk2
 have f3:(k*2+2≤N*2)=True:=eq_true (by omega)
 have v1:=bj L k
 rw [hat k hk2] at v1
 have hx:=WG a.rim.length f k (by omega)
 have hy:=pZ b.rim.length f k (by omega)
 have ex:=Mu a.rim.length f k (by omega)
 have ey:=Th b.rim.length f k (by omega)
 have six:=PN (a.worn.getD (xK a.rim.length f k) false) (b.worn.getD (yK b.rim.length f k) false) (a.marks.getD (xK a.rim.length f k) 0) (b.marks.getD (yK b.rim.length f k) 0)
 have hbad:U1 a b f k=MJ (a.worn.getD (xK a.rim.length f k) false) (b.worn.getD (yK b.rim.length f k) false) (a.marks.getD (xK a.rim.length f k) 0) (b.marks.getD (yK b.rim.length f k) 0):=rfl
 rw [← hbad] at six
 clear hbad
 have no:U1 a b f k=true→false=V:=fun h=>by rw [hV,decide_eq_false]; intro hp; rw [hp k (by omega)] at h; cases h
 generalize xK a.rim.length f k=X at *
 generalize yK b.rim.length f k=Y at *
 have g1:((X:Int)<a.worn.length)=True:=eq_true (by have:=ha.worn; omega)
 have g2:(X<a.worn.length)=True:=eq_true (by have:=ha.worn; omega)
 have g3:((Y:Int)<b.worn.length)=True:=eq_true (by have:=hb.worn; omega)
 have g4:(Y<b.worn.length)=True:=eq_true (by have:=hb.worn; omega)
 have g5:((X:Int)<a.marks.length)=True:=eq_true (by have:=ha.marks; omega)
 have g6:(X<a.marks.length)=True:=eq_true (by have:=ha.marks; omega)
 have g7:((Y:Int)<b.marks.length)=True:=eq_true (by have:=hb.marks; omega)
 have g8:(Y<b.marks.length)=True:=eq_true (by have:=hb.marks; omega)
 have n2:((2:Nat):Int)=2:=rfl
 have t1:(1:Int).toNat=1:=rfl
 rcases six with ⟨hB,q1,q2,q3,q4,q5⟩ | ⟨hB,q1,q2,q3,q4,q5⟩ | ⟨hB,q1,q2,q3,q4,q5⟩ | ⟨hB,q1,q2,q3,q4,q5⟩ | ⟨hB,q1,q2,q3,q4,q5⟩ | ⟨hB,q1,q2,q3,q4,q5⟩
 all_goals
  refine X0 1000 ?_
  simp only [XD,Q8,Xg,Xm,X4,hlen,w1,f1,f2,f3,v1,g1,g2,g3,g4,g5,g6,g7,g8,q1,q2,q3,q4,q5,n2,t1,Int.toNat_zero,Int.reduceLT,Int.reduceLE,Int.toNat_natCast,↓X2,wA,seval,wE]
  first
   | exact fin rfl (no hB)
   | exact nx _ ⟨by omega,JJ.2 ⟨hok,hB⟩⟩ (by omega) (Xz (m:=3) (Nat.zero_le _) rfl (by simp [Xh,I]) (by simp [Xi,Xv,Xg,hlen,I]) (by simp [XD,Q8,Xg,Xm,X4,I]) (by simp [Xy]) (by simp [Xy,bL]) (by simp [ba,bb,bf]))
theorem P2 (a b:PV) (f:FV) (hf:Cp a.rim.length b.rim.length f) (ha:a.even) (hb:b.even):Fn Tryz.prog 149 [Qf a,Qf b,Ke f] (.bool (decide (Gg a b f))):=by
 obtain ⟨⟨s1,s2⟩,⟨s3,s4⟩,s5,s6,s7⟩:=hf
 obtain ⟨N,hN⟩:∃ N:Nat,f.M=N:=⟨f.M.toNat,by omega⟩
 have la:=ha.rim; have lb:=hb.rim
 obtain ⟨V,hV⟩:∃ V,V=decide (Gg a b f):=⟨_,rfl⟩
 rw [← hV]
 have fin:∀ {s:AS} {v:Bool},s.get 6=.bool v→v=V→RetOk (Qr Tryz.prog Tryz.f149 [] [] (.bool V)) s:=fun h e=>Xr rfl h (X3 _) (by rw [e])
 refine Fq Tryz.call149 Tryz.func149 10 [] [] [] (by simp [Xu,XK]) (X0 1000 ?_)
 simp only [AS.start,Qf,XD,Ke,Q8,↓X2,wA,seval,wE]
 refine Xe (fun k:Nat=>⟨10,[],[.any,.any,.any,.ref 0 0 0,.ref 1 0 0,.ref 2 0 0,.bool false,I k,.any,.any],[],[.row 0 25 (Xp (XD a)),.row 0 25 (Xp (XD b)),.row 0 29 (Xp (Q8 f))]⟩) (fun k=>k≤N∧∀ j,j<k→U1 a b f j=false) (fun k=>N - k) 0 ⟨by omega,by omega⟩
  (Xa rfl (by simp [Xh,I]) (by simp [Xi]) (by simp [XD,Q8,Xg,Xm,X4,I])) ?_
 rintro k ⟨hk,hok⟩ next
 have w1:=wj k (by omega)
 by_cases hk2:k<N
 rotate_left
 ·have f1:((k:Int)<f.M)=False:=eq_false (by omega)
  refine X0 1000 ?_
  simp only [XD,Q8,f1,↓X2,wA,seval,wE]
  exact fin rfl (by rw [hV,decide_eq_true]; exact fun j hj=>hok j (by omega))
 have nx:=next (k+1)
 have f1:((k:Int)<f.M)=True:=eq_true (by omega)
 have wx:IntKind.i64.wrap (f.EA+(k:Int))=f.EA+(k:Int):=by rw [IntKind.wrap_i64]; omega
 have wy:IntKind.i64.wrap (f.EB - (k:Int))=f.EB - (k:Int):=by rw [IntKind.wrap_i64]; omega
 have c1:=QS (f.EA+(k:Int)) a.rim.length (by omega) (by omega) (by omega)
 have c2:=QS (f.EB - (k:Int)) b.rim.length (by omega) (by omega) (by omega)
 have hx:=WG a.rim.length f k (by omega)
 have hy:=pZ b.rim.length f k (by omega)
 have ex:=Mu a.rim.length f k (by omega)
 have ey:=Th b.rim.length f k (by omega)
 have six:=PN (a.worn.getD (xK a.rim.length f k) false) (b.worn.getD (yK b.rim.length f k) false) (a.marks.getD (xK a.rim.length f k) 0) (b.marks.getD (yK b.rim.length f k) 0)
 have hbad:U1 a b f k=MJ (a.worn.getD (xK a.rim.length f k) false) (b.worn.getD (yK b.rim.length f k) false) (a.marks.getD (xK a.rim.length f k) 0) (b.marks.getD (yK b.rim.length f k) 0):=rfl
 rw [← hbad] at six
 clear hbad
 have no:U1 a b f k=true→false=V:=fun h=>by rw [hV,decide_eq_false]; intro hp; rw [hp k (by omega)] at h; cases h
 rw [ex] at c1
 rw [ey] at c2
 generalize xK a.rim.length f k=X at *
 generalize yK b.rim.length f k=Y at *
 have g1:((X:Int)<a.worn.length)=True:=eq_true (by have:=ha.worn; omega)
 have g2:(X<a.worn.length)=True:=eq_true (by have:=ha.worn; omega)
 have g3:((Y:Int)<b.worn.length)=True:=eq_true (by have:=hb.worn; omega)
 have g4:(Y<b.worn.length)=True:=eq_true (by have:=hb.worn; omega)
 have g5:((X:Int)<a.marks.length)=True:=eq_true (by have:=ha.marks; omega)
 have g6:(X<a.marks.length)=True:=eq_true (by have:=ha.marks; omega)
 have g7:((Y:Int)<b.marks.length)=True:=eq_true (by have:=hb.marks; omega)
 have g8:(Y<b.marks.length)=True:=eq_true (by have:=hb.marks; omega)
 have n2:((2:Nat):Int)=2:=rfl
 have t1:(1:Int).toNat=1:=rfl
 rcases six with ⟨hB,q1,q2,q3,q4,q5⟩ | ⟨hB,q1,q2,q3,q4,q5⟩ | ⟨hB,q1,q2,q3,q4,q5⟩ | ⟨hB,q1,q2,q3,q4,q5⟩ | ⟨hB,q1,q2,q3,q4,q5⟩ | ⟨hB,q1,q2,q3,q4,q5⟩
 all_goals
  refine X0 1000 ?_
  simp only [XD,Q8,Xg,Xm,X4,w1,wx,wy,f1,Int.toNat_natCast,↓X2,wA,seval,wE]
  refine X1 c1 rfl ?_
  simp only [XD,Q8,Xg,Xm,X4,w1,wx,wy,f1,Int.toNat_natCast,↓X2,wA,seval,wE]
  refine X1 c2 rfl ?_
  simp only [XD,Q8,Xg,Xm,X4,w1,g1,g2,g3,g4,g5,g6,g7,g8,q1,q2,q3,q4,q5,n2,t1,Int.toNat_zero,Int.reduceLT,Int.reduceLE,Int.toNat_natCast,↓X2,wA,seval,wE]
  first
   | exact fin rfl (no hB)
   | exact nx _ ⟨by omega,JJ.2 ⟨hok,hB⟩⟩ (by omega) (Xa rfl (by simp [Xh,I]) (by simp [Xi]) (by simp [XD,Q8,Xg,Xm,X4,I]))
def RA (p:V2→Bool) (s:List V2):Int:=if s.any p=true then (s.findIdx p:Nat) else -1
theorem EG {s:List V2} {j:Nat} (h:j<s.length):s.getD j v0∈s:=by
 rw [List.getD_eq_getElem?_getD,List.getElem?_eq_getElem h]; exact List.getElem_mem h
theorem i9 {p:V2→Bool} {s:List V2} {j:Nat} (hj:j<s.length) (h:p (s.getD j v0)=true) (hno:∀ i,i<j→p (s.getD i v0)=false):RA p s=j:=by
 have at_:∀ i (hi:i<s.length),s.getD i v0=s[i]:=fun i hi=>by rw [List.getD_eq_getElem?_getD,List.getElem?_eq_getElem hi]; rfl
 have e:s.findIdx p=j:=by
  rw [List.findIdx_eq hj]
  exact ⟨by rw [← at_ j hj]; exact h,fun i hi=>by rw [← at_ i (by omega)]; exact hno i hi⟩
 unfold RA
 rw [if_pos (List.any_eq_true.2 ⟨_,EG hj,h⟩),e]
theorem aH {p:V2→Bool} {s:List V2} (hno:∀ i,i<s.length→p (s.getD i v0)=false):RA p s = -1:=by
 unfold RA
 rw [if_neg]
 intro h
 obtain ⟨x,hx,hp⟩:=List.any_eq_true.1 h
 obtain ⟨i,hi,rfl⟩:=List.getElem_of_mem hx
 have:=hno i hi
 rw [List.getD_eq_getElem?_getD,List.getElem?_eq_getElem hi] at this
 simp only [Option.getD_some] at this
 rw [this] at hp; cases hp
theorem RB (p:V2→Bool) (s:List V2):decide (0≤RA p s)=s.any p:=by
 unfold RA
 cases h:s.any p
 ·simp
 ·rw [if_pos rfl]; exact decide_eq_true (by omega)
theorem V9 (s:List V2) (f:FuncId) (caps:List AV) (p:V2→Bool) (hl:s.length<1000000) (hc:∀ a∈caps,Settled a) (hp:∀ x∈s,Fn Tryz.prog f ([vA x] ++ caps) (.bool (p x))) :
  Fn Tryz.prog 205 [Xt s,.fn f caps] (I (RA p s)):=by
 refine Fn.intro (fn:=Tryz.f205) Tryz.call205 Tryz.func205 rfl mixed 6 [6,7,8] [] [] (by kernel_rfl) (Nat.le_of_ble_eq_true rfl) (by simpa [Xf] using Ji hc) (X0 1000 ?_)
 simp only [AS.start,X5,↓X2,wA,seval,wE]
 refine Xe (fun j:Nat=>⟨6,[6,7,8],[Xt s,.fn f caps,.any,.any,.any,.any],[(6,Xt s),(7,I s.length),(8,I j)],[]⟩) (fun j=>j≤s.length∧∀ i,i<j→p (s.getD i v0)=false) (fun j=>s.length - j) 0 ⟨by omega,by omega⟩
  (Xa rfl (by simp [Xh,X5,I]) (by simp [Xi,Xv,X5,I]) rfl) ?_
 rintro j ⟨hj,hno⟩ next
 have w1:=wj j (by omega)
 by_cases hj2:j<s.length
 ·have f1:((j:Int)<s.length)=True:=eq_true (by omega)
  have f2:(j<s.length)=True:=eq_true hj2
  have f3:(j*8+8≤s.length*8)=True:=eq_true (by omega)
  have v1:=vF s j
  refine X0 1000 ?_
  simp only [X5,w1,f1,f2,f3,v1,Int.toNat_natCast,↓X2,wA,seval,wE]
  refine Qv (hp _ (EG hj2)) (XS _) ?_
  simp only [w1,↓X2,wA,seval,wE]
  refine QU (fun ht=>Xr (v:=I j) rfl rfl (X8 _) ?_) (fun hf=>next (j+1) _ ⟨by omega,JJ.2 ⟨hno,hf⟩⟩ (by omega) (Xa rfl (by simp [Xh,X5,I]) (by simp [Xi,Xv,X5,I]) rfl))
  rw [i9 hj2 ht hno]
 ·have f1:((j:Int)<s.length)=False:=eq_false (by omega)
  refine X0 1000 ?_
  simp only [X5,w1,f1,↓X2,wA,seval,wE]
  refine Xr (v:=I (-1)) rfl rfl (X8 _) ?_
  rw [aH fun i hi=>hno i (by omega)]
theorem MY (s:List V2) (f:FuncId) (caps:List AV) (p:V2→Bool) (hl:s.length<1000000) (hc:∀ a∈caps,Settled a) (hp:∀ x∈s,Fn Tryz.prog f ([vA x] ++ caps) (.bool (p x))) :
  Fn Tryz.prog 141 [Xt s,.fn f caps] (.bool (s.any p)):=by
 have hi:=RB p s
 refine Fn.intro (fn:=Tryz.f141) Tryz.call141 Tryz.func141 rfl mixed 5 [] [] [] (by kernel_rfl) (Nat.le_of_ble_eq_true rfl) (by simpa [Xf] using Ji hc) (X0 1000 ?_)
 simp only [AS.start,↓X2,wA,seval,wE]
 refine X1 (V9 s f caps p hl hc hp) rfl ?_
 simp only [↓X2,wA,seval,wE]
 exact Xr (v:=.bool (decide (0≤RA p s))) rfl rfl (X3 _) (by rw [RB])
def pH (f:FV):AV:=.ptr 29 (Xp (Q8 f)) 0
theorem Ce (f:FV):Settled (pH f):=QX fun j _=>Xd (Qe f) j
theorem YT (t:V2) (f:FV) (ht:vb t≤vm) (hf:vb f.turn≤vm):Fn Tryz.prog 142 ([vA t] ++ [pH f]) (.bool (decide (t=f.turn))):=by
 have c1:=C9 t f.turn ht hf
 refine Fq Tryz.call142 Tryz.func142 4 [] [] [] (by simp [Xn,Ce]) (X0 1000 ?_)
 simp only [AS.start,pH,Q8,List.cons_append,List.nil_append,↓X2,wA,seval,wE]
 refine X1 c1 rfl ?_
 simp only [↓X2,wA,seval,wE]
 exact Xr rfl rfl (X3 _) rfl
noncomputable def EI (a b:PV) (f:FV) (k:Nat):V2×Bool:=J9 a.rim b.rim (xK a.rim.length f k) (yK b.rim.length f k)
noncomputable def Qu (a b:PV) (f:FV):Nat→List V2
 | 0=>[]
 | k+1=>if (EI a b f k).2=true then Qu a b f k ++ [(EI a b f k).1] else Qu a b f k
theorem Dy (a b:PV) (f:FV):∀ k,(Qu a b f k).length≤k
 | 0=>Nat.le_refl _
 | k+1=>by
  have ih:=Dy a b f k
  simp only [Qu]
  split
  ·rw [List.length_append]; simp only [List.length_singleton]; omega
  ·omega
theorem F9 (a b:PV) (f:FV) (ha:J0 a.rim) (hb:J0 b.rim):∀ k,∀ t∈Qu a b f k,vb t≤26
 | 0=>fun t h=>by simp [Qu] at h
 | k+1=>by
  have ih:=F9 a b f ha hb k
  intro t h
  simp only [Qu] at h
  split at h
  ·rcases List.mem_append.1 h with h | h
   ·exact ih t h
   ·simp only [List.mem_cons,List.not_mem_nil,or_false] at h
    subst h; exact CO ha hb _ _
  ·exact ih t h
def MI (a b:PV) (f:FV):Prop:=∃ k,k<f.M.toNat∧(EI a b f k).2=true∧(EI a b f k).1=f.turn
theorem IR (a b:PV) (f:FV) (t:V2):∀ n,(Qu a b f n).any (fun x=>decide (x=t))=true↔∃ k,k<n∧(EI a b f k).2=true∧(EI a b f k).1=t
 | 0=>by simp [Qu]
 | n+1=>by
  have ih:=IR a b f t n
  by_cases h:(EI a b f n).2=true
  ·have e:Qu a b f (n+1)=Qu a b f n ++ [(EI a b f n).1]:=if_pos h
   rw [e,List.any_append,Bool.or_eq_true,ih]
   simp only [List.any_cons,List.any_nil,Bool.or_false,decide_eq_true_eq]
   constructor
   ·rintro (⟨k,h1,h2⟩ | h1)
    ·exact ⟨k,by omega,h2⟩
    ·exact ⟨n,by omega,h,h1⟩
   ·rintro ⟨k,h1,h2,h3⟩
    by_cases hk:k=n
    ·subst hk; exact .inr h3
    ·exact .inl ⟨k,by omega,h2,h3⟩
  ·have e:Qu a b f (n+1)=Qu a b f n:=if_neg h
   rw [e,ih]
   constructor
   ·rintro ⟨k,h1,h2⟩; exact ⟨k,by omega,h2⟩
   ·rintro ⟨k,h1,h2,h3⟩
    by_cases hk:k=n
    ·subst hk; exact absurd h2 h
    ·exact ⟨k,by omega,h2,h3⟩
theorem TR (a b:PV) (f:FV) (hf:Cp a.rim.length b.rim.length f) (ha:a.even) (hb:b.even):Fn Tryz.prog 133 [Qf a,Qf b,Ke f] (Xt (Qu a b f f.M.toNat)):=by
 have ce:=Lk a b f hf ha.rim hb.rim
 obtain ⟨⟨s1,s2⟩,⟨s3,s4⟩,s5,s6,s7⟩:=hf
 obtain ⟨N,hN⟩:∃ N:Nat,f.M=N:=⟨f.M.toNat,by omega⟩
 have la:=ha.rim; have lb:=hb.rim
 have hNt:f.M.toNat=N:=by rw [hN]; rfl
 rw [hNt]
 obtain ⟨L,hL⟩:∃ L,L=Fg a.rim.length b.rim.length f:=⟨_,rfl⟩
 have hlen:L.length=N:=by rw [hL,CW,hN]; rfl
 have hat:∀ k,k<N→L.getD k (0,0)=((xK a.rim.length f k:Int),(yK b.rim.length f k:Int)):=fun k hk=>by rw [hL]; exact Gw _ _ _ _ (by omega)
 rw [← hL] at ce
 clear hL
 have ba:XH 4 (.row 0 25 (Xp (XD a)))=True:=eq_true (XF (XE a))
 have bb:XH 4 (.row 0 25 (Xp (XD b)))=True:=eq_true (XF (XE b))
 have bf:XH 4 (.row 0 29 (Xp (Q8 f)))=True:=eq_true (XF (Qe f))
 have bL:Js 4 (BW L)=True:=eq_true (X6 (Qy _))
 have hvc:∀ a:V2,∀ x∈vC a,Settled x:=fun a=>by simp [vC,X7,X3]
 have br:∀ i l n,XH 4 (.row i n (Xw vC 8 v0 l))=True:=fun i l n=>eq_true fun j _=>X6 (Xd (hvc _) _)
 refine Fq Tryz.call133 Tryz.func133 12 [15,16,17] [] [] (by simp [Xu,XK]) (X0 1000 ?_)
 simp only [AS.start,Qf,XD,Ke,Q8,↓X2,wA,seval,wE]
 refine X1 ce rfl ?_
 simp only [Xg,hlen,↓X2,wA,seval,wE]
 refine Xe (fun k:Nat=>⟨12,[15,16,17],[.any,.any,.any,.ref 0 0 0,.ref 1 0 0,.ref 2 0 0,.any,.osl 3 (Qu a b f k).length 8 0 (Qu a b f k).length,.any,.any,.any,.any],[(15,BW L),(16,I N),(17,I k)],[.row 0 25 (Xp (XD a)),.row 0 25 (Xp (XD b)),.row 0 29 (Xp (Q8 f)),.row (Qu a b f k).length ((Qu a b f k).length*8) (Xw vC 8 v0 (Qu a b f k))]⟩) (fun k=>k≤N) (fun k=>N - k) 0 (by omega)
  (Sub.trans (Qi 7 8 (Xw vC 8 v0 []) rfl) (Xa rfl (by simp [AS.put,Qu,Xh,I]) (by simp [AS.put,Xi,Xv,Xg,hlen,I]) (by simp [AS.put,Qu,XD,Q8,Xg,Xm,X4,I]))) ?_
 intro k hk next
 have w1:=wj k (by omega)
 have hln:=Dy a b f k
 by_cases hk2:k<N
 rotate_left
 ·obtain rfl:k=N:=by omega
  refine X0 1000 ?_
  simp only [XD,Q8,Int.lt_irrefl,Nat.lt_irrefl,↓X2,wA,seval,wE]
  exact Mo _ rfl rfl rfl
 have nx:=next (k+1)
 have f1:((k:Int)<N)=True:=eq_true (by omega)
 have f2:(k<N)=True:=eq_true hk2
 have f3:(k*2+2≤N*2)=True:=eq_true (by omega)
 have v1:=bj L k
 rw [hat k hk2] at v1
 have n2:((2:Nat):Int)=2:=rfl
 have t1:(1:Int).toNat=1:=rfl
 have ca:=LL a b (xK a.rim.length f k) (yK b.rim.length f k) la lb ha.near hb.near
 rw [show J9 a.rim b.rim (xK a.rim.length f k) (yK b.rim.length f k)=EI a b f k from rfl] at ca
 have hs:Qu a b f (k+1)=if (EI a b f k).2=true then Qu a b f k ++ [(EI a b f k).1] else Qu a b f k:=rfl
 generalize EI a b f k=X at *
 obtain ⟨t,ok⟩:=X
 refine X0 1000 ?_
 simp only [XD,Q8,Xg,Xm,X4,hlen,w1,f1,f2,f3,v1,n2,t1,Int.toNat_zero,Int.reduceLT,Int.reduceLE,Int.toNat_natCast,↓X2,wA,seval,wE]
 refine X1 ca rfl ?_
 cases ok with
 | false =>
  rw [if_neg (show ¬ ((t,false).2=true) from Bool.false_ne_true)] at hs
  simp only [hs] at nx
  simp only [w1,↓X2,wA,seval,wE]
  exact nx _ (by omega) (by omega) (Xz (m:=4) (Nat.zero_le _) rfl (by simp [Xh,I]) (by simp [Xi,Xv,Xg,hlen,I]) (by simp [XD,Q8,Xg,Xm,X4,I]) (by simp [Xy]) (by simp [Xy,bL]) (by simp [ba,bb,bf,br]))
 | true =>
  rw [if_pos rfl] at hs
  have hlen2:(Qu a b f (k+1)).length=(Qu a b f k).length+1:=by rw [hs]; simp
  have hap:=Q0 vC 8 v0 (Qu a b f k) t (by omega)
  rw [← hs] at hap
  simp only [hlen2] at nx
  simp only [w1,↓X2,wA,seval,wE]
  exact ⟨⟨BT t,by omega,by omega⟩,nx _ (by omega) (by omega) (Xz (m:=4) (Nat.zero_le _) rfl (by simp [Xh,I]) (by simp [Xi,Xv,Xg,hlen,I]) (by rw [← hap]; simp [XD,Q8,Xg,Xm,X4,I,vC]) (by simp [Xy]) (by simp [Xy,bL]) (by simp [ba,bb,bf,br]))⟩
end
end Go.Ab.N
