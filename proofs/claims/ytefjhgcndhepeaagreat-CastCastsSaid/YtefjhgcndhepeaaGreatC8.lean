/- Contracts of functions of these chapters, for every argument that fits, and what they need. -/
import Derived.Test.YtefjhgcndhepeaaGreatC7
set_option linter.unusedSimpArgs false
set_option linter.unusedVariables false
open Nat renaming reducePow → Y1, reduceLT → Y2, reduceLeDiff → Y3, reduceEqDiff → Y4, reduceAdd → Y5, reduceMul → Y6, reduceSub → Y7, reduceBEq → Y8, reduceDiv → Y9, reduceMod → YA
namespace Go.Ab.N
open Go Go.RowKit Go.Proofs
noncomputable section
set_option maxRecDepth 10000
set_option maxHeartbeats 4000000
open Classical
theorem gn (b:Rat):qb b⁻¹≤qb b:=by
 rw [Rat.inv_def]
 exact KA _ _ _ (TT b) (JN b) (JA b)
theorem go (a b:Rat):qb (a / b)≤qb a+qb b:=by
 rw [Rat.div_def]
 have:=Qx a b⁻¹; have:=gn b
 omega
theorem Vo (a b:Rat) (ha:qb a≤vm) (hb:qb b≤vm) (h0:b≠0):Fn Tryz.prog 192 [qA a,qA b] (qA (a / b)):=by
 unfold vm at ha hb
 have q1:=gn b
 have hn:b.num≠0:=fun h=>h0 (Rat.num_eq_zero.1 h)
 have c1:=Cy b
 have c2:=DY b.den b.num hn (by
  have:=b.reduced
  rw [Int.gcd_comm]
  exact this)
 rw [← Rat.inv_def] at c2
 have c3:=Ks a b⁻¹ (by unfold rm; omega) (by unfold rm; omega)
 rw [← Rat.div_def] at c3
 obtain ⟨R,hR⟩:∃ R,R=qA (a / b):=⟨_,rfl⟩
 have sR:Settled R:=hR▸Xc _
 have f1:((Xb b.num.natAbs).length=0)=False:=eq_false fun h=>hn (by have:=digs_len_zero.1 h; omega)
 have f2:(((Xb b.num.natAbs).length:Int)=0)=False:=eq_false fun h=>hn (by have:=digs_len_zero.1 (show (Xb b.num.natAbs).length=0 by omega); omega)
 rw [← hR] at c3 ⊢
 refine Fq Tryz.call192 Tryz.func192 5 [] [] [] (by simp [wS]) (X1 1000 ?_); simp (config:={ maxSteps:=2000000 }) only [AS.start,↓X2,wA,seval,wE]
 simp only [f1,f2,↓X2,wA,seval,wE]
 refine X0 c1 rfl ?_
 simp only [↓X2,wA,seval,wE]
 refine X0 c2 rfl ?_
 simp only [↓X2,wA,seval,wE]
 refine X0 c3 rfl ?_
 simp only [hR,↓X2,wA,seval,wE]
 exact Ju rfl Qb rfl rfl rfl sR (hR.trans rfl)
theorem qo (a b:Rat):Rat.divInt (a.num*b.den) (a.den*b.num)=a / b:=by
 rw [← Rat.divInt_mul_divInt,Rat.div_def,Rat.inv_def,Rat.num_divInt_den]
theorem Lm (a b:Rat) (ha:qb a≤vm) (hb:qb b≤vm):Fn Tryz.prog 194 [qA a,qA b] (qA (a / b)):=by
 unfold vm at ha hb
 have a1:=JA a; have a2:=JN a; have b1:=JA b; have b2:=JN b
 have m1:=Zj a.num b.den (by unfold room; omega) (by unfold room; omega)
 have m3:=Zj a.den b.num (by unfold room; omega) (by unfold room; omega)
 have n1:=JZ a.num b.den
 have n3:=JZ a.den b.num
 have k:=DZ (a.num*b.den) (a.den*b.num) (by omega) (by omega)
 rw [qo] at k
 have d1:=ZE a
 have d2:=ZE b
 obtain ⟨R,hR⟩:∃ R,R=qA (a / b):=⟨_,rfl⟩
 have sR:Settled R:=hR▸Xc _
 rw [← hR] at k ⊢
 refine Fq Tryz.call194 Tryz.func194 5 [] [1,20000002,20000003] [] (by simp [wS]) (X1 1000 ?_); simp (config:={ maxSteps:=2000000 }) only [AS.start,↓X2,wA,seval,wE]
 refine X0 d2 rfl ?_
 simp only [↓X2,wA,seval,wE]
 refine X0 m1 rfl ?_
 simp only [↓X2,wA,seval,wE]
 refine X0 d1 rfl ?_
 simp only [↓X2,wA,seval,wE]
 refine X0 m3 rfl ?_
 simp only [↓X2,wA,seval,wE]
 refine X0 k rfl ?_
 simp only [hR,↓X2,wA,seval,wE]
 exact Ju rfl Qb rfl rfl rfl sR (hR.trans rfl)
noncomputable def J8 (a b:V2):V2×Int :=
 if Qa a a=0∨Qa b b=0 then (v0,1) else if Qa a a=Qa b b then (⟨Qa a b / Qa a a,Qs a b / Qa a a⟩,0) else (v0,21)
def Ae:List AV:=[.bool false,.sl 0 0 (fun _=>.any) false,.bool false,.sl 0 0 (fun _=>.any) false,.bool false,.sl 0 0 (fun _=>.any) false,.bool false,.sl 0 0 (fun _=>.any) false]
theorem Z0:WeakL Ae (vC v0) :=
 have h1:Xb (0:Rat).num.natAbs=[]:=by rw [Rat.zero_num]; simp [XZ]
 have h2:Xb (qd (0:Rat))=[]:=Dy rfl
 ⟨Weak.rfl' _,QJ h1,Weak.rfl' _,QJ h2,Weak.rfl' _,QJ h1,Weak.rfl' _,QJ h2,trivial⟩
theorem Yx (a b:V2) (ha:vb a≤10000) (hb:vb b≤10000):Fn Tryz.prog 114 [vA a,vA b] (.tup [vA (J8 a b).1,I (J8 a b).2]):=by
 obtain ⟨R,hR⟩:∃ R,R=J8 a b:=⟨_,rfl⟩
 rw [← hR]
 have q1:=ZV a a; have q2:=ZV b b; have q3:=ZV a b; have q4:=Cp a b
 have c1:=FJ a a (by unfold vm; omega) (by unfold vm; omega)
 have c2:=FJ b b (by unfold vm; omega) (by unfold vm; omega)
 have c3:=FJ a b (by unfold vm; omega) (by unfold vm; omega)
 have c4:=GF a b (by unfold vm; omega) (by unfold vm; omega)
 have s1:=Kw (Qa a a)
 have s2:=Kw (Qa b b)
 have e1:=GK (Qa a a) (Qa b b) (by unfold rm; omega) (by unfold rm; omega)
 have zret:∀ {s:AS} {ver id':Nat} {k:Int},s.get 4=.ref id' ver 0→s.h[id']?=some (.row ver 8 (Xq Ae))→s.get 5=I k→R=(v0,k)→RetOk (Qn Tryz.prog Tryz.f114 [1,20000002,20000003,6,70000002,70000003,70000006] [] (.tup [vA R.1,I R.2])) s:=fun h1 h2 h3 h4=>by
  subst h4
  exact QO rfl (Xo Do h1 h2 rfl) (by unfold QA; rfl) (Xr (Xn _) (XS Z0)) (by rw [h3]; exact (X9 _).sees _)
 refine Fq Tryz.call114 Tryz.func114 8 [] [1,20000002,20000003,6,70000002,70000003,70000006] [] (by simp [wS]) (X1 1000 ?_); simp (config:={ maxSteps:=2000000 }) only [AS.start,↓X2,wA,seval,wE]
 refine X0 c1 rfl ?_
 simp only [↓X2,wA,seval,wE]
 refine X0 c2 rfl ?_
 simp only [↓X2,wA,seval,wE]
 refine X0 s1 rfl ?_
 by_cases h1:Qa a a=0
 ·have f1:((Qa a a).num.sign=0)=True:=eq_true ((AA _).2 h1)
  simp only [f1,↓X2,wA,seval,wE]
  exact zret rfl rfl rfl (by rw [hR]; unfold J8; rw [if_pos (.inl h1)])
 have f1:((Qa a a).num.sign=0)=False:=eq_false fun h=>h1 ((AA _).1 h)
 simp only [f1,↓X2,wA,seval,wE]
 refine X0 s2 rfl ?_
 by_cases h2:Qa b b=0
 ·have f2:((Qa b b).num.sign=0)=True:=eq_true ((AA _).2 h2)
  simp only [f1,f2,↓X2,wA,seval,wE]
  exact zret rfl rfl rfl (by rw [hR]; unfold J8; rw [if_pos (.inr h2)])
 have f2:((Qa b b).num.sign=0)=False:=eq_false fun h=>h2 ((AA _).1 h)
 simp only [f1,f2,↓X2,wA,seval,wE]
 refine X0 e1 rfl ?_
 have hno:¬ (Qa a a=0∨Qa b b=0):=fun h=>h.elim h1 h2
 by_cases h3:Qa a a=Qa b b
 rotate_left
 ·rw [decide_eq_false h3]
  simp only [↓X2,wA,seval,wE]
  exact zret rfl rfl rfl (by rw [hR]; unfold J8; rw [if_neg hno,if_neg h3])
 rw [decide_eq_true h3]
 have d1:=Vo (Qa a b) (Qa a a) (by unfold vm; omega) (by unfold vm; omega) h1
 have d2:=Vo (Qs a b) (Qa a a) (by unfold vm; omega) (by unfold vm; omega) h1
 simp only [↓X2,wA,seval,wE]
 refine X0 c3 rfl ?_
 simp only [↓X2,wA,seval,wE]
 refine X0 d1 rfl ?_
 simp only [↓X2,wA,seval,wE]
 refine X0 c4 rfl ?_
 simp only [↓X2,wA,seval,wE]
 refine X0 d2 rfl ?_
 simp only [↓X2,wA,seval,wE]
 have hRe:R=(⟨Qa a b / Qa a a,Qs a b / Qa a a⟩,0):=by rw [hR]; unfold J8; rw [if_neg hno,if_pos h3]
 subst hRe
 exact QO rfl (Xo Do rfl rfl rfl) (by unfold QA; rfl) (Xr (Xn _) (XS (Q9 (vC ⟨Qa a b / Qa a a,Qs a b / Qa a a⟩)))) ((X9 _).sees _)
theorem Og (a b:V2) (ha:vb a≤10000) (hb:vb b≤10000):Fn Tryz.prog 116 [vA a,vA b] (.tup [vA (J8 a b).1,I (J8 a b).2]):=by
 obtain ⟨R,hR⟩:∃ R,R=J8 a b:=⟨_,rfl⟩
 rw [← hR]
 have q1:=ZV a a; have q2:=ZV b b; have q3:=ZV a b; have q4:=Cp a b
 have c1:=KP a a (by unfold vm; omega) (by unfold vm; omega)
 have c2:=KP b b (by unfold vm; omega) (by unfold vm; omega)
 have c3:=KP a b (by unfold vm; omega) (by unfold vm; omega)
 have c4:=FY a b (by unfold vm; omega) (by unfold vm; omega)
 have s1:=AP (Qa a a) (by unfold rm; omega)
 have s2:=AP (Qa b b) (by unfold rm; omega)
 have e1:=Bk (Qa a a) (Qa b b) (by unfold rm; omega) (by unfold rm; omega)
 have zret:∀ {s:AS} {ver id':Nat} {k:Int},s.get 4=.ref id' ver 0→s.h[id']?=some (.row ver 8 (Xq Ae))→s.get 5=I k→R=(v0,k)→RetOk (Qn Tryz.prog Tryz.f116 [4,50000003,50000006,6,70000002,70000003,70000006] [] (.tup [vA R.1,I R.2])) s:=fun h1 h2 h3 h4=>by
  subst h4
  exact QO rfl (Xo Do h1 h2 rfl) (by unfold QA; rfl) (Xr (Xn _) (XS Z0)) (by rw [h3]; exact (X9 _).sees _)
 refine Fq Tryz.call116 Tryz.func116 7 [] [4,50000003,50000006,6,70000002,70000003,70000006] [] (by simp [wS]) (X1 1000 ?_); simp (config:={ maxSteps:=2000000 }) only [AS.start,↓X2,wA,seval,wE]
 refine X0 c1 rfl ?_
 simp only [↓X2,wA,seval,wE]
 refine X0 s1 rfl ?_
 by_cases h1:Qa a a=0
 ·have f1:((Qa a a).num.sign=0)=True:=eq_true ((AA _).2 h1)
  simp only [f1,↓X2,wA,seval,wE]
  exact zret rfl rfl rfl (by rw [hR]; unfold J8; rw [if_pos (.inl h1)])
 have f1:((Qa a a).num.sign=0)=False:=eq_false fun h=>h1 ((AA _).1 h)
 simp only [f1,↓X2,wA,seval,wE]
 refine X0 c2 rfl ?_
 simp only [f1,↓X2,wA,seval,wE]
 refine X0 s2 rfl ?_
 by_cases h2:Qa b b=0
 ·have f2:((Qa b b).num.sign=0)=True:=eq_true ((AA _).2 h2)
  simp only [f1,f2,↓X2,wA,seval,wE]
  exact zret rfl rfl rfl (by rw [hR]; unfold J8; rw [if_pos (.inr h2)])
 have f2:((Qa b b).num.sign=0)=False:=eq_false fun h=>h2 ((AA _).1 h)
 simp only [f1,f2,↓X2,wA,seval,wE]
 refine X0 c2 rfl ?_
 simp only [f1,f2,↓X2,wA,seval,wE]
 refine X0 e1 rfl ?_
 have hno:¬ (Qa a a=0∨Qa b b=0):=fun h=>h.elim h1 h2
 by_cases h3:Qa a a=Qa b b
 rotate_left
 ·rw [decide_eq_false h3]
  simp only [↓X2,wA,seval,wE]
  exact zret rfl rfl rfl (by rw [hR]; unfold J8; rw [if_neg hno,if_neg h3])
 rw [decide_eq_true h3]
 have d1:=Lm (Qa a b) (Qa a a) (by unfold vm; omega) (by unfold vm; omega)
 have d2:=Lm (Qs a b) (Qa a a) (by unfold vm; omega) (by unfold vm; omega)
 simp only [↓X2,wA,seval,wE]
 refine X0 c3 rfl ?_
 simp only [↓X2,wA,seval,wE]
 refine X0 d1 rfl ?_
 simp only [↓X2,wA,seval,wE]
 refine X0 c4 rfl ?_
 simp only [↓X2,wA,seval,wE]
 refine X0 d2 rfl ?_
 simp only [↓X2,wA,seval,wE]
 have hRe:R=(⟨Qa a b / Qa a a,Qs a b / Qa a a⟩,0):=by rw [hR]; unfold J8; rw [if_neg hno,if_pos h3]
 subst hRe
 exact QO rfl (Xo Do rfl rfl rfl) (by unfold QA; rfl) (Xr (Xn _) (XS (Q9 (vC ⟨Qa a b / Qa a a,Qs a b / Qa a a⟩)))) ((X9 _).sees _)
def FK (t c:V2):List AV:=[.bool (decide (t.x.num<0)),X8 (Xb t.x.num.natAbs),.bool false,X8 (Xb (qd t.x)),.bool (decide (t.y.num<0)),X8 (Xb t.y.num.natAbs),.bool false,X8 (Xb (qd t.y)),
 .bool (decide (c.x.num<0)),X8 (Xb c.x.num.natAbs),.bool false,X8 (Xb (qd c.x)),.bool (decide (c.y.num<0)),X8 (Xb c.y.num.natAbs),.bool false,X8 (Xb (qd c.y))]
def Vh (t c:V2):AV:=.agg (FK t c)
theorem KR (t c:V2):∀ x∈FK t c,Settled x:=by simp [FK,X7,X3]
theorem ZG (t c:V2):Settled (Vh t c):=Qd (KR t c)
def put (t c a:V2):V2:=(Lv t a).add c
def sc (t c:V2):AV:=.ptr 16 (Xq (FK t c)) 0
theorem Hq (t c:V2):Settled (sc t c):=Ji fun j _=>Xg (KR t c) j
theorem qN (t c a:V2):vb (put t c a)≤2*(vb t+vb a)+vb c+2:=by
 have:=CY t a; have:=Cb (Lv t a) c
 unfold put; omega
theorem Yq (t c a:V2) (ht:vb t≤100000) (hc:vb c≤100000) (ha:vb a≤100000):Fn Tryz.prog 206 [vA a,sc t c] (vA (put t c a)):=by
 have m:=CY t a
 have c1:=Le t a (by unfold vm; omega) (by unfold vm; omega)
 have c2:=O8 (Lv t a) c (by unfold vm; omega) (by unfold vm; omega)
 obtain ⟨R,hR⟩:∃ R,R=vA (put t c a):=⟨_,rfl⟩
 have sR:Settled R:=hR▸Xn _
 rw [← hR]
 refine Fq Tryz.call206 Tryz.func206 4 [] [] [] (by simp [Xn,Hq]) (X1 1000 ?_)
 simp only [AS.start,sc,FK,↓X2,wA,seval,wE]
 refine X0 c1 rfl ?_
 simp only [↓X2,wA,seval,wE]
 refine X0 c2 rfl ?_
 simp only [↓X2,wA,seval,wE]
 exact Z7 rfl Jh rfl rfl rfl sR (hR.trans rfl)
theorem fI (t c:V2):Fn Tryz.prog 143 [Vh t c] (.fn 206 [sc t c]):=by
 have hset:Settled (.fn 206 [sc t c]):=K3 (by simp [Hq])
 refine Fq Tryz.call143 Tryz.func143 3 [] [] [] (by simp [ZG]) (X1 1000 ?_)
 simp only [AS.start,Vh,FK,↓X2,wA,seval,wE]
 refine AR rfl (Ee ⟨AU (.inl rfl) (by omega) fun j hj=>?_,trivial⟩)
 exact (Xg (KR t c) j).sees _
theorem qi (t c a:V2) (ht:vb t≤100000) (hc:vb c≤100000) (ha:vb a≤100000):Fn Tryz.prog 55 [Vh t c,vA a] (vA (put t c a)):=by
 have c1:=fI t c
 have c2:=Yq t c a ht hc ha
 obtain ⟨R,hR⟩:∃ R,R=vA (put t c a):=⟨_,rfl⟩
 have sR:Settled R:=hR▸Xn _
 rw [← hR]
 refine Fq Tryz.call55 Tryz.func55 5 [] [] [] (by simp [ZG,Xn]) (X1 1000 ?_)
 simp only [AS.start,Vh,FK,↓X2,wA,seval,wE]
 refine X0 c1 rfl ?_
 simp only [↓X2,wA,seval,wE]
 refine X0 c2 rfl ?_
 simp only [↓X2,wA,seval,wE]
 exact Z7 rfl Jh rfl rfl rfl sR (hR.trans rfl)
def Kn (t c:V2) (L:List V2):List V2:=L.map (put t c)
theorem MV (t c:V2) (L:List V2) (i:Nat) (hi:i<L.length):Kn t c (L.take i) ++ [put t c (L.getD i v0)]=Kn t c (L.take (i+1)):=by
 rw [As _ v0 hi]; simp [Kn]
theorem R8 (t c:V2) (L:List V2) (i:Nat) (hi:i≤L.length):(Kn t c (L.take i)).length=i:=by simp [Kn]; omega
theorem LN {P:Program} {fn:Func} {str hcs:List Nat} {s:AS} {t id ver:Nat} (L:List V2) (hr:fn.results=#[.tmp t]) (hs:s.get t=.osl id ver 8 0 L.length) (ho:s.h[id]?=some (.row ver (L.length*8) (XB vC 8 v0 L))):RetOk (Qn P fn str hcs (Xp L)) s:=by
 refine AR hr ?_
 rw [hs,X5]
 refine Qv (.inl ho) (by omega) (fun h=>by rw [h]) fun j hj=>?_
 rw [Nat.zero_add]
 exact (Xg (by simp [vC,X7,X3]) _).sees _
theorem Z9 (a:V2):∀ j,j<8→((vC a).getD j .any).one=true:=fun j hj=>by
 match j,hj with
 | 0,_=>rfl
 | 1,_=>rfl
 | 2,_=>rfl
 | 3,_=>rfl
 | 4,_=>rfl
 | 5,_=>rfl
 | 6,_=>rfl
 | 7,_=>rfl
 | j+8,h=>omega
theorem gi (t c:V2) (L:List V2) (k:Nat) (h:XV L k) (hk:k≤100000) (hl:L.length<1000000) (ht:vb t≤100000) (hc:vb c≤100000):Fn Tryz.prog 69 [Vh t c,Xp L] (Xp (Kn t c L)):=by
 have bo:XI 2 (.row 0 16 (Xq (FK t c)))=True:=eq_true (XG (KR t c))
 have hvc:∀ a:V2,∀ x∈vC a,Settled x:=fun a=>by simp [vC,X7,X3]
 have bv:Jj 2 (Xp L)=True:=eq_true (X6 (Xd L))
 have br:∀ i l n,XI 2 (.row i n (XB vC 8 v0 l))=True:=fun i l n=>eq_true fun j _=>X6 (Xg (hvc _) _)
 obtain ⟨R,hR⟩:∃ R,R=Xp (Kn t c L):=⟨_,rfl⟩
 rw [← hR]
 refine Fq Tryz.call69 Tryz.func69 8 [8,9,10] [] [] (by simp [ZG,Xd]) (X1 1000 ?_)
 simp only [AS.start,Vh,FK,X5,↓X2,wA,seval,wE]
 refine Xe (fun i:Nat=>⟨8,[8,9,10],[.any,.any,.ref 0 0 0,.any,.any,.osl 1 i 8 0 i,.any,.any],[(8,Xp L),(9,I L.length),(10,I i)],[.row 0 16 (Xq (FK t c)),.row i (i*8) (XB vC 8 v0 (Kn t c (L.take i)))]⟩) (fun i=>i≤L.length) (fun i=>L.length - i) 0 (by omega)
  (Sub.trans (Q7 5 8 (XB vC 8 v0 []) rfl) (Xa rfl (by simp [AS.put,Xh,I]) (by simp [AS.put,Xi,Xw,X5,I]) (by simp [AS.put,FK,X4,Kn]))) ?_
 intro i hi next
 have w1:=wj i (by omega)
 by_cases hi2:i<L.length
 ·have f1:((i:Int)<L.length)=True:=eq_true (by omega)
  have f2:(i<L.length)=True:=eq_true hi2
  have f3:(i*8+8≤L.length*8)=True:=eq_true (by omega)
  have v1:=vF L i
  have hb:=h i
  have c1:=qi t c (L.getD i v0) ht hc (by omega)
  have hap:=XQ vC 8 v0 (Kn t c (L.take i)) (put t c (L.getD i v0)) (by omega)
  rw [MV _ _ _ _ hi2,R8 _ _ _ _ hi] at hap
  refine X1 1000 ?_
  simp only [FK,X5,w1,f1,f2,f3,v1,Int.toNat_natCast,↓X2,wA,seval,wE]
  refine X0 c1 rfl ?_
  simp only [w1,↓X2,wA,seval,wE]
  exact ⟨⟨Z9 _,by omega,by omega⟩,next (i+1) _ (by omega) (by omega) (Xy (m:=2) (Nat.zero_le _) rfl (by simp [Xh]) (by simp [Xi,Xw,X5,I]) (by rw [← hap]; rfl) (by simp [Xx]) (by simp [Xx,bv]) (by simp [bo,br]))⟩
 obtain rfl:i=L.length:=by omega
 refine X1 1000 ?_
 simp only [FK,X5,Int.lt_irrefl,Nat.lt_irrefl,↓X2,wA,seval,wE]
 rw [hR,List.take_length]
 have hlen:(Kn t c L).length=L.length:=by simp [Kn]
 exact LN _ rfl (by rw [hlen]; rfl) (by rw [hlen]; rfl)
theorem Ry (t c:V2) (L:List V2) (k:Nat) (h:XV L k) (hk:k≤100000) (hl:L.length<1000000) (ht:vb t≤100000) (hc:vb c≤100000):Fn Tryz.prog 247 [Vh t c,Xp L] (Xp (Kn t c L)):=by
 have bo:XI 2 (.con 0 16 (Xq (FK t c)))=True:=eq_true (fun j _=>X6 (Xg (KR t c) j))
 have hvc:∀ a:V2,∀ x∈vC a,Settled x:=fun a=>by simp [vC,X7,X3]
 have bv:Jj 2 (Xp L)=True:=eq_true (X6 (Xd L))
 have br:∀ i l n,XI 2 (.row i n (XB vC 8 v0 l))=True:=fun i l n=>eq_true fun j _=>X6 (Xg (hvc _) _)
 obtain ⟨R,hR⟩:∃ R,R=Xp (Kn t c L):=⟨_,rfl⟩
 rw [← hR]
 refine Fq Tryz.call247 Tryz.func247 7 [] [5,60000002] [] (by simp [ZG,Xd]) (X1 1000 ?_)
 simp only [AS.start,Vh,FK,X5,↓X2,wA,seval,wE]
 refine Xe (fun i:Nat=>⟨7,[],[.any,Xp L,.ref 0 0 0,.any,.any,.osl 1 i 8 0 i,I i],[],[.con 0 16 (Xq (FK t c)),.row i (i*8) (XB vC 8 v0 (Kn t c (L.take i)))]⟩) (fun i=>i≤L.length) (fun i=>L.length - i) 0 (by omega)
  (Sub.trans (Qp 0 rfl) (Sub.trans (Q7 5 8 (XB vC 8 v0 []) rfl) (Xa rfl (by simp [AS.put,X5,Xh,I]) (by simp [AS.put,Xi]) (by simp [AS.put,FK,X4,Kn])))) ?_
 intro i hi next
 have w1:=wj i (by omega)
 by_cases hi2:i<L.length
 ·have f1:((i:Int)<L.length)=True:=eq_true (by omega)
  have f2:(i<L.length)=True:=eq_true hi2
  have f3:(i*8+8≤L.length*8)=True:=eq_true (by omega)
  have v1:=vF L i
  have hb:=h i
  have m:=CY t (L.getD i v0)
  have c1:=C7 t (L.getD i v0) (by unfold vm; omega) (by unfold vm; omega)
  have c2:=F6 (Lv t (L.getD i v0)) c (by unfold vm; omega) (by unfold vm; omega)
  have hap:=XQ vC 8 v0 (Kn t c (L.take i)) (put t c (L.getD i v0)) (by omega)
  rw [MV _ _ _ _ hi2,R8 _ _ _ _ hi] at hap
  refine X1 1000 ?_
  simp only [FK,X5,w1,f1,f2,f3,v1,Int.toNat_natCast,↓X2,wA,seval,wE]
  refine X0 c1 rfl ?_
  simp only [FK,X5,w1,f1,f2,f3,v1,Int.toNat_natCast,↓X2,wA,seval,wE]
  refine X0 c2 rfl ?_
  simp only [w1,↓X2,wA,seval,wE]
  exact ⟨⟨Z9 _,by omega,by omega⟩,next (i+1) _ (by omega) (by omega) (Xy (m:=2) (Nat.zero_le _) rfl (by simp [X5,Xh,I]) (by simp [Xi]) (by rw [← hap]; rfl) (by simp [Xx,bv]) (by simp [Xx]) (by simp [bo,br]))⟩
 obtain rfl:i=L.length:=by omega
 refine X1 1000 ?_
 simp only [FK,X5,Int.lt_irrefl,Nat.lt_irrefl,↓X2,wA,seval,wE]
 rw [hR,List.take_length]
 have hlen:(Kn t c L).length=L.length:=by simp [Kn]
 exact LN _ rfl (by rw [hlen]; rfl) (by rw [hlen]; rfl)
structure FV where
 A:Int
 B:Int
 EA:Int
 EB:Int
 M:Int
 turn:V2
 lo:V2
 hi:V2
def Qg (f:FV):List AV:=[I f.A,I f.B,I f.EA,I f.EB,I f.M,.bool (decide (f.turn.x.num<0)),X8 (Xb f.turn.x.num.natAbs),.bool false,X8 (Xb (qd f.turn.x)),.bool (decide (f.turn.y.num<0)),X8 (Xb f.turn.y.num.natAbs),.bool false,X8 (Xb (qd f.turn.y)),
 .bool (decide (f.lo.x.num<0)),X8 (Xb f.lo.x.num.natAbs),.bool false,X8 (Xb (qd f.lo.x)),.bool (decide (f.lo.y.num<0)),X8 (Xb f.lo.y.num.natAbs),.bool false,X8 (Xb (qd f.lo.y)),
 .bool (decide (f.hi.x.num<0)),X8 (Xb f.hi.x.num.natAbs),.bool false,X8 (Xb (qd f.hi.x)),.bool (decide (f.hi.y.num<0)),X8 (Xb f.hi.y.num.natAbs),.bool false,X8 (Xb (qd f.hi.y))]
def Kt (f:FV):AV:=.agg (Qg f)
theorem Qt (f:FV):∀ x∈Qg f,Settled x:=by simp [Qg,X9,X7,X3]
theorem XK (f:FV):Settled (Kt f):=Qd (Qt f)
theorem Ms (k:Int) (n:Nat) (h:0<n):(k.tmod n+n).tmod n=k % n:=by
 have h1:=Int.tmod_lt_of_pos k (show (0:Int)<n by omega)
 have h2:-(n:Int)<k.tmod n:=by
  have:=Int.lt_tmod_of_pos k (show (0:Int)<n by omega)
  omega
 rw [Int.tmod_eq_emod_of_nonneg (by omega),Int.add_emod_right]
 have h3:=Int.mul_tdiv_add_tmod k n
 have h4:k % n=(k.tmod n+n*k.tdiv n) % n:=by rw [Int.add_comm]; rw [h3]
 rw [h4,Int.add_mul_emod_self_left]
theorem CD (k:Int) (n:Nat) (h:0<n) (hk:-1000000000≤k∧k≤1000000000) (hn:n≤1000000000):Fn Tryz.prog 124 [I k,I n] (I (k % n)):=by
 have h1:=Int.tmod_lt_of_pos k (show (0:Int)<n by omega)
 have h2:=Int.lt_tmod_of_pos k (show (0:Int)<n by omega)
 have w1:IntKind.i64.wrap (k.tmod n+n)=k.tmod n+n:=by rw [IntKind.wrap_i64]; omega
 have f1:((n:Int)=0)=False:=eq_false (by omega)
 have f1':(n=0)=False:=eq_false (by omega)
 obtain ⟨R,hR⟩:∃ R,R=k % (n:Int):=⟨_,rfl⟩
 have e:=Ms k n h
 rw [← hR] at e ⊢
 refine Fq Tryz.call124 Tryz.func124 5 [] [] [] (by simp [X9]) (X1 1000 ?_)
 simp only [AS.start,f1,f1',w1,e,↓X2,wA,seval,wE]
 exact Xs rfl rfl (X9 _) rfl
theorem Qj (k:Int) (n:Nat) (h:0<n) (hk:-1000000000≤k∧k≤1000000000) (hn:n≤1000000000):Fn Tryz.prog 129 [I k,I n] (I (k % n)):=by
 have h1:=Int.tmod_lt_of_pos k (show (0:Int)<n by omega)
 have h2:=Int.lt_tmod_of_pos k (show (0:Int)<n by omega)
 have w1:IntKind.i64.wrap (k.tmod n+n)=k.tmod n+n:=by rw [IntKind.wrap_i64]; omega
 have f1:((n:Int)=0)=False:=eq_false (by omega)
 have f1':(n=0)=False:=eq_false (by omega)
 obtain ⟨R,hR⟩:∃ R,R=k % (n:Int):=⟨_,rfl⟩
 have e:=Ms k n h
 rw [← hR] at e ⊢
 refine Fq Tryz.call129 Tryz.func129 5 [] [] [] (by simp [X9]) (X1 1000 ?_)
 simp only [AS.start,f1,f1',w1,e,↓X2,wA,seval,wE]
 exact Xs rfl rfl (X9 _) rfl
def C9 (n m:Nat) (f:FV):Prop:=(0≤f.EA∧f.EA<n)∧(0≤f.EB∧f.EB<m)∧1≤f.M∧f.M<n∧f.M<m
theorem H0 (a b:PV) (f:FV) (ha:a.rim.length<1000000) (hb:b.rim.length<1000000):Fn Tryz.prog 122 [Q3 a,Q3 b,Kt f] (.bool (decide (C9 a.rim.length b.rim.length f))):=by
 obtain ⟨V,hV⟩:∃ V,V=decide (C9 a.rim.length b.rim.length f):=⟨_,rfl⟩
 have fin:∀ {s:AS} {v:Bool},s.get 6=.bool v→v=V→RetOk (Qn Tryz.prog Tryz.f122 [] [] (.bool V)) s:=fun h e=>Xs rfl h (X3 _) (by rw [e])
 rw [← hV]
 refine Fq Tryz.call122 Tryz.func122 9 [] [] [] (by simp [Xu,XK]) (X1 1000 ?_)
 by_cases hmn:(b.rim.length:Int)<a.rim.length
 ·have fmn:((b.rim.length:Int)<a.rim.length)=True:=eq_true hmn
  by_cases g0:0≤f.EA
  rotate_left
  ·have f0:(0≤f.EA)=False:=eq_false g0
   simp only [AS.start,Q3,XC,Kt,Qg,fmn,if_true,f0,↓X2,wA,seval,wE]
   exact fin rfl (by rw [hV,decide_eq_false fun h=>g0 h.1.1])
  have f0:(0≤f.EA)=True:=eq_true g0
  by_cases g1:f.EA<(a.rim.length:Int)
  rotate_left
  ·have f1:(f.EA<(a.rim.length:Int))=False:=eq_false g1
   simp only [AS.start,Q3,XC,Kt,Qg,fmn,if_true,f0,f1,↓X2,wA,seval,wE]
   exact fin rfl (by rw [hV,decide_eq_false fun h=>g1 h.1.2])
  have f1:(f.EA<(a.rim.length:Int))=True:=eq_true g1
  by_cases g2:0≤f.EB
  rotate_left
  ·have f2:(0≤f.EB)=False:=eq_false g2
   simp only [AS.start,Q3,XC,Kt,Qg,fmn,if_true,f0,f1,f2,↓X2,wA,seval,wE]
   exact fin rfl (by rw [hV,decide_eq_false fun h=>g2 h.2.1.1])
  have f2:(0≤f.EB)=True:=eq_true g2
  by_cases g3:f.EB<(b.rim.length:Int)
  rotate_left
  ·have f3:(f.EB<(b.rim.length:Int))=False:=eq_false g3
   simp only [AS.start,Q3,XC,Kt,Qg,fmn,if_true,f0,f1,f2,f3,↓X2,wA,seval,wE]
   exact fin rfl (by rw [hV,decide_eq_false fun h=>g3 h.2.1.2])
  have f3:(f.EB<(b.rim.length:Int))=True:=eq_true g3
  by_cases g4:1≤f.M
  rotate_left
  ·have f4:(1≤f.M)=False:=eq_false g4
   simp only [AS.start,Q3,XC,Kt,Qg,fmn,if_true,f0,f1,f2,f3,f4,↓X2,wA,seval,wE]
   exact fin rfl (by rw [hV,decide_eq_false fun h=>g4 h.2.2.1])
  have f4:(1≤f.M)=True:=eq_true g4
  by_cases g5:f.M<(b.rim.length:Int)
  rotate_left
  ·have f5:(f.M<(b.rim.length:Int))=False:=eq_false g5
   simp only [AS.start,Q3,XC,Kt,Qg,fmn,if_true,f0,f1,f2,f3,f4,f5,↓X2,wA,seval,wE]
   exact fin rfl (by rw [hV,decide_eq_false fun h=>g5 h.2.2.2.2])
  have f5:(f.M<(b.rim.length:Int))=True:=eq_true g5
  simp only [AS.start,Q3,XC,Kt,Qg,fmn,if_true,f0,f1,f2,f3,f4,f5,↓X2,wA,seval,wE]
  exact fin rfl (by rw [hV,decide_eq_true]; exact ⟨⟨g0,g1⟩,⟨g2,g3⟩,g4,by omega,g5⟩)
 ·have fmn:((b.rim.length:Int)<a.rim.length)=False:=eq_false hmn
  by_cases g0:0≤f.EA
  rotate_left
  ·have f0:(0≤f.EA)=False:=eq_false g0
   simp only [AS.start,Q3,XC,Kt,Qg,fmn,if_false,f0,↓X2,wA,seval,wE]
   exact fin rfl (by rw [hV,decide_eq_false fun h=>g0 h.1.1])
  have f0:(0≤f.EA)=True:=eq_true g0
  by_cases g1:f.EA<(a.rim.length:Int)
  rotate_left
  ·have f1:(f.EA<(a.rim.length:Int))=False:=eq_false g1
   simp only [AS.start,Q3,XC,Kt,Qg,fmn,if_false,f0,f1,↓X2,wA,seval,wE]
   exact fin rfl (by rw [hV,decide_eq_false fun h=>g1 h.1.2])
  have f1:(f.EA<(a.rim.length:Int))=True:=eq_true g1
  by_cases g2:0≤f.EB
  rotate_left
  ·have f2:(0≤f.EB)=False:=eq_false g2
   simp only [AS.start,Q3,XC,Kt,Qg,fmn,if_false,f0,f1,f2,↓X2,wA,seval,wE]
   exact fin rfl (by rw [hV,decide_eq_false fun h=>g2 h.2.1.1])
  have f2:(0≤f.EB)=True:=eq_true g2
  by_cases g3:f.EB<(b.rim.length:Int)
  rotate_left
  ·have f3:(f.EB<(b.rim.length:Int))=False:=eq_false g3
   simp only [AS.start,Q3,XC,Kt,Qg,fmn,if_false,f0,f1,f2,f3,↓X2,wA,seval,wE]
   exact fin rfl (by rw [hV,decide_eq_false fun h=>g3 h.2.1.2])
  have f3:(f.EB<(b.rim.length:Int))=True:=eq_true g3
  by_cases g4:1≤f.M
  rotate_left
  ·have f4:(1≤f.M)=False:=eq_false g4
   simp only [AS.start,Q3,XC,Kt,Qg,fmn,if_false,f0,f1,f2,f3,f4,↓X2,wA,seval,wE]
   exact fin rfl (by rw [hV,decide_eq_false fun h=>g4 h.2.2.1])
  have f4:(1≤f.M)=True:=eq_true g4
  by_cases g5:f.M<(a.rim.length:Int)
  rotate_left
  ·have f5:(f.M<(a.rim.length:Int))=False:=eq_false g5
   simp only [AS.start,Q3,XC,Kt,Qg,fmn,if_false,f0,f1,f2,f3,f4,f5,↓X2,wA,seval,wE]
   exact fin rfl (by rw [hV,decide_eq_false fun h=>g5 h.2.2.2.1])
  have f5:(f.M<(a.rim.length:Int))=True:=eq_true g5
  simp only [AS.start,Q3,XC,Kt,Qg,fmn,if_false,f0,f1,f2,f3,f4,f5,↓X2,wA,seval,wE]
  exact fin rfl (by rw [hV,decide_eq_true]; exact ⟨⟨g0,g1⟩,⟨g2,g3⟩,g4,g5,by omega⟩)
theorem Hi (a b:PV) (f:FV) (ha:a.rim.length<1000000) (hb:b.rim.length<1000000):Fn Tryz.prog 127 [Q3 a,Q3 b,Kt f] (.bool (decide (C9 a.rim.length b.rim.length f))):=by
 obtain ⟨V,hV⟩:∃ V,V=decide (C9 a.rim.length b.rim.length f):=⟨_,rfl⟩
 have fin:∀ {s:AS} {v:Bool},s.get 6=.bool v→v=V→RetOk (Qn Tryz.prog Tryz.f127 [] [] (.bool V)) s:=fun h e=>Xs rfl h (X3 _) (by rw [e])
 rw [← hV]
 refine Fq Tryz.call127 Tryz.func127 9 [] [] [] (by simp [Xu,XK]) (X1 1000 ?_)
 by_cases g0:0≤f.EA
 rotate_left
 ·have f0:(0≤f.EA)=False:=eq_false g0
  simp only [AS.start,Q3,XC,Kt,Qg,f0,↓X2,wA,seval,wE]
  exact fin rfl (by rw [hV,decide_eq_false fun h=>g0 h.1.1])
 have f0:(0≤f.EA)=True:=eq_true g0
 by_cases g1:f.EA<(a.rim.length:Int)
 rotate_left
 ·have f1:(f.EA<(a.rim.length:Int))=False:=eq_false g1
  simp only [AS.start,Q3,XC,Kt,Qg,f0,f1,↓X2,wA,seval,wE]
  exact fin rfl (by rw [hV,decide_eq_false fun h=>g1 h.1.2])
 have f1:(f.EA<(a.rim.length:Int))=True:=eq_true g1
 by_cases g2:0≤f.EB
 rotate_left
 ·have f2:(0≤f.EB)=False:=eq_false g2
  simp only [AS.start,Q3,XC,Kt,Qg,f0,f1,f2,↓X2,wA,seval,wE]
  exact fin rfl (by rw [hV,decide_eq_false fun h=>g2 h.2.1.1])
 have f2:(0≤f.EB)=True:=eq_true g2
 by_cases g3:f.EB<(b.rim.length:Int)
 rotate_left
 ·have f3:(f.EB<(b.rim.length:Int))=False:=eq_false g3
  simp only [AS.start,Q3,XC,Kt,Qg,f0,f1,f2,f3,↓X2,wA,seval,wE]
  exact fin rfl (by rw [hV,decide_eq_false fun h=>g3 h.2.1.2])
 have f3:(f.EB<(b.rim.length:Int))=True:=eq_true g3
 by_cases g4:1≤f.M
 rotate_left
 ·have f4:(1≤f.M)=False:=eq_false g4
  simp only [AS.start,Q3,XC,Kt,Qg,f0,f1,f2,f3,f4,↓X2,wA,seval,wE]
  exact fin rfl (by rw [hV,decide_eq_false fun h=>g4 h.2.2.1])
 have f4:(1≤f.M)=True:=eq_true g4
 by_cases g5:f.M<(a.rim.length:Int)
 rotate_left
 ·have f5:(f.M<(a.rim.length:Int))=False:=eq_false g5
  simp only [AS.start,Q3,XC,Kt,Qg,f0,f1,f2,f3,f4,f5,↓X2,wA,seval,wE]
  exact fin rfl (by rw [hV,decide_eq_false fun h=>g5 h.2.2.2.1])
 have f5:(f.M<(a.rim.length:Int))=True:=eq_true g5
 by_cases g6:f.M<(b.rim.length:Int)
 rotate_left
 ·have f6:(f.M<(b.rim.length:Int))=False:=eq_false g6
  simp only [AS.start,Q3,XC,Kt,Qg,f0,f1,f2,f3,f4,f5,f6,↓X2,wA,seval,wE]
  exact fin rfl (by rw [hV,decide_eq_false fun h=>g6 h.2.2.2.2])
 have f6:(f.M<(b.rim.length:Int))=True:=eq_true g6
 simp only [AS.start,Q3,XC,Kt,Qg,f0,f1,f2,f3,f4,f5,f6,↓X2,wA,seval,wE]
 exact fin rfl (by rw [hV,decide_eq_true]; exact ⟨⟨g0,g1⟩,⟨g2,g3⟩,g4,g5,g6⟩)
def NY (R:List (Int×Int)) (k:Nat):Int×Int:=((R.getD ((k+1) % R.length) (0,0)).1 - (R.getD k (0,0)).1,(R.getD ((k+1) % R.length) (0,0)).2 - (R.getD k (0,0)).2)
def Ek (R:List (Int×Int)) (k:Nat):V2:=(Js (R.getD ((k+1) % R.length) (0,0))).sub (Js (R.getD k (0,0)))
def ja (R:List (Int×Int)) (k:Nat):Int:=(NY R k).1*(NY R k).1+(NY R k).2*(NY R k).2
theorem Tr (R:List (Int×Int)) (k:Nat):Ek R k=⟨((NY R k).1:Rat),((NY R k).2:Rat)⟩:=by
 unfold Ek NY V2.sub Js
 simp only [Rat.intCast_sub]
def QU (R:List (Int×Int)):Prop:=∀ c∈R,(-65536≤c.1∧c.1≤65536)∧(-65536≤c.2∧c.2≤65536)
theorem Du {R:List (Int×Int)} (h:QU R) (i:Nat):(-65536≤(R.getD i (0,0)).1∧(R.getD i (0,0)).1≤65536)∧(-65536≤(R.getD i (0,0)).2∧(R.getD i (0,0)).2≤65536):=by
 rw [List.getD_eq_getElem?_getD]
 cases hx:R[i]? with
 | none=>exact ⟨⟨by decide,by decide⟩,⟨by decide,by decide⟩⟩
 | some c=>exact h c (List.mem_of_getElem? hx)
theorem AK {R:List (Int×Int)} (h:QU R):∀ i,i<R.length→Da (R.getD i (0,0))=true:=fun i _=>by
 have:=Du h i
 unfold Da wb
 simp only [Bool.and_eq_true,decide_eq_true_eq]
 omega
theorem Fr {R:List (Int×Int)} (h:QU R) (k:Nat):(-131072≤(NY R k).1∧(NY R k).1≤131072)∧(-131072≤(NY R k).2∧(NY R k).2≤131072):=by
 have h1:=Du h k
 have h2:=Du h ((k+1) % R.length)
 unfold NY
 simp only
 omega
theorem Bh {R:List (Int×Int)} (h:QU R) (k:Nat):vb (Ek R k)≤3:=by
 have:=Fr h k
 rw [Tr]
 have q1:=Zt (NY R k).1 3 (by omega) (QM ⟨by omega,by omega⟩)
 have q2:=Zt (NY R k).2 3 (by omega) (QM ⟨by omega,by omega⟩)
 unfold vb
 simp only
 omega
theorem Ro (p:PV) (k:Nat) (hk:k<p.rim.length) (hl:p.rim.length<1000000) (hn:QU p.rim):Fn Tryz.prog 121 [Q3 p,I k] (.tup [I (NY p.rim k).1,I (NY p.rim k).2]):=by
 obtain ⟨D,hD⟩:∃ D,D=NY p.rim k:=⟨_,rfl⟩
 have h0:=Fr hn k
 rw [← hD] at h0 ⊢
 have hD1:(p.rim.getD ((k+1) % p.rim.length) (0,0)).1 - (p.rim.getD k (0,0)).1=D.1:=by rw [hD]; rfl
 have hD2:(p.rim.getD ((k+1) % p.rim.length) (0,0)).2 - (p.rim.getD k (0,0)).2=D.2:=by rw [hD]; rfl
 have f0:((p.rim.length:Int)=0)=False:=eq_false (by omega)
 have f0':(p.rim.length=0)=False:=eq_false (by omega)
 have r1:(k:Int).tmod p.rim.length=(k:Int):=by rw [show (k:Int).tmod p.rim.length=((k % p.rim.length:Nat):Int) from rfl,Nat.mod_eq_of_lt hk]
 have w1:IntKind.i64.wrap ((k:Int)+p.rim.length)=((k+p.rim.length:Nat):Int):=by rw [IntKind.wrap_i64]; omega
 have r2:((k+p.rim.length:Nat):Int).tmod p.rim.length=(k:Int):=by rw [show ((k+p.rim.length:Nat):Int).tmod p.rim.length=(((k+p.rim.length) % p.rim.length:Nat):Int) from rfl,Nat.add_mod_right,Nat.mod_eq_of_lt hk]
 have w2:=wj k (by omega)
 have r3:((k+1:Nat):Int).tmod p.rim.length=(((k+1) % p.rim.length:Nat):Int):=rfl
 have hm:(k+1) % p.rim.length<p.rim.length:=Nat.mod_lt _ (by omega)
 obtain ⟨m,hme⟩:∃ m,m=(k+1) % p.rim.length:=⟨_,rfl⟩
 rw [← hme] at hD1 hD2 r3 hm
 have f1:((k:Int)<p.rim.length)=True:=eq_true (by omega)
 have f2:(k<p.rim.length)=True:=eq_true hk
 have f3:((m:Int)<p.rim.length)=True:=eq_true (by omega)
 have f4:(m<p.rim.length)=True:=eq_true hm
 have f5:(k*2+2≤p.rim.length*2)=True:=eq_true (by omega)
 have f6:(m*2+2≤p.rim.length*2)=True:=eq_true (by omega)
 have v1:=aw p.rim k
 have v2:=aw p.rim m
 have w3:IntKind.i64.wrap D.1=D.1:=by rw [IntKind.wrap_i64]; omega
 have w4:IntKind.i64.wrap D.2=D.2:=by rw [IntKind.wrap_i64]; omega
 refine Fq Tryz.call121 Tryz.func121 9 [] [3,40000002] [] (by simp [Xu,X9]) (X1 1000 ?_)
 simp only [AS.start,Q3,XC,f0,f0',f1,f2,f3,f4,f5,f6,r1,r2,r3,w1,w2,w3,w4,v1,v2,hD1,hD2,Int.toNat_natCast,↓X2,wA,seval,wE]
 exact RE rfl rfl rfl (X9 _) (X9 _) rfl rfl
theorem Rm (p:PV) (k:Nat) (hk:k<p.rim.length) (hl:p.rim.length<1000000) (hn:QU p.rim):Fn Tryz.prog 45 [Q3 p,I k] (vA (Ek p.rim k)):=by
 have c1:=Ro p k hk hl hn
 have h0:=Fr hn k
 rw [Tr]
 generalize NY p.rim k=D at *
 have c2:=GG D.1 D.2 ⟨by omega,by omega⟩ ⟨by omega,by omega⟩
 obtain ⟨R,hR⟩:∃ R,R=vA ⟨(D.1:Rat),(D.2:Rat)⟩:=⟨_,rfl⟩
 have sR:Settled R:=hR▸Xn _
 rw [← hR]
 refine Fq Tryz.call45 Tryz.func45 5 [] [] [] (by simp [Xu,X9]) (X1 1000 ?_)
 simp only [AS.start,Q3,XC,↓X2,wA,seval,wE]
 refine X0 c1 rfl ?_
 simp only [↓X2,wA,seval,wE]
 refine X0 c2 rfl ?_
 simp only [↓X2,wA,seval,wE]
 exact Z7 rfl Jh rfl rfl rfl sR (hR.trans rfl)
theorem La (p:PV) (k:Nat) (hk:k<p.rim.length) (hl:p.rim.length<1000000) (hn:QU p.rim):Fn Tryz.prog 113 [Q3 p,I k] (I (ja p.rim k)):=by
 have c1:=Ro p k hk hl hn
 have h0:=Fr hn k
 unfold ja
 generalize NY p.rim k=D at *
 have b1:D.1*D.1≤131072*131072:=by
  rcases Int.le_total 0 D.1 with h | h
  ·exact Int.mul_le_mul h0.1.2 h0.1.2 h (by omega)
  ·have:=Int.mul_le_mul (show -D.1≤131072 by omega) (show -D.1≤131072 by omega) (by omega) (by omega)
   rwa [Int.neg_mul_neg] at this
 have b2:D.2*D.2≤131072*131072:=by
  rcases Int.le_total 0 D.2 with h | h
  ·exact Int.mul_le_mul h0.2.2 h0.2.2 h (by omega)
  ·have:=Int.mul_le_mul (show -D.2≤131072 by omega) (show -D.2≤131072 by omega) (by omega) (by omega)
   rwa [Int.neg_mul_neg] at this
 have b3:0≤D.1*D.1:=by
  rcases Int.le_total 0 D.1 with h | h
  ·exact Int.mul_nonneg h h
  ·exact Int.mul_nonneg_of_nonpos_of_nonpos h h
 have b4:0≤D.2*D.2:=by
  rcases Int.le_total 0 D.2 with h | h
  ·exact Int.mul_nonneg h h
  ·exact Int.mul_nonneg_of_nonpos_of_nonpos h h
 have w1:IntKind.i64.wrap (D.1*D.1)=D.1*D.1:=by rw [IntKind.wrap_i64]; omega
 have w2:IntKind.i64.wrap (D.2*D.2)=D.2*D.2:=by rw [IntKind.wrap_i64]; omega
 have w3:IntKind.i64.wrap (D.1*D.1+D.2*D.2)=D.1*D.1+D.2*D.2:=by rw [IntKind.wrap_i64]; omega
 refine Fq Tryz.call113 Tryz.func113 7 [] [] [] (by simp [Xu,X9]) (X1 1000 ?_)
 simp only [AS.start,Q3,XC,↓X2,wA,seval,wE]
 refine X0 c1 rfl ?_
 simp only [w1,w2,w3,↓X2,wA,seval,wE]
 exact Xs rfl rfl (X9 _) rfl
theorem G5 (R:List (Int×Int)) (i:Nat):(Xz R).getD i v0=Js (R.getD i (0,0)):=by
 unfold Xz
 rw [List.getD_eq_getElem?_getD,List.getD_eq_getElem?_getD,List.getElem?_map]
 cases R[i]? with
 | none=>show v0=Js (0,0); unfold v0 Js; simp
 | some c=>rfl
theorem Rx (p:PV) (k:Nat) (hk:k<p.rim.length) (hl:p.rim.length<1000000) (hn:QU p.rim):Fn Tryz.prog 115 [Q3 p,I k] (vA (Ek p.rim k)):=by
 have cr:=G4 p hl (AK hn)
 have hlen:(Xz p.rim).length=p.rim.length:=by simp [Xz]
 have hs:=RG (AK hn)
 have hm:(k+1) % p.rim.length<p.rim.length:=Nat.mod_lt _ (by omega)
 have cs:=JB ((Xz p.rim).getD ((k+1) % p.rim.length) v0) ((Xz p.rim).getD k v0) (by have:=hs ((k+1) % p.rim.length); unfold rm; omega) (by have:=hs k; unfold rm; omega)
 rw [show ((Xz p.rim).getD ((k+1) % p.rim.length) v0).sub ((Xz p.rim).getD k v0)=Ek p.rim k by rw [G5,G5]; rfl] at cs
 obtain ⟨R,hR⟩:∃ R,R=vA (Ek p.rim k):=⟨_,rfl⟩
 have sR:Settled R:=hR▸Xn _
 rw [← hR] at cs ⊢
 have w2:=wj k (by omega)
 have f0:((p.rim.length:Int)=0)=False:=eq_false (by omega)
 have f0':(p.rim.length=0)=False:=eq_false (by omega)
 have r3:((k+1:Nat):Int).tmod p.rim.length=(((k+1) % p.rim.length:Nat):Int):=rfl
 have v1:=vF (Xz p.rim) k
 have v2:=vF (Xz p.rim) ((k+1) % p.rim.length)
 generalize (k+1) % p.rim.length=m at *
 have f1:((k:Int)<p.rim.length)=True:=eq_true (by omega)
 have f2:(k<p.rim.length)=True:=eq_true hk
 have f3:((m:Int)<p.rim.length)=True:=eq_true (by omega)
 have f4:(m<p.rim.length)=True:=eq_true hm
 have f5:(k*8+8≤p.rim.length*8)=True:=eq_true (by omega)
 have f6:(m*8+8≤p.rim.length*8)=True:=eq_true (by omega)
 refine Fq Tryz.call115 Tryz.func115 6 [] [2] [] (by simp [Xu,X9]) (X1 1000 ?_)
 simp only [AS.start,Q3,XC,↓X2,wA,seval,wE]
 refine X0 cr rfl ?_
 simp only [X5,hlen,f0,f0',f1,f2,f3,f4,f5,f6,w2,r3,v1,v2,Int.toNat_natCast,↓X2,wA,seval,wE]
 refine X0 cs rfl ?_
 simp only [hR,↓X2,wA,seval,wE]
 exact Z7 rfl Jh rfl rfl rfl sR (hR.trans rfl)
def Bb (a:V2):V2:=⟨-a.x,-a.y⟩
theorem Uj (a:V2):vb (Bb a)=vb a:=by
 unfold vb Bb
 simp only [Oe]
theorem YR (a:V2):a.scale (-1)=Bb a:=by
 unfold V2.scale Bb
 rw [V2.ext']
 exact ⟨by simp only; grind,by simp only; grind⟩
theorem qM (a:V2):v0.sub a=Bb a:=by
 unfold V2.sub Bb v0
 rw [V2.ext']
 exact ⟨by simp only; grind,by simp only; grind⟩
theorem kO (a:V2):Qa (Bb a) (Bb a)=Qa a a:=by unfold Qa Bb; grind
theorem UL (R:List (Int×Int)) (k:Nat):Qa (Ek R k) (Ek R k)=(ja R k:Rat):=by
 rw [Tr]
 unfold Qa ja
 simp only [Rat.intCast_add,Rat.intCast_mul]
theorem LR (t:Bool):WeakL [.bool false,.sl 0 0 (fun _=>.any) t,.bool false,.sl 0 0 (fun _=>.any) t,.bool false,.sl 0 0 (fun _=>.any) t,.bool false,.sl 0 0 (fun _=>.any) t] (vC v0) :=
 have h1:Xb (0:Rat).num.natAbs=[]:=by rw [Rat.zero_num]; simp [XZ]
 have h2:Xb (qd (0:Rat))=[]:=Dy rfl
 ⟨Weak.rfl' _,QJ h1,Weak.rfl' _,QJ h2,Weak.rfl' _,QJ h1,Weak.rfl' _,QJ h2,trivial⟩
def UZ (n m:Nat) (i j:Int):Prop:=(0≤i∧i<n)∧0≤j∧j<m
noncomputable def J4 (a b:List (Int×Int)) (i j:Int):V2×Bool :=
 if UZ a.length b.length i j then ((J8 (Bb (Ek b j.toNat)) (Ek a i.toNat)).1,decide ((J8 (Bb (Ek b j.toNat)) (Ek a i.toNat)).2=0)) else (v0,false)
theorem NI (a b:V2) (h:Qa a a≠Qa b b):(J8 a b).1=v0∧(J8 a b).2≠0:=by
 unfold J8
 by_cases h0:Qa a a=0∨Qa b b=0
 ·rw [if_pos h0]; exact ⟨rfl,by decide⟩
 ·rw [if_neg h0,if_neg h]; exact ⟨rfl,by decide⟩
theorem iv (a b:V2) (k:Nat) (ha:vb a≤k) (hb:vb b≤k):vb (J8 a b).1≤8*k+2:=by
 have q0:=Bc
 have z:vb v0≤8*k+2:=by unfold vb v0; simp only; omega
 have q1:=ZV a a; have q3:=ZV a b; have q4:=Cp a b
 have d1:=go (Qa a b) (Qa a a); have d2:=go (Qs a b) (Qa a a)
 unfold J8
 by_cases h0:Qa a a=0∨Qa b b=0
 ·rw [if_pos h0]; exact z
 ·rw [if_neg h0]
  by_cases h1:Qa a a=Qa b b
  ·rw [if_pos h1]
   show max (qb (Qa a b / Qa a a)) (qb (Qs a b / Qa a a))≤_
   omega
  ·rw [if_neg h1]; exact z
theorem B8 {a b:List (Int×Int)} (ha:QU a) (hb:QU b) (i j:Int):vb (J4 a b i j).1≤26:=by
 unfold J4
 by_cases h:UZ a.length b.length i j
 ·rw [if_pos h]
  exact iv _ _ 3 (by rw [Uj]; exact Bh hb _) (Bh ha _)
 ·rw [if_neg h]
  have q0:=Bc
  unfold vb v0; simp only; omega
theorem TP (a b:PV) (i j:Int) (hla:a.rim.length<1000000) (hlb:b.rim.length<1000000) (na:QU a.rim) (nb:QU b.rim):Fn Tryz.prog 39 [Q3 a,Q3 b,I i,I j] (.tup [vA (J4 a.rim b.rim i j).1,.bool (J4 a.rim b.rim i j).2]):=by
 obtain ⟨R,hR⟩:∃ R,R=J4 a.rim b.rim i j:=⟨_,rfl⟩
 rw [← hR]
 have zret:∀ {s:AS} {ver id':Nat},s.get 8=.ref id' ver 0→s.h[id']?=some (.row ver 8 (Xq Ae))→s.get 9=.bool false→R=(v0,false)→RetOk (Qn Tryz.prog Tryz.f39 [3,40000004,40000005] [] (.tup [vA R.1,.bool R.2])) s:=fun h1 h2 h3 h4=>by
  subst h4
  exact QO rfl (Xo Do h1 h2 rfl) (by unfold QA; rfl) (Xr (Xn _) (XS Z0)) (by rw [h3]; exact (X3 _).sees _)
 refine Fq Tryz.call39 Tryz.func39 12 [] [3,40000004,40000005] [] (by simp [Xu,X9]) (X1 1000 ?_)
 by_cases g0:i<0
 ·have f0:(i<0)=True:=eq_true g0
  simp only [AS.start,Q3,XC,f0,↓X2,wA,seval,wE]
  exact zret rfl rfl rfl (by rw [hR]; unfold J4; rw [if_neg (by unfold UZ; omega)])
 have f0:(i<0)=False:=eq_false g0
 by_cases g1:(a.rim.length:Int)≤i
 ·have f1:((a.rim.length:Int)≤i)=True:=eq_true g1
  simp only [AS.start,Q3,XC,f0,f1,↓X2,wA,seval,wE]
  exact zret rfl rfl rfl (by rw [hR]; unfold J4; rw [if_neg (by unfold UZ; omega)])
 have f1:((a.rim.length:Int)≤i)=False:=eq_false g1
 by_cases g2:j<0
 ·have f2:(j<0)=True:=eq_true g2
  simp only [AS.start,Q3,XC,f0,f1,f2,↓X2,wA,seval,wE]
  exact zret rfl rfl rfl (by rw [hR]; unfold J4; rw [if_neg (by unfold UZ; omega)])
 have f2:(j<0)=False:=eq_false g2
 by_cases g3:(b.rim.length:Int)≤j
 ·have f3:((b.rim.length:Int)≤j)=True:=eq_true g3
  simp only [AS.start,Q3,XC,f0,f1,f2,f3,↓X2,wA,seval,wE]
  exact zret rfl rfl rfl (by rw [hR]; unfold J4; rw [if_neg (by unfold UZ; omega)])
 have f3:((b.rim.length:Int)≤j)=False:=eq_false g3
 obtain ⟨i,rfl⟩:∃ n:Nat,i=n:=⟨i.toNat,by omega⟩
 obtain ⟨j,rfl⟩:∃ n:Nat,j=n:=⟨j.toNat,by omega⟩
 have hin:UZ a.rim.length b.rim.length i j:=by unfold UZ; omega
 have hR1:R=((J8 (Bb (Ek b.rim j)) (Ek a.rim i)).1,decide ((J8 (Bb (Ek b.rim j)) (Ek a.rim i)).2=0)):=by rw [hR]; unfold J4; rw [if_pos hin]; rfl
 have s1:=La a i (by omega) hla na
 have s2:=La b j (by omega) hlb nb
 simp only [AS.start,Q3,XC,f0,f1,f2,f3,↓X2,wA,seval,wE]
 refine X0 s1 rfl ?_
 simp only [f0,f1,f2,f3,↓X2,wA,seval,wE]
 refine X0 s2 rfl ?_
 by_cases hs:ja a.rim i=ja b.rim j
 rotate_left
 ·have fs:(ja a.rim i=ja b.rim j)=False:=eq_false hs
  simp only [fs,↓X2,wA,seval,wE]
  refine zret rfl rfl rfl ?_
  have hd:=NI (Bb (Ek b.rim j)) (Ek a.rim i) (by rw [kO,UL,UL]; exact fun h=>hs (Rat.intCast_inj.1 h).symm)
  rw [hR1,hd.1,decide_eq_false hd.2]
 have fs:(ja a.rim i=ja b.rim j)=True:=eq_true hs
 have e1:=Rm b j (by omega) hlb nb
 have e2:=Rm a i (by omega) hla na
 have k1:=Bh nb j; have k2:=Bh na i
 have o1:=CR (-1) 1 ⟨by omega,by omega⟩ ⟨by omega,by omega⟩
 rw [show Rat.divInt (-1) 1 = -1 by decide +kernel] at o1
 have o2:=Nc (Ek b.rim j) (-1) (by unfold vm; omega) (by have:=CK (-1) 1 ⟨by omega,by omega⟩ ⟨by omega,by omega⟩; rw [show Rat.divInt (-1) 1 = -1 by decide +kernel] at this; unfold vm; omega)
 rw [YR] at o2
 have o3:=Yx (Bb (Ek b.rim j)) (Ek a.rim i) (by rw [Uj]; omega) (by omega)
 generalize J8 (Bb (Ek b.rim j)) (Ek a.rim i)=X at *
 simp only [fs,↓X2,wA,seval,wE]
 refine X0 e1 rfl ?_
 simp only [↓X2,wA,seval,wE]
 refine X0 o1 rfl ?_
 simp only [↓X2,wA,seval,wE]
 refine X0 o2 rfl ?_
 simp only [↓X2,wA,seval,wE]
 refine X0 e2 rfl ?_
 simp only [↓X2,wA,seval,wE]
 refine X0 o3 rfl ?_
 simp only [↓X2,wA,seval,wE]
 subst hR1
 exact QO rfl (Xo Do rfl rfl rfl) (by unfold QA; rfl) (Xr (Xn _) (XS (Q9 (vC X.1)))) ((X3 _).sees _)
theorem Li (a b:PV) (i j:Int) (hla:a.rim.length<1000000) (hlb:b.rim.length<1000000) (na:QU a.rim) (nb:QU b.rim):Fn Tryz.prog 40 [Q3 a,Q3 b,I i,I j] (.tup [vA (J4 a.rim b.rim i j).1,.bool (J4 a.rim b.rim i j).2]):=by
 obtain ⟨R,hR⟩:∃ R,R=J4 a.rim b.rim i j:=⟨_,rfl⟩
 rw [← hR]
 have zret:∀ {s:AS} {ver id':Nat},s.get 8=.ref id' ver 0→s.h[id']?=some (.row ver 8 (Xq Ae))→s.get 9=.bool false→R=(v0,false)→RetOk (Qn Tryz.prog Tryz.f40 [] [] (.tup [vA R.1,.bool R.2])) s:=fun h1 h2 h3 h4=>by
  subst h4
  exact QO rfl (Xo Do h1 h2 rfl) (by unfold QA; rfl) (Xr (Xn _) (XS Z0)) (by rw [h3]; exact (X3 _).sees _)
 refine Fq Tryz.call40 Tryz.func40 14 [] [] [] (by simp [Xu,X9]) (X1 1000 ?_)
 by_cases g0:i<0
 ·have f0:(i<0)=True:=eq_true g0
  simp only [AS.start,Q3,XC,f0,↓X2,wA,seval,wE]
  exact zret rfl rfl rfl (by rw [hR]; unfold J4; rw [if_neg (by unfold UZ; omega)])
 have f0:(i<0)=False:=eq_false g0
 by_cases g1:(a.rim.length:Int)≤i
 ·have f1:((a.rim.length:Int)≤i)=True:=eq_true g1
  simp only [AS.start,Q3,XC,f0,f1,↓X2,wA,seval,wE]
  exact zret rfl rfl rfl (by rw [hR]; unfold J4; rw [if_neg (by unfold UZ; omega)])
 have f1:((a.rim.length:Int)≤i)=False:=eq_false g1
 by_cases g2:j<0
 ·have f2:(j<0)=True:=eq_true g2
  simp only [AS.start,Q3,XC,f0,f1,f2,↓X2,wA,seval,wE]
  exact zret rfl rfl rfl (by rw [hR]; unfold J4; rw [if_neg (by unfold UZ; omega)])
 have f2:(j<0)=False:=eq_false g2
 by_cases g3:(b.rim.length:Int)≤j
 ·have f3:((b.rim.length:Int)≤j)=True:=eq_true g3
  simp only [AS.start,Q3,XC,f0,f1,f2,f3,↓X2,wA,seval,wE]
  exact zret rfl rfl rfl (by rw [hR]; unfold J4; rw [if_neg (by unfold UZ; omega)])
 have f3:((b.rim.length:Int)≤j)=False:=eq_false g3
 obtain ⟨i,rfl⟩:∃ n:Nat,i=n:=⟨i.toNat,by omega⟩
 obtain ⟨j,rfl⟩:∃ n:Nat,j=n:=⟨j.toNat,by omega⟩
 have hin:UZ a.rim.length b.rim.length i j:=by unfold UZ; omega
 have hR1:R=((J8 (Bb (Ek b.rim j)) (Ek a.rim i)).1,decide ((J8 (Bb (Ek b.rim j)) (Ek a.rim i)).2=0)):=by rw [hR]; unfold J4; rw [if_pos hin]; rfl
 have e1:=Rx b j (by omega) hlb nb
 have e2:=Rx a i (by omega) hla na
 have k1:=Bh nb j; have k2:=Bh na i
 have o2:=JB v0 (Ek b.rim j) (by have:=Bc; unfold vb v0 rm; simp only; omega) (by unfold rm; omega)
 rw [qM] at o2
 have o3:=Og (Bb (Ek b.rim j)) (Ek a.rim i) (by rw [Uj]; omega) (by omega)
 generalize J8 (Bb (Ek b.rim j)) (Ek a.rim i)=X at *
 simp only [AS.start,Q3,XC,f0,f1,f2,f3,↓X2,wA,seval,wE]
 refine X0 e2 rfl ?_
 simp only [↓X2,wA,seval,wE]
 refine X0 e1 rfl ?_
 simp only [↓X2,wA,seval,wE]
 refine Qq o2 ⟨XS (LR _),Weak.rfl' _,trivial⟩ ?_
 simp only [↓X2,wA,seval,wE]
 refine X0 o3 rfl ?_
 simp only [↓X2,wA,seval,wE]
 subst hR1
 exact QO rfl (Xo Do rfl rfl rfl) (by unfold QA; rfl) (Xr (Xn _) (XS (Q9 (vC X.1)))) ((X3 _).sees _)
def xK (n:Nat) (f:FV) (k:Nat):Nat:=((f.EA+k) % n).toNat
def yK (m:Nat) (f:FV) (k:Nat):Nat:=((f.EB - k) % m).toNat
theorem Hz (n:Nat) (f:FV) (k:Nat) (h:0<n):(f.EA+k) % (n:Int)=(xK n f k:Int):=by
 have:=Int.emod_nonneg (f.EA+k) (show (n:Int)≠0 by omega)
 unfold xK; omega
theorem Ns (m:Nat) (f:FV) (k:Nat) (h:0<m):(f.EB - k) % (m:Int)=(yK m f k:Int):=by
 have:=Int.emod_nonneg (f.EB - k) (show (m:Int)≠0 by omega)
 unfold yK; omega
theorem VG (n:Nat) (f:FV) (k:Nat) (h:0<n):xK n f k<n:=by
 have:=Hz n f k h
 have:=Int.emod_lt_of_pos (f.EA+k) (show (0:Int)<n by omega)
 omega
theorem nZ (m:Nat) (f:FV) (k:Nat) (h:0<m):yK m f k<m:=by
 have:=Ns m f k h
 have:=Int.emod_lt_of_pos (f.EB - k) (show (0:Int)<m by omega)
 omega
def Gx (n m:Nat) (f:FV):List (Int×Int):=(List.range f.M.toNat).map fun k=>((xK n f k:Int),(yK m f k:Int))
theorem I3 {α:Type} (f:Nat→α) (d:α) (n j:Nat) (h:j<n):((List.range n).map f).getD j d=f j:=by
 rw [List.getD_eq_getElem?_getD,List.getElem?_map,List.getElem?_range h]; rfl
theorem ER (n m:Nat) (f:FV):(Gx n m f).length=f.M.toNat:=by simp [Gx]
theorem mi {P:Program} {fn:Func} {str hcs:List Nat} {s:AS} {t id ver:Nat} (L:List (Int×Int)) (hr:fn.results=#[.tmp t]) (hs:s.get t=.osl id ver 2 0 L.length) (ho:s.h[id]?=some (.row ver (L.length*2) (XB KH 2 (0,0) L))):RetOk (Qn P fn str hcs (C6 L)) s:=by
 refine AR hr ?_
 rw [hs,Xf]
 refine Qv (.inl ho) (by omega) (fun h=>by rw [h]) fun j hj=>?_
 rw [Nat.zero_add]
 exact (Xg (Kj _) _).sees _
theorem E7 (c:Int×Int):∀ j,j<2→((KH c).getD j .any).one=true:=fun j hj=>by
 match j,hj with
 | 0,_=>rfl
 | 1,_=>rfl
 | j+2,h=>omega
theorem Pr (a b:PV) (f:FV) (hf:C9 a.rim.length b.rim.length f) (ha:a.rim.length<1000000) (hb:b.rim.length<1000000):Fn Tryz.prog 152 [Q3 a,Q3 b,Kt f] (C6 (Gx a.rim.length b.rim.length f)):=by
 obtain ⟨⟨s1,s2⟩,⟨s3,s4⟩,s5,s6,s7⟩:=hf
 obtain ⟨N,hN⟩:∃ N:Nat,f.M=N:=⟨f.M.toNat,by omega⟩
 obtain ⟨L,hL⟩:∃ L,L=Gx a.rim.length b.rim.length f:=⟨_,rfl⟩
 have hlen:L.length=N:=by rw [hL,ER,hN]; rfl
 have hat:∀ k,k<N→L.getD k (0,0)=((xK a.rim.length f k:Int),(yK b.rim.length f k:Int)):=fun k hk=>by rw [hL]; exact I3 _ _ _ _ (by omega)
 rw [← hL]
 have ba:XI 4 (.con 0 25 (Xq (XC a)))=True:=eq_true (fun j _=>X6 (Xg (XF a) j))
 have bb:XI 4 (.con 0 25 (Xq (XC b)))=True:=eq_true (fun j _=>X6 (Xg (XF b) j))
 have bf:XI 4 (.con 0 29 (Xq (Qg f)))=True:=eq_true (fun j _=>X6 (Xg (Qt f) j))
 have br:∀ i l n,XI 4 (.row i n (XB KH 2 (0,0) l))=True:=fun i l n=>eq_true fun j _=>X6 (Xg (Kj _) _)
 refine Fq Tryz.call152 Tryz.func152 9 [10,11] [5,60000003,60000004,60000005] [] (by simp [Xu,XK]) (X1 1000 ?_)
 simp only [AS.start,Q3,XC,Kt,Qg,↓X2,wA,seval,wE]
 refine Xe (fun k:Nat=>⟨9,[10,11],[.any,.any,.any,.ref 0 0 0,.ref 1 0 0,.ref 2 0 0,.any,.osl 3 k 2 0 k,.any],[(10,I f.M),(11,I k)],[.con 0 25 (Xq (XC a)),.con 0 25 (Xq (XC b)),.con 0 29 (Xq (Qg f)),.row k (k*2) (XB KH 2 (0,0) (L.take k))]⟩) (fun k=>k≤N) (fun k=>N - k) 0 (by omega)
  (Sub.trans (Qp 0 rfl) (Sub.trans (Qp 1 rfl) (Sub.trans (Qp 2 rfl) (Sub.trans (Q7 7 2 (XB KH 2 (0,0) []) rfl) (Xa rfl (by simp [AS.put,Xh,I]) (by simp [AS.put,Xi,Xw,I]) (by simp [AS.put,XC,Qg,Xf,Xl,X4,I])))))) ?_
 intro k hk next
 have w1:=wj k (by omega)
 by_cases hk2:k<N
 ·have f1:((k:Int)<f.M)=True:=eq_true (by omega)
  have wx:IntKind.i64.wrap (f.EA+(k:Int))=f.EA+(k:Int):=by rw [IntKind.wrap_i64]; omega
  have wy:IntKind.i64.wrap (f.EB - (k:Int))=f.EB - (k:Int):=by rw [IntKind.wrap_i64]; omega
  have c1:=CD (f.EA+(k:Int)) a.rim.length (by omega) (by omega) (by omega)
  have c2:=CD (f.EB - (k:Int)) b.rim.length (by omega) (by omega) (by omega)
  rw [Hz _ _ _ (by omega)] at c1
  rw [Ns _ _ _ (by omega)] at c2
  have hap:=XQ KH 2 (0,0) (L.take k) (L.getD k (0,0)) (by omega)
  rw [← As _ _ (by omega),hat k hk2,show (L.take k).length=k by simp; omega] at hap
  refine X1 1000 ?_
  simp only [XC,Qg,Xf,w1,wx,wy,f1,Int.toNat_natCast,↓X2,wA,seval,wE]
  refine X0 c1 rfl ?_
  simp only [XC,Qg,Xf,w1,wx,wy,f1,Int.toNat_natCast,↓X2,wA,seval,wE]
  refine X0 c2 rfl ?_
  simp only [XC,Qg,Xf,w1,wx,wy,f1,Int.toNat_natCast,↓X2,wA,seval,wE]
  exact ⟨⟨E7 ((xK a.rim.length f k:Int),(yK b.rim.length f k:Int)),by omega,by omega⟩,next (k+1) _ (by omega) (by omega) (Xy (m:=4) (Nat.zero_le _) rfl (by simp [Xh,I]) (by simp [Xi,Xw,I]) (by rw [← hap]; simp [XC,Qg,Xf,Xl,X4,I,KH]) (by simp [Xx]) (by simp [Xx]) (by simp [ba,bb,bf,br]))⟩
 obtain rfl:k=N:=by omega
 have f1:((k:Int)<f.M)=False:=eq_false (by omega)
 refine X1 1000 ?_
 simp only [XC,Qg,f1,↓X2,wA,seval,wE]
 rw [List.take_of_length_le (by omega)]
 exact mi _ rfl (by rw [hlen]; rfl) (by rw [hlen]; rfl)
def M9 (wa wb:Bool) (x y:Int):Bool:=wa || wb || (decide (x≠y) && decide (x≠0) && decide (y≠0))
def Tb (a b:PV) (f:FV) (k:Nat):Bool:=M9 (a.worn.getD (xK a.rim.length f k) false) (b.worn.getD (yK b.rim.length f k) false) (a.marks.getD (xK a.rim.length f k) 0) (b.marks.getD (yK b.rim.length f k) 0)
def FM (a b:PV) (f:FV):Prop:=∀ k,k<f.M.toNat→Tb a b f k=false
theorem P5 (wa wb:Bool) (x y:Int) :
  (M9 wa wb x y=true∧wa=true∧True∧True∧True∧True)∨(M9 wa wb x y=true∧wa=false∧wb=true∧True∧True∧True)∨(M9 wa wb x y=false∧wa=false∧wb=false∧(x=y)=True∧True∧True) ∨
  (M9 wa wb x y=false∧wa=false∧wb=false∧(x=y)=False∧(x=0)=True∧True)∨(M9 wa wb x y=false∧wa=false∧wb=false∧(x=y)=False∧(x=0)=False∧(y=0)=True) ∨
  (M9 wa wb x y=true∧wa=false∧wb=false∧(x=y)=False∧(x=0)=False∧(y=0)=False):=by
 unfold M9
 cases wa
 rotate_left
 ·exact .inl ⟨rfl,rfl,trivial,trivial,trivial,trivial⟩
 cases wb
 rotate_left
 ·exact .inr (.inl ⟨rfl,rfl,rfl,trivial,trivial,trivial⟩)
 by_cases h1:x=y
 ·exact .inr (.inr (.inl ⟨by simp [h1],rfl,rfl,eq_true h1,trivial,trivial⟩))
 by_cases h2:x=0
 ·exact .inr (.inr (.inr (.inl ⟨by simp [h2],rfl,rfl,eq_false h1,eq_true h2,trivial⟩)))
 by_cases h3:y=0
 ·exact .inr (.inr (.inr (.inr (.inl ⟨by simp [h3],rfl,rfl,eq_false h1,eq_false h2,eq_true h3⟩))))
 ·exact .inr (.inr (.inr (.inr (.inr ⟨by simp [h1,h2,h3],rfl,rfl,eq_false h1,eq_false h2,eq_false h3⟩))))
structure PV.even (p:PV):Prop where
 rim:p.rim.length<1000000
 worn:p.worn.length=p.rim.length
 marks:p.marks.length=p.rim.length
 near:QU p.rim
theorem Rp (a b:PV) (f:FV) (hf:C9 a.rim.length b.rim.length f) (ha:a.even) (hb:b.even):Fn Tryz.prog 132 [Q3 a,Q3 b,Kt f] (.bool (decide (FM a b f))):=by
 have ce:=Pr a b f hf ha.rim hb.rim
 obtain ⟨⟨s1,s2⟩,⟨s3,s4⟩,s5,s6,s7⟩:=hf
 obtain ⟨N,hN⟩:∃ N:Nat,f.M=N:=⟨f.M.toNat,by omega⟩
 have la:=ha.rim; have lb:=hb.rim
 obtain ⟨V,hV⟩:∃ V,V=decide (FM a b f):=⟨_,rfl⟩
 rw [← hV]
 obtain ⟨L,hL⟩:∃ L,L=Gx a.rim.length b.rim.length f:=⟨_,rfl⟩
 have hlen:L.length=N:=by rw [hL,ER,hN]; rfl
 have hat:∀ k,k<N→L.getD k (0,0)=((xK a.rim.length f k:Int),(yK b.rim.length f k:Int)):=fun k hk=>by rw [hL]; exact I3 _ _ _ _ (by omega)
 rw [← hL] at ce
 clear hL
 have fin:∀ {s:AS} {v:Bool},s.get 6=.bool v→v=V→RetOk (Qn Tryz.prog Tryz.f132 [] [] (.bool V)) s:=fun h e=>Xs rfl h (X3 _) (by rw [e])
 have ba:XI 3 (.row 0 25 (Xq (XC a)))=True:=eq_true (XG (XF a))
 have bb:XI 3 (.row 0 25 (Xq (XC b)))=True:=eq_true (XG (XF b))
 have bf:XI 3 (.row 0 29 (Xq (Qg f)))=True:=eq_true (XG (Qt f))
 have bL:Jj 3 (C6 L)=True:=eq_true (X6 (QG _))
 refine Fq Tryz.call132 Tryz.func132 12 [15,16,17] [] [] (by simp [Xu,XK]) (X1 1000 ?_)
 simp only [AS.start,Q3,XC,Kt,Qg,↓X2,wA,seval,wE]
 refine X0 ce rfl ?_
 simp only [Xf,hlen,↓X2,wA,seval,wE]
 refine Xe (fun k:Nat=>⟨12,[15,16,17],[.any,.any,.any,.ref 0 0 0,.ref 1 0 0,.ref 2 0 0,.any,.bool true,.any,.any,.any,.any],[(15,C6 L),(16,I N),(17,I k)],[.row 0 25 (Xq (XC a)),.row 0 25 (Xq (XC b)),.row 0 29 (Xq (Qg f))]⟩) (fun k=>k≤N∧∀ j,j<k→Tb a b f j=false) (fun k=>N - k) 0 ⟨by omega,by omega⟩
  (Xa rfl (by simp [Xh,I]) (by simp [Xi,Xw,Xf,hlen,I]) (by simp [XC,Qg,Xf,Xl,X4,I])) ?_
 rintro k ⟨hk,hok⟩ next
 have w1:=wj k (by omega)
 by_cases hk2:k<N
 rotate_left
 ·obtain rfl:k=N:=by omega
  refine X1 1000 ?_
  simp only [XC,Qg,Int.lt_irrefl,Nat.lt_irrefl,↓X2,wA,seval,wE]
  exact fin rfl (by rw [hV,decide_eq_true]; exact fun j hj=>hok j (by omega))
 have nx:=next (k+1)
 have f1:((k:Int)<N)=True:=eq_true (by omega)
 have f2:(k<N)=True:=eq_true hk2
 have f3:(k*2+2≤N*2)=True:=eq_true (by omega)
 have v1:=aw L k
 rw [hat k hk2] at v1
 have hx:=VG a.rim.length f k (by omega)
 have hy:=nZ b.rim.length f k (by omega)
 have ex:=Hz a.rim.length f k (by omega)
 have ey:=Ns b.rim.length f k (by omega)
 have six:=P5 (a.worn.getD (xK a.rim.length f k) false) (b.worn.getD (yK b.rim.length f k) false) (a.marks.getD (xK a.rim.length f k) 0) (b.marks.getD (yK b.rim.length f k) 0)
 have hbad:Tb a b f k=M9 (a.worn.getD (xK a.rim.length f k) false) (b.worn.getD (yK b.rim.length f k) false) (a.marks.getD (xK a.rim.length f k) 0) (b.marks.getD (yK b.rim.length f k) 0):=rfl
 rw [← hbad] at six
 clear hbad
 have no:Tb a b f k=true→false=V:=fun h=>by rw [hV,decide_eq_false]; intro hp; rw [hp k (by omega)] at h; cases h
 generalize xK a.rim.length f k=X at *
 generalize yK b.rim.length f k=Y at *
 have g1:((X:Int)<a.worn.length)=True:=eq_true (by have:=ha.worn; omega)
 have g2:(X<a.worn.length)=True:=eq_true (by have:=ha.worn; omega)
 have g3:((Y:Int)<b.worn.length)=True:=eq_true (by have:=hb.worn; omega)
 have g4:(Y<b.worn.length)=True:=eq_true (by have:=hb.worn; omega)
 have g5:((X:Int)<a.marks.length)=True:=eq_true (by have:=ha.marks; omega)
 have g6:(X<a.marks.length)=True:=eq_true (by have:=ha.marks; omega)
 have g7:((Y:Int)<b.marks.length)=True:=eq_true (by have:=hb.marks; omega)
 have g8:(Y<b.marks.length)=True:=eq_true (by have:=hb.marks; omega)
 have n2:((2:Nat):Int)=2:=rfl
 have t1:(1:Int).toNat=1:=rfl
 rcases six with ⟨hB,q1,q2,q3,q4,q5⟩ | ⟨hB,q1,q2,q3,q4,q5⟩ | ⟨hB,q1,q2,q3,q4,q5⟩ | ⟨hB,q1,q2,q3,q4,q5⟩ | ⟨hB,q1,q2,q3,q4,q5⟩ | ⟨hB,q1,q2,q3,q4,q5⟩
 all_goals
  refine X1 1000 ?_
  simp only [XC,Qg,Xf,Xl,X4,hlen,w1,f1,f2,f3,v1,g1,g2,g3,g4,g5,g6,g7,g8,q1,q2,q3,q4,q5,n2,t1,Int.toNat_zero,Int.reduceLT,Int.reduceLE,Int.toNat_natCast,↓X2,wA,seval,wE]
  first
   | exact fin rfl (no hB)
   | exact nx _ ⟨by omega,JR.2 ⟨hok,hB⟩⟩ (by omega) (Xy (m:=3) (Nat.zero_le _) rfl (by simp [Xh,I]) (by simp [Xi,Xw,Xf,hlen,I]) (by simp [XC,Qg,Xf,Xl,X4,I]) (by simp [Xx]) (by simp [Xx,bL]) (by simp [ba,bb,bf]))
theorem G6 (a b:PV) (f:FV) (hf:C9 a.rim.length b.rim.length f) (ha:a.even) (hb:b.even):Fn Tryz.prog 149 [Q3 a,Q3 b,Kt f] (.bool (decide (FM a b f))):=by
 obtain ⟨⟨s1,s2⟩,⟨s3,s4⟩,s5,s6,s7⟩:=hf
 obtain ⟨N,hN⟩:∃ N:Nat,f.M=N:=⟨f.M.toNat,by omega⟩
 have la:=ha.rim; have lb:=hb.rim
 obtain ⟨V,hV⟩:∃ V,V=decide (FM a b f):=⟨_,rfl⟩
 rw [← hV]
 have fin:∀ {s:AS} {v:Bool},s.get 6=.bool v→v=V→RetOk (Qn Tryz.prog Tryz.f149 [] [] (.bool V)) s:=fun h e=>Xs rfl h (X3 _) (by rw [e])
 refine Fq Tryz.call149 Tryz.func149 10 [] [] [] (by simp [Xu,XK]) (X1 1000 ?_)
 simp only [AS.start,Q3,XC,Kt,Qg,↓X2,wA,seval,wE]
 refine Xe (fun k:Nat=>⟨10,[],[.any,.any,.any,.ref 0 0 0,.ref 1 0 0,.ref 2 0 0,.bool false,I k,.any,.any],[],[.row 0 25 (Xq (XC a)),.row 0 25 (Xq (XC b)),.row 0 29 (Xq (Qg f))]⟩) (fun k=>k≤N∧∀ j,j<k→Tb a b f j=false) (fun k=>N - k) 0 ⟨by omega,by omega⟩
  (Xa rfl (by simp [Xh,I]) (by simp [Xi]) (by simp [XC,Qg,Xf,Xl,X4,I])) ?_
 rintro k ⟨hk,hok⟩ next
 have w1:=wj k (by omega)
 by_cases hk2:k<N
 rotate_left
 ·have f1:((k:Int)<f.M)=False:=eq_false (by omega)
  refine X1 1000 ?_
  simp only [XC,Qg,f1,↓X2,wA,seval,wE]
  exact fin rfl (by rw [hV,decide_eq_true]; exact fun j hj=>hok j (by omega))
 have nx:=next (k+1)
 have f1:((k:Int)<f.M)=True:=eq_true (by omega)
 have wx:IntKind.i64.wrap (f.EA+(k:Int))=f.EA+(k:Int):=by rw [IntKind.wrap_i64]; omega
 have wy:IntKind.i64.wrap (f.EB - (k:Int))=f.EB - (k:Int):=by rw [IntKind.wrap_i64]; omega
 have c1:=Qj (f.EA+(k:Int)) a.rim.length (by omega) (by omega) (by omega)
 have c2:=Qj (f.EB - (k:Int)) b.rim.length (by omega) (by omega) (by omega)
 have hx:=VG a.rim.length f k (by omega)
 have hy:=nZ b.rim.length f k (by omega)
 have ex:=Hz a.rim.length f k (by omega)
 have ey:=Ns b.rim.length f k (by omega)
 have six:=P5 (a.worn.getD (xK a.rim.length f k) false) (b.worn.getD (yK b.rim.length f k) false) (a.marks.getD (xK a.rim.length f k) 0) (b.marks.getD (yK b.rim.length f k) 0)
 have hbad:Tb a b f k=M9 (a.worn.getD (xK a.rim.length f k) false) (b.worn.getD (yK b.rim.length f k) false) (a.marks.getD (xK a.rim.length f k) 0) (b.marks.getD (yK b.rim.length f k) 0):=rfl
 rw [← hbad] at six
 clear hbad
 have no:Tb a b f k=true→false=V:=fun h=>by rw [hV,decide_eq_false]; intro hp; rw [hp k (by omega)] at h; cases h
 rw [ex] at c1
 rw [ey] at c2
 generalize xK a.rim.length f k=X at *
 generalize yK b.rim.length f k=Y at *
 have g1:((X:Int)<a.worn.length)=True:=eq_true (by have:=ha.worn; omega)
 have g2:(X<a.worn.length)=True:=eq_true (by have:=ha.worn; omega)
 have g3:((Y:Int)<b.worn.length)=True:=eq_true (by have:=hb.worn; omega)
 have g4:(Y<b.worn.length)=True:=eq_true (by have:=hb.worn; omega)
 have g5:((X:Int)<a.marks.length)=True:=eq_true (by have:=ha.marks; omega)
 have g6:(X<a.marks.length)=True:=eq_true (by have:=ha.marks; omega)
 have g7:((Y:Int)<b.marks.length)=True:=eq_true (by have:=hb.marks; omega)
 have g8:(Y<b.marks.length)=True:=eq_true (by have:=hb.marks; omega)
 have n2:((2:Nat):Int)=2:=rfl
 have t1:(1:Int).toNat=1:=rfl
 rcases six with ⟨hB,q1,q2,q3,q4,q5⟩ | ⟨hB,q1,q2,q3,q4,q5⟩ | ⟨hB,q1,q2,q3,q4,q5⟩ | ⟨hB,q1,q2,q3,q4,q5⟩ | ⟨hB,q1,q2,q3,q4,q5⟩ | ⟨hB,q1,q2,q3,q4,q5⟩
 all_goals
  refine X1 1000 ?_
  simp only [XC,Qg,Xf,Xl,X4,w1,wx,wy,f1,Int.toNat_natCast,↓X2,wA,seval,wE]
  refine X0 c1 rfl ?_
  simp only [XC,Qg,Xf,Xl,X4,w1,wx,wy,f1,Int.toNat_natCast,↓X2,wA,seval,wE]
  refine X0 c2 rfl ?_
  simp only [XC,Qg,Xf,Xl,X4,w1,g1,g2,g3,g4,g5,g6,g7,g8,q1,q2,q3,q4,q5,n2,t1,Int.toNat_zero,Int.reduceLT,Int.reduceLE,Int.toNat_natCast,↓X2,wA,seval,wE]
  first
   | exact fin rfl (no hB)
   | exact nx _ ⟨by omega,JR.2 ⟨hok,hB⟩⟩ (by omega) (Xa rfl (by simp [Xh,I]) (by simp [Xi]) (by simp [XC,Qg,Xf,Xl,X4,I]))
def PM (p:V2→Bool) (s:List V2):Int:=if s.any p=true then (s.findIdx p:Nat) else -1
theorem Ei {s:List V2} {j:Nat} (h:j<s.length):s.getD j v0∈s:=by
 rw [List.getD_eq_getElem?_getD,List.getElem?_eq_getElem h]; exact List.getElem_mem h
theorem fe {p:V2→Bool} {s:List V2} {j:Nat} (hj:j<s.length) (h:p (s.getD j v0)=true) (hno:∀ i,i<j→p (s.getD i v0)=false):PM p s=j:=by
 have at_:∀ i (hi:i<s.length),s.getD i v0=s[i]:=fun i hi=>by rw [List.getD_eq_getElem?_getD,List.getElem?_eq_getElem hi]; rfl
 have e:s.findIdx p=j:=by
  rw [List.findIdx_eq hj]
  exact ⟨by rw [← at_ j hj]; exact h,fun i hi=>by rw [← at_ i (by omega)]; exact hno i hi⟩
 unfold PM
 rw [if_pos (List.any_eq_true.2 ⟨_,Ei hj,h⟩),e]
theorem Ye {p:V2→Bool} {s:List V2} (hno:∀ i,i<s.length→p (s.getD i v0)=false):PM p s = -1:=by
 unfold PM
 rw [if_neg]
 intro h
 obtain ⟨x,hx,hp⟩:=List.any_eq_true.1 h
 obtain ⟨i,hi,rfl⟩:=List.getElem_of_mem hx
 have:=hno i hi
 rw [List.getD_eq_getElem?_getD,List.getElem?_eq_getElem hi] at this
 simp only [Option.getD_some] at this
 rw [this] at hp; cases hp
theorem PN (p:V2→Bool) (s:List V2):decide (0≤PM p s)=s.any p:=by
 unfold PM
 cases h:s.any p
 ·simp
 ·rw [if_pos rfl]; exact decide_eq_true (by omega)
theorem Ue (s:List V2) (f:FuncId) (caps:List AV) (p:V2→Bool) (hl:s.length<1000000) (hc:∀ a∈caps,Settled a) (hp:∀ x∈s,Fn Tryz.prog f ([vA x] ++ caps) (.bool (p x))) :
  Fn Tryz.prog 205 [Xp s,.fn f caps] (I (PM p s)):=by
 refine Fn.intro (fn:=Tryz.f205) Tryz.call205 Tryz.func205 rfl mixed 6 [6,7,8] [] [] (by kernel_rfl) (Nat.le_of_ble_eq_true rfl) (by simpa [Xd] using K3 hc) (X1 1000 ?_)
 simp only [AS.start,X5,↓X2,wA,seval,wE]
 refine Xe (fun j:Nat=>⟨6,[6,7,8],[Xp s,.fn f caps,.any,.any,.any,.any],[(6,Xp s),(7,I s.length),(8,I j)],[]⟩) (fun j=>j≤s.length∧∀ i,i<j→p (s.getD i v0)=false) (fun j=>s.length - j) 0 ⟨by omega,by omega⟩
  (Xa rfl (by simp [Xh,X5,I]) (by simp [Xi,Xw,X5,I]) rfl) ?_
 rintro j ⟨hj,hno⟩ next
 have w1:=wj j (by omega)
 by_cases hj2:j<s.length
 ·have f1:((j:Int)<s.length)=True:=eq_true (by omega)
  have f2:(j<s.length)=True:=eq_true hj2
  have f3:(j*8+8≤s.length*8)=True:=eq_true (by omega)
  have v1:=vF s j
  refine X1 1000 ?_
  simp only [X5,w1,f1,f2,f3,v1,Int.toNat_natCast,↓X2,wA,seval,wE]
  refine Qq (hp _ (Ei hj2)) (Q9 _) ?_
  simp only [w1,↓X2,wA,seval,wE]
  refine QX (fun ht=>Xs (v:=I j) rfl rfl (X9 _) ?_) (fun hf=>next (j+1) _ ⟨by omega,JR.2 ⟨hno,hf⟩⟩ (by omega) (Xa rfl (by simp [Xh,X5,I]) (by simp [Xi,Xw,X5,I]) rfl))
  rw [fe hj2 ht hno]
 ·have f1:((j:Int)<s.length)=False:=eq_false (by omega)
  refine X1 1000 ?_
  simp only [X5,w1,f1,↓X2,wA,seval,wE]
  refine Xs (v:=I (-1)) rfl rfl (X9 _) ?_
  rw [Ye fun i hi=>hno i (by omega)]
theorem Mp (s:List V2) (f:FuncId) (caps:List AV) (p:V2→Bool) (hl:s.length<1000000) (hc:∀ a∈caps,Settled a) (hp:∀ x∈s,Fn Tryz.prog f ([vA x] ++ caps) (.bool (p x))) :
  Fn Tryz.prog 141 [Xp s,.fn f caps] (.bool (s.any p)):=by
 have hi:=PN p s
 refine Fn.intro (fn:=Tryz.f141) Tryz.call141 Tryz.func141 rfl mixed 5 [] [] [] (by kernel_rfl) (Nat.le_of_ble_eq_true rfl) (by simpa [Xd] using K3 hc) (X1 1000 ?_)
 simp only [AS.start,↓X2,wA,seval,wE]
 refine X0 (Ue s f caps p hl hc hp) rfl ?_
 simp only [↓X2,wA,seval,wE]
 exact Xs (v:=.bool (decide (0≤PM p s))) rfl rfl (X3 _) (by rw [PN])
def rN (f:FV):AV:=.ptr 29 (Xq (Qg f)) 0
theorem Hp (f:FV):Settled (rN f):=Ji fun j _=>Xg (Qt f) j
theorem WF (t:V2) (f:FV) (ht:vb t≤vm) (hf:vb f.turn≤vm):Fn Tryz.prog 142 ([vA t] ++ [rN f]) (.bool (decide (t=f.turn))):=by
 have c1:=Hd t f.turn ht hf
 refine Fq Tryz.call142 Tryz.func142 4 [] [] [] (by simp [Xn,Hp]) (X1 1000 ?_)
 simp only [AS.start,rN,Qg,List.cons_append,List.nil_append,↓X2,wA,seval,wE]
 refine X0 c1 rfl ?_
 simp only [↓X2,wA,seval,wE]
 exact Xs rfl rfl (X3 _) rfl
noncomputable def EJ (a b:PV) (f:FV) (k:Nat):V2×Bool:=J4 a.rim b.rim (xK a.rim.length f k) (yK b.rim.length f k)
noncomputable def Zp (a b:PV) (f:FV):Nat→List V2
 | 0=>[]
 | k+1=>if (EJ a b f k).2=true then Zp a b f k ++ [(EJ a b f k).1] else Zp a b f k
theorem Ik (a b:PV) (f:FV):∀ k,(Zp a b f k).length≤k
 | 0=>Nat.le_refl _
 | k+1=>by
  have ih:=Ik a b f k
  simp only [Zp]
  split
  ·rw [List.length_append]; simp only [List.length_singleton]; omega
  ·omega
theorem Il (a b:PV) (f:FV) (ha:QU a.rim) (hb:QU b.rim):∀ k,∀ t∈Zp a b f k,vb t≤26
 | 0=>fun t h=>by simp [Zp] at h
 | k+1=>by
  have ih:=Il a b f ha hb k
  intro t h
  simp only [Zp] at h
  split at h
  ·rcases List.mem_append.1 h with h | h
   ·exact ih t h
   ·simp only [List.mem_cons,List.not_mem_nil,or_false] at h
    subst h; exact B8 ha hb _ _
  ·exact ih t h
def M8 (a b:PV) (f:FV):Prop:=∃ k,k<f.M.toNat∧(EJ a b f k).2=true∧(EJ a b f k).1=f.turn
theorem OW (a b:PV) (f:FV) (t:V2):∀ n,(Zp a b f n).any (fun x=>decide (x=t))=true↔∃ k,k<n∧(EJ a b f k).2=true∧(EJ a b f k).1=t
 | 0=>by simp [Zp]
 | n+1=>by
  have ih:=OW a b f t n
  by_cases h:(EJ a b f n).2=true
  ·have e:Zp a b f (n+1)=Zp a b f n ++ [(EJ a b f n).1]:=if_pos h
   rw [e,List.any_append,Bool.or_eq_true,ih]
   simp only [List.any_cons,List.any_nil,Bool.or_false,decide_eq_true_eq]
   constructor
   ·rintro (⟨k,h1,h2⟩ | h1)
    ·exact ⟨k,by omega,h2⟩
    ·exact ⟨n,by omega,h,h1⟩
   ·rintro ⟨k,h1,h2,h3⟩
    by_cases hk:k=n
    ·subst hk; exact .inr h3
    ·exact .inl ⟨k,by omega,h2,h3⟩
  ·have e:Zp a b f (n+1)=Zp a b f n:=if_neg h
   rw [e,ih]
   constructor
   ·rintro ⟨k,h1,h2⟩; exact ⟨k,by omega,h2⟩
   ·rintro ⟨k,h1,h2,h3⟩
    by_cases hk:k=n
    ·subst hk; exact absurd h2 h
    ·exact ⟨k,by omega,h2,h3⟩
theorem T1 (a b:PV) (f:FV) (hf:C9 a.rim.length b.rim.length f) (ha:a.even) (hb:b.even):Fn Tryz.prog 133 [Q3 a,Q3 b,Kt f] (Xp (Zp a b f f.M.toNat)):=by
 have ce:=Pr a b f hf ha.rim hb.rim
 obtain ⟨⟨s1,s2⟩,⟨s3,s4⟩,s5,s6,s7⟩:=hf
 obtain ⟨N,hN⟩:∃ N:Nat,f.M=N:=⟨f.M.toNat,by omega⟩
 have la:=ha.rim; have lb:=hb.rim
 have hNt:f.M.toNat=N:=by rw [hN]; rfl
 rw [hNt]
 obtain ⟨L,hL⟩:∃ L,L=Gx a.rim.length b.rim.length f:=⟨_,rfl⟩
 have hlen:L.length=N:=by rw [hL,ER,hN]; rfl
 have hat:∀ k,k<N→L.getD k (0,0)=((xK a.rim.length f k:Int),(yK b.rim.length f k:Int)):=fun k hk=>by rw [hL]; exact I3 _ _ _ _ (by omega)
 rw [← hL] at ce
 clear hL
 have ba:XI 4 (.row 0 25 (Xq (XC a)))=True:=eq_true (XG (XF a))
 have bb:XI 4 (.row 0 25 (Xq (XC b)))=True:=eq_true (XG (XF b))
 have bf:XI 4 (.row 0 29 (Xq (Qg f)))=True:=eq_true (XG (Qt f))
 have bL:Jj 4 (C6 L)=True:=eq_true (X6 (QG _))
 have hvc:∀ a:V2,∀ x∈vC a,Settled x:=fun a=>by simp [vC,X7,X3]
 have br:∀ i l n,XI 4 (.row i n (XB vC 8 v0 l))=True:=fun i l n=>eq_true fun j _=>X6 (Xg (hvc _) _)
 refine Fq Tryz.call133 Tryz.func133 12 [15,16,17] [] [] (by simp [Xu,XK]) (X1 1000 ?_)
 simp only [AS.start,Q3,XC,Kt,Qg,↓X2,wA,seval,wE]
 refine X0 ce rfl ?_
 simp only [Xf,hlen,↓X2,wA,seval,wE]
 refine Xe (fun k:Nat=>⟨12,[15,16,17],[.any,.any,.any,.ref 0 0 0,.ref 1 0 0,.ref 2 0 0,.any,.osl 3 (Zp a b f k).length 8 0 (Zp a b f k).length,.any,.any,.any,.any],[(15,C6 L),(16,I N),(17,I k)],[.row 0 25 (Xq (XC a)),.row 0 25 (Xq (XC b)),.row 0 29 (Xq (Qg f)),.row (Zp a b f k).length ((Zp a b f k).length*8) (XB vC 8 v0 (Zp a b f k))]⟩) (fun k=>k≤N) (fun k=>N - k) 0 (by omega)
  (Sub.trans (Q7 7 8 (XB vC 8 v0 []) rfl) (Xa rfl (by simp [AS.put,Zp,Xh,I]) (by simp [AS.put,Xi,Xw,Xf,hlen,I]) (by simp [AS.put,Zp,XC,Qg,Xf,Xl,X4,I]))) ?_
 intro k hk next
 have w1:=wj k (by omega)
 have hln:=Ik a b f k
 by_cases hk2:k<N
 rotate_left
 ·obtain rfl:k=N:=by omega
  refine X1 1000 ?_
  simp only [XC,Qg,Int.lt_irrefl,Nat.lt_irrefl,↓X2,wA,seval,wE]
  exact LN _ rfl rfl rfl
 have nx:=next (k+1)
 have f1:((k:Int)<N)=True:=eq_true (by omega)
 have f2:(k<N)=True:=eq_true hk2
 have f3:(k*2+2≤N*2)=True:=eq_true (by omega)
 have v1:=aw L k
 rw [hat k hk2] at v1
 have n2:((2:Nat):Int)=2:=rfl
 have t1:(1:Int).toNat=1:=rfl
 have ca:=TP a b (xK a.rim.length f k) (yK b.rim.length f k) la lb ha.near hb.near
 rw [show J4 a.rim b.rim (xK a.rim.length f k) (yK b.rim.length f k)=EJ a b f k from rfl] at ca
 have hs:Zp a b f (k+1)=if (EJ a b f k).2=true then Zp a b f k ++ [(EJ a b f k).1] else Zp a b f k:=rfl
 generalize EJ a b f k=X at *
 obtain ⟨t,ok⟩:=X
 refine X1 1000 ?_
 simp only [XC,Qg,Xf,Xl,X4,hlen,w1,f1,f2,f3,v1,n2,t1,Int.toNat_zero,Int.reduceLT,Int.reduceLE,Int.toNat_natCast,↓X2,wA,seval,wE]
 refine X0 ca rfl ?_
 cases ok with
 | false =>
  rw [if_neg (show ¬ ((t,false).2=true) from Bool.false_ne_true)] at hs
  simp only [hs] at nx
  simp only [w1,↓X2,wA,seval,wE]
  exact nx _ (by omega) (by omega) (Xy (m:=4) (Nat.zero_le _) rfl (by simp [Xh,I]) (by simp [Xi,Xw,Xf,hlen,I]) (by simp [XC,Qg,Xf,Xl,X4,I]) (by simp [Xx]) (by simp [Xx,bL]) (by simp [ba,bb,bf,br]))
 | true =>
  rw [if_pos rfl] at hs
  have hlen2:(Zp a b f (k+1)).length=(Zp a b f k).length+1:=by rw [hs]; simp
  have hap:=XQ vC 8 v0 (Zp a b f k) t (by omega)
  rw [← hs] at hap
  simp only [hlen2] at nx
  simp only [w1,↓X2,wA,seval,wE]
  exact ⟨⟨Z9 t,by omega,by omega⟩,nx _ (by omega) (by omega) (Xy (m:=4) (Nat.zero_le _) rfl (by simp [Xh,I]) (by simp [Xi,Xw,Xf,hlen,I]) (by rw [← hap]; simp [XC,Qg,Xf,Xl,X4,I,vC]) (by simp [Xx]) (by simp [Xx,bL]) (by simp [ba,bb,bf,br]))⟩
theorem OX (a b:PV) (f:FV) (hf:C9 a.rim.length b.rim.length f) (ha:a.even) (hb:b.even) (ht:vb f.turn≤vm):Fn Tryz.prog 150 [Q3 a,Q3 b,Kt f] (.bool (decide (M8 a b f))):=by
 obtain ⟨⟨s1,s2⟩,⟨s3,s4⟩,s5,s6,s7⟩:=hf
 obtain ⟨N,hN⟩:∃ N:Nat,f.M=N:=⟨f.M.toNat,by omega⟩
 have la:=ha.rim; have lb:=hb.rim
 obtain ⟨V,hV⟩:∃ V,V=decide (M8 a b f):=⟨_,rfl⟩
 rw [← hV]
 have fin:∀ {s:AS} {v:Bool},s.get 6=.bool v→v=V→RetOk (Qn Tryz.prog Tryz.f150 [4,50000003,50000004,50000005] [] (.bool V)) s:=fun h e=>Xs rfl h (X3 _) (by rw [e])
 have ba:XI 3 (.con 0 25 (Xq (XC a)))=True:=eq_true (fun j _=>X6 (Xg (XF a) j))
 have bb:XI 3 (.con 0 25 (Xq (XC b)))=True:=eq_true (fun j _=>X6 (Xg (XF b) j))
 have bf:XI 3 (.con 0 29 (Xq (Qg f)))=True:=eq_true (fun j _=>X6 (Xg (Qt f) j))
 refine Fq Tryz.call150 Tryz.func150 10 [] [4,50000003,50000004,50000005] [] (by simp [Xu,XK]) (X1 1000 ?_)
 simp only [AS.start,Q3,XC,Kt,Qg,↓X2,wA,seval,wE]
 refine Xe (fun k:Nat=>⟨10,[],[.any,.any,.any,.ref 0 0 0,.ref 1 0 0,.ref 2 0 0,.bool false,I k,.any,.any],[],[.con 0 25 (Xq (XC a)),.con 0 25 (Xq (XC b)),.con 0 29 (Xq (Qg f))]⟩) (fun k=>k≤N∧∀ j,j<k→¬ ((EJ a b f j).2=true∧(EJ a b f j).1=f.turn)) (fun k=>N - k) 0 ⟨by omega,by omega⟩
  (Sub.trans (Qp 0 rfl) (Sub.trans (Qp 1 rfl) (Sub.trans (Qp 2 rfl) (Xa rfl (by simp [Xh,I]) (by simp [Xi]) (by simp [XC,Qg,Xf,Xl,X4,I]))))) ?_
 rintro k ⟨hk,hok⟩ next
 have w1:=wj k (by omega)
 by_cases hk2:k<N
 rotate_left
 ·have f1:((k:Int)<f.M)=False:=eq_false (by omega)
  refine X1 1000 ?_
  simp only [XC,Qg,f1,↓X2,wA,seval,wE]
  exact fin rfl (by rw [hV,decide_eq_false]; rintro ⟨j,hj,h1,h2⟩; exact hok j (by omega) ⟨h1,h2⟩)
 have f1:((k:Int)<f.M)=True:=eq_true (by omega)
 have wx:IntKind.i64.wrap (f.EA+(k:Int))=f.EA+(k:Int):=by rw [IntKind.wrap_i64]; omega
 have wy:IntKind.i64.wrap (f.EB - (k:Int))=f.EB - (k:Int):=by rw [IntKind.wrap_i64]; omega
 have c1:=Qj (f.EA+(k:Int)) a.rim.length (by omega) (by omega) (by omega)
 have c2:=Qj (f.EB - (k:Int)) b.rim.length (by omega) (by omega) (by omega)
 rw [Hz _ _ _ (by omega)] at c1
 rw [Ns _ _ _ (by omega)] at c2
 have ca:=Li a b (xK a.rim.length f k) (yK b.rim.length f k) la lb ha.near hb.near
 have hsm:=B8 ha.near hb.near (xK a.rim.length f k) (yK b.rim.length f k)
 rw [show J4 a.rim b.rim (xK a.rim.length f k) (yK b.rim.length f k)=EJ a b f k from rfl] at ca hsm
 have ct:=BD (EJ a b f k).1 f.turn (by unfold vm; omega) ht
 have nx:=next (k+1)
 have hyes:(EJ a b f k).2=true→(EJ a b f k).1=f.turn→true=V:=fun h1 h2=>by rw [hV,decide_eq_true]; exact ⟨k,by omega,h1,h2⟩
 have hno:¬ ((EJ a b f k).2=true∧(EJ a b f k).1=f.turn)→∀ j,j<k+1→¬ ((EJ a b f j).2=true∧(EJ a b f j).1=f.turn):=fun h=>JR.2 ⟨hok,h⟩
 generalize EJ a b f k=X at *
 obtain ⟨t,ok⟩:=X
 refine X1 1000 ?_
 simp only [XC,Qg,Xf,w1,wx,wy,f1,Int.toNat_natCast,↓X2,wA,seval,wE]
 refine X0 c1 rfl ?_
 simp only [XC,Qg,Xf,w1,wx,wy,f1,Int.toNat_natCast,↓X2,wA,seval,wE]
 refine X0 c2 rfl ?_
 simp only [XC,Qg,Xf,Xl,X4,w1,wx,wy,f1,Int.toNat_natCast,↓X2,wA,seval,wE]
 refine X0 ca rfl ?_
 cases ok with
 | false =>
  simp only [XC,Qg,Xf,Xl,X4,w1,↓X2,wA,seval,wE]
  exact nx _ ⟨by omega,hno fun h=>Bool.false_ne_true h.1⟩ (by omega) (Xy (m:=3) (Nat.zero_le _) rfl (by simp [Xh,I]) (by simp [Xi]) (by simp [XC,Qg,Xf,Xl,X4,I]) (by simp [Xx]) (by simp [Xx]) (by simp [ba,bb,bf]))
 | true =>
  simp only [XC,Qg,Xf,Xl,X4,w1,↓X2,wA,seval,wE]
  refine X0 ct rfl ?_
  by_cases he:t=f.turn
  ·rw [decide_eq_true (p:=(t,true).1=f.turn) he]
   simp only [↓X2,wA,seval,wE]
   exact fin rfl (hyes rfl he)
  ·rw [decide_eq_false (p:=(t,true).1=f.turn) he]
   simp only [w1,↓X2,wA,seval,wE]
   exact nx _ ⟨by omega,hno fun h=>he h.2⟩ (by omega) (Xy (m:=3) (Nat.zero_le _) rfl (by simp [Xh,I]) (by simp [Xi]) (by simp [XC,Qg,Xf,Xl,X4,I]) (by simp [Xx]) (by simp [Xx]) (by simp [ba,bb,bf]))
noncomputable def av (x y:Rat):Rat:=if x<y then y else x
noncomputable def au (x y:Rat):Rat:=if y<x then y else x
theorem ql (x y:Rat) (k:Nat) (hx:qb x≤k) (hy:qb y≤k):qb (av x y)≤k:=by unfold av; split <;> assumption
theorem qk (x y:Rat) (k:Nat) (hx:qb x≤k) (hy:qb y≤k):qb (au x y)≤k:=by unfold au; split <;> assumption
theorem Mu (x y:Rat) (hx:qb x≤rm) (hy:qb y≤rm):Fn Tryz.prog 125 [qA x,qA y] (qA (av x y)):=by
 have c1:=Ki x y hx hy
 obtain ⟨R,hR⟩:∃ R,R=qA (av x y):=⟨_,rfl⟩
 have sR:Settled R:=hR▸Xc _
 rw [← hR]
 refine Fq Tryz.call125 Tryz.func125 5 [] [] [] (by simp [wS]) (X1 1000 ?_); simp (config:={ maxSteps:=2000000 }) only [AS.start,↓X2,wA,seval,wE]
 refine X0 c1 rfl ?_
 by_cases h:x<y
 ·have f1:(Q6 x y<0)=True:=eq_true ((K7 x y).2 h)
  simp only [f1,↓X2,wA,seval,wE]
  have e:av x y=y:=if_pos h
  rw [e] at hR
  exact Ju rfl Qb rfl rfl rfl sR (hR.trans rfl)
 ·have f1:(Q6 x y<0)=False:=eq_false fun hh=>h ((K7 x y).1 hh)
  simp only [f1,↓X2,wA,seval,wE]
  have e:av x y=x:=if_neg h
  rw [e] at hR
  exact Ju rfl Qb rfl rfl rfl sR (hR.trans rfl)
theorem LC (x y:Rat) (hx:qb x≤rm) (hy:qb y≤rm):Fn Tryz.prog 126 [qA x,qA y] (qA (au x y)):=by
 have c1:=Ki x y hx hy
 obtain ⟨R,hR⟩:∃ R,R=qA (au x y):=⟨_,rfl⟩
 have sR:Settled R:=hR▸Xc _
 rw [← hR]
 refine Fq Tryz.call126 Tryz.func126 5 [] [] [] (by simp [wS]) (X1 1000 ?_); simp (config:={ maxSteps:=2000000 }) only [AS.start,↓X2,wA,seval,wE]
 refine X0 c1 rfl ?_
 by_cases h:y<x
 ·have f1:(0<Q6 x y)=True:=eq_true ((JI x y).2 h)
  simp only [f1,↓X2,wA,seval,wE]
  have e:au x y=y:=if_pos h
  rw [e] at hR
  exact Ju rfl Qb rfl rfl rfl sR (hR.trans rfl)
 ·have f1:(0<Q6 x y)=False:=eq_false fun hh=>h ((JI x y).1 hh)
  simp only [f1,↓X2,wA,seval,wE]
  have e:au x y=x:=if_neg h
  rw [e] at hR
  exact Ju rfl Qb rfl rfl rfl sR (hR.trans rfl)
end
end Go.Ab.N
