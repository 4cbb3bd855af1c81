/- Contracts of functions of these chapters, for every argument that fits, and what they need. -/
import Derived.Test.YtefjhgcndhepeaaGreatC7
set_option linter.unusedSimpArgs false
set_option linter.unusedVariables false
open Nat renaming reducePow → Y1, reduceLT → Y2, reduceLeDiff → Y3, reduceEqDiff → Y4, reduceAdd → Y5, reduceMul → Y6, reduceSub → Y7, reduceBEq → Y8, reduceDiv → Y9, reduceMod → YA
namespace Go.Ab.N
open Go Go.RowKit Go.Proofs
noncomputable section
set_option maxRecDepth 10000
set_option maxHeartbeats 4000000
open Classical
theorem Xrx (b:Rat):qb b⁻¹≤qb b:=by
 rw [Rat.inv_def]
 exact X2V _ _ _ (Xms b) (X2K b) (X2A b)
theorem Xry (a b:Rat):qb (a / b)≤qb a+qb b:=by
 rw [Rat.div_def]
 have:=X1u a b⁻¹; have:=Xrx b
 omega
theorem Xmu (a b:Rat) (ha:qb a≤vm) (hb:qb b≤vm) (h0:b≠0):Fn Tryz.prog 192 [qA a,qA b] (qA (a / b)):=by
 unfold vm at ha hb
 have q1:=Xrx b
 have hn:b.num≠0:=fun h=>h0 (Rat.num_eq_zero.1 h)
 have c1:=X7l b
 have c2:=X7u b.den b.num hn (by
  have:=b.reduced
  rw [Int.gcd_comm]
  exact this)
 rw [← Rat.inv_def] at c2
 have c3:=X32 a b⁻¹ (by unfold rm; omega) (by unfold rm; omega)
 rw [← Rat.div_def] at c3
 obtain ⟨R,hR⟩:∃ R,R=qA (a / b):=⟨_,rfl⟩
 have sR:Settled R:=hR▸X0a _
 have f1:((X0i b.num.natAbs).length=0)=False:=eq_false fun h=>hn (by have:=digs_len_zero.1 h; omega)
 have f2:(((X0i b.num.natAbs).length:Int)=0)=False:=eq_false fun h=>hn (by have:=digs_len_zero.1 (show (X0i b.num.natAbs).length=0 by omega); omega)
 rw [← hR] at c3 ⊢
 refine Fq Tryz.call192 Tryz.func192 5 [] [] [] (by simp [wS]) (X00 1000 ?_); simp (config:={ maxSteps:=2000000 }) only [AS.start,↓X03,wA,seval,wE]
 simp only [f1,f2,↓X03,wA,seval,wE]
 refine X01 c1 rfl ?_
 simp only [↓X03,wA,seval,wE]
 refine X01 c2 rfl ?_
 simp only [↓X03,wA,seval,wE]
 refine X01 c3 rfl ?_
 simp only [hR,↓X03,wA,seval,wE]
 exact X3V rfl X1k rfl rfl rfl sR (hR.trans rfl)
theorem Xxh (a b:Rat):Rat.divInt (a.num*b.den) (a.den*b.num)=a / b:=by
 rw [← Rat.divInt_mul_divInt,Rat.div_def,Rat.inv_def,Rat.num_divInt_den]
theorem XbC (a b:Rat) (ha:qb a≤vm) (hb:qb b≤vm):Fn Tryz.prog 194 [qA a,qA b] (qA (a / b)):=by
 unfold vm at ha hb
 have a1:=X2A a; have a2:=X2K a; have b1:=X2A b; have b2:=X2K b
 have m1:=X3F a.num b.den (by unfold room; omega) (by unfold room; omega)
 have m3:=X3F a.den b.num (by unfold room; omega) (by unfold room; omega)
 have n1:=X2P a.num b.den
 have n3:=X2P a.den b.num
 have k:=X7v (a.num*b.den) (a.den*b.num) (by omega) (by omega)
 rw [Xxh] at k
 have d1:=X3P a
 have d2:=X3P b
 obtain ⟨R,hR⟩:∃ R,R=qA (a / b):=⟨_,rfl⟩
 have sR:Settled R:=hR▸X0a _
 rw [← hR] at k ⊢
 refine Fq Tryz.call194 Tryz.func194 5 [] [1,20000002,20000003] [] (by simp [wS]) (X00 1000 ?_); simp (config:={ maxSteps:=2000000 }) only [AS.start,↓X03,wA,seval,wE]
 refine X01 d2 rfl ?_
 simp only [↓X03,wA,seval,wE]
 refine X01 m1 rfl ?_
 simp only [↓X03,wA,seval,wE]
 refine X01 d1 rfl ?_
 simp only [↓X03,wA,seval,wE]
 refine X01 m3 rfl ?_
 simp only [↓X03,wA,seval,wE]
 refine X01 k rfl ?_
 simp only [hR,↓X03,wA,seval,wE]
 exact X3V rfl X1k rfl rfl rfl sR (hR.trans rfl)
noncomputable def X26 (a b:V2):V2×Int :=
 if dot a a=0∨dot b b=0 then (v0,1) else if dot a a=dot b b then (⟨dot a b / dot a a,X1E a b / dot a a⟩,0) else (v0,21)
def X5W:List AV:=[.bool false,.sl 0 0 (fun _=>.any) false,.bool false,.sl 0 0 (fun _=>.any) false,.bool false,.sl 0 0 (fun _=>.any) false,.bool false,.sl 0 0 (fun _=>.any) false]
theorem X3B:WeakL X5W (vC v0) :=
 have h1:X0i (0:Rat).num.natAbs=[]:=by rw [Rat.zero_num]; simp [X0O]
 have h2:X0i (qd (0:Rat))=[]:=X8M rfl
 ⟨Weak.rfl' _,X1i h1,Weak.rfl' _,X1i h2,Weak.rfl' _,X1i h1,Weak.rfl' _,X1i h2,trivial⟩
theorem Xmi (a b:V2) (ha:vb a≤10000) (hb:vb b≤10000):Fn Tryz.prog 114 [vA a,vA b] (.tup [vA (X26 a b).1,I (X26 a b).2]):=by
 obtain ⟨R,hR⟩:∃ R,R=X26 a b:=⟨_,rfl⟩
 rw [← hR]
 have q1:=X4K a a; have q2:=X4K b b; have q3:=X4K a b; have q4:=X6v a b
 have c1:=Xa5 a a (by unfold vm; omega) (by unfold vm; omega)
 have c2:=Xa5 b b (by unfold vm; omega) (by unfold vm; omega)
 have c3:=Xa5 a b (by unfold vm; omega) (by unfold vm; omega)
 have c4:=Xa4 a b (by unfold vm; omega) (by unfold vm; omega)
 have s1:=X30 (dot a a)
 have s2:=X30 (dot b b)
 have e1:=XbG (dot a a) (dot b b) (by unfold rm; omega) (by unfold rm; omega)
 have zret:∀ {s:AS} {ver id':Nat} {k:Int},s.get 4=.ref id' ver 0→s.h[id']?=some (.row ver 8 (ofL X5W))→s.get 5=I k→R=(v0,k)→RetOk (X2f Tryz.prog Tryz.f114 [1,20000002,20000003,6,70000002,70000003,70000006] [] (.tup [vA R.1,I R.2])) s:=fun h1 h2 h3 h4=>by
  subst h4
  exact X1s rfl (X0l X8Y h1 h2 rfl) (by unfold X1F; rfl) (X0n (X0k _) (X0I X3B)) (by rw [h3]; exact (X08 _).sees _)
 refine Fq Tryz.call114 Tryz.func114 8 [] [1,20000002,20000003,6,70000002,70000003,70000006] [] (by simp [wS]) (X00 1000 ?_); simp (config:={ maxSteps:=2000000 }) only [AS.start,↓X03,wA,seval,wE]
 refine X01 c1 rfl ?_
 simp only [↓X03,wA,seval,wE]
 refine X01 c2 rfl ?_
 simp only [↓X03,wA,seval,wE]
 refine X01 s1 rfl ?_
 by_cases h1:dot a a=0
 ·have f1:((dot a a).num.sign=0)=True:=eq_true ((X4Z _).2 h1)
  simp only [f1,↓X03,wA,seval,wE]
  exact zret rfl rfl rfl (by rw [hR]; unfold X26; rw [if_pos (.inl h1)])
 have f1:((dot a a).num.sign=0)=False:=eq_false fun h=>h1 ((X4Z _).1 h)
 simp only [f1,↓X03,wA,seval,wE]
 refine X01 s2 rfl ?_
 by_cases h2:dot b b=0
 ·have f2:((dot b b).num.sign=0)=True:=eq_true ((X4Z _).2 h2)
  simp only [f1,f2,↓X03,wA,seval,wE]
  exact zret rfl rfl rfl (by rw [hR]; unfold X26; rw [if_pos (.inr h2)])
 have f2:((dot b b).num.sign=0)=False:=eq_false fun h=>h2 ((X4Z _).1 h)
 simp only [f1,f2,↓X03,wA,seval,wE]
 refine X01 e1 rfl ?_
 have hno:¬ (dot a a=0∨dot b b=0):=fun h=>h.elim h1 h2
 by_cases h3:dot a a=dot b b
 rotate_left
 ·rw [decide_eq_false h3]
  simp only [↓X03,wA,seval,wE]
  exact zret rfl rfl rfl (by rw [hR]; unfold X26; rw [if_neg hno,if_neg h3])
 rw [decide_eq_true h3]
 have d1:=Xmu (dot a b) (dot a a) (by unfold vm; omega) (by unfold vm; omega) h1
 have d2:=Xmu (X1E a b) (dot a a) (by unfold vm; omega) (by unfold vm; omega) h1
 simp only [↓X03,wA,seval,wE]
 refine X01 c3 rfl ?_
 simp only [↓X03,wA,seval,wE]
 refine X01 d1 rfl ?_
 simp only [↓X03,wA,seval,wE]
 refine X01 c4 rfl ?_
 simp only [↓X03,wA,seval,wE]
 refine X01 d2 rfl ?_
 simp only [↓X03,wA,seval,wE]
 have hRe:R=(⟨dot a b / dot a a,X1E a b / dot a a⟩,0):=by rw [hR]; unfold X26; rw [if_neg hno,if_pos h3]
 subst hRe
 exact X1s rfl (X0l X8Y rfl rfl rfl) (by unfold X1F; rfl) (X0n (X0k _) (X0I (X0X (vC ⟨dot a b / dot a a,X1E a b / dot a a⟩)))) ((X08 _).sees _)
theorem XeD (a b:V2) (ha:vb a≤10000) (hb:vb b≤10000):Fn Tryz.prog 116 [vA a,vA b] (.tup [vA (X26 a b).1,I (X26 a b).2]):=by
 obtain ⟨R,hR⟩:∃ R,R=X26 a b:=⟨_,rfl⟩
 rw [← hR]
 have q1:=X4K a a; have q2:=X4K b b; have q3:=X4K a b; have q4:=X6v a b
 have c1:=X3a a a (by unfold vm; omega) (by unfold vm; omega)
 have c2:=X3a b b (by unfold vm; omega) (by unfold vm; omega)
 have c3:=X3a a b (by unfold vm; omega) (by unfold vm; omega)
 have c4:=X8O a b (by unfold vm; omega) (by unfold vm; omega)
 have s1:=X4t (dot a a) (by unfold rm; omega)
 have s2:=X4t (dot b b) (by unfold rm; omega)
 have e1:=X5n (dot a a) (dot b b) (by unfold rm; omega) (by unfold rm; omega)
 have zret:∀ {s:AS} {ver id':Nat} {k:Int},s.get 4=.ref id' ver 0→s.h[id']?=some (.row ver 8 (ofL X5W))→s.get 5=I k→R=(v0,k)→RetOk (X2f Tryz.prog Tryz.f116 [4,50000003,50000006,6,70000002,70000003,70000006] [] (.tup [vA R.1,I R.2])) s:=fun h1 h2 h3 h4=>by
  subst h4
  exact X1s rfl (X0l X8Y h1 h2 rfl) (by unfold X1F; rfl) (X0n (X0k _) (X0I X3B)) (by rw [h3]; exact (X08 _).sees _)
 refine Fq Tryz.call116 Tryz.func116 7 [] [4,50000003,50000006,6,70000002,70000003,70000006] [] (by simp [wS]) (X00 1000 ?_); simp (config:={ maxSteps:=2000000 }) only [AS.start,↓X03,wA,seval,wE]
 refine X01 c1 rfl ?_
 simp only [↓X03,wA,seval,wE]
 refine X01 s1 rfl ?_
 by_cases h1:dot a a=0
 ·have f1:((dot a a).num.sign=0)=True:=eq_true ((X4Z _).2 h1)
  simp only [f1,↓X03,wA,seval,wE]
  exact zret rfl rfl rfl (by rw [hR]; unfold X26; rw [if_pos (.inl h1)])
 have f1:((dot a a).num.sign=0)=False:=eq_false fun h=>h1 ((X4Z _).1 h)
 simp only [f1,↓X03,wA,seval,wE]
 refine X01 c2 rfl ?_
 simp only [f1,↓X03,wA,seval,wE]
 refine X01 s2 rfl ?_
 by_cases h2:dot b b=0
 ·have f2:((dot b b).num.sign=0)=True:=eq_true ((X4Z _).2 h2)
  simp only [f1,f2,↓X03,wA,seval,wE]
  exact zret rfl rfl rfl (by rw [hR]; unfold X26; rw [if_pos (.inr h2)])
 have f2:((dot b b).num.sign=0)=False:=eq_false fun h=>h2 ((X4Z _).1 h)
 simp only [f1,f2,↓X03,wA,seval,wE]
 refine X01 c2 rfl ?_
 simp only [f1,f2,↓X03,wA,seval,wE]
 refine X01 e1 rfl ?_
 have hno:¬ (dot a a=0∨dot b b=0):=fun h=>h.elim h1 h2
 by_cases h3:dot a a=dot b b
 rotate_left
 ·rw [decide_eq_false h3]
  simp only [↓X03,wA,seval,wE]
  exact zret rfl rfl rfl (by rw [hR]; unfold X26; rw [if_neg hno,if_neg h3])
 rw [decide_eq_true h3]
 have d1:=XbC (dot a b) (dot a a) (by unfold vm; omega) (by unfold vm; omega)
 have d2:=XbC (X1E a b) (dot a a) (by unfold vm; omega) (by unfold vm; omega)
 simp only [↓X03,wA,seval,wE]
 refine X01 c3 rfl ?_
 simp only [↓X03,wA,seval,wE]
 refine X01 d1 rfl ?_
 simp only [↓X03,wA,seval,wE]
 refine X01 c4 rfl ?_
 simp only [↓X03,wA,seval,wE]
 refine X01 d2 rfl ?_
 simp only [↓X03,wA,seval,wE]
 have hRe:R=(⟨dot a b / dot a a,X1E a b / dot a a⟩,0):=by rw [hR]; unfold X26; rw [if_neg hno,if_pos h3]
 subst hRe
 exact X1s rfl (X0l X8Y rfl rfl rfl) (by unfold X1F; rfl) (X0n (X0k _) (X0I (X0X (vC ⟨dot a b / dot a a,X1E a b / dot a a⟩)))) ((X08 _).sees _)
def plC (t c:V2):List AV:=[.bool (decide (t.x.num<0)),X0f (X0i t.x.num.natAbs),.bool false,X0f (X0i (qd t.x)),.bool (decide (t.y.num<0)),X0f (X0i t.y.num.natAbs),.bool false,X0f (X0i (qd t.y)),
 .bool (decide (c.x.num<0)),X0f (X0i c.x.num.natAbs),.bool false,X0f (X0i (qd c.x)),.bool (decide (c.y.num<0)),X0f (X0i c.y.num.natAbs),.bool false,X0f (X0i (qd c.y))]
def plA (t c:V2):AV:=.agg (plC t c)
theorem X34 (t c:V2):∀ x∈plC t c,Settled x:=by simp [plC,X07,X02]
theorem X3w (t c:V2):Settled (plA t c):=X0V (X34 t c)
def put (t c a:V2):V2:=(rot t a).add c
def plP (t c:V2):AV:=.ptr 16 (ofL (plC t c)) 0
theorem Xaw (t c:V2):Settled (plP t c):=X1N fun j _=>X0c (X34 t c) j
theorem XxB (t c a:V2):vb (put t c a)≤2*(vb t+vb a)+vb c+2:=by
 have:=X7Z t a; have:=X5Q (rot t a) c
 unfold put; omega
theorem Xm0 (t c a:V2) (ht:vb t≤100000) (hc:vb c≤100000) (ha:vb a≤100000):Fn Tryz.prog 206 [vA a,plP t c] (vA (put t c a)):=by
 have m:=X7Z t a
 have c1:=Xby t a (by unfold vm; omega) (by unfold vm; omega)
 have c2:=XfU (rot t a) c (by unfold vm; omega) (by unfold vm; omega)
 obtain ⟨R,hR⟩:∃ R,R=vA (put t c a):=⟨_,rfl⟩
 have sR:Settled R:=hR▸X0k _
 rw [← hR]
 refine Fq Tryz.call206 Tryz.func206 4 [] [] [] (by simp [X0k,Xaw]) (X00 1000 ?_)
 simp only [AS.start,plP,plC,↓X03,wA,seval,wE]
 refine X01 c1 rfl ?_
 simp only [↓X03,wA,seval,wE]
 refine X01 c2 rfl ?_
 simp only [↓X03,wA,seval,wE]
 exact X6f rfl X2z rfl rfl rfl sR (hR.trans rfl)
theorem XpH (t c:V2):Fn Tryz.prog 143 [plA t c] (.fn 206 [plP t c]):=by
 have hset:Settled (.fn 206 [plP t c]):=X2p (by simp [Xaw])
 refine Fq Tryz.call143 Tryz.func143 3 [] [] [] (by simp [X3w]) (X00 1000 ?_)
 simp only [AS.start,plA,plC,↓X03,wA,seval,wE]
 refine X8R rfl (X8w ⟨X4O (.inl rfl) (by omega) fun j hj=>?_,trivial⟩)
 exact (X0c (X34 t c) j).sees _
theorem Xxb (t c a:V2) (ht:vb t≤100000) (hc:vb c≤100000) (ha:vb a≤100000):Fn Tryz.prog 55 [plA t c,vA a] (vA (put t c a)):=by
 have c1:=XpH t c
 have c2:=Xm0 t c a ht hc ha
 obtain ⟨R,hR⟩:∃ R,R=vA (put t c a):=⟨_,rfl⟩
 have sR:Settled R:=hR▸X0k _
 rw [← hR]
 refine Fq Tryz.call55 Tryz.func55 5 [] [] [] (by simp [X3w,X0k]) (X00 1000 ?_)
 simp only [AS.start,plA,plC,↓X03,wA,seval,wE]
 refine X01 c1 rfl ?_
 simp only [↓X03,wA,seval,wE]
 refine X01 c2 rfl ?_
 simp only [↓X03,wA,seval,wE]
 exact X6f rfl X2z rfl rfl rfl sR (hR.trans rfl)
def X5D (t c:V2) (L:List V2):List V2:=L.map (put t c)
theorem Xec (t c:V2) (L:List V2) (i:Nat) (hi:i<L.length):X5D t c (L.take i) ++ [put t c (L.getD i v0)]=X5D t c (L.take (i+1)):=by
 rw [X4i _ v0 hi]; simp [X5D]
theorem Xhp (t c:V2) (L:List V2) (i:Nat) (hi:i≤L.length):(X5D t c (L.take i)).length=i:=by simp [X5D]; omega
theorem Xdk {P:Program} {fn:Func} {str hcs:List Nat} {s:AS} {t id ver:Nat} (L:List V2) (hr:fn.results=#[.tmp t]) (hs:s.get t=.osl id ver 8 0 L.length) (ho:s.h[id]?=some (.row ver (L.length*8) (X0M vC 8 v0 L))):RetOk (X2f P fn str hcs (X0A L)) s:=by
 refine X8R hr ?_
 rw [hs,X05]
 refine X1e (.inl ho) (by omega) (fun h=>by rw [h]) fun j hj=>?_
 rw [Nat.zero_add]
 exact (X0c (by simp [vC,X07,X02]) _).sees _
theorem X42 (a:V2):∀ j,j<8→((vC a).getD j .any).one=true:=fun j hj=>by
 match j,hj with
 | 0,_=>rfl
 | 1,_=>rfl
 | 2,_=>rfl
 | 3,_=>rfl
 | 4,_=>rfl
 | 5,_=>rfl
 | 6,_=>rfl
 | 7,_=>rfl
 | j+8,h=>omega
theorem XpR (t c:V2) (L:List V2) (k:Nat) (h:X0Y L k) (hk:k≤100000) (hl:L.length<1000000) (ht:vb t≤100000) (hc:vb c≤100000):Fn Tryz.prog 69 [plA t c,X0A L] (X0A (X5D t c L)):=by
 have bo:X1j 2 (.row 0 16 (ofL (plC t c)))=True:=eq_true (X0B (X34 t c))
 have hvc:∀ a:V2,∀ x∈vC a,Settled x:=fun a=>by simp [vC,X07,X02]
 have bv:Bel 2 (X0A L)=True:=eq_true (X06 (X0b L))
 have br:∀ i l n,X1j 2 (.row i n (X0M vC 8 v0 l))=True:=fun i l n=>eq_true fun j _=>X06 (X0c (hvc _) _)
 obtain ⟨R,hR⟩:∃ R,R=X0A (X5D t c L):=⟨_,rfl⟩
 rw [← hR]
 refine Fq Tryz.call69 Tryz.func69 8 [8,9,10] [] [] (by simp [X3w,X0b]) (X00 1000 ?_)
 simp only [AS.start,plA,plC,X05,↓X03,wA,seval,wE]
 refine X0d (fun i:Nat=>⟨8,[8,9,10],[.any,.any,.ref 0 0 0,.any,.any,.osl 1 i 8 0 i,.any,.any],[(8,X0A L),(9,I L.length),(10,I i)],[.row 0 16 (ofL (plC t c)),.row i (i*8) (X0M vC 8 v0 (X5D t c (L.take i)))]⟩) (fun i=>i≤L.length) (fun i=>L.length - i) 0 (by omega)
  (Sub.trans (X0W 5 8 (X0M vC 8 v0 []) rfl) (X09 rfl (by simp [AS.put,X0p,I]) (by simp [AS.put,X0q,X0P,X05,I]) (by simp [AS.put,plC,X04,X5D]))) ?_
 intro i hi next
 have w1:=wj i (by omega)
 by_cases hi2:i<L.length
 ·have f1:((i:Int)<L.length)=True:=eq_true (by omega)
  have f2:(i<L.length)=True:=eq_true hi2
  have f3:(i*8+8≤L.length*8)=True:=eq_true (by omega)
  have v1:=vF L i
  have hb:=h i
  have c1:=Xxb t c (L.getD i v0) ht hc (by omega)
  have hap:=X0E vC 8 v0 (X5D t c (L.take i)) (put t c (L.getD i v0)) (by omega)
  rw [Xec _ _ _ _ hi2,Xhp _ _ _ _ hi] at hap
  refine X00 1000 ?_
  simp only [plC,X05,w1,f1,f2,f3,v1,Int.toNat_natCast,↓X03,wA,seval,wE]
  refine X01 c1 rfl ?_
  simp only [w1,↓X03,wA,seval,wE]
  exact ⟨⟨X42 _,by omega,by omega⟩,next (i+1) _ (by omega) (by omega) (X0t (m:=2) (Nat.zero_le _) rfl (by simp [X0p]) (by simp [X0q,X0P,X05,I]) (by rw [← hap]; rfl) (by simp [X0L]) (by simp [X0L,bv]) (by simp [bo,br]))⟩
 obtain rfl:i=L.length:=by omega
 refine X00 1000 ?_
 simp only [plC,X05,Int.lt_irrefl,Nat.lt_irrefl,↓X03,wA,seval,wE]
 rw [hR,List.take_length]
 have hlen:(X5D t c L).length=L.length:=by simp [X5D]
 exact Xdk _ rfl (by rw [hlen]; rfl) (by rw [hlen]; rfl)
theorem Xg4 (t c:V2) (L:List V2) (k:Nat) (h:X0Y L k) (hk:k≤100000) (hl:L.length<1000000) (ht:vb t≤100000) (hc:vb c≤100000):Fn Tryz.prog 247 [plA t c,X0A L] (X0A (X5D t c L)):=by
 have bo:X1j 2 (.con 0 16 (ofL (plC t c)))=True:=eq_true (fun j _=>X06 (X0c (X34 t c) j))
 have hvc:∀ a:V2,∀ x∈vC a,Settled x:=fun a=>by simp [vC,X07,X02]
 have bv:Bel 2 (X0A L)=True:=eq_true (X06 (X0b L))
 have br:∀ i l n,X1j 2 (.row i n (X0M vC 8 v0 l))=True:=fun i l n=>eq_true fun j _=>X06 (X0c (hvc _) _)
 obtain ⟨R,hR⟩:∃ R,R=X0A (X5D t c L):=⟨_,rfl⟩
 rw [← hR]
 refine Fq Tryz.call247 Tryz.func247 7 [] [5,60000002] [] (by simp [X3w,X0b]) (X00 1000 ?_)
 simp only [AS.start,plA,plC,X05,↓X03,wA,seval,wE]
 refine X0d (fun i:Nat=>⟨7,[],[.any,X0A L,.ref 0 0 0,.any,.any,.osl 1 i 8 0 i,I i],[],[.con 0 16 (ofL (plC t c)),.row i (i*8) (X0M vC 8 v0 (X5D t c (L.take i)))]⟩) (fun i=>i≤L.length) (fun i=>L.length - i) 0 (by omega)
  (Sub.trans (X1a 0 rfl) (Sub.trans (X0W 5 8 (X0M vC 8 v0 []) rfl) (X09 rfl (by simp [AS.put,X05,X0p,I]) (by simp [AS.put,X0q]) (by simp [AS.put,plC,X04,X5D])))) ?_
 intro i hi next
 have w1:=wj i (by omega)
 by_cases hi2:i<L.length
 ·have f1:((i:Int)<L.length)=True:=eq_true (by omega)
  have f2:(i<L.length)=True:=eq_true hi2
  have f3:(i*8+8≤L.length*8)=True:=eq_true (by omega)
  have v1:=vF L i
  have hb:=h i
  have m:=X7Z t (L.getD i v0)
  have c1:=X5I t (L.getD i v0) (by unfold vm; omega) (by unfold vm; omega)
  have c2:=X5m (rot t (L.getD i v0)) c (by unfold vm; omega) (by unfold vm; omega)
  have hap:=X0E vC 8 v0 (X5D t c (L.take i)) (put t c (L.getD i v0)) (by omega)
  rw [Xec _ _ _ _ hi2,Xhp _ _ _ _ hi] at hap
  refine X00 1000 ?_
  simp only [plC,X05,w1,f1,f2,f3,v1,Int.toNat_natCast,↓X03,wA,seval,wE]
  refine X01 c1 rfl ?_
  simp only [plC,X05,w1,f1,f2,f3,v1,Int.toNat_natCast,↓X03,wA,seval,wE]
  refine X01 c2 rfl ?_
  simp only [w1,↓X03,wA,seval,wE]
  exact ⟨⟨X42 _,by omega,by omega⟩,next (i+1) _ (by omega) (by omega) (X0t (m:=2) (Nat.zero_le _) rfl (by simp [X05,X0p,I]) (by simp [X0q]) (by rw [← hap]; rfl) (by simp [X0L,bv]) (by simp [X0L]) (by simp [bo,br]))⟩
 obtain rfl:i=L.length:=by omega
 refine X00 1000 ?_
 simp only [plC,X05,Int.lt_irrefl,Nat.lt_irrefl,↓X03,wA,seval,wE]
 rw [hR,List.take_length]
 have hlen:(X5D t c L).length=L.length:=by simp [X5D]
 exact Xdk _ rfl (by rw [hlen]; rfl) (by rw [hlen]; rfl)
structure FV where
 A:Int
 B:Int
 EA:Int
 EB:Int
 M:Int
 turn:V2
 lo:V2
 hi:V2
def fvC (f:FV):List AV:=[I f.A,I f.B,I f.EA,I f.EB,I f.M,.bool (decide (f.turn.x.num<0)),X0f (X0i f.turn.x.num.natAbs),.bool false,X0f (X0i (qd f.turn.x)),.bool (decide (f.turn.y.num<0)),X0f (X0i f.turn.y.num.natAbs),.bool false,X0f (X0i (qd f.turn.y)),
 .bool (decide (f.lo.x.num<0)),X0f (X0i f.lo.x.num.natAbs),.bool false,X0f (X0i (qd f.lo.x)),.bool (decide (f.lo.y.num<0)),X0f (X0i f.lo.y.num.natAbs),.bool false,X0f (X0i (qd f.lo.y)),
 .bool (decide (f.hi.x.num<0)),X0f (X0i f.hi.x.num.natAbs),.bool false,X0f (X0i (qd f.hi.x)),.bool (decide (f.hi.y.num<0)),X0f (X0i f.hi.y.num.natAbs),.bool false,X0f (X0i (qd f.hi.y))]
def fvA (f:FV):AV:=.agg (fvC f)
theorem X10 (f:FV):∀ x∈fvC f,Settled x:=by simp [fvC,X08,X07,X02]
theorem X0s (f:FV):Settled (fvA f):=X0V (X10 f)
theorem XdD (k:Int) (n:Nat) (h:0<n):(k.tmod n+n).tmod n=k % n:=by
 have h1:=Int.tmod_lt_of_pos k (show (0:Int)<n by omega)
 have h2:-(n:Int)<k.tmod n:=by
  have:=Int.lt_tmod_of_pos k (show (0:Int)<n by omega)
  omega
 rw [Int.tmod_eq_emod_of_nonneg (by omega),Int.add_emod_right]
 have h3:=Int.mul_tdiv_add_tmod k n
 have h4:k % n=(k.tmod n+n*k.tdiv n) % n:=by rw [Int.add_comm]; rw [h3]
 rw [h4,Int.add_mul_emod_self_left]
theorem X6o (k:Int) (n:Nat) (h:0<n) (hk:-1000000000≤k∧k≤1000000000) (hn:n≤1000000000):Fn Tryz.prog 124 [I k,I n] (I (k % n)):=by
 have h1:=Int.tmod_lt_of_pos k (show (0:Int)<n by omega)
 have h2:=Int.lt_tmod_of_pos k (show (0:Int)<n by omega)
 have w1:IntKind.i64.wrap (k.tmod n+n)=k.tmod n+n:=by rw [IntKind.wrap_i64]; omega
 have f1:((n:Int)=0)=False:=eq_false (by omega)
 have f1':(n=0)=False:=eq_false (by omega)
 obtain ⟨R,hR⟩:∃ R,R=k % (n:Int):=⟨_,rfl⟩
 have e:=XdD k n h
 rw [← hR] at e ⊢
 refine Fq Tryz.call124 Tryz.func124 5 [] [] [] (by simp [X08]) (X00 1000 ?_)
 simp only [AS.start,f1,f1',w1,e,↓X03,wA,seval,wE]
 exact X0r rfl rfl (X08 _) rfl
theorem X0T (k:Int) (n:Nat) (h:0<n) (hk:-1000000000≤k∧k≤1000000000) (hn:n≤1000000000):Fn Tryz.prog 129 [I k,I n] (I (k % n)):=by
 have h1:=Int.tmod_lt_of_pos k (show (0:Int)<n by omega)
 have h2:=Int.lt_tmod_of_pos k (show (0:Int)<n by omega)
 have w1:IntKind.i64.wrap (k.tmod n+n)=k.tmod n+n:=by rw [IntKind.wrap_i64]; omega
 have f1:((n:Int)=0)=False:=eq_false (by omega)
 have f1':(n=0)=False:=eq_false (by omega)
 obtain ⟨R,hR⟩:∃ R,R=k % (n:Int):=⟨_,rfl⟩
 have e:=XdD k n h
 rw [← hR] at e ⊢
 refine Fq Tryz.call129 Tryz.func129 5 [] [] [] (by simp [X08]) (X00 1000 ?_)
 simp only [AS.start,f1,f1',w1,e,↓X03,wA,seval,wE]
 exact X0r rfl rfl (X08 _) rfl
def XaY (n m:Nat) (f:FV):Prop:=(0≤f.EA∧f.EA<n)∧(0≤f.EB∧f.EB<m)∧1≤f.M∧f.M<n∧f.M<m
theorem X9M (a b:PV) (f:FV) (ha:a.rim.length<1000000) (hb:b.rim.length<1000000):Fn Tryz.prog 122 [pvA a,pvA b,fvA f] (.bool (decide (XaY a.rim.length b.rim.length f))):=by
 obtain ⟨V,hV⟩:∃ V,V=decide (XaY a.rim.length b.rim.length f):=⟨_,rfl⟩
 have fin:∀ {s:AS} {v:Bool},s.get 6=.bool v→v=V→RetOk (X2f Tryz.prog Tryz.f122 [] [] (.bool V)) s:=fun h e=>X0r rfl h (X02 _) (by rw [e])
 rw [← hV]
 refine Fq Tryz.call122 Tryz.func122 9 [] [] [] (by simp [X0o,X0s]) (X00 1000 ?_)
 by_cases hmn:(b.rim.length:Int)<a.rim.length
 ·have fmn:((b.rim.length:Int)<a.rim.length)=True:=eq_true hmn
  by_cases g0:0≤f.EA
  rotate_left
  ·have f0:(0≤f.EA)=False:=eq_false g0
   simp only [AS.start,pvA,pvC,fvA,fvC,fmn,if_true,f0,↓X03,wA,seval,wE]
   exact fin rfl (by rw [hV,decide_eq_false fun h=>g0 h.1.1])
  have f0:(0≤f.EA)=True:=eq_true g0
  by_cases g1:f.EA<(a.rim.length:Int)
  rotate_left
  ·have f1:(f.EA<(a.rim.length:Int))=False:=eq_false g1
   simp only [AS.start,pvA,pvC,fvA,fvC,fmn,if_true,f0,f1,↓X03,wA,seval,wE]
   exact fin rfl (by rw [hV,decide_eq_false fun h=>g1 h.1.2])
  have f1:(f.EA<(a.rim.length:Int))=True:=eq_true g1
  by_cases g2:0≤f.EB
  rotate_left
  ·have f2:(0≤f.EB)=False:=eq_false g2
   simp only [AS.start,pvA,pvC,fvA,fvC,fmn,if_true,f0,f1,f2,↓X03,wA,seval,wE]
   exact fin rfl (by rw [hV,decide_eq_false fun h=>g2 h.2.1.1])
  have f2:(0≤f.EB)=True:=eq_true g2
  by_cases g3:f.EB<(b.rim.length:Int)
  rotate_left
  ·have f3:(f.EB<(b.rim.length:Int))=False:=eq_false g3
   simp only [AS.start,pvA,pvC,fvA,fvC,fmn,if_true,f0,f1,f2,f3,↓X03,wA,seval,wE]
   exact fin rfl (by rw [hV,decide_eq_false fun h=>g3 h.2.1.2])
  have f3:(f.EB<(b.rim.length:Int))=True:=eq_true g3
  by_cases g4:1≤f.M
  rotate_left
  ·have f4:(1≤f.M)=False:=eq_false g4
   simp only [AS.start,pvA,pvC,fvA,fvC,fmn,if_true,f0,f1,f2,f3,f4,↓X03,wA,seval,wE]
   exact fin rfl (by rw [hV,decide_eq_false fun h=>g4 h.2.2.1])
  have f4:(1≤f.M)=True:=eq_true g4
  by_cases g5:f.M<(b.rim.length:Int)
  rotate_left
  ·have f5:(f.M<(b.rim.length:Int))=False:=eq_false g5
   simp only [AS.start,pvA,pvC,fvA,fvC,fmn,if_true,f0,f1,f2,f3,f4,f5,↓X03,wA,seval,wE]
   exact fin rfl (by rw [hV,decide_eq_false fun h=>g5 h.2.2.2.2])
  have f5:(f.M<(b.rim.length:Int))=True:=eq_true g5
  simp only [AS.start,pvA,pvC,fvA,fvC,fmn,if_true,f0,f1,f2,f3,f4,f5,↓X03,wA,seval,wE]
  exact fin rfl (by rw [hV,decide_eq_true]; exact ⟨⟨g0,g1⟩,⟨g2,g3⟩,g4,by omega,g5⟩)
 ·have fmn:((b.rim.length:Int)<a.rim.length)=False:=eq_false hmn
  by_cases g0:0≤f.EA
  rotate_left
  ·have f0:(0≤f.EA)=False:=eq_false g0
   simp only [AS.start,pvA,pvC,fvA,fvC,fmn,if_false,f0,↓X03,wA,seval,wE]
   exact fin rfl (by rw [hV,decide_eq_false fun h=>g0 h.1.1])
  have f0:(0≤f.EA)=True:=eq_true g0
  by_cases g1:f.EA<(a.rim.length:Int)
  rotate_left
  ·have f1:(f.EA<(a.rim.length:Int))=False:=eq_false g1
   simp only [AS.start,pvA,pvC,fvA,fvC,fmn,if_false,f0,f1,↓X03,wA,seval,wE]
   exact fin rfl (by rw [hV,decide_eq_false fun h=>g1 h.1.2])
  have f1:(f.EA<(a.rim.length:Int))=True:=eq_true g1
  by_cases g2:0≤f.EB
  rotate_left
  ·have f2:(0≤f.EB)=False:=eq_false g2
   simp only [AS.start,pvA,pvC,fvA,fvC,fmn,if_false,f0,f1,f2,↓X03,wA,seval,wE]
   exact fin rfl (by rw [hV,decide_eq_false fun h=>g2 h.2.1.1])
  have f2:(0≤f.EB)=True:=eq_true g2
  by_cases g3:f.EB<(b.rim.length:Int)
  rotate_left
  ·have f3:(f.EB<(b.rim.length:Int))=False:=eq_false g3
   simp only [AS.start,pvA,pvC,fvA,fvC,fmn,if_false,f0,f1,f2,f3,↓X03,wA,seval,wE]
   exact fin rfl (by rw [hV,decide_eq_false fun h=>g3 h.2.1.2])
  have f3:(f.EB<(b.rim.length:Int))=True:=eq_true g3
  by_cases g4:1≤f.M
  rotate_left
  ·have f4:(1≤f.M)=False:=eq_false g4
   simp only [AS.start,pvA,pvC,fvA,fvC,fmn,if_false,f0,f1,f2,f3,f4,↓X03,wA,seval,wE]
   exact fin rfl (by rw [hV,decide_eq_false fun h=>g4 h.2.2.1])
  have f4:(1≤f.M)=True:=eq_true g4
  by_cases g5:f.M<(a.rim.length:Int)
  rotate_left
  ·have f5:(f.M<(a.rim.length:Int))=False:=eq_false g5
   simp only [AS.start,pvA,pvC,fvA,fvC,fmn,if_false,f0,f1,f2,f3,f4,f5,↓X03,wA,seval,wE]
   exact fin rfl (by rw [hV,decide_eq_false fun h=>g5 h.2.2.2.1])
  have f5:(f.M<(a.rim.length:Int))=True:=eq_true g5
  simp only [AS.start,pvA,pvC,fvA,fvC,fmn,if_false,f0,f1,f2,f3,f4,f5,↓X03,wA,seval,wE]
  exact fin rfl (by rw [hV,decide_eq_true]; exact ⟨⟨g0,g1⟩,⟨g2,g3⟩,g4,g5,by omega⟩)
theorem Xak (a b:PV) (f:FV) (ha:a.rim.length<1000000) (hb:b.rim.length<1000000):Fn Tryz.prog 127 [pvA a,pvA b,fvA f] (.bool (decide (XaY a.rim.length b.rim.length f))):=by
 obtain ⟨V,hV⟩:∃ V,V=decide (XaY a.rim.length b.rim.length f):=⟨_,rfl⟩
 have fin:∀ {s:AS} {v:Bool},s.get 6=.bool v→v=V→RetOk (X2f Tryz.prog Tryz.f127 [] [] (.bool V)) s:=fun h e=>X0r rfl h (X02 _) (by rw [e])
 rw [← hV]
 refine Fq Tryz.call127 Tryz.func127 9 [] [] [] (by simp [X0o,X0s]) (X00 1000 ?_)
 by_cases g0:0≤f.EA
 rotate_left
 ·have f0:(0≤f.EA)=False:=eq_false g0
  simp only [AS.start,pvA,pvC,fvA,fvC,f0,↓X03,wA,seval,wE]
  exact fin rfl (by rw [hV,decide_eq_false fun h=>g0 h.1.1])
 have f0:(0≤f.EA)=True:=eq_true g0
 by_cases g1:f.EA<(a.rim.length:Int)
 rotate_left
 ·have f1:(f.EA<(a.rim.length:Int))=False:=eq_false g1
  simp only [AS.start,pvA,pvC,fvA,fvC,f0,f1,↓X03,wA,seval,wE]
  exact fin rfl (by rw [hV,decide_eq_false fun h=>g1 h.1.2])
 have f1:(f.EA<(a.rim.length:Int))=True:=eq_true g1
 by_cases g2:0≤f.EB
 rotate_left
 ·have f2:(0≤f.EB)=False:=eq_false g2
  simp only [AS.start,pvA,pvC,fvA,fvC,f0,f1,f2,↓X03,wA,seval,wE]
  exact fin rfl (by rw [hV,decide_eq_false fun h=>g2 h.2.1.1])
 have f2:(0≤f.EB)=True:=eq_true g2
 by_cases g3:f.EB<(b.rim.length:Int)
 rotate_left
 ·have f3:(f.EB<(b.rim.length:Int))=False:=eq_false g3
  simp only [AS.start,pvA,pvC,fvA,fvC,f0,f1,f2,f3,↓X03,wA,seval,wE]
  exact fin rfl (by rw [hV,decide_eq_false fun h=>g3 h.2.1.2])
 have f3:(f.EB<(b.rim.length:Int))=True:=eq_true g3
 by_cases g4:1≤f.M
 rotate_left
 ·have f4:(1≤f.M)=False:=eq_false g4
  simp only [AS.start,pvA,pvC,fvA,fvC,f0,f1,f2,f3,f4,↓X03,wA,seval,wE]
  exact fin rfl (by rw [hV,decide_eq_false fun h=>g4 h.2.2.1])
 have f4:(1≤f.M)=True:=eq_true g4
 by_cases g5:f.M<(a.rim.length:Int)
 rotate_left
 ·have f5:(f.M<(a.rim.length:Int))=False:=eq_false g5
  simp only [AS.start,pvA,pvC,fvA,fvC,f0,f1,f2,f3,f4,f5,↓X03,wA,seval,wE]
  exact fin rfl (by rw [hV,decide_eq_false fun h=>g5 h.2.2.2.1])
 have f5:(f.M<(a.rim.length:Int))=True:=eq_true g5
 by_cases g6:f.M<(b.rim.length:Int)
 rotate_left
 ·have f6:(f.M<(b.rim.length:Int))=False:=eq_false g6
  simp only [AS.start,pvA,pvC,fvA,fvC,f0,f1,f2,f3,f4,f5,f6,↓X03,wA,seval,wE]
  exact fin rfl (by rw [hV,decide_eq_false fun h=>g6 h.2.2.2.2])
 have f6:(f.M<(b.rim.length:Int))=True:=eq_true g6
 simp only [AS.start,pvA,pvC,fvA,fvC,f0,f1,f2,f3,f4,f5,f6,↓X03,wA,seval,wE]
 exact fin rfl (by rw [hV,decide_eq_true]; exact ⟨⟨g0,g1⟩,⟨g2,g3⟩,g4,g5,g6⟩)
def edD (R:List (Int×Int)) (k:Nat):Int×Int:=((R.getD ((k+1) % R.length) (0,0)).1 - (R.getD k (0,0)).1,(R.getD ((k+1) % R.length) (0,0)).2 - (R.getD k (0,0)).2)
def edV (R:List (Int×Int)) (k:Nat):V2:=(ptV (R.getD ((k+1) % R.length) (0,0))).sub (ptV (R.getD k (0,0)))
def sqI (R:List (Int×Int)) (k:Nat):Int:=(edD R k).1*(edD R k).1+(edD R k).2*(edD R k).2
theorem Xlu (R:List (Int×Int)) (k:Nat):edV R k=⟨((edD R k).1:Rat),((edD R k).2:Rat)⟩:=by
 unfold edV edD V2.sub ptV
 simp only [Rat.intCast_sub]
def X2e (R:List (Int×Int)):Prop:=∀ c∈R,(-65536≤c.1∧c.1≤65536)∧(-65536≤c.2∧c.2≤65536)
theorem X7y {R:List (Int×Int)} (h:X2e R) (i:Nat):(-65536≤(R.getD i (0,0)).1∧(R.getD i (0,0)).1≤65536)∧(-65536≤(R.getD i (0,0)).2∧(R.getD i (0,0)).2≤65536):=by
 rw [List.getD_eq_getElem?_getD]
 cases hx:R[i]? with
 | none=>exact ⟨⟨by decide,by decide⟩,⟨by decide,by decide⟩⟩
 | some c=>exact h c (List.mem_of_getElem? hx)
theorem X4J {R:List (Int×Int)} (h:X2e R):∀ i,i<R.length→Xdp (R.getD i (0,0))=true:=fun i _=>by
 have:=X7y h i
 unfold Xdp wb
 simp only [Bool.and_eq_true,decide_eq_true_eq]
 omega
theorem X96 {R:List (Int×Int)} (h:X2e R) (k:Nat):(-131072≤(edD R k).1∧(edD R k).1≤131072)∧(-131072≤(edD R k).2∧(edD R k).2≤131072):=by
 have h1:=X7y h k
 have h2:=X7y h ((k+1) % R.length)
 unfold edD
 simp only
 omega
theorem X58 {R:List (Int×Int)} (h:X2e R) (k:Nat):vb (edV R k)≤3:=by
 have:=X96 h k
 rw [Xlu]
 have q1:=X3j (edD R k).1 3 (by omega) (X1n ⟨by omega,by omega⟩)
 have q2:=X3j (edD R k).2 3 (by omega) (X1n ⟨by omega,by omega⟩)
 unfold vb
 simp only
 omega
theorem XhC (p:PV) (k:Nat) (hk:k<p.rim.length) (hl:p.rim.length<1000000) (hn:X2e p.rim):Fn Tryz.prog 121 [pvA p,I k] (.tup [I (edD p.rim k).1,I (edD p.rim k).2]):=by
 obtain ⟨D,hD⟩:∃ D,D=edD p.rim k:=⟨_,rfl⟩
 have h0:=X96 hn k
 rw [← hD] at h0 ⊢
 have hD1:(p.rim.getD ((k+1) % p.rim.length) (0,0)).1 - (p.rim.getD k (0,0)).1=D.1:=by rw [hD]; rfl
 have hD2:(p.rim.getD ((k+1) % p.rim.length) (0,0)).2 - (p.rim.getD k (0,0)).2=D.2:=by rw [hD]; rfl
 have f0:((p.rim.length:Int)=0)=False:=eq_false (by omega)
 have f0':(p.rim.length=0)=False:=eq_false (by omega)
 have r1:(k:Int).tmod p.rim.length=(k:Int):=by rw [show (k:Int).tmod p.rim.length=((k % p.rim.length:Nat):Int) from rfl,Nat.mod_eq_of_lt hk]
 have w1:IntKind.i64.wrap ((k:Int)+p.rim.length)=((k+p.rim.length:Nat):Int):=by rw [IntKind.wrap_i64]; omega
 have r2:((k+p.rim.length:Nat):Int).tmod p.rim.length=(k:Int):=by rw [show ((k+p.rim.length:Nat):Int).tmod p.rim.length=(((k+p.rim.length) % p.rim.length:Nat):Int) from rfl,Nat.add_mod_right,Nat.mod_eq_of_lt hk]
 have w2:=wj k (by omega)
 have r3:((k+1:Nat):Int).tmod p.rim.length=(((k+1) % p.rim.length:Nat):Int):=rfl
 have hm:(k+1) % p.rim.length<p.rim.length:=Nat.mod_lt _ (by omega)
 obtain ⟨m,hme⟩:∃ m,m=(k+1) % p.rim.length:=⟨_,rfl⟩
 rw [← hme] at hD1 hD2 r3 hm
 have f1:((k:Int)<p.rim.length)=True:=eq_true (by omega)
 have f2:(k<p.rim.length)=True:=eq_true hk
 have f3:((m:Int)<p.rim.length)=True:=eq_true (by omega)
 have f4:(m<p.rim.length)=True:=eq_true hm
 have f5:(k*2+2≤p.rim.length*2)=True:=eq_true (by omega)
 have f6:(m*2+2≤p.rim.length*2)=True:=eq_true (by omega)
 have v1:=ptF p.rim k
 have v2:=ptF p.rim m
 have w3:IntKind.i64.wrap D.1=D.1:=by rw [IntKind.wrap_i64]; omega
 have w4:IntKind.i64.wrap D.2=D.2:=by rw [IntKind.wrap_i64]; omega
 refine Fq Tryz.call121 Tryz.func121 9 [] [3,40000002] [] (by simp [X0o,X08]) (X00 1000 ?_)
 simp only [AS.start,pvA,pvC,f0,f0',f1,f2,f3,f4,f5,f6,r1,r2,r3,w1,w2,w3,w4,v1,v2,hD1,hD2,Int.toNat_natCast,↓X03,wA,seval,wE]
 exact Xmy rfl rfl rfl (X08 _) (X08 _) rfl rfl
theorem XhB (p:PV) (k:Nat) (hk:k<p.rim.length) (hl:p.rim.length<1000000) (hn:X2e p.rim):Fn Tryz.prog 45 [pvA p,I k] (vA (edV p.rim k)):=by
 have c1:=XhC p k hk hl hn
 have h0:=X96 hn k
 rw [Xlu]
 generalize edD p.rim k=D at *
 have c2:=Xbx D.1 D.2 ⟨by omega,by omega⟩ ⟨by omega,by omega⟩
 obtain ⟨R,hR⟩:∃ R,R=vA ⟨(D.1:Rat),(D.2:Rat)⟩:=⟨_,rfl⟩
 have sR:Settled R:=hR▸X0k _
 rw [← hR]
 refine Fq Tryz.call45 Tryz.func45 5 [] [] [] (by simp [X0o,X08]) (X00 1000 ?_)
 simp only [AS.start,pvA,pvC,↓X03,wA,seval,wE]
 refine X01 c1 rfl ?_
 simp only [↓X03,wA,seval,wE]
 refine X01 c2 rfl ?_
 simp only [↓X03,wA,seval,wE]
 exact X6f rfl X2z rfl rfl rfl sR (hR.trans rfl)
theorem Xbu (p:PV) (k:Nat) (hk:k<p.rim.length) (hl:p.rim.length<1000000) (hn:X2e p.rim):Fn Tryz.prog 113 [pvA p,I k] (I (sqI p.rim k)):=by
 have c1:=XhC p k hk hl hn
 have h0:=X96 hn k
 unfold sqI
 generalize edD p.rim k=D at *
 have b1:D.1*D.1≤131072*131072:=by
  rcases Int.le_total 0 D.1 with h | h
  ·exact Int.mul_le_mul h0.1.2 h0.1.2 h (by omega)
  ·have:=Int.mul_le_mul (show -D.1≤131072 by omega) (show -D.1≤131072 by omega) (by omega) (by omega)
   rwa [Int.neg_mul_neg] at this
 have b2:D.2*D.2≤131072*131072:=by
  rcases Int.le_total 0 D.2 with h | h
  ·exact Int.mul_le_mul h0.2.2 h0.2.2 h (by omega)
  ·have:=Int.mul_le_mul (show -D.2≤131072 by omega) (show -D.2≤131072 by omega) (by omega) (by omega)
   rwa [Int.neg_mul_neg] at this
 have b3:0≤D.1*D.1:=by
  rcases Int.le_total 0 D.1 with h | h
  ·exact Int.mul_nonneg h h
  ·exact Int.mul_nonneg_of_nonpos_of_nonpos h h
 have b4:0≤D.2*D.2:=by
  rcases Int.le_total 0 D.2 with h | h
  ·exact Int.mul_nonneg h h
  ·exact Int.mul_nonneg_of_nonpos_of_nonpos h h
 have w1:IntKind.i64.wrap (D.1*D.1)=D.1*D.1:=by rw [IntKind.wrap_i64]; omega
 have w2:IntKind.i64.wrap (D.2*D.2)=D.2*D.2:=by rw [IntKind.wrap_i64]; omega
 have w3:IntKind.i64.wrap (D.1*D.1+D.2*D.2)=D.1*D.1+D.2*D.2:=by rw [IntKind.wrap_i64]; omega
 refine Fq Tryz.call113 Tryz.func113 7 [] [] [] (by simp [X0o,X08]) (X00 1000 ?_)
 simp only [AS.start,pvA,pvC,↓X03,wA,seval,wE]
 refine X01 c1 rfl ?_
 simp only [w1,w2,w3,↓X03,wA,seval,wE]
 exact X0r rfl rfl (X08 _) rfl
theorem Xao (R:List (Int×Int)) (i:Nat):(X0Q R).getD i v0=ptV (R.getD i (0,0)):=by
 unfold X0Q
 rw [List.getD_eq_getElem?_getD,List.getD_eq_getElem?_getD,List.getElem?_map]
 cases R[i]? with
 | none=>show v0=ptV (0,0); unfold v0 ptV; simp
 | some c=>rfl
theorem XhJ (p:PV) (k:Nat) (hk:k<p.rim.length) (hl:p.rim.length<1000000) (hn:X2e p.rim):Fn Tryz.prog 115 [pvA p,I k] (vA (edV p.rim k)):=by
 have cr:=X9j p hl (X4J hn)
 have hlen:(X0Q p.rim).length=p.rim.length:=by simp [X0Q]
 have hs:=Xg8 (X4J hn)
 have hm:(k+1) % p.rim.length<p.rim.length:=Nat.mod_lt _ (by omega)
 have cs:=X29 ((X0Q p.rim).getD ((k+1) % p.rim.length) v0) ((X0Q p.rim).getD k v0) (by have:=hs ((k+1) % p.rim.length); unfold rm; omega) (by have:=hs k; unfold rm; omega)
 rw [show ((X0Q p.rim).getD ((k+1) % p.rim.length) v0).sub ((X0Q p.rim).getD k v0)=edV p.rim k by rw [Xao,Xao]; rfl] at cs
 obtain ⟨R,hR⟩:∃ R,R=vA (edV p.rim k):=⟨_,rfl⟩
 have sR:Settled R:=hR▸X0k _
 rw [← hR] at cs ⊢
 have w2:=wj k (by omega)
 have f0:((p.rim.length:Int)=0)=False:=eq_false (by omega)
 have f0':(p.rim.length=0)=False:=eq_false (by omega)
 have r3:((k+1:Nat):Int).tmod p.rim.length=(((k+1) % p.rim.length:Nat):Int):=rfl
 have v1:=vF (X0Q p.rim) k
 have v2:=vF (X0Q p.rim) ((k+1) % p.rim.length)
 generalize (k+1) % p.rim.length=m at *
 have f1:((k:Int)<p.rim.length)=True:=eq_true (by omega)
 have f2:(k<p.rim.length)=True:=eq_true hk
 have f3:((m:Int)<p.rim.length)=True:=eq_true (by omega)
 have f4:(m<p.rim.length)=True:=eq_true hm
 have f5:(k*8+8≤p.rim.length*8)=True:=eq_true (by omega)
 have f6:(m*8+8≤p.rim.length*8)=True:=eq_true (by omega)
 refine Fq Tryz.call115 Tryz.func115 6 [] [2] [] (by simp [X0o,X08]) (X00 1000 ?_)
 simp only [AS.start,pvA,pvC,↓X03,wA,seval,wE]
 refine X01 cr rfl ?_
 simp only [X05,hlen,f0,f0',f1,f2,f3,f4,f5,f6,w2,r3,v1,v2,Int.toNat_natCast,↓X03,wA,seval,wE]
 refine X01 cs rfl ?_
 simp only [hR,↓X03,wA,seval,wE]
 exact X6f rfl X2z rfl rfl rfl sR (hR.trans rfl)
def X9b (a:V2):V2:=⟨-a.x,-a.y⟩
theorem Xnd (a:V2):vb (X9b a)=vb a:=by
 unfold vb X9b
 simp only [Xg1]
theorem XmK (a:V2):a.scale (-1)=X9b a:=by
 unfold V2.scale X9b
 rw [V2.ext']
 exact ⟨by simp only; grind,by simp only; grind⟩
theorem XxA (a:V2):v0.sub a=X9b a:=by
 unfold V2.sub X9b v0
 rw [V2.ext']
 exact ⟨by simp only; grind,by simp only; grind⟩
theorem Xt1 (a:V2):dot (X9b a) (X9b a)=dot a a:=by unfold dot X9b; grind
theorem Xlo (R:List (Int×Int)) (k:Nat):dot (edV R k) (edV R k)=(sqI R k:Rat):=by
 rw [Xlu]
 unfold dot sqI
 simp only [Rat.intCast_add,Rat.intCast_mul]
theorem Xdl (t:Bool):WeakL [.bool false,.sl 0 0 (fun _=>.any) t,.bool false,.sl 0 0 (fun _=>.any) t,.bool false,.sl 0 0 (fun _=>.any) t,.bool false,.sl 0 0 (fun _=>.any) t] (vC v0) :=
 have h1:X0i (0:Rat).num.natAbs=[]:=by rw [Rat.zero_num]; simp [X0O]
 have h2:X0i (qd (0:Rat))=[]:=X8M rfl
 ⟨Weak.rfl' _,X1i h1,Weak.rfl' _,X1i h2,Weak.rfl' _,X1i h1,Weak.rfl' _,X1i h2,trivial⟩
def inR (n m:Nat) (i j:Int):Prop:=(0≤i∧i<n)∧0≤j∧j<m
noncomputable def X1R (a b:List (Int×Int)) (i j:Int):V2×Bool :=
 if inR a.length b.length i j then ((X26 (X9b (edV b j.toNat)) (edV a i.toNat)).1,decide ((X26 (X9b (edV b j.toNat)) (edV a i.toNat)).2=0)) else (v0,false)
theorem Xdz (a b:V2) (h:dot a a≠dot b b):(X26 a b).1=v0∧(X26 a b).2≠0:=by
 unfold X26
 by_cases h0:dot a a=0∨dot b b=0
 ·rw [if_pos h0]; exact ⟨rfl,by decide⟩
 ·rw [if_neg h0,if_neg h]; exact ⟨rfl,by decide⟩
theorem XqB (a b:V2) (k:Nat) (ha:vb a≤k) (hb:vb b≤k):vb (X26 a b).1≤8*k+2:=by
 have q0:=X5G
 have z:vb v0≤8*k+2:=by unfold vb v0; simp only; omega
 have q1:=X4K a a; have q3:=X4K a b; have q4:=X6v a b
 have d1:=Xry (dot a b) (dot a a); have d2:=Xry (X1E a b) (dot a a)
 unfold X26
 by_cases h0:dot a a=0∨dot b b=0
 ·rw [if_pos h0]; exact z
 ·rw [if_neg h0]
  by_cases h1:dot a a=dot b b
  ·rw [if_pos h1]
   show max (qb (dot a b / dot a a)) (qb (X1E a b / dot a a))≤_
   omega
  ·rw [if_neg h1]; exact z
theorem X4E {a b:List (Int×Int)} (ha:X2e a) (hb:X2e b) (i j:Int):vb (X1R a b i j).1≤26:=by
 unfold X1R
 by_cases h:inR a.length b.length i j
 ·rw [if_pos h]
  exact XqB _ _ 3 (by rw [Xnd]; exact X58 hb _) (X58 ha _)
 ·rw [if_neg h]
  have q0:=X5G
  unfold vb v0; simp only; omega
theorem Xjn (a b:PV) (i j:Int) (hla:a.rim.length<1000000) (hlb:b.rim.length<1000000) (na:X2e a.rim) (nb:X2e b.rim):Fn Tryz.prog 39 [pvA a,pvA b,I i,I j] (.tup [vA (X1R a.rim b.rim i j).1,.bool (X1R a.rim b.rim i j).2]):=by
 obtain ⟨R,hR⟩:∃ R,R=X1R a.rim b.rim i j:=⟨_,rfl⟩
 rw [← hR]
 have zret:∀ {s:AS} {ver id':Nat},s.get 8=.ref id' ver 0→s.h[id']?=some (.row ver 8 (ofL X5W))→s.get 9=.bool false→R=(v0,false)→RetOk (X2f Tryz.prog Tryz.f39 [3,40000004,40000005] [] (.tup [vA R.1,.bool R.2])) s:=fun h1 h2 h3 h4=>by
  subst h4
  exact X1s rfl (X0l X8Y h1 h2 rfl) (by unfold X1F; rfl) (X0n (X0k _) (X0I X3B)) (by rw [h3]; exact (X02 _).sees _)
 refine Fq Tryz.call39 Tryz.func39 12 [] [3,40000004,40000005] [] (by simp [X0o,X08]) (X00 1000 ?_)
 by_cases g0:i<0
 ·have f0:(i<0)=True:=eq_true g0
  simp only [AS.start,pvA,pvC,f0,↓X03,wA,seval,wE]
  exact zret rfl rfl rfl (by rw [hR]; unfold X1R; rw [if_neg (by unfold inR; omega)])
 have f0:(i<0)=False:=eq_false g0
 by_cases g1:(a.rim.length:Int)≤i
 ·have f1:((a.rim.length:Int)≤i)=True:=eq_true g1
  simp only [AS.start,pvA,pvC,f0,f1,↓X03,wA,seval,wE]
  exact zret rfl rfl rfl (by rw [hR]; unfold X1R; rw [if_neg (by unfold inR; omega)])
 have f1:((a.rim.length:Int)≤i)=False:=eq_false g1
 by_cases g2:j<0
 ·have f2:(j<0)=True:=eq_true g2
  simp only [AS.start,pvA,pvC,f0,f1,f2,↓X03,wA,seval,wE]
  exact zret rfl rfl rfl (by rw [hR]; unfold X1R; rw [if_neg (by unfold inR; omega)])
 have f2:(j<0)=False:=eq_false g2
 by_cases g3:(b.rim.length:Int)≤j
 ·have f3:((b.rim.length:Int)≤j)=True:=eq_true g3
  simp only [AS.start,pvA,pvC,f0,f1,f2,f3,↓X03,wA,seval,wE]
  exact zret rfl rfl rfl (by rw [hR]; unfold X1R; rw [if_neg (by unfold inR; omega)])
 have f3:((b.rim.length:Int)≤j)=False:=eq_false g3
 obtain ⟨i,rfl⟩:∃ n:Nat,i=n:=⟨i.toNat,by omega⟩
 obtain ⟨j,rfl⟩:∃ n:Nat,j=n:=⟨j.toNat,by omega⟩
 have hin:inR a.rim.length b.rim.length i j:=by unfold inR; omega
 have hR1:R=((X26 (X9b (edV b.rim j)) (edV a.rim i)).1,decide ((X26 (X9b (edV b.rim j)) (edV a.rim i)).2=0)):=by rw [hR]; unfold X1R; rw [if_pos hin]; rfl
 have s1:=Xbu a i (by omega) hla na
 have s2:=Xbu b j (by omega) hlb nb
 simp only [AS.start,pvA,pvC,f0,f1,f2,f3,↓X03,wA,seval,wE]
 refine X01 s1 rfl ?_
 simp only [f0,f1,f2,f3,↓X03,wA,seval,wE]
 refine X01 s2 rfl ?_
 by_cases hs:sqI a.rim i=sqI b.rim j
 rotate_left
 ·have fs:(sqI a.rim i=sqI b.rim j)=False:=eq_false hs
  simp only [fs,↓X03,wA,seval,wE]
  refine zret rfl rfl rfl ?_
  have hd:=Xdz (X9b (edV b.rim j)) (edV a.rim i) (by rw [Xt1,Xlo,Xlo]; exact fun h=>hs (Rat.intCast_inj.1 h).symm)
  rw [hR1,hd.1,decide_eq_false hd.2]
 have fs:(sqI a.rim i=sqI b.rim j)=True:=eq_true hs
 have e1:=XhB b j (by omega) hlb nb
 have e2:=XhB a i (by omega) hla na
 have k1:=X58 nb j; have k2:=X58 na i
 have o1:=X7P (-1) 1 ⟨by omega,by omega⟩ ⟨by omega,by omega⟩
 rw [show Rat.divInt (-1) 1 = -1 by decide +kernel] at o1
 have o2:=Xew (edV b.rim j) (-1) (by unfold vm; omega) (by have:=X5O (-1) 1 ⟨by omega,by omega⟩ ⟨by omega,by omega⟩; rw [show Rat.divInt (-1) 1 = -1 by decide +kernel] at this; unfold vm; omega)
 rw [XmK] at o2
 have o3:=Xmi (X9b (edV b.rim j)) (edV a.rim i) (by rw [Xnd]; omega) (by omega)
 generalize X26 (X9b (edV b.rim j)) (edV a.rim i)=X at *
 simp only [fs,↓X03,wA,seval,wE]
 refine X01 e1 rfl ?_
 simp only [↓X03,wA,seval,wE]
 refine X01 o1 rfl ?_
 simp only [↓X03,wA,seval,wE]
 refine X01 o2 rfl ?_
 simp only [↓X03,wA,seval,wE]
 refine X01 e2 rfl ?_
 simp only [↓X03,wA,seval,wE]
 refine X01 o3 rfl ?_
 simp only [↓X03,wA,seval,wE]
 subst hR1
 exact X1s rfl (X0l X8Y rfl rfl rfl) (by unfold X1F; rfl) (X0n (X0k _) (X0I (X0X (vC X.1)))) ((X02 _).sees _)
theorem XbB (a b:PV) (i j:Int) (hla:a.rim.length<1000000) (hlb:b.rim.length<1000000) (na:X2e a.rim) (nb:X2e b.rim):Fn Tryz.prog 40 [pvA a,pvA b,I i,I j] (.tup [vA (X1R a.rim b.rim i j).1,.bool (X1R a.rim b.rim i j).2]):=by
 obtain ⟨R,hR⟩:∃ R,R=X1R a.rim b.rim i j:=⟨_,rfl⟩
 rw [← hR]
 have zret:∀ {s:AS} {ver id':Nat},s.get 8=.ref id' ver 0→s.h[id']?=some (.row ver 8 (ofL X5W))→s.get 9=.bool false→R=(v0,false)→RetOk (X2f Tryz.prog Tryz.f40 [] [] (.tup [vA R.1,.bool R.2])) s:=fun h1 h2 h3 h4=>by
  subst h4
  exact X1s rfl (X0l X8Y h1 h2 rfl) (by unfold X1F; rfl) (X0n (X0k _) (X0I X3B)) (by rw [h3]; exact (X02 _).sees _)
 refine Fq Tryz.call40 Tryz.func40 14 [] [] [] (by simp [X0o,X08]) (X00 1000 ?_)
 by_cases g0:i<0
 ·have f0:(i<0)=True:=eq_true g0
  simp only [AS.start,pvA,pvC,f0,↓X03,wA,seval,wE]
  exact zret rfl rfl rfl (by rw [hR]; unfold X1R; rw [if_neg (by unfold inR; omega)])
 have f0:(i<0)=False:=eq_false g0
 by_cases g1:(a.rim.length:Int)≤i
 ·have f1:((a.rim.length:Int)≤i)=True:=eq_true g1
  simp only [AS.start,pvA,pvC,f0,f1,↓X03,wA,seval,wE]
  exact zret rfl rfl rfl (by rw [hR]; unfold X1R; rw [if_neg (by unfold inR; omega)])
 have f1:((a.rim.length:Int)≤i)=False:=eq_false g1
 by_cases g2:j<0
 ·have f2:(j<0)=True:=eq_true g2
  simp only [AS.start,pvA,pvC,f0,f1,f2,↓X03,wA,seval,wE]
  exact zret rfl rfl rfl (by rw [hR]; unfold X1R; rw [if_neg (by unfold inR; omega)])
 have f2:(j<0)=False:=eq_false g2
 by_cases g3:(b.rim.length:Int)≤j
 ·have f3:((b.rim.length:Int)≤j)=True:=eq_true g3
  simp only [AS.start,pvA,pvC,f0,f1,f2,f3,↓X03,wA,seval,wE]
  exact zret rfl rfl rfl (by rw [hR]; unfold X1R; rw [if_neg (by unfold inR; omega)])
 have f3:((b.rim.length:Int)≤j)=False:=eq_false g3
 obtain ⟨i,rfl⟩:∃ n:Nat,i=n:=⟨i.toNat,by omega⟩
 obtain ⟨j,rfl⟩:∃ n:Nat,j=n:=⟨j.toNat,by omega⟩
 have hin:inR a.rim.length b.rim.length i j:=by unfold inR; omega
 have hR1:R=((X26 (X9b (edV b.rim j)) (edV a.rim i)).1,decide ((X26 (X9b (edV b.rim j)) (edV a.rim i)).2=0)):=by rw [hR]; unfold X1R; rw [if_pos hin]; rfl
 have e1:=XhJ b j (by omega) hlb nb
 have e2:=XhJ a i (by omega) hla na
 have k1:=X58 nb j; have k2:=X58 na i
 have o2:=X29 v0 (edV b.rim j) (by have:=X5G; unfold vb v0 rm; simp only; omega) (by unfold rm; omega)
 rw [XxA] at o2
 have o3:=XeD (X9b (edV b.rim j)) (edV a.rim i) (by rw [Xnd]; omega) (by omega)
 generalize X26 (X9b (edV b.rim j)) (edV a.rim i)=X at *
 simp only [AS.start,pvA,pvC,f0,f1,f2,f3,↓X03,wA,seval,wE]
 refine X01 e2 rfl ?_
 simp only [↓X03,wA,seval,wE]
 refine X01 e1 rfl ?_
 simp only [↓X03,wA,seval,wE]
 refine X17 o2 ⟨X0I (Xdl _),Weak.rfl' _,trivial⟩ ?_
 simp only [↓X03,wA,seval,wE]
 refine X01 o3 rfl ?_
 simp only [↓X03,wA,seval,wE]
 subst hR1
 exact X1s rfl (X0l X8Y rfl rfl rfl) (by unfold X1F; rfl) (X0n (X0k _) (X0I (X0X (vC X.1)))) ((X02 _).sees _)
def xK (n:Nat) (f:FV) (k:Nat):Nat:=((f.EA+k) % n).toNat
def yK (m:Nat) (f:FV) (k:Nat):Nat:=((f.EB - k) % m).toNat
theorem XeT (n:Nat) (f:FV) (k:Nat) (h:0<n):(f.EA+k) % (n:Int)=(xK n f k:Int):=by
 have:=Int.emod_nonneg (f.EA+k) (show (n:Int)≠0 by omega)
 unfold xK; omega
theorem XjO (m:Nat) (f:FV) (k:Nat) (h:0<m):(f.EB - k) % (m:Int)=(yK m f k:Int):=by
 have:=Int.emod_nonneg (f.EB - k) (show (m:Int)≠0 by omega)
 unfold yK; omega
theorem XqO (n:Nat) (f:FV) (k:Nat) (h:0<n):xK n f k<n:=by
 have:=XeT n f k h
 have:=Int.emod_lt_of_pos (f.EA+k) (show (0:Int)<n by omega)
 omega
theorem XxE (m:Nat) (f:FV) (k:Nat) (h:0<m):yK m f k<m:=by
 have:=XjO m f k h
 have:=Int.emod_lt_of_pos (f.EB - k) (show (0:Int)<m by omega)
 omega
def Xbg (n m:Nat) (f:FV):List (Int×Int):=(List.range f.M.toNat).map fun k=>((xK n f k:Int),(yK m f k:Int))
theorem Xd6 {α:Type} (f:Nat→α) (d:α) (n j:Nat) (h:j<n):((List.range n).map f).getD j d=f j:=by
 rw [List.getD_eq_getElem?_getD,List.getElem?_map,List.getElem?_range h]; rfl
theorem X8k (n m:Nat) (f:FV):(Xbg n m f).length=f.M.toNat:=by simp [Xbg]
theorem Xu4 {P:Program} {fn:Func} {str hcs:List Nat} {s:AS} {t id ver:Nat} (L:List (Int×Int)) (hr:fn.results=#[.tmp t]) (hs:s.get t=.osl id ver 2 0 L.length) (ho:s.h[id]?=some (.row ver (L.length*2) (X0M ptC 2 (0,0) L))):RetOk (X2f P fn str hcs (pts L)) s:=by
 refine X8R hr ?_
 rw [hs,X0e]
 refine X1e (.inl ho) (by omega) (fun h=>by rw [h]) fun j hj=>?_
 rw [Nat.zero_add]
 exact (X0c (X2C _) _).sees _
theorem X8u (c:Int×Int):∀ j,j<2→((ptC c).getD j .any).one=true:=fun j hj=>by
 match j,hj with
 | 0,_=>rfl
 | 1,_=>rfl
 | j+2,h=>omega
theorem Xh1 (a b:PV) (f:FV) (hf:XaY a.rim.length b.rim.length f) (ha:a.rim.length<1000000) (hb:b.rim.length<1000000):Fn Tryz.prog 152 [pvA a,pvA b,fvA f] (pts (Xbg a.rim.length b.rim.length f)):=by
 obtain ⟨⟨s1,s2⟩,⟨s3,s4⟩,s5,s6,s7⟩:=hf
 obtain ⟨N,hN⟩:∃ N:Nat,f.M=N:=⟨f.M.toNat,by omega⟩
 obtain ⟨L,hL⟩:∃ L,L=Xbg a.rim.length b.rim.length f:=⟨_,rfl⟩
 have hlen:L.length=N:=by rw [hL,X8k,hN]; rfl
 have hat:∀ k,k<N→L.getD k (0,0)=((xK a.rim.length f k:Int),(yK b.rim.length f k:Int)):=fun k hk=>by rw [hL]; exact Xd6 _ _ _ _ (by omega)
 rw [← hL]
 have ba:X1j 4 (.con 0 25 (ofL (pvC a)))=True:=eq_true (fun j _=>X06 (X0c (X0w a) j))
 have bb:X1j 4 (.con 0 25 (ofL (pvC b)))=True:=eq_true (fun j _=>X06 (X0c (X0w b) j))
 have bf:X1j 4 (.con 0 29 (ofL (fvC f)))=True:=eq_true (fun j _=>X06 (X0c (X10 f) j))
 have br:∀ i l n,X1j 4 (.row i n (X0M ptC 2 (0,0) l))=True:=fun i l n=>eq_true fun j _=>X06 (X0c (X2C _) _)
 refine Fq Tryz.call152 Tryz.func152 9 [10,11] [5,60000003,60000004,60000005] [] (by simp [X0o,X0s]) (X00 1000 ?_)
 simp only [AS.start,pvA,pvC,fvA,fvC,↓X03,wA,seval,wE]
 refine X0d (fun k:Nat=>⟨9,[10,11],[.any,.any,.any,.ref 0 0 0,.ref 1 0 0,.ref 2 0 0,.any,.osl 3 k 2 0 k,.any],[(10,I f.M),(11,I k)],[.con 0 25 (ofL (pvC a)),.con 0 25 (ofL (pvC b)),.con 0 29 (ofL (fvC f)),.row k (k*2) (X0M ptC 2 (0,0) (L.take k))]⟩) (fun k=>k≤N) (fun k=>N - k) 0 (by omega)
  (Sub.trans (X1a 0 rfl) (Sub.trans (X1a 1 rfl) (Sub.trans (X1a 2 rfl) (Sub.trans (X0W 7 2 (X0M ptC 2 (0,0) []) rfl) (X09 rfl (by simp [AS.put,X0p,I]) (by simp [AS.put,X0q,X0P,I]) (by simp [AS.put,pvC,fvC,X0e,X0j,X04,I])))))) ?_
 intro k hk next
 have w1:=wj k (by omega)
 by_cases hk2:k<N
 ·have f1:((k:Int)<f.M)=True:=eq_true (by omega)
  have wx:IntKind.i64.wrap (f.EA+(k:Int))=f.EA+(k:Int):=by rw [IntKind.wrap_i64]; omega
  have wy:IntKind.i64.wrap (f.EB - (k:Int))=f.EB - (k:Int):=by rw [IntKind.wrap_i64]; omega
  have c1:=X6o (f.EA+(k:Int)) a.rim.length (by omega) (by omega) (by omega)
  have c2:=X6o (f.EB - (k:Int)) b.rim.length (by omega) (by omega) (by omega)
  rw [XeT _ _ _ (by omega)] at c1
  rw [XjO _ _ _ (by omega)] at c2
  have hap:=X0E ptC 2 (0,0) (L.take k) (L.getD k (0,0)) (by omega)
  rw [← X4i _ _ (by omega),hat k hk2,show (L.take k).length=k by simp; omega] at hap
  refine X00 1000 ?_
  simp only [pvC,fvC,X0e,w1,wx,wy,f1,Int.toNat_natCast,↓X03,wA,seval,wE]
  refine X01 c1 rfl ?_
  simp only [pvC,fvC,X0e,w1,wx,wy,f1,Int.toNat_natCast,↓X03,wA,seval,wE]
  refine X01 c2 rfl ?_
  simp only [pvC,fvC,X0e,w1,wx,wy,f1,Int.toNat_natCast,↓X03,wA,seval,wE]
  exact ⟨⟨X8u ((xK a.rim.length f k:Int),(yK b.rim.length f k:Int)),by omega,by omega⟩,next (k+1) _ (by omega) (by omega) (X0t (m:=4) (Nat.zero_le _) rfl (by simp [X0p,I]) (by simp [X0q,X0P,I]) (by rw [← hap]; simp [pvC,fvC,X0e,X0j,X04,I,ptC]) (by simp [X0L]) (by simp [X0L]) (by simp [ba,bb,bf,br]))⟩
 obtain rfl:k=N:=by omega
 have f1:((k:Int)<f.M)=False:=eq_false (by omega)
 refine X00 1000 ?_
 simp only [pvC,fvC,f1,↓X03,wA,seval,wE]
 rw [List.take_of_length_le (by omega)]
 exact Xu4 _ rfl (by rw [hlen]; rfl) (by rw [hlen]; rfl)
def Xnp (wa wb:Bool) (x y:Int):Bool:=wa || wb || (decide (x≠y) && decide (x≠0) && decide (y≠0))
def Xsh (a b:PV) (f:FV) (k:Nat):Bool:=Xnp (a.worn.getD (xK a.rim.length f k) false) (b.worn.getD (yK b.rim.length f k) false) (a.marks.getD (xK a.rim.length f k) 0) (b.marks.getD (yK b.rim.length f k) 0)
def XhD (a b:PV) (f:FV):Prop:=∀ k,k<f.M.toNat→Xsh a b f k=false
theorem XgR (wa wb:Bool) (x y:Int) :
  (Xnp wa wb x y=true∧wa=true∧True∧True∧True∧True)∨(Xnp wa wb x y=true∧wa=false∧wb=true∧True∧True∧True)∨(Xnp wa wb x y=false∧wa=false∧wb=false∧(x=y)=True∧True∧True) ∨
  (Xnp wa wb x y=false∧wa=false∧wb=false∧(x=y)=False∧(x=0)=True∧True)∨(Xnp wa wb x y=false∧wa=false∧wb=false∧(x=y)=False∧(x=0)=False∧(y=0)=True) ∨
  (Xnp wa wb x y=true∧wa=false∧wb=false∧(x=y)=False∧(x=0)=False∧(y=0)=False):=by
 unfold Xnp
 cases wa
 rotate_left
 ·exact .inl ⟨rfl,rfl,trivial,trivial,trivial,trivial⟩
 cases wb
 rotate_left
 ·exact .inr (.inl ⟨rfl,rfl,rfl,trivial,trivial,trivial⟩)
 by_cases h1:x=y
 ·exact .inr (.inr (.inl ⟨by simp [h1],rfl,rfl,eq_true h1,trivial,trivial⟩))
 by_cases h2:x=0
 ·exact .inr (.inr (.inr (.inl ⟨by simp [h2],rfl,rfl,eq_false h1,eq_true h2,trivial⟩)))
 by_cases h3:y=0
 ·exact .inr (.inr (.inr (.inr (.inl ⟨by simp [h3],rfl,rfl,eq_false h1,eq_false h2,eq_true h3⟩))))
 ·exact .inr (.inr (.inr (.inr (.inr ⟨by simp [h1,h2,h3],rfl,rfl,eq_false h1,eq_false h2,eq_false h3⟩))))
structure PV.even (p:PV):Prop where
 rim:p.rim.length<1000000
 worn:p.worn.length=p.rim.length
 marks:p.marks.length=p.rim.length
 near:X2e p.rim
theorem XfW (a b:PV) (f:FV) (hf:XaY a.rim.length b.rim.length f) (ha:a.even) (hb:b.even):Fn Tryz.prog 132 [pvA a,pvA b,fvA f] (.bool (decide (XhD a b f))):=by
 have ce:=Xh1 a b f hf ha.rim hb.rim
 obtain ⟨⟨s1,s2⟩,⟨s3,s4⟩,s5,s6,s7⟩:=hf
 obtain ⟨N,hN⟩:∃ N:Nat,f.M=N:=⟨f.M.toNat,by omega⟩
 have la:=ha.rim; have lb:=hb.rim
 obtain ⟨V,hV⟩:∃ V,V=decide (XhD a b f):=⟨_,rfl⟩
 rw [← hV]
 obtain ⟨L,hL⟩:∃ L,L=Xbg a.rim.length b.rim.length f:=⟨_,rfl⟩
 have hlen:L.length=N:=by rw [hL,X8k,hN]; rfl
 have hat:∀ k,k<N→L.getD k (0,0)=((xK a.rim.length f k:Int),(yK b.rim.length f k:Int)):=fun k hk=>by rw [hL]; exact Xd6 _ _ _ _ (by omega)
 rw [← hL] at ce
 clear hL
 have fin:∀ {s:AS} {v:Bool},s.get 6=.bool v→v=V→RetOk (X2f Tryz.prog Tryz.f132 [] [] (.bool V)) s:=fun h e=>X0r rfl h (X02 _) (by rw [e])
 have ba:X1j 3 (.row 0 25 (ofL (pvC a)))=True:=eq_true (X0B (X0w a))
 have bb:X1j 3 (.row 0 25 (ofL (pvC b)))=True:=eq_true (X0B (X0w b))
 have bf:X1j 3 (.row 0 29 (ofL (fvC f)))=True:=eq_true (X0B (X10 f))
 have bL:Bel 3 (pts L)=True:=eq_true (X06 (X1c _))
 refine Fq Tryz.call132 Tryz.func132 12 [15,16,17] [] [] (by simp [X0o,X0s]) (X00 1000 ?_)
 simp only [AS.start,pvA,pvC,fvA,fvC,↓X03,wA,seval,wE]
 refine X01 ce rfl ?_
 simp only [X0e,hlen,↓X03,wA,seval,wE]
 refine X0d (fun k:Nat=>⟨12,[15,16,17],[.any,.any,.any,.ref 0 0 0,.ref 1 0 0,.ref 2 0 0,.any,.bool true,.any,.any,.any,.any],[(15,pts L),(16,I N),(17,I k)],[.row 0 25 (ofL (pvC a)),.row 0 25 (ofL (pvC b)),.row 0 29 (ofL (fvC f))]⟩) (fun k=>k≤N∧∀ j,j<k→Xsh a b f j=false) (fun k=>N - k) 0 ⟨by omega,by omega⟩
  (X09 rfl (by simp [X0p,I]) (by simp [X0q,X0P,X0e,hlen,I]) (by simp [pvC,fvC,X0e,X0j,X04,I])) ?_
 rintro k ⟨hk,hok⟩ next
 have w1:=wj k (by omega)
 by_cases hk2:k<N
 rotate_left
 ·obtain rfl:k=N:=by omega
  refine X00 1000 ?_
  simp only [pvC,fvC,Int.lt_irrefl,Nat.lt_irrefl,↓X03,wA,seval,wE]
  exact fin rfl (by rw [hV,decide_eq_true]; exact fun j hj=>hok j (by omega))
 have nx:=next (k+1)
 have f1:((k:Int)<N)=True:=eq_true (by omega)
 have f2:(k<N)=True:=eq_true hk2
 have f3:(k*2+2≤N*2)=True:=eq_true (by omega)
 have v1:=ptF L k
 rw [hat k hk2] at v1
 have hx:=XqO a.rim.length f k (by omega)
 have hy:=XxE b.rim.length f k (by omega)
 have ex:=XeT a.rim.length f k (by omega)
 have ey:=XjO b.rim.length f k (by omega)
 have six:=XgR (a.worn.getD (xK a.rim.length f k) false) (b.worn.getD (yK b.rim.length f k) false) (a.marks.getD (xK a.rim.length f k) 0) (b.marks.getD (yK b.rim.length f k) 0)
 have hbad:Xsh a b f k=Xnp (a.worn.getD (xK a.rim.length f k) false) (b.worn.getD (yK b.rim.length f k) false) (a.marks.getD (xK a.rim.length f k) 0) (b.marks.getD (yK b.rim.length f k) 0):=rfl
 rw [← hbad] at six
 clear hbad
 have no:Xsh a b f k=true→false=V:=fun h=>by rw [hV,decide_eq_false]; intro hp; rw [hp k (by omega)] at h; cases h
 generalize xK a.rim.length f k=X at *
 generalize yK b.rim.length f k=Y at *
 have g1:((X:Int)<a.worn.length)=True:=eq_true (by have:=ha.worn; omega)
 have g2:(X<a.worn.length)=True:=eq_true (by have:=ha.worn; omega)
 have g3:((Y:Int)<b.worn.length)=True:=eq_true (by have:=hb.worn; omega)
 have g4:(Y<b.worn.length)=True:=eq_true (by have:=hb.worn; omega)
 have g5:((X:Int)<a.marks.length)=True:=eq_true (by have:=ha.marks; omega)
 have g6:(X<a.marks.length)=True:=eq_true (by have:=ha.marks; omega)
 have g7:((Y:Int)<b.marks.length)=True:=eq_true (by have:=hb.marks; omega)
 have g8:(Y<b.marks.length)=True:=eq_true (by have:=hb.marks; omega)
 have n2:((2:Nat):Int)=2:=rfl
 have t1:(1:Int).toNat=1:=rfl
 rcases six with ⟨hB,q1,q2,q3,q4,q5⟩ | ⟨hB,q1,q2,q3,q4,q5⟩ | ⟨hB,q1,q2,q3,q4,q5⟩ | ⟨hB,q1,q2,q3,q4,q5⟩ | ⟨hB,q1,q2,q3,q4,q5⟩ | ⟨hB,q1,q2,q3,q4,q5⟩
 all_goals
  refine X00 1000 ?_
  simp only [pvC,fvC,X0e,X0j,X04,hlen,w1,f1,f2,f3,v1,g1,g2,g3,g4,g5,g6,g7,g8,q1,q2,q3,q4,q5,n2,t1,Int.toNat_zero,Int.reduceLT,Int.reduceLE,Int.toNat_natCast,↓X03,wA,seval,wE]
  first
   | exact fin rfl (no hB)
   | exact nx _ ⟨by omega,X2t.2 ⟨hok,hB⟩⟩ (by omega) (X0t (m:=3) (Nat.zero_le _) rfl (by simp [X0p,I]) (by simp [X0q,X0P,X0e,hlen,I]) (by simp [pvC,fvC,X0e,X0j,X04,I]) (by simp [X0L]) (by simp [X0L,bL]) (by simp [ba,bb,bf]))
theorem X8S (a b:PV) (f:FV) (hf:XaY a.rim.length b.rim.length f) (ha:a.even) (hb:b.even):Fn Tryz.prog 149 [pvA a,pvA b,fvA f] (.bool (decide (XhD a b f))):=by
 obtain ⟨⟨s1,s2⟩,⟨s3,s4⟩,s5,s6,s7⟩:=hf
 obtain ⟨N,hN⟩:∃ N:Nat,f.M=N:=⟨f.M.toNat,by omega⟩
 have la:=ha.rim; have lb:=hb.rim
 obtain ⟨V,hV⟩:∃ V,V=decide (XhD a b f):=⟨_,rfl⟩
 rw [← hV]
 have fin:∀ {s:AS} {v:Bool},s.get 6=.bool v→v=V→RetOk (X2f Tryz.prog Tryz.f149 [] [] (.bool V)) s:=fun h e=>X0r rfl h (X02 _) (by rw [e])
 refine Fq Tryz.call149 Tryz.func149 10 [] [] [] (by simp [X0o,X0s]) (X00 1000 ?_)
 simp only [AS.start,pvA,pvC,fvA,fvC,↓X03,wA,seval,wE]
 refine X0d (fun k:Nat=>⟨10,[],[.any,.any,.any,.ref 0 0 0,.ref 1 0 0,.ref 2 0 0,.bool false,I k,.any,.any],[],[.row 0 25 (ofL (pvC a)),.row 0 25 (ofL (pvC b)),.row 0 29 (ofL (fvC f))]⟩) (fun k=>k≤N∧∀ j,j<k→Xsh a b f j=false) (fun k=>N - k) 0 ⟨by omega,by omega⟩
  (X09 rfl (by simp [X0p,I]) (by simp [X0q]) (by simp [pvC,fvC,X0e,X0j,X04,I])) ?_
 rintro k ⟨hk,hok⟩ next
 have w1:=wj k (by omega)
 by_cases hk2:k<N
 rotate_left
 ·have f1:((k:Int)<f.M)=False:=eq_false (by omega)
  refine X00 1000 ?_
  simp only [pvC,fvC,f1,↓X03,wA,seval,wE]
  exact fin rfl (by rw [hV,decide_eq_true]; exact fun j hj=>hok j (by omega))
 have nx:=next (k+1)
 have f1:((k:Int)<f.M)=True:=eq_true (by omega)
 have wx:IntKind.i64.wrap (f.EA+(k:Int))=f.EA+(k:Int):=by rw [IntKind.wrap_i64]; omega
 have wy:IntKind.i64.wrap (f.EB - (k:Int))=f.EB - (k:Int):=by rw [IntKind.wrap_i64]; omega
 have c1:=X0T (f.EA+(k:Int)) a.rim.length (by omega) (by omega) (by omega)
 have c2:=X0T (f.EB - (k:Int)) b.rim.length (by omega) (by omega) (by omega)
 have hx:=XqO a.rim.length f k (by omega)
 have hy:=XxE b.rim.length f k (by omega)
 have ex:=XeT a.rim.length f k (by omega)
 have ey:=XjO b.rim.length f k (by omega)
 have six:=XgR (a.worn.getD (xK a.rim.length f k) false) (b.worn.getD (yK b.rim.length f k) false) (a.marks.getD (xK a.rim.length f k) 0) (b.marks.getD (yK b.rim.length f k) 0)
 have hbad:Xsh a b f k=Xnp (a.worn.getD (xK a.rim.length f k) false) (b.worn.getD (yK b.rim.length f k) false) (a.marks.getD (xK a.rim.length f k) 0) (b.marks.getD (yK b.rim.length f k) 0):=rfl
 rw [← hbad] at six
 clear hbad
 have no:Xsh a b f k=true→false=V:=fun h=>by rw [hV,decide_eq_false]; intro hp; rw [hp k (by omega)] at h; cases h
 rw [ex] at c1
 rw [ey] at c2
 generalize xK a.rim.length f k=X at *
 generalize yK b.rim.length f k=Y at *
 have g1:((X:Int)<a.worn.length)=True:=eq_true (by have:=ha.worn; omega)
 have g2:(X<a.worn.length)=True:=eq_true (by have:=ha.worn; omega)
 have g3:((Y:Int)<b.worn.length)=True:=eq_true (by have:=hb.worn; omega)
 have g4:(Y<b.worn.length)=True:=eq_true (by have:=hb.worn; omega)
 have g5:((X:Int)<a.marks.length)=True:=eq_true (by have:=ha.marks; omega)
 have g6:(X<a.marks.length)=True:=eq_true (by have:=ha.marks; omega)
 have g7:((Y:Int)<b.marks.length)=True:=eq_true (by have:=hb.marks; omega)
 have g8:(Y<b.marks.length)=True:=eq_true (by have:=hb.marks; omega)
 have n2:((2:Nat):Int)=2:=rfl
 have t1:(1:Int).toNat=1:=rfl
 rcases six with ⟨hB,q1,q2,q3,q4,q5⟩ | ⟨hB,q1,q2,q3,q4,q5⟩ | ⟨hB,q1,q2,q3,q4,q5⟩ | ⟨hB,q1,q2,q3,q4,q5⟩ | ⟨hB,q1,q2,q3,q4,q5⟩ | ⟨hB,q1,q2,q3,q4,q5⟩
 all_goals
  refine X00 1000 ?_
  simp only [pvC,fvC,X0e,X0j,X04,w1,wx,wy,f1,Int.toNat_natCast,↓X03,wA,seval,wE]
  refine X01 c1 rfl ?_
  simp only [pvC,fvC,X0e,X0j,X04,w1,wx,wy,f1,Int.toNat_natCast,↓X03,wA,seval,wE]
  refine X01 c2 rfl ?_
  simp only [pvC,fvC,X0e,X0j,X04,w1,g1,g2,g3,g4,g5,g6,g7,g8,q1,q2,q3,q4,q5,n2,t1,Int.toNat_zero,Int.reduceLT,Int.reduceLE,Int.toNat_natCast,↓X03,wA,seval,wE]
  first
   | exact fin rfl (no hB)
   | exact nx _ ⟨by omega,X2t.2 ⟨hok,hB⟩⟩ (by omega) (X09 rfl (by simp [X0p,I]) (by simp [X0q]) (by simp [pvC,fvC,X0e,X0j,X04,I]))
def Xrj (p:V2→Bool) (s:List V2):Int:=if s.any p=true then (s.findIdx p:Nat) else -1
theorem X82 {s:List V2} {j:Nat} (h:j<s.length):s.getD j v0∈s:=by
 rw [List.getD_eq_getElem?_getD,List.getElem?_eq_getElem h]; exact List.getElem_mem h
theorem Xpq {p:V2→Bool} {s:List V2} {j:Nat} (hj:j<s.length) (h:p (s.getD j v0)=true) (hno:∀ i,i<j→p (s.getD i v0)=false):Xrj p s=j:=by
 have at_:∀ i (hi:i<s.length),s.getD i v0=s[i]:=fun i hi=>by rw [List.getD_eq_getElem?_getD,List.getElem?_eq_getElem hi]; rfl
 have e:s.findIdx p=j:=by
  rw [List.findIdx_eq hj]
  exact ⟨by rw [← at_ j hj]; exact h,fun i hi=>by rw [← at_ i (by omega)]; exact hno i hi⟩
 unfold Xrj
 rw [if_pos (List.any_eq_true.2 ⟨_,X82 hj,h⟩),e]
theorem XlK {p:V2→Bool} {s:List V2} (hno:∀ i,i<s.length→p (s.getD i v0)=false):Xrj p s = -1:=by
 unfold Xrj
 rw [if_neg]
 intro h
 obtain ⟨x,hx,hp⟩:=List.any_eq_true.1 h
 obtain ⟨i,hi,rfl⟩:=List.getElem_of_mem hx
 have:=hno i hi
 rw [List.getD_eq_getElem?_getD,List.getElem?_eq_getElem hi] at this
 simp only [Option.getD_some] at this
 rw [this] at hp; cases hp
theorem Xhg (p:V2→Bool) (s:List V2):decide (0≤Xrj p s)=s.any p:=by
 unfold Xrj
 cases h:s.any p
 ·simp
 ·rw [if_pos rfl]; exact decide_eq_true (by omega)
theorem XjG (s:List V2) (f:FuncId) (caps:List AV) (p:V2→Bool) (hl:s.length<1000000) (hc:∀ a∈caps,Settled a) (hp:∀ x∈s,Fn Tryz.prog f ([vA x] ++ caps) (.bool (p x))) :
  Fn Tryz.prog 205 [X0A s,.fn f caps] (I (Xrj p s)):=by
 refine Fn.intro (fn:=Tryz.f205) Tryz.call205 Tryz.func205 rfl mixed 6 [6,7,8] [] [] (by kernel_rfl) (Nat.le_of_ble_eq_true rfl) (by simpa [X0b] using X2p hc) (X00 1000 ?_)
 simp only [AS.start,X05,↓X03,wA,seval,wE]
 refine X0d (fun j:Nat=>⟨6,[6,7,8],[X0A s,.fn f caps,.any,.any,.any,.any],[(6,X0A s),(7,I s.length),(8,I j)],[]⟩) (fun j=>j≤s.length∧∀ i,i<j→p (s.getD i v0)=false) (fun j=>s.length - j) 0 ⟨by omega,by omega⟩
  (X09 rfl (by simp [X0p,X05,I]) (by simp [X0q,X0P,X05,I]) rfl) ?_
 rintro j ⟨hj,hno⟩ next
 have w1:=wj j (by omega)
 by_cases hj2:j<s.length
 ·have f1:((j:Int)<s.length)=True:=eq_true (by omega)
  have f2:(j<s.length)=True:=eq_true hj2
  have f3:(j*8+8≤s.length*8)=True:=eq_true (by omega)
  have v1:=vF s j
  refine X00 1000 ?_
  simp only [X05,w1,f1,f2,f3,v1,Int.toNat_natCast,↓X03,wA,seval,wE]
  refine X17 (hp _ (X82 hj2)) (X0X _) ?_
  simp only [w1,↓X03,wA,seval,wE]
  refine X1x (fun ht=>X0r (v:=I j) rfl rfl (X08 _) ?_) (fun hf=>next (j+1) _ ⟨by omega,X2t.2 ⟨hno,hf⟩⟩ (by omega) (X09 rfl (by simp [X0p,X05,I]) (by simp [X0q,X0P,X05,I]) rfl))
  rw [Xpq hj2 ht hno]
 ·have f1:((j:Int)<s.length)=False:=eq_false (by omega)
  refine X00 1000 ?_
  simp only [X05,w1,f1,↓X03,wA,seval,wE]
  refine X0r (v:=I (-1)) rfl rfl (X08 _) ?_
  rw [XlK fun i hi=>hno i (by omega)]
theorem Xdh (s:List V2) (f:FuncId) (caps:List AV) (p:V2→Bool) (hl:s.length<1000000) (hc:∀ a∈caps,Settled a) (hp:∀ x∈s,Fn Tryz.prog f ([vA x] ++ caps) (.bool (p x))) :
  Fn Tryz.prog 141 [X0A s,.fn f caps] (.bool (s.any p)):=by
 have hi:=Xhg p s
 refine Fn.intro (fn:=Tryz.f141) Tryz.call141 Tryz.func141 rfl mixed 5 [] [] [] (by kernel_rfl) (Nat.le_of_ble_eq_true rfl) (by simpa [X0b] using X2p hc) (X00 1000 ?_)
 simp only [AS.start,↓X03,wA,seval,wE]
 refine X01 (XjG s f caps p hl hc hp) rfl ?_
 simp only [↓X03,wA,seval,wE]
 exact X0r (v:=.bool (decide (0≤Xrj p s))) rfl rfl (X02 _) (by rw [Xhg])
def fvP (f:FV):AV:=.ptr 29 (ofL (fvC f)) 0
theorem Xav (f:FV):Settled (fvP f):=X1N fun j _=>X0c (X10 f) j
theorem Xl6 (t:V2) (f:FV) (ht:vb t≤vm) (hf:vb f.turn≤vm):Fn Tryz.prog 142 ([vA t] ++ [fvP f]) (.bool (decide (t=f.turn))):=by
 have c1:=Xa8 t f.turn ht hf
 refine Fq Tryz.call142 Tryz.func142 4 [] [] [] (by simp [X0k,Xav]) (X00 1000 ?_)
 simp only [AS.start,fvP,fvC,List.cons_append,List.nil_append,↓X03,wA,seval,wE]
 refine X01 c1 rfl ?_
 simp only [↓X03,wA,seval,wE]
 exact X0r rfl rfl (X02 _) rfl
noncomputable def anK (a b:PV) (f:FV) (k:Nat):V2×Bool:=X1R a.rim b.rim (xK a.rim.length f k) (yK b.rim.length f k)
noncomputable def X6Q (a b:PV) (f:FV):Nat→List V2
 | 0=>[]
 | k+1=>if (anK a b f k).2=true then X6Q a b f k ++ [(anK a b f k).1] else X6Q a b f k
theorem Xcf (a b:PV) (f:FV):∀ k,(X6Q a b f k).length≤k
 | 0=>Nat.le_refl _
 | k+1=>by
  have ih:=Xcf a b f k
  simp only [X6Q]
  split
  ·rw [List.length_append]; simp only [List.length_singleton]; omega
  ·omega
theorem Xb3 (a b:PV) (f:FV) (ha:X2e a.rim) (hb:X2e b.rim):∀ k,∀ t∈X6Q a b f k,vb t≤26
 | 0=>fun t h=>by simp [X6Q] at h
 | k+1=>by
  have ih:=Xb3 a b f ha hb k
  intro t h
  simp only [X6Q] at h
  split at h
  ·rcases List.mem_append.1 h with h | h
   ·exact ih t h
   ·simp only [List.mem_cons,List.not_mem_nil,or_false] at h
    subst h; exact X4E ha hb _ _
  ·exact ih t h
def Xno (a b:PV) (f:FV):Prop:=∃ k,k<f.M.toNat∧(anK a b f k).2=true∧(anK a b f k).1=f.turn
theorem XgO (a b:PV) (f:FV) (t:V2):∀ n,(X6Q a b f n).any (fun x=>decide (x=t))=true↔∃ k,k<n∧(anK a b f k).2=true∧(anK a b f k).1=t
 | 0=>by simp [X6Q]
 | n+1=>by
  have ih:=XgO a b f t n
  by_cases h:(anK a b f n).2=true
  ·have e:X6Q a b f (n+1)=X6Q a b f n ++ [(anK a b f n).1]:=if_pos h
   rw [e,List.any_append,Bool.or_eq_true,ih]
   simp only [List.any_cons,List.any_nil,Bool.or_false,decide_eq_true_eq]
   constructor
   ·rintro (⟨k,h1,h2⟩ | h1)
    ·exact ⟨k,by omega,h2⟩
    ·exact ⟨n,by omega,h,h1⟩
   ·rintro ⟨k,h1,h2,h3⟩
    by_cases hk:k=n
    ·subst hk; exact .inr h3
    ·exact .inl ⟨k,by omega,h2,h3⟩
  ·have e:X6Q a b f (n+1)=X6Q a b f n:=if_neg h
   rw [e,ih]
   constructor
   ·rintro ⟨k,h1,h2⟩; exact ⟨k,by omega,h2⟩
   ·rintro ⟨k,h1,h2,h3⟩
    by_cases hk:k=n
    ·subst hk; exact absurd h2 h
    ·exact ⟨k,by omega,h2,h3⟩
theorem XiH (a b:PV) (f:FV) (hf:XaY a.rim.length b.rim.length f) (ha:a.even) (hb:b.even):Fn Tryz.prog 133 [pvA a,pvA b,fvA f] (X0A (X6Q a b f f.M.toNat)):=by
 have ce:=Xh1 a b f hf ha.rim hb.rim
 obtain ⟨⟨s1,s2⟩,⟨s3,s4⟩,s5,s6,s7⟩:=hf
 obtain ⟨N,hN⟩:∃ N:Nat,f.M=N:=⟨f.M.toNat,by omega⟩
 have la:=ha.rim; have lb:=hb.rim
 have hNt:f.M.toNat=N:=by rw [hN]; rfl
 rw [hNt]
 obtain ⟨L,hL⟩:∃ L,L=Xbg a.rim.length b.rim.length f:=⟨_,rfl⟩
 have hlen:L.length=N:=by rw [hL,X8k,hN]; rfl
 have hat:∀ k,k<N→L.getD k (0,0)=((xK a.rim.length f k:Int),(yK b.rim.length f k:Int)):=fun k hk=>by rw [hL]; exact Xd6 _ _ _ _ (by omega)
 rw [← hL] at ce
 clear hL
 have ba:X1j 4 (.row 0 25 (ofL (pvC a)))=True:=eq_true (X0B (X0w a))
 have bb:X1j 4 (.row 0 25 (ofL (pvC b)))=True:=eq_true (X0B (X0w b))
 have bf:X1j 4 (.row 0 29 (ofL (fvC f)))=True:=eq_true (X0B (X10 f))
 have bL:Bel 4 (pts L)=True:=eq_true (X06 (X1c _))
 have hvc:∀ a:V2,∀ x∈vC a,Settled x:=fun a=>by simp [vC,X07,X02]
 have br:∀ i l n,X1j 4 (.row i n (X0M vC 8 v0 l))=True:=fun i l n=>eq_true fun j _=>X06 (X0c (hvc _) _)
 refine Fq Tryz.call133 Tryz.func133 12 [15,16,17] [] [] (by simp [X0o,X0s]) (X00 1000 ?_)
 simp only [AS.start,pvA,pvC,fvA,fvC,↓X03,wA,seval,wE]
 refine X01 ce rfl ?_
 simp only [X0e,hlen,↓X03,wA,seval,wE]
 refine X0d (fun k:Nat=>⟨12,[15,16,17],[.any,.any,.any,.ref 0 0 0,.ref 1 0 0,.ref 2 0 0,.any,.osl 3 (X6Q a b f k).length 8 0 (X6Q a b f k).length,.any,.any,.any,.any],[(15,pts L),(16,I N),(17,I k)],[.row 0 25 (ofL (pvC a)),.row 0 25 (ofL (pvC b)),.row 0 29 (ofL (fvC f)),.row (X6Q a b f k).length ((X6Q a b f k).length*8) (X0M vC 8 v0 (X6Q a b f k))]⟩) (fun k=>k≤N) (fun k=>N - k) 0 (by omega)
  (Sub.trans (X0W 7 8 (X0M vC 8 v0 []) rfl) (X09 rfl (by simp [AS.put,X6Q,X0p,I]) (by simp [AS.put,X0q,X0P,X0e,hlen,I]) (by simp [AS.put,X6Q,pvC,fvC,X0e,X0j,X04,I]))) ?_
 intro k hk next
 have w1:=wj k (by omega)
 have hln:=Xcf a b f k
 by_cases hk2:k<N
 rotate_left
 ·obtain rfl:k=N:=by omega
  refine X00 1000 ?_
  simp only [pvC,fvC,Int.lt_irrefl,Nat.lt_irrefl,↓X03,wA,seval,wE]
  exact Xdk _ rfl rfl rfl
 have nx:=next (k+1)
 have f1:((k:Int)<N)=True:=eq_true (by omega)
 have f2:(k<N)=True:=eq_true hk2
 have f3:(k*2+2≤N*2)=True:=eq_true (by omega)
 have v1:=ptF L k
 rw [hat k hk2] at v1
 have n2:((2:Nat):Int)=2:=rfl
 have t1:(1:Int).toNat=1:=rfl
 have ca:=Xjn a b (xK a.rim.length f k) (yK b.rim.length f k) la lb ha.near hb.near
 rw [show X1R a.rim b.rim (xK a.rim.length f k) (yK b.rim.length f k)=anK a b f k from rfl] at ca
 have hs:X6Q a b f (k+1)=if (anK a b f k).2=true then X6Q a b f k ++ [(anK a b f k).1] else X6Q a b f k:=rfl
 generalize anK a b f k=X at *
 obtain ⟨t,ok⟩:=X
 refine X00 1000 ?_
 simp only [pvC,fvC,X0e,X0j,X04,hlen,w1,f1,f2,f3,v1,n2,t1,Int.toNat_zero,Int.reduceLT,Int.reduceLE,Int.toNat_natCast,↓X03,wA,seval,wE]
 refine X01 ca rfl ?_
 cases ok with
 | false =>
  rw [if_neg (show ¬ ((t,false).2=true) from Bool.false_ne_true)] at hs
  simp only [hs] at nx
  simp only [w1,↓X03,wA,seval,wE]
  exact nx _ (by omega) (by omega) (X0t (m:=4) (Nat.zero_le _) rfl (by simp [X0p,I]) (by simp [X0q,X0P,X0e,hlen,I]) (by simp [pvC,fvC,X0e,X0j,X04,I]) (by simp [X0L]) (by simp [X0L,bL]) (by simp [ba,bb,bf,br]))
 | true =>
  rw [if_pos rfl] at hs
  have hlen2:(X6Q a b f (k+1)).length=(X6Q a b f k).length+1:=by rw [hs]; simp
  have hap:=X0E vC 8 v0 (X6Q a b f k) t (by omega)
  rw [← hs] at hap
  simp only [hlen2] at nx
  simp only [w1,↓X03,wA,seval,wE]
  exact ⟨⟨X42 t,by omega,by omega⟩,nx _ (by omega) (by omega) (X0t (m:=4) (Nat.zero_le _) rfl (by simp [X0p,I]) (by simp [X0q,X0P,X0e,hlen,I]) (by rw [← hap]; simp [pvC,fvC,X0e,X0j,X04,I,vC]) (by simp [X0L]) (by simp [X0L,bL]) (by simp [ba,bb,bf,br]))⟩
theorem Xfc (a b:PV) (f:FV) (hf:XaY a.rim.length b.rim.length f) (ha:a.even) (hb:b.even) (ht:vb f.turn≤vm):Fn Tryz.prog 150 [pvA a,pvA b,fvA f] (.bool (decide (Xno a b f))):=by
 obtain ⟨⟨s1,s2⟩,⟨s3,s4⟩,s5,s6,s7⟩:=hf
 obtain ⟨N,hN⟩:∃ N:Nat,f.M=N:=⟨f.M.toNat,by omega⟩
 have la:=ha.rim; have lb:=hb.rim
 obtain ⟨V,hV⟩:∃ V,V=decide (Xno a b f):=⟨_,rfl⟩
 rw [← hV]
 have fin:∀ {s:AS} {v:Bool},s.get 6=.bool v→v=V→RetOk (X2f Tryz.prog Tryz.f150 [4,50000003,50000004,50000005] [] (.bool V)) s:=fun h e=>X0r rfl h (X02 _) (by rw [e])
 have ba:X1j 3 (.con 0 25 (ofL (pvC a)))=True:=eq_true (fun j _=>X06 (X0c (X0w a) j))
 have bb:X1j 3 (.con 0 25 (ofL (pvC b)))=True:=eq_true (fun j _=>X06 (X0c (X0w b) j))
 have bf:X1j 3 (.con 0 29 (ofL (fvC f)))=True:=eq_true (fun j _=>X06 (X0c (X10 f) j))
 refine Fq Tryz.call150 Tryz.func150 10 [] [4,50000003,50000004,50000005] [] (by simp [X0o,X0s]) (X00 1000 ?_)
 simp only [AS.start,pvA,pvC,fvA,fvC,↓X03,wA,seval,wE]
 refine X0d (fun k:Nat=>⟨10,[],[.any,.any,.any,.ref 0 0 0,.ref 1 0 0,.ref 2 0 0,.bool false,I k,.any,.any],[],[.con 0 25 (ofL (pvC a)),.con 0 25 (ofL (pvC b)),.con 0 29 (ofL (fvC f))]⟩) (fun k=>k≤N∧∀ j,j<k→¬ ((anK a b f j).2=true∧(anK a b f j).1=f.turn)) (fun k=>N - k) 0 ⟨by omega,by omega⟩
  (Sub.trans (X1a 0 rfl) (Sub.trans (X1a 1 rfl) (Sub.trans (X1a 2 rfl) (X09 rfl (by simp [X0p,I]) (by simp [X0q]) (by simp [pvC,fvC,X0e,X0j,X04,I]))))) ?_
 rintro k ⟨hk,hok⟩ next
 have w1:=wj k (by omega)
 by_cases hk2:k<N
 rotate_left
 ·have f1:((k:Int)<f.M)=False:=eq_false (by omega)
  refine X00 1000 ?_
  simp only [pvC,fvC,f1,↓X03,wA,seval,wE]
  exact fin rfl (by rw [hV,decide_eq_false]; rintro ⟨j,hj,h1,h2⟩; exact hok j (by omega) ⟨h1,h2⟩)
 have f1:((k:Int)<f.M)=True:=eq_true (by omega)
 have wx:IntKind.i64.wrap (f.EA+(k:Int))=f.EA+(k:Int):=by rw [IntKind.wrap_i64]; omega
 have wy:IntKind.i64.wrap (f.EB - (k:Int))=f.EB - (k:Int):=by rw [IntKind.wrap_i64]; omega
 have c1:=X0T (f.EA+(k:Int)) a.rim.length (by omega) (by omega) (by omega)
 have c2:=X0T (f.EB - (k:Int)) b.rim.length (by omega) (by omega) (by omega)
 rw [XeT _ _ _ (by omega)] at c1
 rw [XjO _ _ _ (by omega)] at c2
 have ca:=XbB a b (xK a.rim.length f k) (yK b.rim.length f k) la lb ha.near hb.near
 have hsm:=X4E ha.near hb.near (xK a.rim.length f k) (yK b.rim.length f k)
 rw [show X1R a.rim b.rim (xK a.rim.length f k) (yK b.rim.length f k)=anK a b f k from rfl] at ca hsm
 have ct:=X3E (anK a b f k).1 f.turn (by unfold vm; omega) ht
 have nx:=next (k+1)
 have hyes:(anK a b f k).2=true→(anK a b f k).1=f.turn→true=V:=fun h1 h2=>by rw [hV,decide_eq_true]; exact ⟨k,by omega,h1,h2⟩
 have hno:¬ ((anK a b f k).2=true∧(anK a b f k).1=f.turn)→∀ j,j<k+1→¬ ((anK a b f j).2=true∧(anK a b f j).1=f.turn):=fun h=>X2t.2 ⟨hok,h⟩
 generalize anK a b f k=X at *
 obtain ⟨t,ok⟩:=X
 refine X00 1000 ?_
 simp only [pvC,fvC,X0e,w1,wx,wy,f1,Int.toNat_natCast,↓X03,wA,seval,wE]
 refine X01 c1 rfl ?_
 simp only [pvC,fvC,X0e,w1,wx,wy,f1,Int.toNat_natCast,↓X03,wA,seval,wE]
 refine X01 c2 rfl ?_
 simp only [pvC,fvC,X0e,X0j,X04,w1,wx,wy,f1,Int.toNat_natCast,↓X03,wA,seval,wE]
 refine X01 ca rfl ?_
 cases ok with
 | false =>
  simp only [pvC,fvC,X0e,X0j,X04,w1,↓X03,wA,seval,wE]
  exact nx _ ⟨by omega,hno fun h=>Bool.false_ne_true h.1⟩ (by omega) (X0t (m:=3) (Nat.zero_le _) rfl (by simp [X0p,I]) (by simp [X0q]) (by simp [pvC,fvC,X0e,X0j,X04,I]) (by simp [X0L]) (by simp [X0L]) (by simp [ba,bb,bf]))
 | true =>
  simp only [pvC,fvC,X0e,X0j,X04,w1,↓X03,wA,seval,wE]
  refine X01 ct rfl ?_
  by_cases he:t=f.turn
  ·rw [decide_eq_true (p:=(t,true).1=f.turn) he]
   simp only [↓X03,wA,seval,wE]
   exact fin rfl (hyes rfl he)
  ·rw [decide_eq_false (p:=(t,true).1=f.turn) he]
   simp only [w1,↓X03,wA,seval,wE]
   exact nx _ ⟨by omega,hno fun h=>he h.2⟩ (by omega) (X0t (m:=3) (Nat.zero_le _) rfl (by simp [X0p,I]) (by simp [X0q]) (by simp [pvC,fvC,X0e,X0j,X04,I]) (by simp [X0L]) (by simp [X0L]) (by simp [ba,bb,bf]))
noncomputable def mxq (x y:Rat):Rat:=if x<y then y else x
noncomputable def mnq (x y:Rat):Rat:=if y<x then y else x
theorem Xxf (x y:Rat) (k:Nat) (hx:qb x≤k) (hy:qb y≤k):qb (mxq x y)≤k:=by unfold mxq; split <;> assumption
theorem Xxe (x y:Rat) (k:Nat) (hx:qb x≤k) (hy:qb y≤k):qb (mnq x y)≤k:=by unfold mnq; split <;> assumption
theorem XdH (x y:Rat) (hx:qb x≤rm) (hy:qb y≤rm):Fn Tryz.prog 125 [qA x,qA y] (qA (mxq x y)):=by
 have c1:=X2B x y hx hy
 obtain ⟨R,hR⟩:∃ R,R=qA (mxq x y):=⟨_,rfl⟩
 have sR:Settled R:=hR▸X0a _
 rw [← hR]
 refine Fq Tryz.call125 Tryz.func125 5 [] [] [] (by simp [wS]) (X00 1000 ?_); simp (config:={ maxSteps:=2000000 }) only [AS.start,↓X03,wA,seval,wE]
 refine X01 c1 rfl ?_
 by_cases h:x<y
 ·have f1:(X1Z x y<0)=True:=eq_true ((X2N x y).2 h)
  simp only [f1,↓X03,wA,seval,wE]
  have e:mxq x y=y:=if_pos h
  rw [e] at hR
  exact X3V rfl X1k rfl rfl rfl sR (hR.trans rfl)
 ·have f1:(X1Z x y<0)=False:=eq_false fun hh=>h ((X2N x y).1 hh)
  simp only [f1,↓X03,wA,seval,wE]
  have e:mxq x y=x:=if_neg h
  rw [e] at hR
  exact X3V rfl X1k rfl rfl rfl sR (hR.trans rfl)
theorem XbN (x y:Rat) (hx:qb x≤rm) (hy:qb y≤rm):Fn Tryz.prog 126 [qA x,qA y] (qA (mnq x y)):=by
 have c1:=X2B x y hx hy
 obtain ⟨R,hR⟩:∃ R,R=qA (mnq x y):=⟨_,rfl⟩
 have sR:Settled R:=hR▸X0a _
 rw [← hR]
 refine Fq Tryz.call126 Tryz.func126 5 [] [] [] (by simp [wS]) (X00 1000 ?_); simp (config:={ maxSteps:=2000000 }) only [AS.start,↓X03,wA,seval,wE]
 refine X01 c1 rfl ?_
 by_cases h:y<x
 ·have f1:(0<X1Z x y)=True:=eq_true ((X2s x y).2 h)
  simp only [f1,↓X03,wA,seval,wE]
  have e:mnq x y=y:=if_pos h
  rw [e] at hR
  exact X3V rfl X1k rfl rfl rfl sR (hR.trans rfl)
 ·have f1:(0<X1Z x y)=False:=eq_false fun hh=>h ((X2s x y).1 hh)
  simp only [f1,↓X03,wA,seval,wE]
  have e:mnq x y=x:=if_neg h
  rw [e] at hR
  exact X3V rfl X1k rfl rfl rfl sR (hR.trans rfl)
end
end Go.Ab.N
