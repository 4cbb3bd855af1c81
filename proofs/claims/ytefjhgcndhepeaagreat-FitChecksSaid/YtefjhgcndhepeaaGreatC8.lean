/- Contracts of functions, for arguments that fit. -/
import Derived.Test.YtefjhgcndhepeaaGreatC7
import Derived.Test.YtefjhgcndhepeaaGreatC6
set_option linter.unusedSimpArgs false
set_option linter.unusedVariables false
open Nat renaming reducePow → Y1, reduceLT → Y2, reduceLeDiff → Y3, reduceEqDiff → Y4, reduceAdd → Y5, reduceMul → Y6, reduceSub → Y7, reduceBEq → Y8, reduceDiv → Y9, reduceMod → YA
namespace Go.Ab.N
open Go Go.RowKit Go.Proofs
noncomputable section
set_option maxRecDepth 10000
set_option maxHeartbeats 4000000
open Classical
def WE (l:List Int) (j:Nat):Bool:=decide (Ab.atF l (15+j) 9=8)
def VX (l:List Int) (j:Nat):Int:=(Ab.atF l (20+j) 5).tdiv 2
def OK (l:List Int):Rat:=Rat.divInt (1+Ab.atF l 11 6) 2
def gK (l:List Int):Rat:=OK l+Rat.divInt (Ab.atF l 12 4) 2
def rU (l:List Int):Rat:=Rat.divInt (Ab.atF l 10 3) 4
def ua (l:List Int):Rat:=Rat.divInt (20+Ab.atF l 13 100) 1
def u6 (l:List Int):Rat:=Rat.divInt (Ab.atF l 14 5) 4
def Aa (l:List Int):PV:=⟨Ab.atF l 8 40,Ab.atF l 9 5,I8 l,(List.range (I8 l).length).map (WE l),(List.range (I8 l).length).map (VX l),RQ.of (rU l),RQ.of (OK l),RQ.of (gK l),RQ.of (ua l),RQ.of (u6 l)⟩
theorem gY {α:Type} (f:Nat→α) (d:α) (n j:Nat) (h:j<n):((List.range n).map f).getD j d=f j:=by
 rw [List.getD_eq_getElem?_getD,List.getElem?_map,List.getElem?_range h]; rfl
def Cd (l:List Int) (i:Nat) (j:Nat):AV:=.bool (if j<i then WE l j else false)
def C5 (l:List Int) (i:Nat) (j:Nat):AV:=.int .i64 (if j<i then VX l j else 0)
theorem Tk (l:List Int) (i:Nat):BX (Cd l i) i (.bool (decide (Ab.atF l (15+(i:Int)) 9=8)))=Cd l (i+1):=by
 funext j
 unfold BX Cd
 by_cases h:j=i
 ·subst h; simp [WE]
 ·rw [if_neg h]
  by_cases h2:j<i
  ·rw [if_pos h2,if_pos (by omega)]
  ·rw [if_neg h2,if_neg (by omega)]
theorem RV (l:List Int) (i:Nat):BX (C5 l i) i (.int .i64 ((Ab.atF l (20+(i:Int)) 5).tdiv 2))=C5 l (i+1):=by
 funext j
 unfold BX C5
 by_cases h:j=i
 ·subst h; simp [VX]
 ·rw [if_neg h]
  by_cases h2:j<i
  ·rw [if_pos h2,if_pos (by omega)]
  ·rw [if_neg h2,if_neg (by omega)]
def WH:List AV:=[I 0,I 0,.sl 0 0 (fun _=>.any) true,.sl 0 0 (fun _=>.any) true,.sl 0 0 (fun _=>.any) true,.bool false,.sl 0 0 (fun _=>.any) true,.bool false,.sl 0 0 (fun _=>.any) true,.bool false,.sl 0 0 (fun _=>.any) true,.bool false,.sl 0 0 (fun _=>.any) true,
 .bool false,.sl 0 0 (fun _=>.any) true,.bool false,.sl 0 0 (fun _=>.any) true,.bool false,.sl 0 0 (fun _=>.any) true,.bool false,.sl 0 0 (fun _=>.any) true,.bool false,.sl 0 0 (fun _=>.any) true,.bool false,.sl 0 0 (fun _=>.any) true]
def rC (id home:Int) (n:Nat) (t l h s r:Rat):List AV:=[I id,I home,.osl 4 0 2 0 n,.osl 5 0 1 0 n,.osl 6 0 1 0 n,.bool (decide (t.num<0)),X8 (Xb t.num.natAbs),.bool false,X8 (Xb (qd t)),
 .bool (decide (l.num<0)),X8 (Xb l.num.natAbs),.bool false,X8 (Xb (qd l)),.bool (decide (h.num<0)),X8 (Xb h.num.natAbs),.bool false,X8 (Xb (qd h)),
 .bool (decide (s.num<0)),X8 (Xb s.num.natAbs),.bool false,X8 (Xb (qd s)),.bool (decide (r.num<0)),X8 (Xb r.num.natAbs),.bool false,X8 (Xb (qd r))]
theorem NK (l:List Int) (hl:C0 l) (hl2:l.length<9223372036854775808):Fn Tryz.prog 14 [X8 l] (QH (Aa l)):=by
 obtain ⟨V,hV⟩:∃ V,V=QH (Aa l):=⟨_,rfl⟩
 have sV:Settled V:=hV▸Xx _
 have hro:=(P2 l).1
 have cR:=bj l hl hl2
 have c8:=Qs l 8 40 hl (by omega)
 have c9:=Qs l 9 5 hl (by omega)
 have c10:=Qs l 10 3 hl (by omega)
 have c11:=Qs l 11 6 hl (by omega)
 have c12:=Qs l 12 4 hl (by omega)
 have c13:=Qs l 13 100 hl (by omega)
 have c14:=Qs l 14 5 hl (by omega)
 have b10:=XF l 10 3 (by omega)
 have b11:=XF l 11 6 (by omega)
 have b12:=XF l 12 4 (by omega)
 have b13:=XF l 13 100 (by omega)
 have b14:=XF l 14 5 (by omega)
 have w11:IntKind.i64.wrap (1+Ab.atF l 11 6)=1+Ab.atF l 11 6:=by rw [IntKind.wrap_i64]; omega
 have w13:IntKind.i64.wrap (20+Ab.atF l 13 100)=20+Ab.atF l 13 100:=by rw [IntKind.wrap_i64]; omega
 have q10:=QX (Ab.atF l 10 3) 4 ⟨by omega,by omega⟩ ⟨by omega,by omega⟩
 have q11:=QX (1+Ab.atF l 11 6) 2 ⟨by omega,by omega⟩ ⟨by omega,by omega⟩
 have q12:=QX (Ab.atF l 12 4) 2 ⟨by omega,by omega⟩ ⟨by omega,by omega⟩
 have q13:=QX (20+Ab.atF l 13 100) 1 ⟨by omega,by omega⟩ ⟨by omega,by omega⟩
 have q14:=QX (Ab.atF l 14 5) 4 ⟨by omega,by omega⟩ ⟨by omega,by omega⟩
 have m11:qb (Rat.divInt (1+Ab.atF l 11 6) 2)≤3:=Kl _ _ _ (by omega) (Qy ⟨by omega,by omega⟩) (Qy ⟨by omega,by omega⟩)
 have m12:qb (Rat.divInt (Ab.atF l 12 4) 2)≤3:=Kl _ _ _ (by omega) (Qy ⟨by omega,by omega⟩) (Qy ⟨by omega,by omega⟩)
 have qh:=JA (Rat.divInt (1+Ab.atF l 11 6) 2) (Rat.divInt (Ab.atF l 12 4) 2) (by unfold rm; omega) (by unfold rm; omega)
 have cP:=Sl (Ab.atF l 8 40) (I8 l) (by omega)
 rw [← hV]
 unfold Aa OK gK rU ua u6 at hV
 unfold OK at hV
 generalize Rat.divInt 1 1=u1 at *
 generalize Rat.divInt 100 1=u2 at *
 generalize Rat.divInt 1 2=u3 at *
 generalize (Rat.divInt (1+Ab.atF l 11 6) 2+Rat.divInt (Ab.atF l 12 4) 2)=Q12 at *
 generalize Rat.divInt (Ab.atF l 10 3) 4=Q10 at *
 generalize Rat.divInt (1+Ab.atF l 11 6) 2=Q11 at *
 generalize Rat.divInt (20+Ab.atF l 13 100) 1=Q13 at *
 generalize Rat.divInt (Ab.atF l 14 5) 4=Q14 at *
 generalize I8 l=R at *
 refine Fq Tryz.call14 Tryz.func14 5 [] [5,6001,11,12001,12,13001] [] (by simp [X7]) (X0 1000 ?_)
 simp only [AS.start,↓X2,wF,seval]
 refine X1 c8 rfl ?_
 simp only [↓X2,wF,seval]
 refine X1 cR rfl ?_
 simp only [↓X2,wF,seval]
 refine KG rfl (cP _) (QZ (by simp) (by simp)) (fun id=>by cases id <;> simp) ⟨Weak.rfl' _,Weak.rfl' _,trivial⟩ ?_
 simp only [UI,↓X2,wF,seval]
 refine X1 c9 rfl ?_
 simp only [↓X2,wF,seval]
 refine X1 c10 rfl ?_
 simp only [↓X2,wF,seval]
 refine X1 q10 rfl ?_
 simp only [↓X2,wF,seval]
 refine X1 c11 rfl ?_
 simp only [w11,↓X2,wF,seval]
 refine X1 q11 rfl ?_
 simp only [↓X2,wF,seval]
 refine X1 c12 rfl ?_
 simp only [↓X2,wF,seval]
 refine X1 q12 rfl ?_
 simp only [↓X2,wF,seval]
 refine X1 qh rfl ?_
 simp only [↓X2,wF,seval]
 refine X1 c13 rfl ?_
 simp only [w13,↓X2,wF,seval]
 refine X1 q13 rfl ?_
 simp only [↓X2,wF,seval]
 refine X1 c14 rfl ?_
 simp only [↓X2,wF,seval]
 refine X1 q14 rfl ?_
 simp only [↓X2,wF,seval]
 refine Xg (fun i:Nat=>⟨5,[],[X8 l,.any,.ref 0 0 0,.ref 7 0 0,I i],[],[.row 0 25 (Xo WH),.dead,.dead,.dead,.row 0 (R.length*2) (Xs Kk 2 (0,0) R),.row 0 R.length (Cd l i),.row 0 R.length (C5 l i),.row 0 25 (Xo (rC (Ab.atF l 8 40) (Ab.atF l 9 5) R.length Q10 Q11 Q12 Q13 Q14))]⟩) (fun i=>i≤R.length) (fun i=>R.length - i) 0 (by omega)
  (Sub.trans (Qr 5 R.length (Cd l 0) rfl (Nat.le_refl _) (fun j _=>by simp [Cd])) (Sub.trans (Qr 6 R.length (C5 l 0) rfl (Nat.le_refl _) (fun j _=>by simp [C5])) (Xa rfl (by simp [Xh,X4,I]) (by simp [Xi]) (by simp [WH,rC,X4,I])))) ?_
 intro i hi next
 have w1:=wj i (by omega)
 by_cases hi2:i<R.length
 ·have f1:((i:Int)<R.length)=True:=eq_true (by omega)
  have f2:(i<R.length)=True:=eq_true hi2
  have w15:IntKind.i64.wrap (15+(i:Int))=15+(i:Int):=by rw [IntKind.wrap_i64]; omega
  have w20:IntKind.i64.wrap (20+(i:Int))=20+(i:Int):=by rw [IntKind.wrap_i64]; omega
  have c15:=Qs l (15+(i:Int)) 9 hl (by omega)
  have c20:=Qs l (20+(i:Int)) 5 hl (by omega)
  have b20:=XF l (20+(i:Int)) 5 (by omega)
  have e20:(Ab.atF l (20+(i:Int)) 5).tdiv 2=Ab.atF l (20+(i:Int)) 5 / 2:=Int.tdiv_eq_ediv_of_nonneg b20.1
  have wq:IntKind.i64.wrap ((Ab.atF l (20+(i:Int)) 5).tdiv 2)=(Ab.atF l (20+(i:Int)) 5).tdiv 2:=by rw [IntKind.wrap_i64]; omega
  have hU:=Tk l i
  have hM:=RV l i
  refine X0 1000 ?_
  simp only [rC,w1,w15,w20,f1,f2,Int.toNat_natCast,↓X2,wF,seval]
  refine X1 c15 rfl ?_
  simp only [rC,w1,w15,w20,f1,f2,hU,Int.toNat_natCast,↓X2,wF,seval]
  refine ⟨by omega,X1 c20 rfl ?_⟩
  simp only [rC,w1,w15,w20,f1,f2,wq,hM,Int.toNat_natCast,Int.reduceEq,↓X2,wF,seval]
  exact ⟨by omega,next (i+1) _ (by omega) (by omega) (Xa rfl (by simp [Xh,X4,I]) (by simp [Xi]) (by simp [WH,rC,X4,I]))⟩
 obtain rfl:i=R.length:=by omega
 refine X0 1000 ?_
 simp only [WH,rC,Int.lt_irrefl,Nat.lt_irrefl,↓X2,wF,seval]
 subst hV
 refine E7 rfl Gc rfl rfl rfl ?_
 have h1:∀ H:List AO,H[4]?=some (.row 0 (R.length*2) (Xs Kk 2 (0,0) R))→JH H (.osl 4 0 2 0 R.length) (Dw R):=fun H ho=>by
  rw [Xe]
  refine Qx (.inl ho) (by omega) (fun h=>by rw [h]) fun j hj=>?_
  rw [Nat.zero_add]
  exact (Xc (Kx _) _).sees _
 have h2:∀ H:List AO,H[5]?=some (.row 0 R.length (Cd l R.length))→JH H (.osl 5 0 1 0 R.length) (A3 ((List.range R.length).map (WE l))):=fun H ho=>by
  rw [Xl,List.length_map,List.length_range]
  refine Qx (.inl ho) (by omega) (fun h=>by rw [h]) fun j hj=>?_
  rw [Nat.zero_add,Kb,gY _ _ _ _ hj]
  unfold Cd
  rw [if_pos hj]
  exact (X3 _).sees _
 have h3:∀ H:List AO,H[6]?=some (.row 0 R.length (C5 l R.length))→JH H (.osl 6 0 1 0 R.length) (X8 ((List.range R.length).map (VX l))):=fun H ho=>by
  rw [X4,List.length_map,List.length_range]
  refine Qx (.inl ho) (by omega) (fun h=>by rw [h]) fun j hj=>?_
  rw [Nat.zero_add,Kb,gY _ _ _ _ hj]
  unfold C5
  rw [if_pos hj]
  exact (X9 _).sees _
 exact ZD ⟨(X9 _).sees _,(X9 _).sees _,h1 _ rfl,h2 _ rfl,h3 _ rfl,(X3 _).sees _,(X7 _).sees _,(X3 _).sees _,(X7 _).sees _,(X3 _).sees _,(X7 _).sees _,(X3 _).sees _,(X7 _).sees _,(X3 _).sees _,(X7 _).sees _,(X3 _).sees _,(X7 _).sees _,(X3 _).sees _,(X7 _).sees _,(X3 _).sees _,(X7 _).sees _,(X3 _).sees _,(X7 _).sees _,(X3 _).sees _,(X7 _).sees _,trivial⟩
theorem NS (l:List Int):(Aa l).rim.length=(I8 l).length∧(Aa l).worn.length=(I8 l).length∧(Aa l).marks.length=(I8 l).length:=⟨rfl,by simp [Aa],by simp [Aa]⟩
theorem Gp (l:List Int):(Aa l).small:=by
 have hro:=(P2 l).1
 have b10:=XF l 10 3 (by omega)
 have b11:=XF l 11 6 (by omega)
 have b12:=XF l 12 4 (by omega)
 have b13:=XF l 13 100 (by omega)
 have b14:=XF l 14 5 (by omega)
 have hl:=NS l
 have z:=fun (n m:Int) (h1:Ks n) (h2:Ks m)=>jq n m h1 h2
 have q1:=BH (1+Ab.atF l 11 6) 2 ⟨by omega,by omega⟩ ⟨by omega,by omega⟩
 have q2:=BH (Ab.atF l 12 4) 2 ⟨by omega,by omega⟩ ⟨by omega,by omega⟩
 have q3:=JL (Rat.divInt (1+Ab.atF l 11 6) 2) (Rat.divInt (Ab.atF l 12 4) 2)
 have q4:=RQ.of_sz (Rat.divInt (1+Ab.atF l 11 6) 2+Rat.divInt (Ab.atF l 12 4) 2)
 refine ⟨by rw [hl.1]; omega,by rw [hl.2.1]; omega,by rw [hl.2.2]; omega,?_,?_,?_,?_,?_⟩
 ·exact Nat.le_trans (z (Ab.atF l 10 3) 4 ⟨by omega,by omega⟩ ⟨by omega,by omega⟩) (by omega)
 ·exact Nat.le_trans (z (1+Ab.atF l 11 6) 2 ⟨by omega,by omega⟩ ⟨by omega,by omega⟩) (by omega)
 ·show (RQ.of (Rat.divInt (1+Ab.atF l 11 6) 2+Rat.divInt (Ab.atF l 12 4) 2)).sz≤_
  omega
 ·exact Nat.le_trans (z (20+Ab.atF l 13 100) 1 ⟨by omega,by omega⟩ ⟨by omega,by omega⟩) (by omega)
 ·exact Nat.le_trans (z (Ab.atF l 14 5) 4 ⟨by omega,by omega⟩ ⟨by omega,by omega⟩) (by omega)
theorem Gk {a:Rat} (h:qb a≤rm):(RQ.of a).sz<4611686018427387904:=Nat.lt_of_le_of_lt (RQ.of_sz a) (by unfold rm at h; omega)
theorem Hj (a b:Rat) (ha:qb a≤rm) (hb:qb b≤rm):Fn Tryz.prog 29 [qA a,qA b] (.bool (decide (a=b))):=by
 have:=je (RQ.of a) (RQ.of b) (Gk ha) (Gk hb)
 rwa [decide_eq_decide.2 (show RQ.of a=RQ.of b↔a=b from ⟨RQ.of_inj,fun h=>by rw [h]⟩)] at this
theorem Bt (a b:Rat) (ha:qb a≤rm) (hb:qb b≤rm):Fn Tryz.prog 86 [qA a,qA b] (.bool (decide (a=b))):=by
 have:=bI (RQ.of a) (RQ.of b) (Gk ha) (Gk hb)
 rwa [decide_eq_decide.2 (show RQ.of a=RQ.of b↔a=b from ⟨RQ.of_inj,fun h=>by rw [h]⟩)] at this
theorem Wm (a:Rat) (ha:qb a≤rm):Fn Tryz.prog 79 [qA a] (.bool true):=by
 have:=NX (RQ.of a) (Nat.lt_of_le_of_lt (RQ.of_sz a) (by unfold rm at ha; omega))
 rwa [decide_eq_true ⟨a,rfl⟩] at this
theorem LP (a:Rat) (ha:qb a≤rm):Fn Tryz.prog 83 [qA a] (.bool true):=by
 have:=Gy (RQ.of a) (Nat.lt_of_le_of_lt (RQ.of_sz a) (by unfold rm at ha; omega))
 rwa [decide_eq_true ⟨a,rfl⟩] at this
def LY (t a:V2):V2:=⟨t.x*a.x - t.y*a.y,t.y*a.x+t.x*a.y⟩
def V2.scale (a:V2) (k:Rat):V2:=⟨a.x*k,a.y*k⟩
def Df (t:V2):Prop:=t.x*t.x+t.y*t.y=1
def KQ:V2:=⟨1,0⟩
theorem Dg (t a:V2):vb (LY t a)≤2*(vb t+vb a)+1:=by
 have:=QA t.x a.x; have:=QA t.y a.y; have:=QA t.y a.x; have:=QA t.x a.y
 have:=Qv t; have:=Qn t; have:=Qv a; have:=Qn a
 have:=FA (t.x*a.x) (t.y*a.y); have:=JL (t.y*a.x) (t.x*a.y)
 unfold LY
 show max (qb (t.x*a.x - t.y*a.y)) (qb (t.y*a.x+t.x*a.y))≤_
 omega
theorem jB (a:V2) (k:Rat):vb (a.scale k)≤vb a+qb k:=by
 have:=QA a.x k; have:=QA a.y k; have:=Qv a; have:=Qn a
 unfold V2.scale
 show max (qb (a.x*k)) (qb (a.y*k))≤_
 omega
theorem Bq:Rat.divInt 1 1=1:=by decide +kernel
theorem V2.ext' {a b:V2}:a=b↔a.x=b.x∧a.y=b.y:=by
 cases a; cases b
 simp
theorem It (a b:V2) (ha:vb a≤vm) (hb:vb b≤vm):Fn Tryz.prog 42 [vA a,vA b] (.bool (decide (a=b))):=by
 unfold vm at ha hb
 have:=Qv a; have:=Qv b; have:=Qn a; have:=Qn b
 have c1:=Hj a.x b.x (by unfold rm; omega) (by unfold rm; omega)
 have c2:=Hj a.y b.y (by unfold rm; omega) (by unfold rm; omega)
 obtain ⟨V,hV⟩:∃ V,V=decide (a=b):=⟨_,rfl⟩
 rw [← hV]
 refine Fq Tryz.call42 Tryz.func42 5 [] [] [] (by simp [wS]) (X0 1000 ?_); simp (maxSteps:=999999) only [AS.start,↓X2,wF,seval]
 refine X1 c1 rfl ?_
 by_cases h:a.x=b.x
 ·rw [decide_eq_true h]
  simp only [↓X2,wF,seval]
  refine X1 c2 rfl ?_
  simp only [↓X2,wF,seval]
  exact Xt (v:=.bool (decide (a.y=b.y))) rfl rfl (X3 _) (by rw [hV]; exact congrArg AV.bool (decide_eq_decide.2 (show a.y=b.y↔a=b from ⟨fun e=>V2.ext'.2 ⟨h,e⟩,fun e=>(V2.ext'.1 e).2⟩)))
 ·rw [decide_eq_false h]
  simp only [↓X2,wF,seval]
  exact Xt (v:=.bool false) rfl rfl (X3 _) (by rw [hV,decide_eq_false (p:=a=b) fun e=>h (by rw [e])])
theorem AP (a b:V2) (ha:vb a≤vm) (hb:vb b≤vm):Fn Tryz.prog 67 [vA a,vA b] (.bool (decide (a=b))):=by
 unfold vm at ha hb
 have:=Qv a; have:=Qv b; have:=Qn a; have:=Qn b
 have c1:=Hj a.x b.x (by unfold rm; omega) (by unfold rm; omega)
 have c2:=Hj a.y b.y (by unfold rm; omega) (by unfold rm; omega)
 obtain ⟨V,hV⟩:∃ V,V=decide (a=b):=⟨_,rfl⟩
 rw [← hV]
 refine Fq Tryz.call67 Tryz.func67 5 [] [] [] (by simp [wS]) (X0 1000 ?_); simp (maxSteps:=999999) only [AS.start,↓X2,wF,seval]
 refine X1 c1 rfl ?_
 by_cases h:a.x=b.x
 ·rw [decide_eq_true h]
  simp only [↓X2,wF,seval]
  refine X1 c2 rfl ?_
  simp only [↓X2,wF,seval]
  exact Xt (v:=.bool (decide (a.y=b.y))) rfl rfl (X3 _) (by rw [hV]; exact congrArg AV.bool (decide_eq_decide.2 (show a.y=b.y↔a=b from ⟨fun e=>V2.ext'.2 ⟨h,e⟩,fun e=>(V2.ext'.1 e).2⟩)))
 ·rw [decide_eq_false h]
  simp only [↓X2,wF,seval]
  exact Xt (v:=.bool false) rfl rfl (X3 _) (by rw [hV,decide_eq_false (p:=a=b) fun e=>h (by rw [e])])
theorem OQ (a b:V2) (ha:vb a≤vm) (hb:vb b≤vm):Fn Tryz.prog 59 [vA a,vA b] (vA (a.add b)):=by
 unfold vm at ha hb
 obtain ⟨R,hR⟩:∃ R,R=vA (a.add b):=⟨_,rfl⟩
 have sR:Settled R:=hR▸Xm _
 have:=Qv a; have:=Qv b; have:=Qn a; have:=Qn b
 have c1:=Bk a.x b.x (by unfold rm; omega) (by unfold rm; omega)
 have c2:=Bk a.y b.y (by unfold rm; omega) (by unfold rm; omega)
 rw [← hR]
 refine Fq Tryz.call59 Tryz.func59 5 [] [] [] (by simp [wS]) (X0 1000 ?_); simp (maxSteps:=999999) only [AS.start,↓X2,wF,seval]
 refine X1 c1 rfl ?_
 simp only [↓X2,wF,seval]
 refine X1 c2 rfl ?_
 simp only [↓X2,wF,seval]
 exact ZB rfl Jr rfl rfl rfl sR (hR.trans rfl)
theorem NQ (a:V2) (k:Rat) (ha:vb a≤vm) (hk:qb k≤vm):Fn Tryz.prog 58 [vA a,qA k] (vA (a.scale k)):=by
 unfold vm at ha hk
 obtain ⟨R,hR⟩:∃ R,R=vA (a.scale k):=⟨_,rfl⟩
 have sR:Settled R:=hR▸Xm _
 have:=Qv a; have:=Qn a
 have c1:=KC a.x k (by unfold rm; omega) (by unfold rm; omega)
 have c2:=KC a.y k (by unfold rm; omega) (by unfold rm; omega)
 rw [← hR]
 refine Fq Tryz.call58 Tryz.func58 5 [] [] [] (by simp [wS]) (X0 1000 ?_); simp (maxSteps:=999999) only [AS.start,↓X2,wF,seval]
 refine X1 c1 rfl ?_
 simp only [↓X2,wF,seval]
 refine X1 c2 rfl ?_
 simp only [↓X2,wF,seval]
 exact ZB rfl Jr rfl rfl rfl sR (hR.trans rfl)
theorem aV:Fn Tryz.prog 203 [] (vA KQ):=by
 have c1:=FC 1 1 ⟨by omega,by omega⟩ ⟨by omega,by omega⟩
 rw [Bq] at c1
 obtain ⟨R,hR⟩:∃ R,R=vA KQ:=⟨_,rfl⟩
 have sR:Settled R:=hR▸Xm _
 rw [← hR]
 refine Fq Tryz.call203 Tryz.func203 1 [] [] [] (by simp [wS]) (X0 1000 ?_); simp (maxSteps:=999999) only [AS.start,↓X2,wF,seval]
 refine X1 c1 rfl ?_
 simp only [↓X2,wF,seval]
 refine E7 rfl Dl rfl rfl rfl ?_
 rw [hR]
 exact ZD ⟨(X3 _).sees _,(X7 _).sees _,(X3 _).sees _,(X7 _).sees _,(X3 _).sees _,Xu (X7 _) (Qw (by show Xb (0:Rat).num.natAbs=[]; rw [Rat.zero_num]; simp [Q2])),(X3 _).sees _,Xu (X7 _) (Qw (D3 rfl)),trivial⟩
theorem BL (a b:V2) (ha:vb a≤vm) (hb:vb b≤vm):Fn Tryz.prog 48 [vA a,vA b] (.bool (decide (a=b))):=by
 unfold vm at ha hb
 have:=Qv a; have:=Qv b; have:=Qn a; have:=Qn b
 have c1:=Bt a.x b.x (by unfold rm; omega) (by unfold rm; omega)
 have c2:=Bt a.y b.y (by unfold rm; omega) (by unfold rm; omega)
 obtain ⟨V,hV⟩:∃ V,V=decide (a=b):=⟨_,rfl⟩
 rw [← hV]
 refine Fq Tryz.call48 Tryz.func48 5 [] [] [] (by simp [wS]) (X0 1000 ?_); simp (maxSteps:=999999) only [AS.start,↓X2,wF,seval]
 refine X1 c1 rfl ?_
 by_cases h:a.x=b.x
 ·rw [decide_eq_true h]
  simp only [↓X2,wF,seval]
  refine X1 c2 rfl ?_
  simp only [↓X2,wF,seval]
  exact Xt (v:=.bool (decide (a.y=b.y))) rfl rfl (X3 _) (by rw [hV]; exact congrArg AV.bool (decide_eq_decide.2 (show a.y=b.y↔a=b from ⟨fun e=>V2.ext'.2 ⟨h,e⟩,fun e=>(V2.ext'.1 e).2⟩)))
 ·rw [decide_eq_false h]
  simp only [↓X2,wF,seval]
  exact Xt (v:=.bool false) rfl rfl (X3 _) (by rw [hV,decide_eq_false (p:=a=b) fun e=>h (by rw [e])])
theorem KY (a b:V2) (ha:vb a≤vm) (hb:vb b≤vm):Fn Tryz.prog 41 [vA a,vA b] (.bool (decide (a=b))):=by
 unfold vm at ha hb
 have:=Qv a; have:=Qv b; have:=Qn a; have:=Qn b
 have c1:=Bt a.x b.x (by unfold rm; omega) (by unfold rm; omega)
 have c2:=Bt a.y b.y (by unfold rm; omega) (by unfold rm; omega)
 obtain ⟨V,hV⟩:∃ V,V=decide (a=b):=⟨_,rfl⟩
 rw [← hV]
 refine Fq Tryz.call41 Tryz.func41 5 [] [] [] (by simp [wS]) (X0 1000 ?_); simp (maxSteps:=999999) only [AS.start,↓X2,wF,seval]
 refine X1 c1 rfl ?_
 by_cases h:a.x=b.x
 ·rw [decide_eq_true h]
  simp only [↓X2,wF,seval]
  refine X1 c2 rfl ?_
  simp only [↓X2,wF,seval]
  exact Xt (v:=.bool (decide (a.y=b.y))) rfl rfl (X3 _) (by rw [hV]; exact congrArg AV.bool (decide_eq_decide.2 (show a.y=b.y↔a=b from ⟨fun e=>V2.ext'.2 ⟨h,e⟩,fun e=>(V2.ext'.1 e).2⟩)))
 ·rw [decide_eq_false h]
  simp only [↓X2,wF,seval]
  exact Xt (v:=.bool false) rfl rfl (X3 _) (by rw [hV,decide_eq_false (p:=a=b) fun e=>h (by rw [e])])
theorem BK (a b:V2) (ha:vb a≤vm) (hb:vb b≤vm):Fn Tryz.prog 111 [vA a,vA b] (vA (a.add b)):=by
 unfold vm at ha hb
 obtain ⟨R,hR⟩:∃ R,R=vA (a.add b):=⟨_,rfl⟩
 have sR:Settled R:=hR▸Xm _
 have:=Qv a; have:=Qv b; have:=Qn a; have:=Qn b
 have c1:=JA a.x b.x (by unfold rm; omega) (by unfold rm; omega)
 have c2:=JA a.y b.y (by unfold rm; omega) (by unfold rm; omega)
 rw [← hR]
 refine Fq Tryz.call111 Tryz.func111 5 [] [] [] (by simp [wS]) (X0 1000 ?_); simp (maxSteps:=999999) only [AS.start,↓X2,wF,seval]
 refine X1 c1 rfl ?_
 simp only [↓X2,wF,seval]
 refine X1 c2 rfl ?_
 simp only [↓X2,wF,seval]
 exact ZB rfl Jr rfl rfl rfl sR (hR.trans rfl)
theorem P0 (a:V2) (k:Rat) (ha:vb a≤vm) (hk:qb k≤vm):Fn Tryz.prog 211 [vA a,qA k] (vA (a.scale k)):=by
 unfold vm at ha hk
 obtain ⟨R,hR⟩:∃ R,R=vA (a.scale k):=⟨_,rfl⟩
 have sR:Settled R:=hR▸Xm _
 have:=Qv a; have:=Qn a
 have c1:=J0 a.x k (by unfold rm; omega) (by unfold rm; omega)
 have c2:=J0 a.y k (by unfold rm; omega) (by unfold rm; omega)
 rw [← hR]
 refine Fq Tryz.call211 Tryz.func211 5 [] [] [] (by simp [wS]) (X0 1000 ?_); simp (maxSteps:=999999) only [AS.start,↓X2,wF,seval]
 refine X1 c1 rfl ?_
 simp only [↓X2,wF,seval]
 refine X1 c2 rfl ?_
 simp only [↓X2,wF,seval]
 exact ZB rfl Jr rfl rfl rfl sR (hR.trans rfl)
theorem P1:Fn Tryz.prog 213 [] (vA KQ):=by
 have c1:=QX 1 1 ⟨by omega,by omega⟩ ⟨by omega,by omega⟩
 rw [Bq] at c1
 obtain ⟨R,hR⟩:∃ R,R=vA KQ:=⟨_,rfl⟩
 have sR:Settled R:=hR▸Xm _
 rw [← hR]
 refine Fq Tryz.call213 Tryz.func213 1 [] [] [] (by simp [wS]) (X0 1000 ?_); simp (maxSteps:=999999) only [AS.start,↓X2,wF,seval]
 refine X1 c1 rfl ?_
 simp only [↓X2,wF,seval]
 refine E7 rfl Dl rfl rfl rfl ?_
 rw [hR]
 exact ZD ⟨(X3 _).sees _,(X7 _).sees _,(X3 _).sees _,(X7 _).sees _,(X3 _).sees _,Xu (X7 _) (Qw (by show Xb (0:Rat).num.natAbs=[]; rw [Rat.zero_num]; simp [Q2])),(X3 _).sees _,Xu (X7 _) (Qw (D3 rfl)),trivial⟩
theorem LF (t a:V2) (ht:vb t≤vm) (ha:vb a≤vm):Fn Tryz.prog 43 [vA t,vA a] (vA (LY t a)):=by
 unfold vm at ht ha
 obtain ⟨R,hR⟩:∃ R,R=vA (LY t a):=⟨_,rfl⟩
 have sR:Settled R:=hR▸Xm _
 have:=Qv t; have:=Qn t; have:=Qv a; have:=Qn a
 have m1:=QA t.x a.x; have m2:=QA t.y a.y; have m3:=QA t.y a.x; have m4:=QA t.x a.y
 have c1:=KC t.x a.x (by unfold rm; omega) (by unfold rm; omega)
 have c2:=KC t.y a.y (by unfold rm; omega) (by unfold rm; omega)
 have c3:=D8 (t.y*a.y)
 have c4:=Gs (t.x*a.x) (-(t.y*a.y)) (by omega) (by rw [BI]; omega)
 rw [← Rat.sub_eq_add_neg] at c4
 have c5:=KC t.y a.x (by unfold rm; omega) (by unfold rm; omega)
 have c6:=KC t.x a.y (by unfold rm; omega) (by unfold rm; omega)
 have c7:=Gs (t.y*a.x) (t.x*a.y) (by omega) (by omega)
 rw [← hR]
 refine Fq Tryz.call43 Tryz.func43 5 [] [] [] (by simp [wS]) (X0 1000 ?_); simp (maxSteps:=999999) only [AS.start,↓X2,wF,seval]
 refine X1 c1 rfl ?_
 simp only [↓X2,wF,seval]
 refine X1 c2 rfl ?_
 simp only [↓X2,wF,seval]
 refine X1 c3 rfl ?_
 simp only [↓X2,wF,seval]
 refine X1 c4 rfl ?_
 simp only [↓X2,wF,seval]
 refine X1 c5 rfl ?_
 simp only [↓X2,wF,seval]
 refine X1 c6 rfl ?_
 simp only [↓X2,wF,seval]
 refine X1 c7 rfl ?_
 simp only [↓X2,wF,seval]
 exact ZB rfl Jr rfl rfl rfl sR (hR.trans rfl)
theorem Ch (t a:V2) (ht:vb t≤vm) (ha:vb a≤vm):Fn Tryz.prog 105 [vA t,vA a] (vA (LY t a)):=by
 unfold vm at ht ha
 obtain ⟨R,hR⟩:∃ R,R=vA (LY t a):=⟨_,rfl⟩
 have sR:Settled R:=hR▸Xm _
 have:=Qv t; have:=Qn t; have:=Qv a; have:=Qn a
 have m1:=QA t.x a.x; have m2:=QA t.y a.y; have m3:=QA t.y a.x; have m4:=QA t.x a.y
 have c1:=J0 t.x a.x (by unfold rm; omega) (by unfold rm; omega)
 have c2:=J0 t.y a.y (by unfold rm; omega) (by unfold rm; omega)
 have c4:=ZN (t.x*a.x) (t.y*a.y) (by unfold rm; omega) (by unfold rm; omega)
 have c5:=J0 t.y a.x (by unfold rm; omega) (by unfold rm; omega)
 have c6:=J0 t.x a.y (by unfold rm; omega) (by unfold rm; omega)
 have c7:=JA (t.y*a.x) (t.x*a.y) (by unfold rm; omega) (by unfold rm; omega)
 rw [← hR]
 refine Fq Tryz.call105 Tryz.func105 7 [] [1,20000002,20000003,2,30000002,30000003] [] (by simp [wS]) (X0 1000 ?_); simp (maxSteps:=999999) only [AS.start,↓X2,wF,seval]
 refine X1 c1 rfl ?_
 simp only [↓X2,wF,seval]
 refine X1 c2 rfl ?_
 simp only [↓X2,wF,seval]
 refine X1 c4 rfl ?_
 simp only [↓X2,wF,seval]
 refine X1 c5 rfl ?_
 simp only [↓X2,wF,seval]
 refine X1 c6 rfl ?_
 simp only [↓X2,wF,seval]
 refine X1 c7 rfl ?_
 simp only [↓X2,wF,seval]
 exact ZB rfl Jr rfl rfl rfl sR (hR.trans rfl)
theorem iP (t:V2) (ht:vb t≤vm):Fn Tryz.prog 123 [vA t] (.bool (decide (Df t))):=by
 unfold vm at ht
 have:=Qv t; have:=Qn t
 have m1:=QA t.x t.x; have m2:=QA t.y t.y; have m3:=JL (t.x*t.x) (t.y*t.y)
 have v1:=Wm t.x (by unfold rm; omega)
 have v2:=Wm t.y (by unfold rm; omega)
 have c1:=KC t.x t.x (by unfold rm; omega) (by unfold rm; omega)
 have c2:=KC t.y t.y (by unfold rm; omega) (by unfold rm; omega)
 have c3:=Gs (t.x*t.x) (t.y*t.y) (by omega) (by omega)
 have c4:=FC 1 1 ⟨by omega,by omega⟩ ⟨by omega,by omega⟩
 rw [Bq] at c4
 have c5:=Hj (t.x*t.x+t.y*t.y) 1 (by unfold rm; omega) (by have:=(BH 1 1 ⟨by omega,by omega⟩ ⟨by omega,by omega⟩); rw [Bq] at this; unfold rm; omega)
 rw [show decide (t.x*t.x+t.y*t.y=1)=decide (Df t) from decide_eq_decide.2 Iff.rfl] at c5
 refine Fq Tryz.call123 Tryz.func123 3 [] [] [] (by simp [wS]) (X0 1000 ?_); simp (maxSteps:=999999) only [AS.start,↓X2,wF,seval]
 refine X1 v1 rfl ?_
 simp only [↓X2,wF,seval]
 refine X1 v2 rfl ?_
 simp only [↓X2,wF,seval]
 refine X1 c1 rfl ?_
 simp only [↓X2,wF,seval]
 refine X1 c2 rfl ?_
 simp only [↓X2,wF,seval]
 refine X1 c3 rfl ?_
 simp only [↓X2,wF,seval]
 refine X1 c4 rfl ?_
 simp only [↓X2,wF,seval]
 refine X1 c5 rfl ?_
 simp only [↓X2,wF,seval]
 exact Xt rfl rfl (X3 _) rfl
theorem Sx (t:V2) (ht:vb t≤vm):Fn Tryz.prog 128 [vA t] (.bool (decide (Df t))):=by
 unfold vm at ht
 have:=Qv t; have:=Qn t
 have m1:=QA t.x t.x; have m2:=QA t.y t.y; have m3:=JL (t.x*t.x) (t.y*t.y)
 have v1:=LP t.x (by unfold rm; omega)
 have v2:=LP t.y (by unfold rm; omega)
 have c1:=J0 t.x t.x (by unfold rm; omega) (by unfold rm; omega)
 have c2:=J0 t.y t.y (by unfold rm; omega) (by unfold rm; omega)
 have c3:=JA (t.x*t.x) (t.y*t.y) (by unfold rm; omega) (by unfold rm; omega)
 have c4:=QX 1 1 ⟨by omega,by omega⟩ ⟨by omega,by omega⟩
 rw [Bq] at c4
 have c5:=Bt (t.x*t.x+t.y*t.y) 1 (by unfold rm; omega) (by have:=(BH 1 1 ⟨by omega,by omega⟩ ⟨by omega,by omega⟩); rw [Bq] at this; unfold rm; omega)
 rw [show decide (t.x*t.x+t.y*t.y=1)=decide (Df t) from decide_eq_decide.2 Iff.rfl] at c5
 refine Fq Tryz.call128 Tryz.func128 4 [] [3,40000001] [] (by simp [wS]) (X0 1000 ?_); simp (maxSteps:=999999) only [AS.start,↓X2,wF,seval]
 refine X1 v1 rfl ?_
 simp only [↓X2,wF,seval]
 refine X1 v2 rfl ?_
 simp only [↓X2,wF,seval]
 refine X1 c1 rfl ?_
 simp only [↓X2,wF,seval]
 refine X1 c2 rfl ?_
 simp only [↓X2,wF,seval]
 refine X1 c3 rfl ?_
 simp only [↓X2,wF,seval]
 refine X1 c4 rfl ?_
 simp only [↓X2,wF,seval]
 refine X1 c5 rfl ?_
 simp only [↓X2,wF,seval]
 exact Xt rfl rfl (X3 _) rfl
theorem iQ (b:Rat):qb b⁻¹≤qb b:=by
 rw [Rat.inv_def]
 exact Kl _ _ _ (UM b) (JV b) (JM b)
theorem iR (a b:Rat):qb (a / b)≤qb a+qb b:=by
 rw [Rat.div_def]
 have:=QA a b⁻¹; have:=iQ b
 omega
theorem Wj (a b:Rat) (ha:qb a≤vm) (hb:qb b≤vm) (h0:b≠0):Fn Tryz.prog 192 [qA a,qA b] (qA (a / b)):=by
 unfold vm at ha hb
 have q1:=iQ b
 have hn:b.num≠0:=fun h=>h0 (Rat.num_eq_zero.1 h)
 have c1:=CN b
 have c2:=Ez b.den b.num hn (by
  have:=b.reduced
  rw [Int.gcd_comm]
  exact this)
 rw [← Rat.inv_def] at c2
 have c3:=KC a b⁻¹ (by unfold rm; omega) (by unfold rm; omega)
 rw [← Rat.div_def] at c3
 obtain ⟨R,hR⟩:∃ R,R=qA (a / b):=⟨_,rfl⟩
 have sR:Settled R:=hR▸Xd _
 have f1:((Xb b.num.natAbs).length=0)=False:=eq_false fun h=>hn (by have:=digs_len_zero.1 h; omega)
 have f2:(((Xb b.num.natAbs).length:Int)=0)=False:=eq_false fun h=>hn (by have:=digs_len_zero.1 (show (Xb b.num.natAbs).length=0 by omega); omega)
 rw [← hR] at c3 ⊢
 refine Fq Tryz.call192 Tryz.func192 5 [] [] [] (by simp [wS]) (X0 1000 ?_); simp (maxSteps:=999999) only [AS.start,↓X2,wF,seval]
 simp only [f1,f2,↓X2,wF,seval]
 refine X1 c1 rfl ?_
 simp only [↓X2,wF,seval]
 refine X1 c2 rfl ?_
 simp only [↓X2,wF,seval]
 refine X1 c3 rfl ?_
 simp only [hR,↓X2,wF,seval]
 exact JB rfl Qd rfl rfl rfl sR (hR.trans rfl)
theorem rI (a b:Rat):Rat.divInt (a.num*b.den) (a.den*b.num)=a / b:=by
 rw [← Rat.divInt_mul_divInt,Rat.div_def,Rat.inv_def,Rat.num_divInt_den]
theorem LN (a b:Rat) (ha:qb a≤vm) (hb:qb b≤vm):Fn Tryz.prog 194 [qA a,qA b] (qA (a / b)):=by
 unfold vm at ha hb
 have a1:=JM a; have a2:=JV a; have b1:=JM b; have b2:=JV b
 have m1:=ZC a.num b.den (by unfold room; omega) (by unfold room; omega)
 have m3:=ZC a.den b.num (by unfold room; omega) (by unfold room; omega)
 have n1:=K7 a.num b.den
 have n3:=K7 a.den b.num
 have k:=EC (a.num*b.den) (a.den*b.num) (by omega) (by omega)
 rw [rI] at k
 have d1:=ZW a
 have d2:=ZW b
 obtain ⟨R,hR⟩:∃ R,R=qA (a / b):=⟨_,rfl⟩
 have sR:Settled R:=hR▸Xd _
 rw [← hR] at k ⊢
 refine Fq Tryz.call194 Tryz.func194 5 [] [1,20000002,20000003] [] (by simp [wS]) (X0 1000 ?_); simp (maxSteps:=999999) only [AS.start,↓X2,wF,seval]
 refine X1 d2 rfl ?_
 simp only [↓X2,wF,seval]
 refine X1 m1 rfl ?_
 simp only [↓X2,wF,seval]
 refine X1 d1 rfl ?_
 simp only [↓X2,wF,seval]
 refine X1 m3 rfl ?_
 simp only [↓X2,wF,seval]
 refine X1 k rfl ?_
 simp only [hR,↓X2,wF,seval]
 exact JB rfl Qd rfl rfl rfl sR (hR.trans rfl)
noncomputable def J6 (a b:V2):V2×Int :=
 if Q9 a a=0∨Q9 b b=0 then (v0,1) else if Q9 a a=Q9 b b then (⟨Q9 a b / Q9 a a,Qq a b / Q9 a a⟩,0) else (v0,21)
def Zj:List AV:=[.bool false,.sl 0 0 (fun _=>.any) false,.bool false,.sl 0 0 (fun _=>.any) false,.bool false,.sl 0 0 (fun _=>.any) false,.bool false,.sl 0 0 (fun _=>.any) false]
theorem ZJ:WeakL Zj (vC v0) :=
 have h1:Xb (0:Rat).num.natAbs=[]:=by rw [Rat.zero_num]; simp [Q2]
 have h2:Xb (qd (0:Rat))=[]:=D3 rfl
 ⟨Weak.rfl' _,Qw h1,Weak.rfl' _,Qw h2,Weak.rfl' _,Qw h1,Weak.rfl' _,Qw h2,trivial⟩
theorem aS (a b:V2) (ha:vb a≤10000) (hb:vb b≤10000):Fn Tryz.prog 114 [vA a,vA b] (.tup [vA (J6 a b).1,I (J6 a b).2]):=by
 obtain ⟨R,hR⟩:∃ R,R=J6 a b:=⟨_,rfl⟩
 rw [← hR]
 have q1:=Ac a a; have q2:=Ac b b; have q3:=Ac a b; have q4:=CC a b
 have c1:=Gn a a (by unfold vm; omega) (by unfold vm; omega)
 have c2:=Gn b b (by unfold vm; omega) (by unfold vm; omega)
 have c3:=Gn a b (by unfold vm; omega) (by unfold vm; omega)
 have c4:=Hd a b (by unfold vm; omega) (by unfold vm; omega)
 have s1:=Z1 (Q9 a a)
 have s2:=Z1 (Q9 b b)
 have e1:=Hj (Q9 a a) (Q9 b b) (by unfold rm; omega) (by unfold rm; omega)
 have zret:∀ {s:AS} {ver id':Nat} {k:Int},s.get 4=.ref id' ver 0→s.h[id']?=some (.row ver 8 (Xo Zj))→s.get 5=I k→R=(v0,k)→RetOk (QI Tryz.prog Tryz.f114 [1,20000002,20000003,6,70000002,70000003,70000006] [] (.tup [vA R.1,I R.2])) s:=fun h1 h2 h3 h4=>by
  subst h4
  exact Jn rfl (Xq Dl h1 h2 rfl) (by unfold QU; rfl) (Xu (Xm _) (XW ZJ)) (by rw [h3]; exact (X9 _).sees _)
 refine Fq Tryz.call114 Tryz.func114 8 [] [1,20000002,20000003,6,70000002,70000003,70000006] [] (by simp [wS]) (X0 1000 ?_); simp (maxSteps:=999999) only [AS.start,↓X2,wF,seval]
 refine X1 c1 rfl ?_
 simp only [↓X2,wF,seval]
 refine X1 c2 rfl ?_
 simp only [↓X2,wF,seval]
 refine X1 s1 rfl ?_
 by_cases h1:Q9 a a=0
 ·have f1:((Q9 a a).num.sign=0)=True:=eq_true ((Bm _).2 h1)
  simp only [f1,↓X2,wF,seval]
  exact zret rfl rfl rfl (by rw [hR]; unfold J6; rw [if_pos (.inl h1)])
 have f1:((Q9 a a).num.sign=0)=False:=eq_false fun h=>h1 ((Bm _).1 h)
 simp only [f1,↓X2,wF,seval]
 refine X1 s2 rfl ?_
 by_cases h2:Q9 b b=0
 ·have f2:((Q9 b b).num.sign=0)=True:=eq_true ((Bm _).2 h2)
  simp only [f1,f2,↓X2,wF,seval]
  exact zret rfl rfl rfl (by rw [hR]; unfold J6; rw [if_pos (.inr h2)])
 have f2:((Q9 b b).num.sign=0)=False:=eq_false fun h=>h2 ((Bm _).1 h)
 simp only [f1,f2,↓X2,wF,seval]
 refine X1 e1 rfl ?_
 have hno:¬ (Q9 a a=0∨Q9 b b=0):=fun h=>h.elim h1 h2
 by_cases h3:Q9 a a=Q9 b b
 rotate_left
 ·rw [decide_eq_false h3]
  simp only [↓X2,wF,seval]
  exact zret rfl rfl rfl (by rw [hR]; unfold J6; rw [if_neg hno,if_neg h3])
 rw [decide_eq_true h3]
 have d1:=Wj (Q9 a b) (Q9 a a) (by unfold vm; omega) (by unfold vm; omega) h1
 have d2:=Wj (Qq a b) (Q9 a a) (by unfold vm; omega) (by unfold vm; omega) h1
 simp only [↓X2,wF,seval]
 refine X1 c3 rfl ?_
 simp only [↓X2,wF,seval]
 refine X1 d1 rfl ?_
 simp only [↓X2,wF,seval]
 refine X1 c4 rfl ?_
 simp only [↓X2,wF,seval]
 refine X1 d2 rfl ?_
 simp only [↓X2,wF,seval]
 have hRe:R=(⟨Q9 a b / Q9 a a,Qq a b / Q9 a a⟩,0):=by rw [hR]; unfold J6; rw [if_neg hno,if_pos h3]
 subst hRe
 exact Jn rfl (Xq Dl rfl rfl rfl) (by unfold QU; rfl) (Xu (Xm _) (XW (Q0 (vC ⟨Q9 a b / Q9 a a,Qq a b / Q9 a a⟩)))) ((X9 _).sees _)
theorem OZ (a b:V2) (ha:vb a≤10000) (hb:vb b≤10000):Fn Tryz.prog 116 [vA a,vA b] (.tup [vA (J6 a b).1,I (J6 a b).2]):=by
 obtain ⟨R,hR⟩:∃ R,R=J6 a b:=⟨_,rfl⟩
 rw [← hR]
 have q1:=Ac a a; have q2:=Ac b b; have q3:=Ac a b; have q4:=CC a b
 have c1:=KX a a (by unfold vm; omega) (by unfold vm; omega)
 have c2:=KX b b (by unfold vm; omega) (by unfold vm; omega)
 have c3:=KX a b (by unfold vm; omega) (by unfold vm; omega)
 have c4:=Gx a b (by unfold vm; omega) (by unfold vm; omega)
 have s1:=AW (Q9 a a) (by unfold rm; omega)
 have s2:=AW (Q9 b b) (by unfold rm; omega)
 have e1:=Bt (Q9 a a) (Q9 b b) (by unfold rm; omega) (by unfold rm; omega)
 have zret:∀ {s:AS} {ver id':Nat} {k:Int},s.get 4=.ref id' ver 0→s.h[id']?=some (.row ver 8 (Xo Zj))→s.get 5=I k→R=(v0,k)→RetOk (QI Tryz.prog Tryz.f116 [4,50000003,50000006,6,70000002,70000003,70000006] [] (.tup [vA R.1,I R.2])) s:=fun h1 h2 h3 h4=>by
  subst h4
  exact Jn rfl (Xq Dl h1 h2 rfl) (by unfold QU; rfl) (Xu (Xm _) (XW ZJ)) (by rw [h3]; exact (X9 _).sees _)
 refine Fq Tryz.call116 Tryz.func116 7 [] [4,50000003,50000006,6,70000002,70000003,70000006] [] (by simp [wS]) (X0 1000 ?_); simp (maxSteps:=999999) only [AS.start,↓X2,wF,seval]
 refine X1 c1 rfl ?_
 simp only [↓X2,wF,seval]
 refine X1 s1 rfl ?_
 by_cases h1:Q9 a a=0
 ·have f1:((Q9 a a).num.sign=0)=True:=eq_true ((Bm _).2 h1)
  simp only [f1,↓X2,wF,seval]
  exact zret rfl rfl rfl (by rw [hR]; unfold J6; rw [if_pos (.inl h1)])
 have f1:((Q9 a a).num.sign=0)=False:=eq_false fun h=>h1 ((Bm _).1 h)
 simp only [f1,↓X2,wF,seval]
 refine X1 c2 rfl ?_
 simp only [f1,↓X2,wF,seval]
 refine X1 s2 rfl ?_
 by_cases h2:Q9 b b=0
 ·have f2:((Q9 b b).num.sign=0)=True:=eq_true ((Bm _).2 h2)
  simp only [f1,f2,↓X2,wF,seval]
  exact zret rfl rfl rfl (by rw [hR]; unfold J6; rw [if_pos (.inr h2)])
 have f2:((Q9 b b).num.sign=0)=False:=eq_false fun h=>h2 ((Bm _).1 h)
 simp only [f1,f2,↓X2,wF,seval]
 refine X1 c2 rfl ?_
 simp only [f1,f2,↓X2,wF,seval]
 refine X1 e1 rfl ?_
 have hno:¬ (Q9 a a=0∨Q9 b b=0):=fun h=>h.elim h1 h2
 by_cases h3:Q9 a a=Q9 b b
 rotate_left
 ·rw [decide_eq_false h3]
  simp only [↓X2,wF,seval]
  exact zret rfl rfl rfl (by rw [hR]; unfold J6; rw [if_neg hno,if_neg h3])
 rw [decide_eq_true h3]
 have d1:=LN (Q9 a b) (Q9 a a) (by unfold vm; omega) (by unfold vm; omega)
 have d2:=LN (Qq a b) (Q9 a a) (by unfold vm; omega) (by unfold vm; omega)
 simp only [↓X2,wF,seval]
 refine X1 c3 rfl ?_
 simp only [↓X2,wF,seval]
 refine X1 d1 rfl ?_
 simp only [↓X2,wF,seval]
 refine X1 c4 rfl ?_
 simp only [↓X2,wF,seval]
 refine X1 d2 rfl ?_
 simp only [↓X2,wF,seval]
 have hRe:R=(⟨Q9 a b / Q9 a a,Qq a b / Q9 a a⟩,0):=by rw [hR]; unfold J6; rw [if_neg hno,if_pos h3]
 subst hRe
 exact Jn rfl (Xq Dl rfl rfl rfl) (by unfold QU; rfl) (Xu (Xm _) (XW (Q0 (vC ⟨Q9 a b / Q9 a a,Qq a b / Q9 a a⟩)))) ((X9 _).sees _)
def Gq (t c:V2):List AV:=[.bool (decide (t.x.num<0)),X8 (Xb t.x.num.natAbs),.bool false,X8 (Xb (qd t.x)),.bool (decide (t.y.num<0)),X8 (Xb t.y.num.natAbs),.bool false,X8 (Xb (qd t.y)),
 .bool (decide (c.x.num<0)),X8 (Xb c.x.num.natAbs),.bool false,X8 (Xb (qd c.x)),.bool (decide (c.y.num<0)),X8 (Xb c.y.num.natAbs),.bool false,X8 (Xb (qd c.y))]
def Wc (t c:V2):AV:=.agg (Gq t c)
theorem Z4 (t c:V2):∀ x∈Gq t c,Settled x:=by simp [Gq,X7,X3]
theorem ZY (t c:V2):Settled (Wc t c):=Qm (Z4 t c)
def put (t c a:V2):V2:=(LY t a).add c
def tV (t c:V2):AV:=.ptr 16 (Xo (Gq t c)) 0
theorem HT (t c:V2):Settled (tV t c):=J2 fun j _=>Xc (Z4 t c) j
theorem sd (t c a:V2):vb (put t c a)≤2*(vb t+vb a)+vb c+2:=by
 have:=Dg t a; have:=Bb (LY t a) c
 unfold put; omega
theorem aJ (t c a:V2) (ht:vb t≤100000) (hc:vb c≤100000) (ha:vb a≤100000):Fn Tryz.prog 206 [vA a,tV t c] (vA (put t c a)):=by
 have m:=Dg t a
 have c1:=LF t a (by unfold vm; omega) (by unfold vm; omega)
 have c2:=OQ (LY t a) c (by unfold vm; omega) (by unfold vm; omega)
 obtain ⟨R,hR⟩:∃ R,R=vA (put t c a):=⟨_,rfl⟩
 have sR:Settled R:=hR▸Xm _
 rw [← hR]
 refine Fq Tryz.call206 Tryz.func206 4 [] [] [] (by simp [Xm,HT]) (X0 1000 ?_)
 simp only [AS.start,tV,Gq,↓X2,wF,seval]
 refine X1 c1 rfl ?_
 simp only [↓X2,wF,seval]
 refine X1 c2 rfl ?_
 simp only [↓X2,wF,seval]
 exact ZB rfl Jr rfl rfl rfl sR (hR.trans rfl)
theorem im (t c:V2):Fn Tryz.prog 143 [Wc t c] (.fn 206 [tV t c]):=by
 have hset:Settled (.fn 206 [tV t c]):=Jm (by simp [HT])
 refine Fq Tryz.call143 Tryz.func143 3 [] [] [] (by simp [ZY]) (X0 1000 ?_)
 simp only [AS.start,Wc,Gq,↓X2,wF,seval]
 refine Bl rfl (Ca ⟨Z2 (.inl rfl) (by omega) fun j hj=>?_,trivial⟩)
 exact (Xc (Z4 t c) j).sees _
theorem rD (t c a:V2) (ht:vb t≤100000) (hc:vb c≤100000) (ha:vb a≤100000):Fn Tryz.prog 55 [Wc t c,vA a] (vA (put t c a)):=by
 have c1:=im t c
 have c2:=aJ t c a ht hc ha
 obtain ⟨R,hR⟩:∃ R,R=vA (put t c a):=⟨_,rfl⟩
 have sR:Settled R:=hR▸Xm _
 rw [← hR]
 refine Fq Tryz.call55 Tryz.func55 5 [] [] [] (by simp [ZY,Xm]) (X0 1000 ?_)
 simp only [AS.start,Wc,Gq,↓X2,wF,seval]
 refine X1 c1 rfl ?_
 simp only [↓X2,wF,seval]
 refine X1 c2 rfl ?_
 simp only [↓X2,wF,seval]
 exact ZB rfl Jr rfl rfl rfl sR (hR.trans rfl)
def Kt (t c:V2) (L:List V2):List V2:=L.map (put t c)
theorem Nx (t c:V2) (L:List V2) (i:Nat) (hi:i<L.length):Kt t c (L.take i) ++ [put t c (L.getD i v0)]=Kt t c (L.take (i+1)):=by
 rw [BS _ v0 hi]; simp [Kt]
theorem S3 (t c:V2) (L:List V2) (i:Nat) (hi:i≤L.length):(Kt t c (L.take i)).length=i:=by simp [Kt]; omega
theorem Mj {P:Program} {fn:Func} {str hcs:List Nat} {s:AS} {t id ver:Nat} (L:List V2) (hr:fn.results=#[.tmp t]) (hs:s.get t=.osl id ver 8 0 L.length) (ho:s.h[id]?=some (.row ver (L.length*8) (Xs vC 8 v0 L))):RetOk (QI P fn str hcs (Xp L)) s:=by
 refine Bl hr ?_
 rw [hs,X5]
 refine Qx (.inl ho) (by omega) (fun h=>by rw [h]) fun j hj=>?_
 rw [Nat.zero_add]
 exact (Xc (by simp [vC,X7,X3]) _).sees _
theorem Z7 (a:V2):∀ j,j<8→((vC a).getD j .any).one=true:=fun j hj=>by
 match j,hj with
 | 0,_=>rfl
 | 1,_=>rfl
 | 2,_=>rfl
 | 3,_=>rfl
 | 4,_=>rfl
 | 5,_=>rfl
 | 6,_=>rfl
 | 7,_=>rfl
 | j+8,h=>omega
theorem iK (t c:V2) (L:List V2) (k:Nat) (h:Q3 L k) (hk:k≤100000) (hl:L.length<1000000) (ht:vb t≤100000) (hc:vb c≤100000):Fn Tryz.prog 69 [Wc t c,Xp L] (Xp (Kt t c L)):=by
 have bo:XK 2 (.row 0 16 (Xo (Gq t c)))=True:=eq_true (XH (Z4 t c))
 have hvc:∀ a:V2,∀ x∈vC a,Settled x:=fun a=>by simp [vC,X7,X3]
 have bv:JJ 2 (Xp L)=True:=eq_true (X6 (Xf L))
 have br:∀ i l n,XK 2 (.row i n (Xs vC 8 v0 l))=True:=fun i l n=>eq_true fun j _=>X6 (Xc (hvc _) _)
 obtain ⟨R,hR⟩:∃ R,R=Xp (Kt t c L):=⟨_,rfl⟩
 rw [← hR]
 refine Fq Tryz.call69 Tryz.func69 8 [8,9,10] [] [] (by simp [ZY,Xf]) (X0 1000 ?_)
 simp only [AS.start,Wc,Gq,X5,↓X2,wF,seval]
 refine Xg (fun i:Nat=>⟨8,[8,9,10],[.any,.any,.ref 0 0 0,.any,.any,.osl 1 i 8 0 i,.any,.any],[(8,Xp L),(9,I L.length),(10,I i)],[.row 0 16 (Xo (Gq t c)),.row i (i*8) (Xs vC 8 v0 (Kt t c (L.take i)))]⟩) (fun i=>i≤L.length) (fun i=>L.length - i) 0 (by omega)
  (Sub.trans (Q7 5 8 (Xs vC 8 v0 []) rfl) (Xa rfl (by simp [AS.put,Xh,I]) (by simp [AS.put,Xi,Xz,X5,I]) (by simp [AS.put,Gq,X4,Kt]))) ?_
 intro i hi next
 have w1:=wj i (by omega)
 by_cases hi2:i<L.length
 ·have f1:((i:Int)<L.length)=True:=eq_true (by omega)
  have f2:(i<L.length)=True:=eq_true hi2
  have f3:(i*8+8≤L.length*8)=True:=eq_true (by omega)
  have v1:=vF L i
  have hb:=h i
  have c1:=rD t c (L.getD i v0) ht hc (by omega)
  have hap:=XT vC 8 v0 (Kt t c (L.take i)) (put t c (L.getD i v0)) (by omega)
  rw [Nx _ _ _ _ hi2,S3 _ _ _ _ hi] at hap
  refine X0 1000 ?_
  simp only [Gq,X5,w1,f1,f2,f3,v1,Int.toNat_natCast,↓X2,wF,seval]
  refine X1 c1 rfl ?_
  simp only [w1,↓X2,wF,seval]
  exact ⟨⟨Z7 _,by omega,by omega⟩,next (i+1) _ (by omega) (by omega) (Xr (m:=2) (Nat.zero_le _) rfl (by simp [Xh]) (by simp [Xi,Xz,X5,I]) (by rw [← hap]; rfl) (by simp [Xv]) (by simp [Xv,bv]) (by simp [bo,br]))⟩
 obtain rfl:i=L.length:=by omega
 refine X0 1000 ?_
 simp only [Gq,X5,Int.lt_irrefl,Nat.lt_irrefl,↓X2,wF,seval]
 rw [hR,List.take_length]
 have hlen:(Kt t c L).length=L.length:=by simp [Kt]
 exact Mj _ rfl (by rw [hlen]; rfl) (by rw [hlen]; rfl)
theorem Sw (t c:V2) (L:List V2) (k:Nat) (h:Q3 L k) (hk:k≤100000) (hl:L.length<1000000) (ht:vb t≤100000) (hc:vb c≤100000):Fn Tryz.prog 247 [Wc t c,Xp L] (Xp (Kt t c L)):=by
 have bo:XK 2 (.con 0 16 (Xo (Gq t c)))=True:=eq_true (fun j _=>X6 (Xc (Z4 t c) j))
 have hvc:∀ a:V2,∀ x∈vC a,Settled x:=fun a=>by simp [vC,X7,X3]
 have bv:JJ 2 (Xp L)=True:=eq_true (X6 (Xf L))
 have br:∀ i l n,XK 2 (.row i n (Xs vC 8 v0 l))=True:=fun i l n=>eq_true fun j _=>X6 (Xc (hvc _) _)
 obtain ⟨R,hR⟩:∃ R,R=Xp (Kt t c L):=⟨_,rfl⟩
 rw [← hR]
 refine Fq Tryz.call247 Tryz.func247 7 [] [5,60000002] [] (by simp [ZY,Xf]) (X0 1000 ?_)
 simp only [AS.start,Wc,Gq,X5,↓X2,wF,seval]
 refine Xg (fun i:Nat=>⟨7,[],[.any,Xp L,.ref 0 0 0,.any,.any,.osl 1 i 8 0 i,I i],[],[.con 0 16 (Xo (Gq t c)),.row i (i*8) (Xs vC 8 v0 (Kt t c (L.take i)))]⟩) (fun i=>i≤L.length) (fun i=>L.length - i) 0 (by omega)
  (Sub.trans (XR 0 rfl) (Sub.trans (Q7 5 8 (Xs vC 8 v0 []) rfl) (Xa rfl (by simp [AS.put,X5,Xh,I]) (by simp [AS.put,Xi]) (by simp [AS.put,Gq,X4,Kt])))) ?_
 intro i hi next
 have w1:=wj i (by omega)
 by_cases hi2:i<L.length
 ·have f1:((i:Int)<L.length)=True:=eq_true (by omega)
  have f2:(i<L.length)=True:=eq_true hi2
  have f3:(i*8+8≤L.length*8)=True:=eq_true (by omega)
  have v1:=vF L i
  have hb:=h i
  have m:=Dg t (L.getD i v0)
  have c1:=Ch t (L.getD i v0) (by unfold vm; omega) (by unfold vm; omega)
  have c2:=BK (LY t (L.getD i v0)) c (by unfold vm; omega) (by unfold vm; omega)
  have hap:=XT vC 8 v0 (Kt t c (L.take i)) (put t c (L.getD i v0)) (by omega)
  rw [Nx _ _ _ _ hi2,S3 _ _ _ _ hi] at hap
  refine X0 1000 ?_
  simp only [Gq,X5,w1,f1,f2,f3,v1,Int.toNat_natCast,↓X2,wF,seval]
  refine X1 c1 rfl ?_
  simp only [Gq,X5,w1,f1,f2,f3,v1,Int.toNat_natCast,↓X2,wF,seval]
  refine X1 c2 rfl ?_
  simp only [w1,↓X2,wF,seval]
  exact ⟨⟨Z7 _,by omega,by omega⟩,next (i+1) _ (by omega) (by omega) (Xr (m:=2) (Nat.zero_le _) rfl (by simp [X5,Xh,I]) (by simp [Xi]) (by rw [← hap]; rfl) (by simp [Xv,bv]) (by simp [Xv]) (by simp [bo,br]))⟩
 obtain rfl:i=L.length:=by omega
 refine X0 1000 ?_
 simp only [Gq,X5,Int.lt_irrefl,Nat.lt_irrefl,↓X2,wF,seval]
 rw [hR,List.take_length]
 have hlen:(Kt t c L).length=L.length:=by simp [Kt]
 exact Mj _ rfl (by rw [hlen]; rfl) (by rw [hlen]; rfl)
end
end Go.Ab.N
