/- Contracts of functions of these chapters, for every argument that fits, and what they need. -/
import Derived.Test.YtefjhgcndhepeaaGreatC7
import Derived.Test.YtefjhgcndhepeaaGreatC6
set_option linter.unusedSimpArgs false
set_option linter.unusedVariables false
open Nat renaming reducePow → Y1, reduceLT → Y2, reduceLeDiff → Y3, reduceEqDiff → Y4, reduceAdd → Y5, reduceMul → Y6, reduceSub → Y7, reduceBEq → Y8, reduceDiv → Y9, reduceMod → YA
namespace Go.Ab.N
open Go Go.RowKit Go.Proofs
noncomputable section
set_option maxRecDepth 10000
set_option maxHeartbeats 4000000
open Classical
def Wh (l:List Int) (j:Nat):Bool:=decide (Ab.atF l (15+j) 9=8)
def Vz (l:List Int) (j:Nat):Int:=(Ab.atF l (20+j) 5).tdiv 2
def Of (l:List Int):Rat:=Rat.divInt (1+Ab.atF l 11 6) 2
def fN (l:List Int):Rat:=Of l+Rat.divInt (Ab.atF l 12 4) 2
def qZ (l:List Int):Rat:=Rat.divInt (Ab.atF l 10 3) 4
def t8 (l:List Int):Rat:=Rat.divInt (20+Ab.atF l 13 100) 1
def sW (l:List Int):Rat:=Rat.divInt (Ab.atF l 14 5) 4
def A1 (l:List Int):PV:=⟨Ab.atF l 8 40,Ab.atF l 9 5,HL l,(List.range (HL l).length).map (Wh l),(List.range (HL l).length).map (Vz l),RQ.of (qZ l),RQ.of (Of l),RQ.of (fN l),RQ.of (t8 l),RQ.of (sW l)⟩
theorem ge {α:Type} (f:Nat→α) (d:α) (n j:Nat) (h:j<n):((List.range n).map f).getD j d=f j:=by
 rw [List.getD_eq_getElem?_getD,List.getElem?_map,List.getElem?_range h]; rfl
def C4 (l:List Int) (i:Nat) (j:Nat):AV:=.bool (if j<i then Wh l j else false)
def BU (l:List Int) (i:Nat) (j:Nat):AV:=.int .i64 (if j<i then Vz l j else 0)
theorem SQ (l:List Int) (i:Nat):BM (C4 l i) i (.bool (decide (Ab.atF l (15+(i:Int)) 9=8)))=C4 l (i+1):=by
 funext j
 unfold BM C4
 by_cases h:j=i
 ·subst h; simp [Wh]
 ·rw [if_neg h]
  by_cases h2:j<i
  ·rw [if_pos h2,if_pos (by omega)]
  ·rw [if_neg h2,if_neg (by omega)]
theorem Rq (l:List Int) (i:Nat):BM (BU l i) i (.int .i64 ((Ab.atF l (20+(i:Int)) 5).tdiv 2))=BU l (i+1):=by
 funext j
 unfold BM BU
 by_cases h:j=i
 ·subst h; simp [Vz]
 ·rw [if_neg h]
  by_cases h2:j<i
  ·rw [if_pos h2,if_pos (by omega)]
  ·rw [if_neg h2,if_neg (by omega)]
def Wj:List AV:=[I 0,I 0,.sl 0 0 (fun _=>.any) true,.sl 0 0 (fun _=>.any) true,.sl 0 0 (fun _=>.any) true,.bool false,.sl 0 0 (fun _=>.any) true,.bool false,.sl 0 0 (fun _=>.any) true,.bool false,.sl 0 0 (fun _=>.any) true,.bool false,.sl 0 0 (fun _=>.any) true,
 .bool false,.sl 0 0 (fun _=>.any) true,.bool false,.sl 0 0 (fun _=>.any) true,.bool false,.sl 0 0 (fun _=>.any) true,.bool false,.sl 0 0 (fun _=>.any) true,.bool false,.sl 0 0 (fun _=>.any) true,.bool false,.sl 0 0 (fun _=>.any) true]
def qG (id home:Int) (n:Nat) (t l h s r:Rat):List AV:=[I id,I home,.osl 4 0 2 0 n,.osl 5 0 1 0 n,.osl 6 0 1 0 n,.bool (decide (t.num<0)),X8 (Xb t.num.natAbs),.bool false,X8 (Xb (qd t)),
 .bool (decide (l.num<0)),X8 (Xb l.num.natAbs),.bool false,X8 (Xb (qd l)),.bool (decide (h.num<0)),X8 (Xb h.num.natAbs),.bool false,X8 (Xb (qd h)),
 .bool (decide (s.num<0)),X8 (Xb s.num.natAbs),.bool false,X8 (Xb (qd s)),.bool (decide (r.num<0)),X8 (Xb r.num.natAbs),.bool false,X8 (Xb (qd r))]
theorem Nn (l:List Int) (hl:BO l) (hl2:l.length<9223372036854775808):Fn Tryz.prog 14 [X8 l] (QW (A1 l)):=by
 obtain ⟨V,hV⟩:∃ V,V=QW (A1 l):=⟨_,rfl⟩
 have sV:Settled V:=hV▸Xz _
 have hro:=(OA l).1
 have cR:=aF l hl hl2
 have c8:=Qr l 8 40 hl (by omega)
 have c9:=Qr l 9 5 hl (by omega)
 have c10:=Qr l 10 3 hl (by omega)
 have c11:=Qr l 11 6 hl (by omega)
 have c12:=Qr l 12 4 hl (by omega)
 have c13:=Qr l 13 100 hl (by omega)
 have c14:=Qr l 14 5 hl (by omega)
 have b10:=XC l 10 3 (by omega)
 have b11:=XC l 11 6 (by omega)
 have b12:=XC l 12 4 (by omega)
 have b13:=XC l 13 100 (by omega)
 have b14:=XC l 14 5 (by omega)
 have w11:IntKind.i64.wrap (1+Ab.atF l 11 6)=1+Ab.atF l 11 6:=by rw [IntKind.wrap_i64]; omega
 have w13:IntKind.i64.wrap (20+Ab.atF l 13 100)=20+Ab.atF l 13 100:=by rw [IntKind.wrap_i64]; omega
 have q10:=Jg (Ab.atF l 10 3) 4 ⟨by omega,by omega⟩ ⟨by omega,by omega⟩
 have q11:=Jg (1+Ab.atF l 11 6) 2 ⟨by omega,by omega⟩ ⟨by omega,by omega⟩
 have q12:=Jg (Ab.atF l 12 4) 2 ⟨by omega,by omega⟩ ⟨by omega,by omega⟩
 have q13:=Jg (20+Ab.atF l 13 100) 1 ⟨by omega,by omega⟩ ⟨by omega,by omega⟩
 have q14:=Jg (Ab.atF l 14 5) 4 ⟨by omega,by omega⟩ ⟨by omega,by omega⟩
 have m11:qb (Rat.divInt (1+Ab.atF l 11 6) 2)≤3:=Ke _ _ _ (by omega) (QO ⟨by omega,by omega⟩) (QO ⟨by omega,by omega⟩)
 have m12:qb (Rat.divInt (Ab.atF l 12 4) 2)≤3:=Ke _ _ _ (by omega) (QO ⟨by omega,by omega⟩) (QO ⟨by omega,by omega⟩)
 have qh:=Jx (Rat.divInt (1+Ab.atF l 11 6) 2) (Rat.divInt (Ab.atF l 12 4) 2) (by unfold rm; omega) (by unfold rm; omega)
 have cP:=RN (Ab.atF l 8 40) (HL l) (by omega)
 rw [← hV]
 unfold A1 Of fN qZ t8 sW at hV
 unfold Of at hV
 generalize Rat.divInt 1 1=u1 at *
 generalize Rat.divInt 100 1=u2 at *
 generalize Rat.divInt 1 2=u3 at *
 generalize (Rat.divInt (1+Ab.atF l 11 6) 2+Rat.divInt (Ab.atF l 12 4) 2)=Q12 at *
 generalize Rat.divInt (Ab.atF l 10 3) 4=Q10 at *
 generalize Rat.divInt (1+Ab.atF l 11 6) 2=Q11 at *
 generalize Rat.divInt (20+Ab.atF l 13 100) 1=Q13 at *
 generalize Rat.divInt (Ab.atF l 14 5) 4=Q14 at *
 generalize HL l=R at *
 refine Fq Tryz.call14 Tryz.func14 5 [] [5,6001,11,12001,12,13001] [] (by simp [X7]) (X0 1000 ?_)
 simp only [AS.start,↓X2,wA,seval,wE]
 refine X1 c8 rfl ?_
 simp only [↓X2,wA,seval,wE]
 refine X1 cR rfl ?_
 simp only [↓X2,wA,seval,wE]
 refine Kz rfl (cP _) (QX (by simp) (by simp)) (fun id=>by cases id <;> simp) ⟨Weak.rfl' _,Weak.rfl' _,trivial⟩ ?_
 simp only [Uj,↓X2,wA,seval,wE]
 refine X1 c9 rfl ?_
 simp only [↓X2,wA,seval,wE]
 refine X1 c10 rfl ?_
 simp only [↓X2,wA,seval,wE]
 refine X1 q10 rfl ?_
 simp only [↓X2,wA,seval,wE]
 refine X1 c11 rfl ?_
 simp only [w11,↓X2,wA,seval,wE]
 refine X1 q11 rfl ?_
 simp only [↓X2,wA,seval,wE]
 refine X1 c12 rfl ?_
 simp only [↓X2,wA,seval,wE]
 refine X1 q12 rfl ?_
 simp only [↓X2,wA,seval,wE]
 refine X1 qh rfl ?_
 simp only [↓X2,wA,seval,wE]
 refine X1 c13 rfl ?_
 simp only [w13,↓X2,wA,seval,wE]
 refine X1 q13 rfl ?_
 simp only [↓X2,wA,seval,wE]
 refine X1 c14 rfl ?_
 simp only [↓X2,wA,seval,wE]
 refine X1 q14 rfl ?_
 simp only [↓X2,wA,seval,wE]
 refine Xg (fun i:Nat=>⟨5,[],[X8 l,.any,.ref 0 0 0,.ref 7 0 0,I i],[],[.row 0 25 (Xp Wj),.dead,.dead,.dead,.row 0 (R.length*2) (Xs Kd 2 (0,0) R),.row 0 R.length (C4 l i),.row 0 R.length (BU l i),.row 0 25 (Xp (qG (Ab.atF l 8 40) (Ab.atF l 9 5) R.length Q10 Q11 Q12 Q13 Q14))]⟩) (fun i=>i≤R.length) (fun i=>R.length - i) 0 (by omega)
  (Sub.trans (Qq 5 R.length (C4 l 0) rfl (Nat.le_refl _) (fun j _=>by simp [C4])) (Sub.trans (Qq 6 R.length (BU l 0) rfl (Nat.le_refl _) (fun j _=>by simp [BU])) (Xa rfl (by simp [Xh,X4,I]) (by simp [Xi]) (by simp [Wj,qG,X4,I])))) ?_
 intro i hi next
 have w1:=wj i (by omega)
 by_cases hi2:i<R.length
 ·have f1:((i:Int)<R.length)=True:=eq_true (by omega)
  have f2:(i<R.length)=True:=eq_true hi2
  have w15:IntKind.i64.wrap (15+(i:Int))=15+(i:Int):=by rw [IntKind.wrap_i64]; omega
  have w20:IntKind.i64.wrap (20+(i:Int))=20+(i:Int):=by rw [IntKind.wrap_i64]; omega
  have c15:=Qr l (15+(i:Int)) 9 hl (by omega)
  have c20:=Qr l (20+(i:Int)) 5 hl (by omega)
  have b20:=XC l (20+(i:Int)) 5 (by omega)
  have e20:(Ab.atF l (20+(i:Int)) 5).tdiv 2=Ab.atF l (20+(i:Int)) 5 / 2:=Int.tdiv_eq_ediv_of_nonneg b20.1
  have wq:IntKind.i64.wrap ((Ab.atF l (20+(i:Int)) 5).tdiv 2)=(Ab.atF l (20+(i:Int)) 5).tdiv 2:=by rw [IntKind.wrap_i64]; omega
  have hU:=SQ l i
  have hM:=Rq l i
  refine X0 1000 ?_
  simp only [qG,w1,w15,w20,f1,f2,Int.toNat_natCast,↓X2,wA,seval,wE]
  refine X1 c15 rfl ?_
  simp only [qG,w1,w15,w20,f1,f2,hU,Int.toNat_natCast,↓X2,wA,seval,wE]
  refine ⟨by omega,X1 c20 rfl ?_⟩
  simp only [qG,w1,w15,w20,f1,f2,wq,hM,Int.toNat_natCast,Int.reduceEq,↓X2,wA,seval,wE]
  exact ⟨by omega,next (i+1) _ (by omega) (by omega) (Xa rfl (by simp [Xh,X4,I]) (by simp [Xi]) (by simp [Wj,qG,X4,I]))⟩
 obtain rfl:i=R.length:=by omega
 refine X0 1000 ?_
 simp only [Wj,qG,Int.lt_irrefl,Nat.lt_irrefl,↓X2,wA,seval,wE]
 subst hV
 refine DQ rfl FM rfl rfl rfl ?_
 have h1:∀ H:List AO,H[4]?=some (.row 0 (R.length*2) (Xs Kd 2 (0,0) R))→JE H (.osl 4 0 2 0 R.length) (Dj R):=fun H ho=>by
  rw [Xf]
  refine Qw (.inl ho) (by omega) (fun h=>by rw [h]) fun j hj=>?_
  rw [Nat.zero_add]
  exact (Xe (Ko _) _).sees _
 have h2:∀ H:List AO,H[5]?=some (.row 0 R.length (C4 l R.length))→JE H (.osl 5 0 1 0 R.length) (ZT ((List.range R.length).map (Wh l))):=fun H ho=>by
  rw [Xo,List.length_map,List.length_range]
  refine Qw (.inl ho) (by omega) (fun h=>by rw [h]) fun j hj=>?_
  rw [Nat.zero_add,K6,ge _ _ _ _ hj]
  unfold C4
  rw [if_pos hj]
  exact (X3 _).sees _
 have h3:∀ H:List AO,H[6]?=some (.row 0 R.length (BU l R.length))→JE H (.osl 6 0 1 0 R.length) (X8 ((List.range R.length).map (Vz l))):=fun H ho=>by
  rw [X4,List.length_map,List.length_range]
  refine Qw (.inl ho) (by omega) (fun h=>by rw [h]) fun j hj=>?_
  rw [Nat.zero_add,K6,ge _ _ _ _ hj]
  unfold BU
  rw [if_pos hj]
  exact (X9 _).sees _
 exact Zr ⟨(X9 _).sees _,(X9 _).sees _,h1 _ rfl,h2 _ rfl,h3 _ rfl,(X3 _).sees _,(X7 _).sees _,(X3 _).sees _,(X7 _).sees _,(X3 _).sees _,(X7 _).sees _,(X3 _).sees _,(X7 _).sees _,(X3 _).sees _,(X7 _).sees _,(X3 _).sees _,(X7 _).sees _,(X3 _).sees _,(X7 _).sees _,(X3 _).sees _,(X7 _).sees _,(X3 _).sees _,(X7 _).sees _,(X3 _).sees _,(X7 _).sees _,trivial⟩
theorem Nw (l:List Int):(A1 l).rim.length=(HL l).length∧(A1 l).worn.length=(HL l).length∧(A1 l).marks.length=(HL l).length:=⟨rfl,by simp [A1],by simp [A1]⟩
theorem G0 (l:List Int):(A1 l).small:=by
 have hro:=(OA l).1
 have b10:=XC l 10 3 (by omega)
 have b11:=XC l 11 6 (by omega)
 have b12:=XC l 12 4 (by omega)
 have b13:=XC l 13 100 (by omega)
 have b14:=XC l 14 5 (by omega)
 have hl:=Nw l
 have z:=fun (n m:Int) (h1:ZY n) (h2:ZY m)=>iE n m h1 h2
 have q1:=DL (1+Ab.atF l 11 6) 2 ⟨by omega,by omega⟩ ⟨by omega,by omega⟩
 have q2:=DL (Ab.atF l 12 4) 2 ⟨by omega,by omega⟩ ⟨by omega,by omega⟩
 have q3:=K5 (Rat.divInt (1+Ab.atF l 11 6) 2) (Rat.divInt (Ab.atF l 12 4) 2)
 have q4:=RQ.of_sz (Rat.divInt (1+Ab.atF l 11 6) 2+Rat.divInt (Ab.atF l 12 4) 2)
 refine ⟨by rw [hl.1]; omega,by rw [hl.2.1]; omega,by rw [hl.2.2]; omega,?_,?_,?_,?_,?_⟩
 ·exact Nat.le_trans (z (Ab.atF l 10 3) 4 ⟨by omega,by omega⟩ ⟨by omega,by omega⟩) (by omega)
 ·exact Nat.le_trans (z (1+Ab.atF l 11 6) 2 ⟨by omega,by omega⟩ ⟨by omega,by omega⟩) (by omega)
 ·show (RQ.of (Rat.divInt (1+Ab.atF l 11 6) 2+Rat.divInt (Ab.atF l 12 4) 2)).sz≤_
  omega
 ·exact Nat.le_trans (z (20+Ab.atF l 13 100) 1 ⟨by omega,by omega⟩ ⟨by omega,by omega⟩) (by omega)
 ·exact Nat.le_trans (z (Ab.atF l 14 5) 4 ⟨by omega,by omega⟩ ⟨by omega,by omega⟩) (by omega)
theorem FW {a:Rat} (h:qb a≤rm):(RQ.of a).sz<4611686018427387904:=Nat.lt_of_le_of_lt (RQ.of_sz a) (by unfold rm at h; omega)
theorem GR (a b:Rat) (ha:qb a≤rm) (hb:qb b≤rm):Fn Tryz.prog 29 [qA a,qA b] (.bool (decide (a=b))):=by
 have:=ip (RQ.of a) (RQ.of b) (FW ha) (FW hb)
 rwa [decide_eq_decide.2 (show RQ.of a=RQ.of b↔a=b from ⟨RQ.of_inj,fun h=>by rw [h]⟩)] at this
theorem Bj (a b:Rat) (ha:qb a≤rm) (hb:qb b≤rm):Fn Tryz.prog 86 [qA a,qA b] (.bool (decide (a=b))):=by
 have:=aL (RQ.of a) (RQ.of b) (FW ha) (FW hb)
 rwa [decide_eq_decide.2 (show RQ.of a=RQ.of b↔a=b from ⟨RQ.of_inj,fun h=>by rw [h]⟩)] at this
theorem VZ (a:Rat) (ha:qb a≤rm):Fn Tryz.prog 79 [qA a] (.bool true):=by
 have:=NB (RQ.of a) (Nat.lt_of_le_of_lt (RQ.of_sz a) (by unfold rm at ha; omega))
 rwa [decide_eq_true ⟨a,rfl⟩] at this
theorem Lt (a:Rat) (ha:qb a≤rm):Fn Tryz.prog 83 [qA a] (.bool true):=by
 have:=G9 (RQ.of a) (Nat.lt_of_le_of_lt (RQ.of_sz a) (by unfold rm at ha; omega))
 rwa [decide_eq_true ⟨a,rfl⟩] at this
def LB (t a:V2):V2:=⟨t.x*a.x - t.y*a.y,t.y*a.x+t.x*a.y⟩
def V2.scale (a:V2) (k:Rat):V2:=⟨a.x*k,a.y*k⟩
def D4 (t:V2):Prop:=t.x*t.x+t.y*t.y=1
def KH:V2:=⟨1,0⟩
theorem D5 (t a:V2):vb (LB t a)≤2*(vb t+vb a)+1:=by
 have:=Qy t.x a.x; have:=Qy t.y a.y; have:=Qy t.y a.x; have:=Qy t.x a.y
 have:=Qu t; have:=Qp t; have:=Qu a; have:=Qp a
 have:=Ff (t.x*a.x) (t.y*a.y); have:=K5 (t.y*a.x) (t.x*a.y)
 unfold LB
 show max (qb (t.x*a.x - t.y*a.y)) (qb (t.y*a.x+t.x*a.y))≤_
 omega
theorem iQ (a:V2) (k:Rat):vb (a.scale k)≤vb a+qb k:=by
 have:=Qy a.x k; have:=Qy a.y k; have:=Qu a; have:=Qp a
 unfold V2.scale
 show max (qb (a.x*k)) (qb (a.y*k))≤_
 omega
theorem Bg:Rat.divInt 1 1=1:=by decide +kernel
theorem V2.ext' {a b:V2}:a=b↔a.x=b.x∧a.y=b.y:=by
 cases a; cases b
 simp
theorem VQ (a b:V2) (ha:vb a≤vm) (hb:vb b≤vm):Fn Tryz.prog 42 [vA a,vA b] (.bool (decide (a=b))):=by
 unfold vm at ha hb
 have:=Qu a; have:=Qu b; have:=Qp a; have:=Qp b
 have c1:=GR a.x b.x (by unfold rm; omega) (by unfold rm; omega)
 have c2:=GR a.y b.y (by unfold rm; omega) (by unfold rm; omega)
 obtain ⟨V,hV⟩:∃ V,V=decide (a=b):=⟨_,rfl⟩
 rw [← hV]
 refine Fq Tryz.call42 Tryz.func42 5 [] [] [] (by simp [wS]) (X0 1000 ?_); simp (config:={ maxSteps:=2000000 }) only [AS.start,↓X2,wA,seval,wE]
 refine X1 c1 rfl ?_
 by_cases h:a.x=b.x
 ·rw [decide_eq_true h]
  simp only [↓X2,wA,seval,wE]
  refine X1 c2 rfl ?_
  simp only [↓X2,wA,seval,wE]
  exact Xu (v:=.bool (decide (a.y=b.y))) rfl rfl (X3 _) (by rw [hV]; exact congrArg AV.bool (decide_eq_decide.2 (show a.y=b.y↔a=b from ⟨fun e=>V2.ext'.2 ⟨h,e⟩,fun e=>(V2.ext'.1 e).2⟩)))
 ·rw [decide_eq_false h]
  simp only [↓X2,wA,seval,wE]
  exact Xu (v:=.bool false) rfl rfl (X3 _) (by rw [hV,decide_eq_false (p:=a=b) fun e=>h (by rw [e])])
theorem BW (a b:V2) (ha:vb a≤vm) (hb:vb b≤vm):Fn Tryz.prog 67 [vA a,vA b] (.bool (decide (a=b))):=by
 unfold vm at ha hb
 have:=Qu a; have:=Qu b; have:=Qp a; have:=Qp b
 have c1:=GR a.x b.x (by unfold rm; omega) (by unfold rm; omega)
 have c2:=GR a.y b.y (by unfold rm; omega) (by unfold rm; omega)
 obtain ⟨V,hV⟩:∃ V,V=decide (a=b):=⟨_,rfl⟩
 rw [← hV]
 refine Fq Tryz.call67 Tryz.func67 5 [] [] [] (by simp [wS]) (X0 1000 ?_); simp (config:={ maxSteps:=2000000 }) only [AS.start,↓X2,wA,seval,wE]
 refine X1 c1 rfl ?_
 by_cases h:a.x=b.x
 ·rw [decide_eq_true h]
  simp only [↓X2,wA,seval,wE]
  refine X1 c2 rfl ?_
  simp only [↓X2,wA,seval,wE]
  exact Xu (v:=.bool (decide (a.y=b.y))) rfl rfl (X3 _) (by rw [hV]; exact congrArg AV.bool (decide_eq_decide.2 (show a.y=b.y↔a=b from ⟨fun e=>V2.ext'.2 ⟨h,e⟩,fun e=>(V2.ext'.1 e).2⟩)))
 ·rw [decide_eq_false h]
  simp only [↓X2,wA,seval,wE]
  exact Xu (v:=.bool false) rfl rfl (X3 _) (by rw [hV,decide_eq_false (p:=a=b) fun e=>h (by rw [e])])
theorem Ol (a b:V2) (ha:vb a≤vm) (hb:vb b≤vm):Fn Tryz.prog 59 [vA a,vA b] (vA (a.add b)):=by
 unfold vm at ha hb
 obtain ⟨R,hR⟩:∃ R,R=vA (a.add b):=⟨_,rfl⟩
 have sR:Settled R:=hR▸Xn _
 have:=Qu a; have:=Qu b; have:=Qp a; have:=Qp b
 have c1:=B9 a.x b.x (by unfold rm; omega) (by unfold rm; omega)
 have c2:=B9 a.y b.y (by unfold rm; omega) (by unfold rm; omega)
 rw [← hR]
 refine Fq Tryz.call59 Tryz.func59 5 [] [] [] (by simp [wS]) (X0 1000 ?_); simp (config:={ maxSteps:=2000000 }) only [AS.start,↓X2,wA,seval,wE]
 refine X1 c1 rfl ?_
 simp only [↓X2,wA,seval,wE]
 refine X1 c2 rfl ?_
 simp only [↓X2,wA,seval,wE]
 exact ZQ rfl Jq rfl rfl rfl sR (hR.trans rfl)
theorem Nu (a:V2) (k:Rat) (ha:vb a≤vm) (hk:qb k≤vm):Fn Tryz.prog 58 [vA a,qA k] (vA (a.scale k)):=by
 unfold vm at ha hk
 obtain ⟨R,hR⟩:∃ R,R=vA (a.scale k):=⟨_,rfl⟩
 have sR:Settled R:=hR▸Xn _
 have:=Qu a; have:=Qp a
 have c1:=Ku a.x k (by unfold rm; omega) (by unfold rm; omega)
 have c2:=Ku a.y k (by unfold rm; omega) (by unfold rm; omega)
 rw [← hR]
 refine Fq Tryz.call58 Tryz.func58 5 [] [] [] (by simp [wS]) (X0 1000 ?_); simp (config:={ maxSteps:=2000000 }) only [AS.start,↓X2,wA,seval,wE]
 refine X1 c1 rfl ?_
 simp only [↓X2,wA,seval,wE]
 refine X1 c2 rfl ?_
 simp only [↓X2,wA,seval,wE]
 exact ZQ rfl Jq rfl rfl rfl sR (hR.trans rfl)
theorem au:Fn Tryz.prog 203 [] (vA KH):=by
 have c1:=Fi 1 1 ⟨by omega,by omega⟩ ⟨by omega,by omega⟩
 rw [Bg] at c1
 obtain ⟨R,hR⟩:∃ R,R=vA KH:=⟨_,rfl⟩
 have sR:Settled R:=hR▸Xn _
 rw [← hR]
 refine Fq Tryz.call203 Tryz.func203 1 [] [] [] (by simp [wS]) (X0 1000 ?_); simp (config:={ maxSteps:=2000000 }) only [AS.start,↓X2,wA,seval,wE]
 refine X1 c1 rfl ?_
 simp only [↓X2,wA,seval,wE]
 refine DQ rfl DD rfl rfl rfl ?_
 rw [hR]
 exact Zr ⟨(X3 _).sees _,(X7 _).sees _,(X3 _).sees _,(X7 _).sees _,(X3 _).sees _,Xt (X7 _) (Qv (by show Xb (0:Rat).num.natAbs=[]; rw [Rat.zero_num]; simp [XY])),(X3 _).sees _,Xt (X7 _) (Qv (CR rfl)),trivial⟩
theorem Fh (a b:V2) (ha:vb a≤vm) (hb:vb b≤vm):Fn Tryz.prog 48 [vA a,vA b] (.bool (decide (a=b))):=by
 unfold vm at ha hb
 have:=Qu a; have:=Qu b; have:=Qp a; have:=Qp b
 have c1:=Bj a.x b.x (by unfold rm; omega) (by unfold rm; omega)
 have c2:=Bj a.y b.y (by unfold rm; omega) (by unfold rm; omega)
 obtain ⟨V,hV⟩:∃ V,V=decide (a=b):=⟨_,rfl⟩
 rw [← hV]
 refine Fq Tryz.call48 Tryz.func48 5 [] [] [] (by simp [wS]) (X0 1000 ?_); simp (config:={ maxSteps:=2000000 }) only [AS.start,↓X2,wA,seval,wE]
 refine X1 c1 rfl ?_
 by_cases h:a.x=b.x
 ·rw [decide_eq_true h]
  simp only [↓X2,wA,seval,wE]
  refine X1 c2 rfl ?_
  simp only [↓X2,wA,seval,wE]
  exact Xu (v:=.bool (decide (a.y=b.y))) rfl rfl (X3 _) (by rw [hV]; exact congrArg AV.bool (decide_eq_decide.2 (show a.y=b.y↔a=b from ⟨fun e=>V2.ext'.2 ⟨h,e⟩,fun e=>(V2.ext'.1 e).2⟩)))
 ·rw [decide_eq_false h]
  simp only [↓X2,wA,seval,wE]
  exact Xu (v:=.bool false) rfl rfl (X3 _) (by rw [hV,decide_eq_false (p:=a=b) fun e=>h (by rw [e])])
theorem A6 (a b:V2) (ha:vb a≤vm) (hb:vb b≤vm):Fn Tryz.prog 41 [vA a,vA b] (.bool (decide (a=b))):=by
 unfold vm at ha hb
 have:=Qu a; have:=Qu b; have:=Qp a; have:=Qp b
 have c1:=Bj a.x b.x (by unfold rm; omega) (by unfold rm; omega)
 have c2:=Bj a.y b.y (by unfold rm; omega) (by unfold rm; omega)
 obtain ⟨V,hV⟩:∃ V,V=decide (a=b):=⟨_,rfl⟩
 rw [← hV]
 refine Fq Tryz.call41 Tryz.func41 5 [] [] [] (by simp [wS]) (X0 1000 ?_); simp (config:={ maxSteps:=2000000 }) only [AS.start,↓X2,wA,seval,wE]
 refine X1 c1 rfl ?_
 by_cases h:a.x=b.x
 ·rw [decide_eq_true h]
  simp only [↓X2,wA,seval,wE]
  refine X1 c2 rfl ?_
  simp only [↓X2,wA,seval,wE]
  exact Xu (v:=.bool (decide (a.y=b.y))) rfl rfl (X3 _) (by rw [hV]; exact congrArg AV.bool (decide_eq_decide.2 (show a.y=b.y↔a=b from ⟨fun e=>V2.ext'.2 ⟨h,e⟩,fun e=>(V2.ext'.1 e).2⟩)))
 ·rw [decide_eq_false h]
  simp only [↓X2,wA,seval,wE]
  exact Xu (v:=.bool false) rfl rfl (X3 _) (by rw [hV,decide_eq_false (p:=a=b) fun e=>h (by rw [e])])
theorem Fg (a b:V2) (ha:vb a≤vm) (hb:vb b≤vm):Fn Tryz.prog 111 [vA a,vA b] (vA (a.add b)):=by
 unfold vm at ha hb
 obtain ⟨R,hR⟩:∃ R,R=vA (a.add b):=⟨_,rfl⟩
 have sR:Settled R:=hR▸Xn _
 have:=Qu a; have:=Qu b; have:=Qp a; have:=Qp b
 have c1:=Jx a.x b.x (by unfold rm; omega) (by unfold rm; omega)
 have c2:=Jx a.y b.y (by unfold rm; omega) (by unfold rm; omega)
 rw [← hR]
 refine Fq Tryz.call111 Tryz.func111 5 [] [] [] (by simp [wS]) (X0 1000 ?_); simp (config:={ maxSteps:=2000000 }) only [AS.start,↓X2,wA,seval,wE]
 refine X1 c1 rfl ?_
 simp only [↓X2,wA,seval,wE]
 refine X1 c2 rfl ?_
 simp only [↓X2,wA,seval,wE]
 exact ZQ rfl Jq rfl rfl rfl sR (hR.trans rfl)
theorem Oy (a:V2) (k:Rat) (ha:vb a≤vm) (hk:qb k≤vm):Fn Tryz.prog 211 [vA a,qA k] (vA (a.scale k)):=by
 unfold vm at ha hk
 obtain ⟨R,hR⟩:∃ R,R=vA (a.scale k):=⟨_,rfl⟩
 have sR:Settled R:=hR▸Xn _
 have:=Qu a; have:=Qp a
 have c1:=QY a.x k (by unfold rm; omega) (by unfold rm; omega)
 have c2:=QY a.y k (by unfold rm; omega) (by unfold rm; omega)
 rw [← hR]
 refine Fq Tryz.call211 Tryz.func211 5 [] [] [] (by simp [wS]) (X0 1000 ?_); simp (config:={ maxSteps:=2000000 }) only [AS.start,↓X2,wA,seval,wE]
 refine X1 c1 rfl ?_
 simp only [↓X2,wA,seval,wE]
 refine X1 c2 rfl ?_
 simp only [↓X2,wA,seval,wE]
 exact ZQ rfl Jq rfl rfl rfl sR (hR.trans rfl)
theorem Oz:Fn Tryz.prog 213 [] (vA KH):=by
 have c1:=Jg 1 1 ⟨by omega,by omega⟩ ⟨by omega,by omega⟩
 rw [Bg] at c1
 obtain ⟨R,hR⟩:∃ R,R=vA KH:=⟨_,rfl⟩
 have sR:Settled R:=hR▸Xn _
 rw [← hR]
 refine Fq Tryz.call213 Tryz.func213 1 [] [] [] (by simp [wS]) (X0 1000 ?_); simp (config:={ maxSteps:=2000000 }) only [AS.start,↓X2,wA,seval,wE]
 refine X1 c1 rfl ?_
 simp only [↓X2,wA,seval,wE]
 refine DQ rfl DD rfl rfl rfl ?_
 rw [hR]
 exact Zr ⟨(X3 _).sees _,(X7 _).sees _,(X3 _).sees _,(X7 _).sees _,(X3 _).sees _,Xt (X7 _) (Qv (by show Xb (0:Rat).num.natAbs=[]; rw [Rat.zero_num]; simp [XY])),(X3 _).sees _,Xt (X7 _) (Qv (CR rfl)),trivial⟩
theorem Lk (t a:V2) (ht:vb t≤vm) (ha:vb a≤vm):Fn Tryz.prog 43 [vA t,vA a] (vA (LB t a)):=by
 unfold vm at ht ha
 obtain ⟨R,hR⟩:∃ R,R=vA (LB t a):=⟨_,rfl⟩
 have sR:Settled R:=hR▸Xn _
 have:=Qu t; have:=Qp t; have:=Qu a; have:=Qp a
 have m1:=Qy t.x a.x; have m2:=Qy t.y a.y; have m3:=Qy t.y a.x; have m4:=Qy t.x a.y
 have c1:=Ku t.x a.x (by unfold rm; omega) (by unfold rm; omega)
 have c2:=Ku t.y a.y (by unfold rm; omega) (by unfold rm; omega)
 have c3:=CW (t.y*a.y)
 have c4:=G3 (t.x*a.x) (-(t.y*a.y)) (by omega) (by rw [Bx]; omega)
 rw [← Rat.sub_eq_add_neg] at c4
 have c5:=Ku t.y a.x (by unfold rm; omega) (by unfold rm; omega)
 have c6:=Ku t.x a.y (by unfold rm; omega) (by unfold rm; omega)
 have c7:=G3 (t.y*a.x) (t.x*a.y) (by omega) (by omega)
 rw [← hR]
 refine Fq Tryz.call43 Tryz.func43 5 [] [] [] (by simp [wS]) (X0 1000 ?_); simp (config:={ maxSteps:=2000000 }) only [AS.start,↓X2,wA,seval,wE]
 refine X1 c1 rfl ?_
 simp only [↓X2,wA,seval,wE]
 refine X1 c2 rfl ?_
 simp only [↓X2,wA,seval,wE]
 refine X1 c3 rfl ?_
 simp only [↓X2,wA,seval,wE]
 refine X1 c4 rfl ?_
 simp only [↓X2,wA,seval,wE]
 refine X1 c5 rfl ?_
 simp only [↓X2,wA,seval,wE]
 refine X1 c6 rfl ?_
 simp only [↓X2,wA,seval,wE]
 refine X1 c7 rfl ?_
 simp only [↓X2,wA,seval,wE]
 exact ZQ rfl Jq rfl rfl rfl sR (hR.trans rfl)
theorem C8 (t a:V2) (ht:vb t≤vm) (ha:vb a≤vm):Fn Tryz.prog 105 [vA t,vA a] (vA (LB t a)):=by
 unfold vm at ht ha
 obtain ⟨R,hR⟩:∃ R,R=vA (LB t a):=⟨_,rfl⟩
 have sR:Settled R:=hR▸Xn _
 have:=Qu t; have:=Qp t; have:=Qu a; have:=Qp a
 have m1:=Qy t.x a.x; have m2:=Qy t.y a.y; have m3:=Qy t.y a.x; have m4:=Qy t.x a.y
 have c1:=QY t.x a.x (by unfold rm; omega) (by unfold rm; omega)
 have c2:=QY t.y a.y (by unfold rm; omega) (by unfold rm; omega)
 have c4:=ZC (t.x*a.x) (t.y*a.y) (by unfold rm; omega) (by unfold rm; omega)
 have c5:=QY t.y a.x (by unfold rm; omega) (by unfold rm; omega)
 have c6:=QY t.x a.y (by unfold rm; omega) (by unfold rm; omega)
 have c7:=Jx (t.y*a.x) (t.x*a.y) (by unfold rm; omega) (by unfold rm; omega)
 rw [← hR]
 refine Fq Tryz.call105 Tryz.func105 7 [] [1,20000002,20000003,2,30000002,30000003] [] (by simp [wS]) (X0 1000 ?_); simp (config:={ maxSteps:=2000000 }) only [AS.start,↓X2,wA,seval,wE]
 refine X1 c1 rfl ?_
 simp only [↓X2,wA,seval,wE]
 refine X1 c2 rfl ?_
 simp only [↓X2,wA,seval,wE]
 refine X1 c4 rfl ?_
 simp only [↓X2,wA,seval,wE]
 refine X1 c5 rfl ?_
 simp only [↓X2,wA,seval,wE]
 refine X1 c6 rfl ?_
 simp only [↓X2,wA,seval,wE]
 refine X1 c7 rfl ?_
 simp only [↓X2,wA,seval,wE]
 exact ZQ rfl Jq rfl rfl rfl sR (hR.trans rfl)
theorem gU (t:V2) (ht:vb t≤vm):Fn Tryz.prog 123 [vA t] (.bool (decide (D4 t))):=by
 unfold vm at ht
 have:=Qu t; have:=Qp t
 have m1:=Qy t.x t.x; have m2:=Qy t.y t.y; have m3:=K5 (t.x*t.x) (t.y*t.y)
 have v1:=VZ t.x (by unfold rm; omega)
 have v2:=VZ t.y (by unfold rm; omega)
 have c1:=Ku t.x t.x (by unfold rm; omega) (by unfold rm; omega)
 have c2:=Ku t.y t.y (by unfold rm; omega) (by unfold rm; omega)
 have c3:=G3 (t.x*t.x) (t.y*t.y) (by omega) (by omega)
 have c4:=Fi 1 1 ⟨by omega,by omega⟩ ⟨by omega,by omega⟩
 rw [Bg] at c4
 have c5:=GR (t.x*t.x+t.y*t.y) 1 (by unfold rm; omega) (by have:=(DL 1 1 ⟨by omega,by omega⟩ ⟨by omega,by omega⟩); rw [Bg] at this; unfold rm; omega)
 rw [show decide (t.x*t.x+t.y*t.y=1)=decide (D4 t) from decide_eq_decide.2 Iff.rfl] at c5
 refine Fq Tryz.call123 Tryz.func123 3 [] [] [] (by simp [wS]) (X0 1000 ?_); simp (config:={ maxSteps:=2000000 }) only [AS.start,↓X2,wA,seval,wE]
 refine X1 v1 rfl ?_
 simp only [↓X2,wA,seval,wE]
 refine X1 v2 rfl ?_
 simp only [↓X2,wA,seval,wE]
 refine X1 c1 rfl ?_
 simp only [↓X2,wA,seval,wE]
 refine X1 c2 rfl ?_
 simp only [↓X2,wA,seval,wE]
 refine X1 c3 rfl ?_
 simp only [↓X2,wA,seval,wE]
 refine X1 c4 rfl ?_
 simp only [↓X2,wA,seval,wE]
 refine X1 c5 rfl ?_
 simp only [↓X2,wA,seval,wE]
 exact Xu rfl rfl (X3 _) rfl
theorem S3 (t:V2) (ht:vb t≤vm):Fn Tryz.prog 128 [vA t] (.bool (decide (D4 t))):=by
 unfold vm at ht
 have:=Qu t; have:=Qp t
 have m1:=Qy t.x t.x; have m2:=Qy t.y t.y; have m3:=K5 (t.x*t.x) (t.y*t.y)
 have v1:=Lt t.x (by unfold rm; omega)
 have v2:=Lt t.y (by unfold rm; omega)
 have c1:=QY t.x t.x (by unfold rm; omega) (by unfold rm; omega)
 have c2:=QY t.y t.y (by unfold rm; omega) (by unfold rm; omega)
 have c3:=Jx (t.x*t.x) (t.y*t.y) (by unfold rm; omega) (by unfold rm; omega)
 have c4:=Jg 1 1 ⟨by omega,by omega⟩ ⟨by omega,by omega⟩
 rw [Bg] at c4
 have c5:=Bj (t.x*t.x+t.y*t.y) 1 (by unfold rm; omega) (by have:=(DL 1 1 ⟨by omega,by omega⟩ ⟨by omega,by omega⟩); rw [Bg] at this; unfold rm; omega)
 rw [show decide (t.x*t.x+t.y*t.y=1)=decide (D4 t) from decide_eq_decide.2 Iff.rfl] at c5
 refine Fq Tryz.call128 Tryz.func128 4 [] [3,40000001] [] (by simp [wS]) (X0 1000 ?_); simp (config:={ maxSteps:=2000000 }) only [AS.start,↓X2,wA,seval,wE]
 refine X1 v1 rfl ?_
 simp only [↓X2,wA,seval,wE]
 refine X1 v2 rfl ?_
 simp only [↓X2,wA,seval,wE]
 refine X1 c1 rfl ?_
 simp only [↓X2,wA,seval,wE]
 refine X1 c2 rfl ?_
 simp only [↓X2,wA,seval,wE]
 refine X1 c3 rfl ?_
 simp only [↓X2,wA,seval,wE]
 refine X1 c4 rfl ?_
 simp only [↓X2,wA,seval,wE]
 refine X1 c5 rfl ?_
 simp only [↓X2,wA,seval,wE]
 exact Xu rfl rfl (X3 _) rfl
theorem gV (b:Rat):qb b⁻¹≤qb b:=by
 rw [Rat.inv_def]
 exact Ke _ _ _ (Un b) (JR b) (JH b)
theorem gW (a b:Rat):qb (a / b)≤qb a+qb b:=by
 rw [Rat.div_def]
 have:=Qy a b⁻¹; have:=gV b
 omega
theorem VW (a b:Rat) (ha:qb a≤vm) (hb:qb b≤vm) (h0:b≠0):Fn Tryz.prog 192 [qA a,qA b] (qA (a / b)):=by
 unfold vm at ha hb
 have q1:=gV b
 have hn:b.num≠0:=fun h=>h0 (Rat.num_eq_zero.1 h)
 have c1:=CD b
 have c2:=Ei b.den b.num hn (by
  have:=b.reduced
  rw [Int.gcd_comm]
  exact this)
 rw [← Rat.inv_def] at c2
 have c3:=Ku a b⁻¹ (by unfold rm; omega) (by unfold rm; omega)
 rw [← Rat.div_def] at c3
 obtain ⟨R,hR⟩:∃ R,R=qA (a / b):=⟨_,rfl⟩
 have sR:Settled R:=hR▸Xc _
 have f1:((Xb b.num.natAbs).length=0)=False:=eq_false fun h=>hn (by have:=digs_len_zero.1 h; omega)
 have f2:(((Xb b.num.natAbs).length:Int)=0)=False:=eq_false fun h=>hn (by have:=digs_len_zero.1 (show (Xb b.num.natAbs).length=0 by omega); omega)
 rw [← hR] at c3 ⊢
 refine Fq Tryz.call192 Tryz.func192 5 [] [] [] (by simp [wS]) (X0 1000 ?_); simp (config:={ maxSteps:=2000000 }) only [AS.start,↓X2,wA,seval,wE]
 simp only [f1,f2,↓X2,wA,seval,wE]
 refine X1 c1 rfl ?_
 simp only [↓X2,wA,seval,wE]
 refine X1 c2 rfl ?_
 simp only [↓X2,wA,seval,wE]
 refine X1 c3 rfl ?_
 simp only [hR,↓X2,wA,seval,wE]
 exact JC rfl Qd rfl rfl rfl sR (hR.trans rfl)
theorem qM (a b:Rat):Rat.divInt (a.num*b.den) (a.den*b.num)=a / b:=by
 rw [← Rat.divInt_mul_divInt,Rat.div_def,Rat.inv_def,Rat.num_divInt_den]
theorem Ls (a b:Rat) (ha:qb a≤vm) (hb:qb b≤vm):Fn Tryz.prog 194 [qA a,qA b] (qA (a / b)):=by
 unfold vm at ha hb
 have a1:=JH a; have a2:=JR a; have b1:=JH b; have b2:=JR b
 have m1:=Zq a.num b.den (by unfold room; omega) (by unfold room; omega)
 have m3:=Zq a.den b.num (by unfold room; omega) (by unfold room; omega)
 have n1:=K1 a.num b.den
 have n3:=K1 a.den b.num
 have k:=Ej (a.num*b.den) (a.den*b.num) (by omega) (by omega)
 rw [qM] at k
 have d1:=ZK a
 have d2:=ZK b
 obtain ⟨R,hR⟩:∃ R,R=qA (a / b):=⟨_,rfl⟩
 have sR:Settled R:=hR▸Xc _
 rw [← hR] at k ⊢
 refine Fq Tryz.call194 Tryz.func194 5 [] [1,20000002,20000003] [] (by simp [wS]) (X0 1000 ?_); simp (config:={ maxSteps:=2000000 }) only [AS.start,↓X2,wA,seval,wE]
 refine X1 d2 rfl ?_
 simp only [↓X2,wA,seval,wE]
 refine X1 m1 rfl ?_
 simp only [↓X2,wA,seval,wE]
 refine X1 d1 rfl ?_
 simp only [↓X2,wA,seval,wE]
 refine X1 m3 rfl ?_
 simp only [↓X2,wA,seval,wE]
 refine X1 k rfl ?_
 simp only [hR,↓X2,wA,seval,wE]
 exact JC rfl Qd rfl rfl rfl sR (hR.trans rfl)
noncomputable def J4 (a b:V2):V2×Int :=
 if Q7 a a=0∨Q7 b b=0 then (v0,1) else if Q7 a a=Q7 b b then (⟨Q7 a b / Q7 a a,Qo a b / Q7 a a⟩,0) else (v0,21)
def Z8:List AV:=[.bool false,.sl 0 0 (fun _=>.any) false,.bool false,.sl 0 0 (fun _=>.any) false,.bool false,.sl 0 0 (fun _=>.any) false,.bool false,.sl 0 0 (fun _=>.any) false]
theorem Zx:WeakL Z8 (vC v0) :=
 have h1:Xb (0:Rat).num.natAbs=[]:=by rw [Rat.zero_num]; simp [XY]
 have h2:Xb (qd (0:Rat))=[]:=CR rfl
 ⟨Weak.rfl' _,Qv h1,Weak.rfl' _,Qv h2,Weak.rfl' _,Qv h1,Weak.rfl' _,Qv h2,trivial⟩
theorem ap (a b:V2) (ha:vb a≤10000) (hb:vb b≤10000):Fn Tryz.prog 114 [vA a,vA b] (.tup [vA (J4 a b).1,I (J4 a b).2]):=by
 obtain ⟨R,hR⟩:∃ R,R=J4 a b:=⟨_,rfl⟩
 rw [← hR]
 have q1:=A3 a a; have q2:=A3 b b; have q3:=A3 a b; have q4:=Cs a b
 have c1:=FZ a a (by unfold vm; omega) (by unfold vm; omega)
 have c2:=FZ b b (by unfold vm; omega) (by unfold vm; omega)
 have c3:=FZ a b (by unfold vm; omega) (by unfold vm; omega)
 have c4:=GM a b (by unfold vm; omega) (by unfold vm; omega)
 have s1:=KQ (Q7 a a)
 have s2:=KQ (Q7 b b)
 have e1:=GR (Q7 a a) (Q7 b b) (by unfold rm; omega) (by unfold rm; omega)
 have zret:∀ {s:AS} {ver id':Nat} {k:Int},s.get 4=.ref id' ver 0→s.h[id']?=some (.row ver 8 (Xp Z8))→s.get 5=I k→R=(v0,k)→RetOk (QR Tryz.prog Tryz.f114 [1,20000002,20000003,6,70000002,70000003,70000006] [] (.tup [vA R.1,I R.2])) s:=fun h1 h2 h3 h4=>by
  subst h4
  exact Jm rfl (Xr DD h1 h2 rfl) (by unfold QT; rfl) (Xt (Xn _) (XV Zx)) (by rw [h3]; exact (X9 _).sees _)
 refine Fq Tryz.call114 Tryz.func114 8 [] [1,20000002,20000003,6,70000002,70000003,70000006] [] (by simp [wS]) (X0 1000 ?_); simp (config:={ maxSteps:=2000000 }) only [AS.start,↓X2,wA,seval,wE]
 refine X1 c1 rfl ?_
 simp only [↓X2,wA,seval,wE]
 refine X1 c2 rfl ?_
 simp only [↓X2,wA,seval,wE]
 refine X1 s1 rfl ?_
 by_cases h1:Q7 a a=0
 ·have f1:((Q7 a a).num.sign=0)=True:=eq_true ((Bb _).2 h1)
  simp only [f1,↓X2,wA,seval,wE]
  exact zret rfl rfl rfl (by rw [hR]; unfold J4; rw [if_pos (.inl h1)])
 have f1:((Q7 a a).num.sign=0)=False:=eq_false fun h=>h1 ((Bb _).1 h)
 simp only [f1,↓X2,wA,seval,wE]
 refine X1 s2 rfl ?_
 by_cases h2:Q7 b b=0
 ·have f2:((Q7 b b).num.sign=0)=True:=eq_true ((Bb _).2 h2)
  simp only [f1,f2,↓X2,wA,seval,wE]
  exact zret rfl rfl rfl (by rw [hR]; unfold J4; rw [if_pos (.inr h2)])
 have f2:((Q7 b b).num.sign=0)=False:=eq_false fun h=>h2 ((Bb _).1 h)
 simp only [f1,f2,↓X2,wA,seval,wE]
 refine X1 e1 rfl ?_
 have hno:¬ (Q7 a a=0∨Q7 b b=0):=fun h=>h.elim h1 h2
 by_cases h3:Q7 a a=Q7 b b
 rotate_left
 ·rw [decide_eq_false h3]
  simp only [↓X2,wA,seval,wE]
  exact zret rfl rfl rfl (by rw [hR]; unfold J4; rw [if_neg hno,if_neg h3])
 rw [decide_eq_true h3]
 have d1:=VW (Q7 a b) (Q7 a a) (by unfold vm; omega) (by unfold vm; omega) h1
 have d2:=VW (Qo a b) (Q7 a a) (by unfold vm; omega) (by unfold vm; omega) h1
 simp only [↓X2,wA,seval,wE]
 refine X1 c3 rfl ?_
 simp only [↓X2,wA,seval,wE]
 refine X1 d1 rfl ?_
 simp only [↓X2,wA,seval,wE]
 refine X1 c4 rfl ?_
 simp only [↓X2,wA,seval,wE]
 refine X1 d2 rfl ?_
 simp only [↓X2,wA,seval,wE]
 have hRe:R=(⟨Q7 a b / Q7 a a,Qo a b / Q7 a a⟩,0):=by rw [hR]; unfold J4; rw [if_neg hno,if_pos h3]
 subst hRe
 exact Jm rfl (Xr DD rfl rfl rfl) (by unfold QT; rfl) (Xt (Xn _) (XV (Q5 (vC ⟨Q7 a b / Q7 a a,Qo a b / Q7 a a⟩)))) ((X9 _).sees _)
theorem Ox (a b:V2) (ha:vb a≤10000) (hb:vb b≤10000):Fn Tryz.prog 116 [vA a,vA b] (.tup [vA (J4 a b).1,I (J4 a b).2]):=by
 obtain ⟨R,hR⟩:∃ R,R=J4 a b:=⟨_,rfl⟩
 rw [← hR]
 have q1:=A3 a a; have q2:=A3 b b; have q3:=A3 a b; have q4:=Cs a b
 have c1:=KO a a (by unfold vm; omega) (by unfold vm; omega)
 have c2:=KO b b (by unfold vm; omega) (by unfold vm; omega)
 have c3:=KO a b (by unfold vm; omega) (by unfold vm; omega)
 have c4:=G8 a b (by unfold vm; omega) (by unfold vm; omega)
 have s1:=AJ (Q7 a a) (by unfold rm; omega)
 have s2:=AJ (Q7 b b) (by unfold rm; omega)
 have e1:=Bj (Q7 a a) (Q7 b b) (by unfold rm; omega) (by unfold rm; omega)
 have zret:∀ {s:AS} {ver id':Nat} {k:Int},s.get 4=.ref id' ver 0→s.h[id']?=some (.row ver 8 (Xp Z8))→s.get 5=I k→R=(v0,k)→RetOk (QR Tryz.prog Tryz.f116 [4,50000003,50000006,6,70000002,70000003,70000006] [] (.tup [vA R.1,I R.2])) s:=fun h1 h2 h3 h4=>by
  subst h4
  exact Jm rfl (Xr DD h1 h2 rfl) (by unfold QT; rfl) (Xt (Xn _) (XV Zx)) (by rw [h3]; exact (X9 _).sees _)
 refine Fq Tryz.call116 Tryz.func116 7 [] [4,50000003,50000006,6,70000002,70000003,70000006] [] (by simp [wS]) (X0 1000 ?_); simp (config:={ maxSteps:=2000000 }) only [AS.start,↓X2,wA,seval,wE]
 refine X1 c1 rfl ?_
 simp only [↓X2,wA,seval,wE]
 refine X1 s1 rfl ?_
 by_cases h1:Q7 a a=0
 ·have f1:((Q7 a a).num.sign=0)=True:=eq_true ((Bb _).2 h1)
  simp only [f1,↓X2,wA,seval,wE]
  exact zret rfl rfl rfl (by rw [hR]; unfold J4; rw [if_pos (.inl h1)])
 have f1:((Q7 a a).num.sign=0)=False:=eq_false fun h=>h1 ((Bb _).1 h)
 simp only [f1,↓X2,wA,seval,wE]
 refine X1 c2 rfl ?_
 simp only [f1,↓X2,wA,seval,wE]
 refine X1 s2 rfl ?_
 by_cases h2:Q7 b b=0
 ·have f2:((Q7 b b).num.sign=0)=True:=eq_true ((Bb _).2 h2)
  simp only [f1,f2,↓X2,wA,seval,wE]
  exact zret rfl rfl rfl (by rw [hR]; unfold J4; rw [if_pos (.inr h2)])
 have f2:((Q7 b b).num.sign=0)=False:=eq_false fun h=>h2 ((Bb _).1 h)
 simp only [f1,f2,↓X2,wA,seval,wE]
 refine X1 c2 rfl ?_
 simp only [f1,f2,↓X2,wA,seval,wE]
 refine X1 e1 rfl ?_
 have hno:¬ (Q7 a a=0∨Q7 b b=0):=fun h=>h.elim h1 h2
 by_cases h3:Q7 a a=Q7 b b
 rotate_left
 ·rw [decide_eq_false h3]
  simp only [↓X2,wA,seval,wE]
  exact zret rfl rfl rfl (by rw [hR]; unfold J4; rw [if_neg hno,if_neg h3])
 rw [decide_eq_true h3]
 have d1:=Ls (Q7 a b) (Q7 a a) (by unfold vm; omega) (by unfold vm; omega)
 have d2:=Ls (Qo a b) (Q7 a a) (by unfold vm; omega) (by unfold vm; omega)
 simp only [↓X2,wA,seval,wE]
 refine X1 c3 rfl ?_
 simp only [↓X2,wA,seval,wE]
 refine X1 d1 rfl ?_
 simp only [↓X2,wA,seval,wE]
 refine X1 c4 rfl ?_
 simp only [↓X2,wA,seval,wE]
 refine X1 d2 rfl ?_
 simp only [↓X2,wA,seval,wE]
 have hRe:R=(⟨Q7 a b / Q7 a a,Qo a b / Q7 a a⟩,0):=by rw [hR]; unfold J4; rw [if_neg hno,if_pos h3]
 subst hRe
 exact Jm rfl (Xr DD rfl rfl rfl) (by unfold QT; rfl) (Xt (Xn _) (XV (Q5 (vC ⟨Q7 a b / Q7 a a,Qo a b / Q7 a a⟩)))) ((X9 _).sees _)
def G1 (t c:V2):List AV:=[.bool (decide (t.x.num<0)),X8 (Xb t.x.num.natAbs),.bool false,X8 (Xb (qd t.x)),.bool (decide (t.y.num<0)),X8 (Xb t.y.num.natAbs),.bool false,X8 (Xb (qd t.y)),
 .bool (decide (c.x.num<0)),X8 (Xb c.x.num.natAbs),.bool false,X8 (Xb (qd c.x)),.bool (decide (c.y.num<0)),X8 (Xb c.y.num.natAbs),.bool false,X8 (Xb (qd c.y))]
def VO (t c:V2):AV:=.agg (G1 t c)
theorem KU (t c:V2):∀ x∈G1 t c,Settled x:=by simp [G1,X7,X3]
theorem ZN (t c:V2):Settled (VO t c):=Ql (KU t c)
def put (t c a:V2):V2:=(LB t a).add c
def sM (t c:V2):AV:=.ptr 16 (Xp (G1 t c)) 0
theorem Hu (t c:V2):Settled (sM t c):=J0 fun j _=>Xe (KU t c) j
theorem rh (t c a:V2):vb (put t c a)≤2*(vb t+vb a)+vb c+2:=by
 have:=D5 t a; have:=Cb (LB t a) c
 unfold put; omega
theorem ag (t c a:V2) (ht:vb t≤100000) (hc:vb c≤100000) (ha:vb a≤100000):Fn Tryz.prog 206 [vA a,sM t c] (vA (put t c a)):=by
 have m:=D5 t a
 have c1:=Lk t a (by unfold vm; omega) (by unfold vm; omega)
 have c2:=Ol (LB t a) c (by unfold vm; omega) (by unfold vm; omega)
 obtain ⟨R,hR⟩:∃ R,R=vA (put t c a):=⟨_,rfl⟩
 have sR:Settled R:=hR▸Xn _
 rw [← hR]
 refine Fq Tryz.call206 Tryz.func206 4 [] [] [] (by simp [Xn,Hu]) (X0 1000 ?_)
 simp only [AS.start,sM,G1,↓X2,wA,seval,wE]
 refine X1 c1 rfl ?_
 simp only [↓X2,wA,seval,wE]
 refine X1 c2 rfl ?_
 simp only [↓X2,wA,seval,wE]
 exact ZQ rfl Jq rfl rfl rfl sR (hR.trans rfl)
theorem gr (t c:V2):Fn Tryz.prog 143 [VO t c] (.fn 206 [sM t c]):=by
 have hset:Settled (.fn 206 [sM t c]):=Jl (by simp [Hu])
 refine Fq Tryz.call143 Tryz.func143 3 [] [] [] (by simp [ZN]) (X0 1000 ?_)
 simp only [AS.start,VO,G1,↓X2,wA,seval,wE]
 refine Ba rfl (C1 ⟨KR (.inl rfl) (by omega) fun j hj=>?_,trivial⟩)
 exact (Xe (KU t c) j).sees _
theorem qH (t c a:V2) (ht:vb t≤100000) (hc:vb c≤100000) (ha:vb a≤100000):Fn Tryz.prog 55 [VO t c,vA a] (vA (put t c a)):=by
 have c1:=gr t c
 have c2:=ag t c a ht hc ha
 obtain ⟨R,hR⟩:∃ R,R=vA (put t c a):=⟨_,rfl⟩
 have sR:Settled R:=hR▸Xn _
 rw [← hR]
 refine Fq Tryz.call55 Tryz.func55 5 [] [] [] (by simp [ZN,Xn]) (X0 1000 ?_)
 simp only [AS.start,VO,G1,↓X2,wA,seval,wE]
 refine X1 c1 rfl ?_
 simp only [↓X2,wA,seval,wE]
 refine X1 c2 rfl ?_
 simp only [↓X2,wA,seval,wE]
 exact ZQ rfl Jq rfl rfl rfl sR (hR.trans rfl)
def Kl (t c:V2) (L:List V2):List V2:=L.map (put t c)
theorem N9 (t c:V2) (L:List V2) (i:Nat) (hi:i<L.length):Kl t c (L.take i) ++ [put t c (L.getD i v0)]=Kl t c (L.take (i+1)):=by
 rw [BG _ v0 hi]; simp [Kl]
theorem Rw (t c:V2) (L:List V2) (i:Nat) (hi:i≤L.length):(Kl t c (L.take i)).length=i:=by simp [Kl]; omega
theorem LX {P:Program} {fn:Func} {str hcs:List Nat} {s:AS} {t id ver:Nat} (L:List V2) (hr:fn.results=#[.tmp t]) (hs:s.get t=.osl id ver 8 0 L.length) (ho:s.h[id]?=some (.row ver (L.length*8) (Xs vC 8 v0 L))):RetOk (QR P fn str hcs (Xq L)) s:=by
 refine Ba hr ?_
 rw [hs,X5]
 refine Qw (.inl ho) (by omega) (fun h=>by rw [h]) fun j hj=>?_
 rw [Nat.zero_add]
 exact (Xe (by simp [vC,X7,X3]) _).sees _
theorem KX (a:V2):∀ j,j<8→((vC a).getD j .any).one=true:=fun j hj=>by
 match j,hj with
 | 0,_=>rfl
 | 1,_=>rfl
 | 2,_=>rfl
 | 3,_=>rfl
 | 4,_=>rfl
 | 5,_=>rfl
 | 6,_=>rfl
 | 7,_=>rfl
 | j+8,h=>omega
theorem gQ (t c:V2) (L:List V2) (k:Nat) (h:XZ L k) (hk:k≤100000) (hl:L.length<1000000) (ht:vb t≤100000) (hc:vb c≤100000):Fn Tryz.prog 69 [VO t c,Xq L] (Xq (Kl t c L)):=by
 have bo:XK 2 (.row 0 16 (Xp (G1 t c)))=True:=eq_true (XE (KU t c))
 have hvc:∀ a:V2,∀ x∈vC a,Settled x:=fun a=>by simp [vC,X7,X3]
 have bv:JM 2 (Xq L)=True:=eq_true (X6 (Xd L))
 have br:∀ i l n,XK 2 (.row i n (Xs vC 8 v0 l))=True:=fun i l n=>eq_true fun j _=>X6 (Xe (hvc _) _)
 obtain ⟨R,hR⟩:∃ R,R=Xq (Kl t c L):=⟨_,rfl⟩
 rw [← hR]
 refine Fq Tryz.call69 Tryz.func69 8 [8,9,10] [] [] (by simp [ZN,Xd]) (X0 1000 ?_)
 simp only [AS.start,VO,G1,X5,↓X2,wA,seval,wE]
 refine Xg (fun i:Nat=>⟨8,[8,9,10],[.any,.any,.ref 0 0 0,.any,.any,.osl 1 i 8 0 i,.any,.any],[(8,Xq L),(9,I L.length),(10,I i)],[.row 0 16 (Xp (G1 t c)),.row i (i*8) (Xs vC 8 v0 (Kl t c (L.take i)))]⟩) (fun i=>i≤L.length) (fun i=>L.length - i) 0 (by omega)
  (Sub.trans (Q4 5 8 (Xs vC 8 v0 []) rfl) (Xa rfl (by simp [AS.put,Xh,I]) (by simp [AS.put,Xi,Xw,X5,I]) (by simp [AS.put,G1,X4,Kl]))) ?_
 intro i hi next
 have w1:=wj i (by omega)
 by_cases hi2:i<L.length
 ·have f1:((i:Int)<L.length)=True:=eq_true (by omega)
  have f2:(i<L.length)=True:=eq_true hi2
  have f3:(i*8+8≤L.length*8)=True:=eq_true (by omega)
  have v1:=vF L i
  have hb:=h i
  have c1:=qH t c (L.getD i v0) ht hc (by omega)
  have hap:=XO vC 8 v0 (Kl t c (L.take i)) (put t c (L.getD i v0)) (by omega)
  rw [N9 _ _ _ _ hi2,Rw _ _ _ _ hi] at hap
  refine X0 1000 ?_
  simp only [G1,X5,w1,f1,f2,f3,v1,Int.toNat_natCast,↓X2,wA,seval,wE]
  refine X1 c1 rfl ?_
  simp only [w1,↓X2,wA,seval,wE]
  exact ⟨⟨KX _,by omega,by omega⟩,next (i+1) _ (by omega) (by omega) (Xv (m:=2) (Nat.zero_le _) rfl (by simp [Xh]) (by simp [Xi,Xw,X5,I]) (by rw [← hap]; rfl) (by simp [Xy]) (by simp [Xy,bv]) (by simp [bo,br]))⟩
 obtain rfl:i=L.length:=by omega
 refine X0 1000 ?_
 simp only [G1,X5,Int.lt_irrefl,Nat.lt_irrefl,↓X2,wA,seval,wE]
 rw [hR,List.take_length]
 have hlen:(Kl t c L).length=L.length:=by simp [Kl]
 exact LX _ rfl (by rw [hlen]; rfl) (by rw [hlen]; rfl)
theorem S1 (t c:V2) (L:List V2) (k:Nat) (h:XZ L k) (hk:k≤100000) (hl:L.length<1000000) (ht:vb t≤100000) (hc:vb c≤100000):Fn Tryz.prog 247 [VO t c,Xq L] (Xq (Kl t c L)):=by
 have bo:XK 2 (.con 0 16 (Xp (G1 t c)))=True:=eq_true (fun j _=>X6 (Xe (KU t c) j))
 have hvc:∀ a:V2,∀ x∈vC a,Settled x:=fun a=>by simp [vC,X7,X3]
 have bv:JM 2 (Xq L)=True:=eq_true (X6 (Xd L))
 have br:∀ i l n,XK 2 (.row i n (Xs vC 8 v0 l))=True:=fun i l n=>eq_true fun j _=>X6 (Xe (hvc _) _)
 obtain ⟨R,hR⟩:∃ R,R=Xq (Kl t c L):=⟨_,rfl⟩
 rw [← hR]
 refine Fq Tryz.call247 Tryz.func247 7 [] [5,60000002] [] (by simp [ZN,Xd]) (X0 1000 ?_)
 simp only [AS.start,VO,G1,X5,↓X2,wA,seval,wE]
 refine Xg (fun i:Nat=>⟨7,[],[.any,Xq L,.ref 0 0 0,.any,.any,.osl 1 i 8 0 i,I i],[],[.con 0 16 (Xp (G1 t c)),.row i (i*8) (Xs vC 8 v0 (Kl t c (L.take i)))]⟩) (fun i=>i≤L.length) (fun i=>L.length - i) 0 (by omega)
  (Sub.trans (Q2 0 rfl) (Sub.trans (Q4 5 8 (Xs vC 8 v0 []) rfl) (Xa rfl (by simp [AS.put,X5,Xh,I]) (by simp [AS.put,Xi]) (by simp [AS.put,G1,X4,Kl])))) ?_
 intro i hi next
 have w1:=wj i (by omega)
 by_cases hi2:i<L.length
 ·have f1:((i:Int)<L.length)=True:=eq_true (by omega)
  have f2:(i<L.length)=True:=eq_true hi2
  have f3:(i*8+8≤L.length*8)=True:=eq_true (by omega)
  have v1:=vF L i
  have hb:=h i
  have m:=D5 t (L.getD i v0)
  have c1:=C8 t (L.getD i v0) (by unfold vm; omega) (by unfold vm; omega)
  have c2:=Fg (LB t (L.getD i v0)) c (by unfold vm; omega) (by unfold vm; omega)
  have hap:=XO vC 8 v0 (Kl t c (L.take i)) (put t c (L.getD i v0)) (by omega)
  rw [N9 _ _ _ _ hi2,Rw _ _ _ _ hi] at hap
  refine X0 1000 ?_
  simp only [G1,X5,w1,f1,f2,f3,v1,Int.toNat_natCast,↓X2,wA,seval,wE]
  refine X1 c1 rfl ?_
  simp only [G1,X5,w1,f1,f2,f3,v1,Int.toNat_natCast,↓X2,wA,seval,wE]
  refine X1 c2 rfl ?_
  simp only [w1,↓X2,wA,seval,wE]
  exact ⟨⟨KX _,by omega,by omega⟩,next (i+1) _ (by omega) (by omega) (Xv (m:=2) (Nat.zero_le _) rfl (by simp [X5,Xh,I]) (by simp [Xi]) (by rw [← hap]; rfl) (by simp [Xy,bv]) (by simp [Xy]) (by simp [bo,br]))⟩
 obtain rfl:i=L.length:=by omega
 refine X0 1000 ?_
 simp only [G1,X5,Int.lt_irrefl,Nat.lt_irrefl,↓X2,wA,seval,wE]
 rw [hR,List.take_length]
 have hlen:(Kl t c L).length=L.length:=by simp [Kl]
 exact LX _ rfl (by rw [hlen]; rfl) (by rw [hlen]; rfl)
end
end Go.Ab.N
