/- Own texts. -/
import Derived.Test.YtefjhgcndhepeaaGreatC7
import Derived.Test.YtefjhgcndhepeaaGreatC6
set_option linter.unusedSimpArgs false
set_option linter.unusedVariables false
open Nat renaming reducePow → Y1, reduceLT → Y2, reduceLeDiff → Y3, reduceEqDiff → Y4, reduceAdd → Y5, reduceMul → Y6, reduceSub → Y7, reduceBEq → Y8, reduceDiv → Y9, reduceMod → YA
namespace Go.Ab.N
open Go Go.RowKit Go.Proofs
noncomputable section
set_option maxRecDepth 10000
set_option maxHeartbeats 4000000
open Classical
def Ya (l:List Int) (j:Nat):Bool:=decide (Ab.atF l (15+j) 9=8)
def Wn (l:List Int) (j:Nat):Int:=(Ab.atF l (20+j) 5).tdiv 2
def OP (l:List Int):Rat:=Rat.divInt (1+Ab.atF l 11 6) 2
def ix (l:List Int):Rat:=OP l+Rat.divInt (Ab.atF l 12 4) 2
def tf (l:List Int):Rat:=Rat.divInt (Ab.atF l 10 3) 4
def v8 (l:List Int):Rat:=Rat.divInt (20+Ab.atF l 13 100) 1
def uX (l:List Int):Rat:=Rat.divInt (Ab.atF l 14 5) 4
def Ah (l:List Int):PV:=⟨Ab.atF l 8 40,Ab.atF l 9 5,Id l,(List.range (Id l).length).map (Ya l),(List.range (Id l).length).map (Wn l),RQ.of (tf l),RQ.of (OP l),RQ.of (ix l),RQ.of (v8 l),RQ.of (uX l)⟩
theorem iM {α:Type} (f:Nat→α) (d:α) (n j:Nat) (h:j<n):((List.range n).map f).getD j d=f j:=by
 rw [List.getD_eq_getElem?_getD,List.getElem?_map,List.getElem?_range h]; rfl
def Cj (l:List Int) (i:Nat) (j:Nat):AV:=.bool (if j<i then Ya l j else false)
def Ca (l:List Int) (i:Nat) (j:Nat):AV:=.int .i64 (if j<i then Wn l j else 0)
theorem Tu (l:List Int) (i:Nat):C0 (Cj l i) i (.bool (decide (Ab.atF l (15+(i:Int)) 9=8)))=Cj l (i+1):=by
 funext j
 unfold C0 Cj
 by_cases h:j=i
 ·subst h; simp [Ya]
 ·rw [if_neg h]
  by_cases h2:j<i
  ·rw [if_pos h2,if_pos (by omega)]
  ·rw [if_neg h2,if_neg (by omega)]
theorem S0 (l:List Int) (i:Nat):C0 (Ca l i) i (.int .i64 ((Ab.atF l (20+(i:Int)) 5).tdiv 2))=Ca l (i+1):=by
 funext j
 unfold C0 Ca
 by_cases h:j=i
 ·subst h; simp [Wn]
 ·rw [if_neg h]
  by_cases h2:j<i
  ·rw [if_pos h2,if_pos (by omega)]
  ·rw [if_neg h2,if_neg (by omega)]
def Yc:List AV:=[I 0,I 0,.sl 0 0 (fun _=>.any) true,.sl 0 0 (fun _=>.any) true,.sl 0 0 (fun _=>.any) true,.bool false,.sl 0 0 (fun _=>.any) true,.bool false,.sl 0 0 (fun _=>.any) true,.bool false,.sl 0 0 (fun _=>.any) true,.bool false,.sl 0 0 (fun _=>.any) true,
 .bool false,.sl 0 0 (fun _=>.any) true,.bool false,.sl 0 0 (fun _=>.any) true,.bool false,.sl 0 0 (fun _=>.any) true,.bool false,.sl 0 0 (fun _=>.any) true,.bool false,.sl 0 0 (fun _=>.any) true,.bool false,.sl 0 0 (fun _=>.any) true]
def sG (id home:Int) (n:Nat) (t l h s r:Rat):List AV:=[I id,I home,.osl 4 0 2 0 n,.osl 5 0 1 0 n,.osl 6 0 1 0 n,.bool (decide (t.num<0)),X7 (X8 t.num.natAbs),.bool false,X7 (X8 (qd t)),
 .bool (decide (l.num<0)),X7 (X8 l.num.natAbs),.bool false,X7 (X8 (qd l)),.bool (decide (h.num<0)),X7 (X8 h.num.natAbs),.bool false,X7 (X8 (qd h)),
 .bool (decide (s.num<0)),X7 (X8 s.num.natAbs),.bool false,X7 (X8 (qd s)),.bool (decide (r.num<0)),X7 (X8 r.num.natAbs),.bool false,X7 (X8 (qd r))]
theorem NN (l:List Int) (hl:C2 l) (hl2:l.length<9223372036854775808):Fn Tryz.prog 14 [X7 l] (QP (Ah l)):=by
 obtain ⟨V,hV⟩:∃ V,V=QP (Ah l):=⟨_,rfl⟩
 have sV:Settled V:=hV▸Je _
 have hro:=(P8 l).1
 have cR:=cK l hl hl2
 have c8:=Qs l 8 40 hl (by omega)
 have c9:=Qs l 9 5 hl (by omega)
 have c10:=Qs l 10 3 hl (by omega)
 have c11:=Qs l 11 6 hl (by omega)
 have c12:=Qs l 12 4 hl (by omega)
 have c13:=Qs l 13 100 hl (by omega)
 have c14:=Qs l 14 5 hl (by omega)
 have b10:=XB l 10 3 (by omega)
 have b11:=XB l 11 6 (by omega)
 have b12:=XB l 12 4 (by omega)
 have b13:=XB l 13 100 (by omega)
 have b14:=XB l 14 5 (by omega)
 have w11:IntKind.i64.wrap (1+Ab.atF l 11 6)=1+Ab.atF l 11 6:=by rw [IntKind.wrap_i64]; omega
 have w13:IntKind.i64.wrap (20+Ab.atF l 13 100)=20+Ab.atF l 13 100:=by rw [IntKind.wrap_i64]; omega
 have q10:=QV (Ab.atF l 10 3) 4 ⟨by omega,by omega⟩ ⟨by omega,by omega⟩
 have q11:=QV (1+Ab.atF l 11 6) 2 ⟨by omega,by omega⟩ ⟨by omega,by omega⟩
 have q12:=QV (Ab.atF l 12 4) 2 ⟨by omega,by omega⟩ ⟨by omega,by omega⟩
 have q13:=QV (20+Ab.atF l 13 100) 1 ⟨by omega,by omega⟩ ⟨by omega,by omega⟩
 have q14:=QV (Ab.atF l 14 5) 4 ⟨by omega,by omega⟩ ⟨by omega,by omega⟩
 have m11:qb (Rat.divInt (1+Ab.atF l 11 6) 2)≤3:=Kr _ _ _ (by omega) (Qy ⟨by omega,by omega⟩) (Qy ⟨by omega,by omega⟩)
 have m12:qb (Rat.divInt (Ab.atF l 12 4) 2)≤3:=Kr _ _ _ (by omega) (Qy ⟨by omega,by omega⟩) (Qy ⟨by omega,by omega⟩)
 have qh:=JG (Rat.divInt (1+Ab.atF l 11 6) 2) (Rat.divInt (Ab.atF l 12 4) 2) (by unfold rm; omega) (by unfold rm; omega)
 have cP:=Sr (Ab.atF l 8 40) (Id l) (by omega)
 rw [← hV]
 unfold Ah OP ix tf v8 uX at hV
 unfold OP at hV
 generalize Rat.divInt 1 1=u1 at *
 generalize Rat.divInt 100 1=u2 at *
 generalize Rat.divInt 1 2=u3 at *
 generalize (Rat.divInt (1+Ab.atF l 11 6) 2+Rat.divInt (Ab.atF l 12 4) 2)=Q12 at *
 generalize Rat.divInt (Ab.atF l 10 3) 4=Q10 at *
 generalize Rat.divInt (1+Ab.atF l 11 6) 2=Q11 at *
 generalize Rat.divInt (20+Ab.atF l 13 100) 1=Q13 at *
 generalize Rat.divInt (Ab.atF l 14 5) 4=Q14 at *
 generalize Id l=R at *
 refine Fr Tryz.call14 Tryz.func14 5 [] [5,6001,11,12001,12,13001] [] ?_
 simp only [AS.start,↓X1,wF,seval]
 refine X0 c8 rfl ?_
 simp only [↓X1,wF,seval]
 refine X0 cR rfl ?_
 simp only [↓X1,wF,seval]
 refine KP rfl (cP _) (QX (by simp) (by simp)) (fun id=>by cases id <;> simp) ⟨Weak.rfl' _,Weak.rfl' _,trivial⟩ ?_
 simp only [V3,↓X1,wF,seval]
 refine X0 c9 rfl ?_
 simp only [↓X1,wF,seval]
 refine X0 c10 rfl ?_
 simp only [↓X1,wF,seval]
 refine X0 q10 rfl ?_
 simp only [↓X1,wF,seval]
 refine X0 c11 rfl ?_
 simp only [w11,↓X1,wF,seval]
 refine X0 q11 rfl ?_
 simp only [↓X1,wF,seval]
 refine X0 c12 rfl ?_
 simp only [↓X1,wF,seval]
 refine X0 q12 rfl ?_
 simp only [↓X1,wF,seval]
 refine X0 qh rfl ?_
 simp only [↓X1,wF,seval]
 refine X0 c13 rfl ?_
 simp only [w13,↓X1,wF,seval]
 refine X0 q13 rfl ?_
 simp only [↓X1,wF,seval]
 refine X0 c14 rfl ?_
 simp only [↓X1,wF,seval]
 refine X0 q14 rfl ?_
 simp only [↓X1,wF,seval]
 refine Xe (fun i:Nat=>⟨5,[],[X7 l,.any,.ref 0 0 0,.ref 7 0 0,I i],[],[.row 0 25 (Xn Yc),.dead,.dead,.dead,.row 0 (R.length*2) (Xs Kq 2 (0,0) R),.row 0 R.length (Cj l i),.row 0 R.length (Ca l i),.row 0 25 (Xn (sG (Ab.atF l 8 40) (Ab.atF l 9 5) R.length Q10 Q11 Q12 Q13 Q14))]⟩) (fun i=>i≤R.length) (fun i=>R.length - i) 0 (by omega)
  (Sub.trans (Qr 5 R.length (Cj l 0) rfl (Nat.le_refl _) (fun j _=>by simp [Cj])) (Sub.trans (Qr 6 R.length (Ca l 0) rfl (Nat.le_refl _) (fun j _=>by simp [Ca])) (Jm (by simp [Xf,X3,I]) (by simp [Yc,sG,X3,I])))) ?_
 intro i hi next
 have w1:=wj i (by omega)
 by_cases hi2:i<R.length
 ·have f1:((i:Int)<R.length)=True:=eq_true (by omega)
  have f2:(i<R.length)=True:=eq_true hi2
  have w15:IntKind.i64.wrap (15+(i:Int))=15+(i:Int):=by rw [IntKind.wrap_i64]; omega
  have w20:IntKind.i64.wrap (20+(i:Int))=20+(i:Int):=by rw [IntKind.wrap_i64]; omega
  have c15:=Qs l (15+(i:Int)) 9 hl (by omega)
  have c20:=Qs l (20+(i:Int)) 5 hl (by omega)
  have b20:=XB l (20+(i:Int)) 5 (by omega)
  have e20:(Ab.atF l (20+(i:Int)) 5).tdiv 2=Ab.atF l (20+(i:Int)) 5 / 2:=Int.tdiv_eq_ediv_of_nonneg b20.1
  have wq:IntKind.i64.wrap ((Ab.atF l (20+(i:Int)) 5).tdiv 2)=(Ab.atF l (20+(i:Int)) 5).tdiv 2:=by rw [IntKind.wrap_i64]; omega
  have hU:=Tu l i
  have hM:=S0 l i
  refine Xl ?_
  simp only [sG,w1,w15,w20,f1,f2,Int.toNat_natCast,↓X1,wF,seval]
  refine X0 c15 rfl ?_
  simp only [sG,w1,w15,w20,f1,f2,hU,Int.toNat_natCast,↓X1,wF,seval]
  refine ⟨by omega,X0 c20 rfl ?_⟩
  simp only [sG,w1,w15,w20,f1,f2,wq,hM,Int.toNat_natCast,Int.reduceEq,↓X1,wF,seval]
  exact ⟨by omega,next (i+1) _ (by omega) (by omega) (Jm (by simp [Xf,X3,I]) (by simp [Yc,sG,X3,I]))⟩
 obtain rfl:i=R.length:=by omega
 refine Xl ?_
 simp only [Yc,sG,Int.lt_irrefl,Nat.lt_irrefl,↓X1,wF,seval]
 subst hV
 refine E7 rfl Ge rfl rfl rfl ?_
 have h1:∀ H:List AO,H[4]?=some (.row 0 (R.length*2) (Xs Kq 2 (0,0) R))→JR H (.osl 4 0 2 0 R.length) (Dz R):=fun H ho=>by
  rw [Xd]
  refine Qx (.inl ho) (by omega) (fun h=>by rw [h]) fun j hj=>?_
  rw [Nat.zero_add]
  exact (Xb (KB _) _).sees _
 have h2:∀ H:List AO,H[5]?=some (.row 0 R.length (Cj l R.length))→JR H (.osl 5 0 1 0 R.length) (A9 ((List.range R.length).map (Ya l))):=fun H ho=>by
  rw [Xm,List.length_map,List.length_range]
  refine Qx (.inl ho) (by omega) (fun h=>by rw [h]) fun j hj=>?_
  rw [Nat.zero_add,Kl,iM _ _ _ _ hj]
  unfold Cj
  rw [if_pos hj]
  exact (X2 _).sees _
 have h3:∀ H:List AO,H[6]?=some (.row 0 R.length (Ca l R.length))→JR H (.osl 6 0 1 0 R.length) (X7 ((List.range R.length).map (Wn l))):=fun H ho=>by
  rw [X3,List.length_map,List.length_range]
  refine Qx (.inl ho) (by omega) (fun h=>by rw [h]) fun j hj=>?_
  rw [Nat.zero_add,Kl,iM _ _ _ _ hj]
  unfold Ca
  rw [if_pos hj]
  exact (X9 _).sees _
 exact ZK ⟨(X9 _).sees _,(X9 _).sees _,h1 _ rfl,h2 _ rfl,h3 _ rfl,(X2 _).sees _,(X6 _).sees _,(X2 _).sees _,(X6 _).sees _,(X2 _).sees _,(X6 _).sees _,(X2 _).sees _,(X6 _).sees _,(X2 _).sees _,(X6 _).sees _,(X2 _).sees _,(X6 _).sees _,(X2 _).sees _,(X6 _).sees _,(X2 _).sees _,(X6 _).sees _,(X2 _).sees _,(X6 _).sees _,(X2 _).sees _,(X6 _).sees _,trivial⟩
theorem NW (l:List Int):(Ah l).rim.length=(Id l).length∧(Ah l).worn.length=(Id l).length∧(Ah l).marks.length=(Id l).length:=⟨rfl,by simp [Ah],by simp [Ah]⟩
theorem Gq (l:List Int):(Ah l).small:=by
 have hro:=(P8 l).1
 have b10:=XB l 10 3 (by omega)
 have b11:=XB l 11 6 (by omega)
 have b12:=XB l 12 4 (by omega)
 have b13:=XB l 13 100 (by omega)
 have b14:=XB l 14 5 (by omega)
 have hl:=NW l
 have z:=fun (n m:Int) (h1:KM n) (h2:KM m)=>ka n m h1 h2
 have q1:=BJ (1+Ab.atF l 11 6) 2 ⟨by omega,by omega⟩ ⟨by omega,by omega⟩
 have q2:=BJ (Ab.atF l 12 4) 2 ⟨by omega,by omega⟩ ⟨by omega,by omega⟩
 have q3:=K2 (Rat.divInt (1+Ab.atF l 11 6) 2) (Rat.divInt (Ab.atF l 12 4) 2)
 have q4:=RQ.of_sz (Rat.divInt (1+Ab.atF l 11 6) 2+Rat.divInt (Ab.atF l 12 4) 2)
 refine ⟨by rw [hl.1]; omega,by rw [hl.2.1]; omega,by rw [hl.2.2]; omega,?_,?_,?_,?_,?_⟩
 ·exact Nat.le_trans (z (Ab.atF l 10 3) 4 ⟨by omega,by omega⟩ ⟨by omega,by omega⟩) (by omega)
 ·exact Nat.le_trans (z (1+Ab.atF l 11 6) 2 ⟨by omega,by omega⟩ ⟨by omega,by omega⟩) (by omega)
 ·show (RQ.of (Rat.divInt (1+Ab.atF l 11 6) 2+Rat.divInt (Ab.atF l 12 4) 2)).sz≤_
  omega
 ·exact Nat.le_trans (z (20+Ab.atF l 13 100) 1 ⟨by omega,by omega⟩ ⟨by omega,by omega⟩) (by omega)
 ·exact Nat.le_trans (z (Ab.atF l 14 5) 4 ⟨by omega,by omega⟩ ⟨by omega,by omega⟩) (by omega)
theorem Gl {a:Rat} (h:qb a≤rm):(RQ.of a).sz<4611686018427387904:=Nat.lt_of_le_of_lt (RQ.of_sz a) (by unfold rm at h; omega)
theorem Hm (a b:Rat) (ha:qb a≤rm) (hb:qb b≤rm):Fn Tryz.prog 29 [qA a,qA b] (.bool (decide (a=b))):=by
 have:=jM (RQ.of a) (RQ.of b) (Gl ha) (Gl hb)
 rwa [decide_eq_decide.2 (show RQ.of a=RQ.of b↔a=b from ⟨RQ.of_inj,fun h=>by rw [h]⟩)] at this
theorem Bu (a b:Rat) (ha:qb a≤rm) (hb:qb b≤rm):Fn Tryz.prog 86 [qA a,qA b] (.bool (decide (a=b))):=by
 have:=cU (RQ.of a) (RQ.of b) (Gl ha) (Gl hb)
 rwa [decide_eq_decide.2 (show RQ.of a=RQ.of b↔a=b from ⟨RQ.of_inj,fun h=>by rw [h]⟩)] at this
theorem WJ (a:Rat) (ha:qb a≤rm):Fn Tryz.prog 79 [qA a] (.bool true):=by
 have:=O1 (RQ.of a) (Nat.lt_of_le_of_lt (RQ.of_sz a) (by unfold rm at ha; omega))
 rwa [decide_eq_true ⟨a,rfl⟩] at this
theorem LY (a:Rat) (ha:qb a≤rm):Fn Tryz.prog 83 [qA a] (.bool true):=by
 have:=GA (RQ.of a) (Nat.lt_of_le_of_lt (RQ.of_sz a) (by unfold rm at ha; omega))
 rwa [decide_eq_true ⟨a,rfl⟩] at this
def Co (t a:V2):V2:=⟨t.x*a.x - t.y*a.y,t.y*a.x+t.x*a.y⟩
def V2.scale (a:V2) (k:Rat):V2:=⟨a.x*k,a.y*k⟩
def Jy (t:V2):Prop:=t.x*t.x+t.y*t.y=1
def JQ:V2:=⟨1,0⟩
theorem Dk (t a:V2):vb (Co t a)≤2*(vb t+vb a)+1:=by
 have:=Qz t.x a.x; have:=Qz t.y a.y; have:=Qz t.y a.x; have:=Qz t.x a.y
 have:=Qv t; have:=Qm t; have:=Qv a; have:=Qm a
 have:=FA (t.x*a.x) (t.y*a.y); have:=K2 (t.y*a.x) (t.x*a.y)
 unfold Co
 show max (qb (t.x*a.x - t.y*a.y)) (qb (t.y*a.x+t.x*a.y))≤_
 omega
theorem kr (a:V2) (k:Rat):vb (a.scale k)≤vb a+qb k:=by
 have:=Qz a.x k; have:=Qz a.y k; have:=Qv a; have:=Qm a
 unfold V2.scale
 show max (qb (a.x*k)) (qb (a.y*k))≤_
 omega
theorem Br:Rat.divInt 1 1=1:=by decide +kernel
theorem V2.ext' {a b:V2}:a=b↔a.x=b.x∧a.y=b.y:=by
 cases a; cases b
 simp
theorem IA (a b:V2) (ha:vb a≤vm) (hb:vb b≤vm):Fn Tryz.prog 42 [vA a,vA b] (.bool (decide (a=b))):=by
 unfold vm at ha hb
 have:=Qv a; have:=Qv b; have:=Qm a; have:=Qm b
 have c1:=Hm a.x b.x (by unfold rm; omega) (by unfold rm; omega)
 have c2:=Hm a.y b.y (by unfold rm; omega) (by unfold rm; omega)
 obtain ⟨V,hV⟩:∃ V,V=decide (a=b):=⟨_,rfl⟩
 rw [← hV]
 refine Fr Tryz.call42 Tryz.func42 5 [] [] [] ?_; simp (maxSteps:=999999) only [AS.start,↓X1,wF,seval]
 refine X0 c1 rfl ?_
 by_cases h:a.x=b.x
 ·rw [decide_eq_true h]
  simp only [↓X1,wF,seval]
  refine X0 c2 rfl ?_
  simp only [↓X1,wF,seval]
  exact Xt (v:=.bool (decide (a.y=b.y))) rfl rfl (X2 _) (by rw [hV]; exact congrArg AV.bool (decide_eq_decide.2 (show a.y=b.y↔a=b from ⟨fun e=>V2.ext'.2 ⟨h,e⟩,fun e=>(V2.ext'.1 e).2⟩)))
 ·rw [decide_eq_false h]
  simp only [↓X1,wF,seval]
  exact Xt (v:=.bool false) rfl rfl (X2 _) (by rw [hV,decide_eq_false (p:=a=b) fun e=>h (by rw [e])])
theorem AW (a b:V2) (ha:vb a≤vm) (hb:vb b≤vm):Fn Tryz.prog 67 [vA a,vA b] (.bool (decide (a=b))):=by
 unfold vm at ha hb
 have:=Qv a; have:=Qv b; have:=Qm a; have:=Qm b
 have c1:=Hm a.x b.x (by unfold rm; omega) (by unfold rm; omega)
 have c2:=Hm a.y b.y (by unfold rm; omega) (by unfold rm; omega)
 obtain ⟨V,hV⟩:∃ V,V=decide (a=b):=⟨_,rfl⟩
 rw [← hV]
 refine Fr Tryz.call67 Tryz.func67 5 [] [] [] ?_; simp (maxSteps:=999999) only [AS.start,↓X1,wF,seval]
 refine X0 c1 rfl ?_
 by_cases h:a.x=b.x
 ·rw [decide_eq_true h]
  simp only [↓X1,wF,seval]
  refine X0 c2 rfl ?_
  simp only [↓X1,wF,seval]
  exact Xt (v:=.bool (decide (a.y=b.y))) rfl rfl (X2 _) (by rw [hV]; exact congrArg AV.bool (decide_eq_decide.2 (show a.y=b.y↔a=b from ⟨fun e=>V2.ext'.2 ⟨h,e⟩,fun e=>(V2.ext'.1 e).2⟩)))
 ·rw [decide_eq_false h]
  simp only [↓X1,wF,seval]
  exact Xt (v:=.bool false) rfl rfl (X2 _) (by rw [hV,decide_eq_false (p:=a=b) fun e=>h (by rw [e])])
theorem OX (a b:V2) (ha:vb a≤vm) (hb:vb b≤vm):Fn Tryz.prog 59 [vA a,vA b] (vA (a.add b)):=by
 unfold vm at ha hb
 obtain ⟨R,hR⟩:∃ R,R=vA (a.add b):=⟨_,rfl⟩
 have sR:Settled R:=hR▸Xk _
 have:=Qv a; have:=Qv b; have:=Qm a; have:=Qm b
 have c1:=Bl a.x b.x (by unfold rm; omega) (by unfold rm; omega)
 have c2:=Bl a.y b.y (by unfold rm; omega) (by unfold rm; omega)
 rw [← hR]
 refine Fr Tryz.call59 Tryz.func59 5 [] [] [] ?_; simp (maxSteps:=999999) only [AS.start,↓X1,wF,seval]
 refine X0 c1 rfl ?_
 simp only [↓X1,wF,seval]
 refine X0 c2 rfl ?_
 simp only [↓X1,wF,seval]
 exact Zm rfl Ju rfl rfl rfl sR (hR.trans rfl)
theorem NT (a:V2) (k:Rat) (ha:vb a≤vm) (hk:qb k≤vm):Fn Tryz.prog 58 [vA a,qA k] (vA (a.scale k)):=by
 unfold vm at ha hk
 obtain ⟨R,hR⟩:∃ R,R=vA (a.scale k):=⟨_,rfl⟩
 have sR:Settled R:=hR▸Xk _
 have:=Qv a; have:=Qm a
 have c1:=KH a.x k (by unfold rm; omega) (by unfold rm; omega)
 have c2:=KH a.y k (by unfold rm; omega) (by unfold rm; omega)
 rw [← hR]
 refine Fr Tryz.call58 Tryz.func58 5 [] [] [] ?_; simp (maxSteps:=999999) only [AS.start,↓X1,wF,seval]
 refine X0 c1 rfl ?_
 simp only [↓X1,wF,seval]
 refine X0 c2 rfl ?_
 simp only [↓X1,wF,seval]
 exact Zm rfl Ju rfl rfl rfl sR (hR.trans rfl)
theorem ck:Fn Tryz.prog 203 [] (vA JQ):=by
 have c1:=FC 1 1 ⟨by omega,by omega⟩ ⟨by omega,by omega⟩
 rw [Br] at c1
 obtain ⟨R,hR⟩:∃ R,R=vA JQ:=⟨_,rfl⟩
 have sR:Settled R:=hR▸Xk _
 rw [← hR]
 refine Fr Tryz.call203 Tryz.func203 1 [] [] [] ?_; simp (maxSteps:=999999) only [AS.start,↓X1,wF,seval]
 refine X0 c1 rfl ?_
 simp only [↓X1,wF,seval]
 refine E7 rfl C9 rfl rfl rfl ?_
 rw [hR]
 exact ZK ⟨(X2 _).sees _,(X6 _).sees _,(X2 _).sees _,(X6 _).sees _,(X2 _).sees _,Xr (X6 _) (Qw (by show X8 (0:Rat).num.natAbs=[]; rw [Rat.zero_num]; simp [Q1])),(X2 _).sees _,Xr (X6 _) (Qw (Da rfl)),trivial⟩
theorem FB (a b:V2) (ha:vb a≤vm) (hb:vb b≤vm):Fn Tryz.prog 48 [vA a,vA b] (.bool (decide (a=b))):=by
 unfold vm at ha hb
 have:=Qv a; have:=Qv b; have:=Qm a; have:=Qm b
 have c1:=Bu a.x b.x (by unfold rm; omega) (by unfold rm; omega)
 have c2:=Bu a.y b.y (by unfold rm; omega) (by unfold rm; omega)
 obtain ⟨V,hV⟩:∃ V,V=decide (a=b):=⟨_,rfl⟩
 rw [← hV]
 refine Fr Tryz.call48 Tryz.func48 5 [] [] [] ?_; simp (maxSteps:=999999) only [AS.start,↓X1,wF,seval]
 refine X0 c1 rfl ?_
 by_cases h:a.x=b.x
 ·rw [decide_eq_true h]
  simp only [↓X1,wF,seval]
  refine X0 c2 rfl ?_
  simp only [↓X1,wF,seval]
  exact Xt (v:=.bool (decide (a.y=b.y))) rfl rfl (X2 _) (by rw [hV]; exact congrArg AV.bool (decide_eq_decide.2 (show a.y=b.y↔a=b from ⟨fun e=>V2.ext'.2 ⟨h,e⟩,fun e=>(V2.ext'.1 e).2⟩)))
 ·rw [decide_eq_false h]
  simp only [↓X1,wF,seval]
  exact Xt (v:=.bool false) rfl rfl (X2 _) (by rw [hV,decide_eq_false (p:=a=b) fun e=>h (by rw [e])])
theorem Al (a b:V2) (ha:vb a≤vm) (hb:vb b≤vm):Fn Tryz.prog 41 [vA a,vA b] (.bool (decide (a=b))):=by
 unfold vm at ha hb
 have:=Qv a; have:=Qv b; have:=Qm a; have:=Qm b
 have c1:=Bu a.x b.x (by unfold rm; omega) (by unfold rm; omega)
 have c2:=Bu a.y b.y (by unfold rm; omega) (by unfold rm; omega)
 obtain ⟨V,hV⟩:∃ V,V=decide (a=b):=⟨_,rfl⟩
 rw [← hV]
 refine Fr Tryz.call41 Tryz.func41 5 [] [] [] ?_; simp (maxSteps:=999999) only [AS.start,↓X1,wF,seval]
 refine X0 c1 rfl ?_
 by_cases h:a.x=b.x
 ·rw [decide_eq_true h]
  simp only [↓X1,wF,seval]
  refine X0 c2 rfl ?_
  simp only [↓X1,wF,seval]
  exact Xt (v:=.bool (decide (a.y=b.y))) rfl rfl (X2 _) (by rw [hV]; exact congrArg AV.bool (decide_eq_decide.2 (show a.y=b.y↔a=b from ⟨fun e=>V2.ext'.2 ⟨h,e⟩,fun e=>(V2.ext'.1 e).2⟩)))
 ·rw [decide_eq_false h]
  simp only [↓X1,wF,seval]
  exact Xt (v:=.bool false) rfl rfl (X2 _) (by rw [hV,decide_eq_false (p:=a=b) fun e=>h (by rw [e])])
theorem BM (a b:V2) (ha:vb a≤vm) (hb:vb b≤vm):Fn Tryz.prog 111 [vA a,vA b] (vA (a.add b)):=by
 unfold vm at ha hb
 obtain ⟨R,hR⟩:∃ R,R=vA (a.add b):=⟨_,rfl⟩
 have sR:Settled R:=hR▸Xk _
 have:=Qv a; have:=Qv b; have:=Qm a; have:=Qm b
 have c1:=JG a.x b.x (by unfold rm; omega) (by unfold rm; omega)
 have c2:=JG a.y b.y (by unfold rm; omega) (by unfold rm; omega)
 rw [← hR]
 refine Fr Tryz.call111 Tryz.func111 5 [] [] [] ?_; simp (maxSteps:=999999) only [AS.start,↓X1,wF,seval]
 refine X0 c1 rfl ?_
 simp only [↓X1,wF,seval]
 refine X0 c2 rfl ?_
 simp only [↓X1,wF,seval]
 exact Zm rfl Ju rfl rfl rfl sR (hR.trans rfl)
theorem P6 (a:V2) (k:Rat) (ha:vb a≤vm) (hk:qb k≤vm):Fn Tryz.prog 211 [vA a,qA k] (vA (a.scale k)):=by
 unfold vm at ha hk
 obtain ⟨R,hR⟩:∃ R,R=vA (a.scale k):=⟨_,rfl⟩
 have sR:Settled R:=hR▸Xk _
 have:=Qv a; have:=Qm a
 have c1:=QY a.x k (by unfold rm; omega) (by unfold rm; omega)
 have c2:=QY a.y k (by unfold rm; omega) (by unfold rm; omega)
 rw [← hR]
 refine Fr Tryz.call211 Tryz.func211 5 [] [] [] ?_; simp (maxSteps:=999999) only [AS.start,↓X1,wF,seval]
 refine X0 c1 rfl ?_
 simp only [↓X1,wF,seval]
 refine X0 c2 rfl ?_
 simp only [↓X1,wF,seval]
 exact Zm rfl Ju rfl rfl rfl sR (hR.trans rfl)
theorem P7:Fn Tryz.prog 213 [] (vA JQ):=by
 have c1:=QV 1 1 ⟨by omega,by omega⟩ ⟨by omega,by omega⟩
 rw [Br] at c1
 obtain ⟨R,hR⟩:∃ R,R=vA JQ:=⟨_,rfl⟩
 have sR:Settled R:=hR▸Xk _
 rw [← hR]
 refine Fr Tryz.call213 Tryz.func213 1 [] [] [] ?_; simp (maxSteps:=999999) only [AS.start,↓X1,wF,seval]
 refine X0 c1 rfl ?_
 simp only [↓X1,wF,seval]
 refine E7 rfl C9 rfl rfl rfl ?_
 rw [hR]
 exact ZK ⟨(X2 _).sees _,(X6 _).sees _,(X2 _).sees _,(X6 _).sees _,(X2 _).sees _,Xr (X6 _) (Qw (by show X8 (0:Rat).num.natAbs=[]; rw [Rat.zero_num]; simp [Q1])),(X2 _).sees _,Xr (X6 _) (Qw (Da rfl)),trivial⟩
theorem LN (t a:V2) (ht:vb t≤vm) (ha:vb a≤vm):Fn Tryz.prog 43 [vA t,vA a] (vA (Co t a)):=by
 unfold vm at ht ha
 obtain ⟨R,hR⟩:∃ R,R=vA (Co t a):=⟨_,rfl⟩
 have sR:Settled R:=hR▸Xk _
 have:=Qv t; have:=Qm t; have:=Qv a; have:=Qm a
 have m1:=Qz t.x a.x; have m2:=Qz t.y a.y; have m3:=Qz t.y a.x; have m4:=Qz t.x a.y
 have c1:=KH t.x a.x (by unfold rm; omega) (by unfold rm; omega)
 have c2:=KH t.y a.y (by unfold rm; omega) (by unfold rm; omega)
 have c3:=Cf (t.y*a.y)
 have c4:=Gt (t.x*a.x) (-(t.y*a.y)) (by omega) (by rw [BK]; omega)
 rw [← Rat.sub_eq_add_neg] at c4
 have c5:=KH t.y a.x (by unfold rm; omega) (by unfold rm; omega)
 have c6:=KH t.x a.y (by unfold rm; omega) (by unfold rm; omega)
 have c7:=Gt (t.y*a.x) (t.x*a.y) (by omega) (by omega)
 rw [← hR]
 refine Fr Tryz.call43 Tryz.func43 5 [] [] [] ?_; simp (maxSteps:=999999) only [AS.start,↓X1,wF,seval]
 refine X0 c1 rfl ?_
 simp only [↓X1,wF,seval]
 refine X0 c2 rfl ?_
 simp only [↓X1,wF,seval]
 refine X0 c3 rfl ?_
 simp only [↓X1,wF,seval]
 refine X0 c4 rfl ?_
 simp only [↓X1,wF,seval]
 refine X0 c5 rfl ?_
 simp only [↓X1,wF,seval]
 refine X0 c6 rfl ?_
 simp only [↓X1,wF,seval]
 refine X0 c7 rfl ?_
 simp only [↓X1,wF,seval]
 exact Zm rfl Ju rfl rfl rfl sR (hR.trans rfl)
theorem Cn (t a:V2) (ht:vb t≤vm) (ha:vb a≤vm):Fn Tryz.prog 105 [vA t,vA a] (vA (Co t a)):=by
 unfold vm at ht ha
 obtain ⟨R,hR⟩:∃ R,R=vA (Co t a):=⟨_,rfl⟩
 have sR:Settled R:=hR▸Xk _
 have:=Qv t; have:=Qm t; have:=Qv a; have:=Qm a
 have m1:=Qz t.x a.x; have m2:=Qz t.y a.y; have m3:=Qz t.y a.x; have m4:=Qz t.x a.y
 have c1:=QY t.x a.x (by unfold rm; omega) (by unfold rm; omega)
 have c2:=QY t.y a.y (by unfold rm; omega) (by unfold rm; omega)
 have c4:=ZT (t.x*a.x) (t.y*a.y) (by unfold rm; omega) (by unfold rm; omega)
 have c5:=QY t.y a.x (by unfold rm; omega) (by unfold rm; omega)
 have c6:=QY t.x a.y (by unfold rm; omega) (by unfold rm; omega)
 have c7:=JG (t.y*a.x) (t.x*a.y) (by unfold rm; omega) (by unfold rm; omega)
 rw [← hR]
 refine Fr Tryz.call105 Tryz.func105 7 [] [1,20000002,20000003,2,30000002,30000003] [] ?_; simp (maxSteps:=999999) only [AS.start,↓X1,wF,seval]
 refine X0 c1 rfl ?_
 simp only [↓X1,wF,seval]
 refine X0 c2 rfl ?_
 simp only [↓X1,wF,seval]
 refine X0 c4 rfl ?_
 simp only [↓X1,wF,seval]
 refine X0 c5 rfl ?_
 simp only [↓X1,wF,seval]
 refine X0 c6 rfl ?_
 simp only [↓X1,wF,seval]
 refine X0 c7 rfl ?_
 simp only [↓X1,wF,seval]
 exact Zm rfl Ju rfl rfl rfl sR (hR.trans rfl)
theorem jv (t:V2) (ht:vb t≤vm):Fn Tryz.prog 123 [vA t] (.bool (decide (Jy t))):=by
 unfold vm at ht
 have:=Qv t; have:=Qm t
 have m1:=Qz t.x t.x; have m2:=Qz t.y t.y; have m3:=K2 (t.x*t.x) (t.y*t.y)
 have v1:=WJ t.x (by unfold rm; omega)
 have v2:=WJ t.y (by unfold rm; omega)
 have c1:=KH t.x t.x (by unfold rm; omega) (by unfold rm; omega)
 have c2:=KH t.y t.y (by unfold rm; omega) (by unfold rm; omega)
 have c3:=Gt (t.x*t.x) (t.y*t.y) (by omega) (by omega)
 have c4:=FC 1 1 ⟨by omega,by omega⟩ ⟨by omega,by omega⟩
 rw [Br] at c4
 have c5:=Hm (t.x*t.x+t.y*t.y) 1 (by unfold rm; omega) (by have:=(BJ 1 1 ⟨by omega,by omega⟩ ⟨by omega,by omega⟩); rw [Br] at this; unfold rm; omega)
 rw [show decide (t.x*t.x+t.y*t.y=1)=decide (Jy t) from decide_eq_decide.2 Iff.rfl] at c5
 refine Fr Tryz.call123 Tryz.func123 3 [] [] [] ?_; simp (maxSteps:=999999) only [AS.start,↓X1,wF,seval]
 refine X0 v1 rfl ?_
 simp only [↓X1,wF,seval]
 refine X0 v2 rfl ?_
 simp only [↓X1,wF,seval]
 refine X0 c1 rfl ?_
 simp only [↓X1,wF,seval]
 refine X0 c2 rfl ?_
 simp only [↓X1,wF,seval]
 refine X0 c3 rfl ?_
 simp only [↓X1,wF,seval]
 refine X0 c4 rfl ?_
 simp only [↓X1,wF,seval]
 refine X0 c5 rfl ?_
 simp only [↓X1,wF,seval]
 exact Xt rfl rfl (X2 _) rfl
theorem SF (t:V2) (ht:vb t≤vm):Fn Tryz.prog 128 [vA t] (.bool (decide (Jy t))):=by
 unfold vm at ht
 have:=Qv t; have:=Qm t
 have m1:=Qz t.x t.x; have m2:=Qz t.y t.y; have m3:=K2 (t.x*t.x) (t.y*t.y)
 have v1:=LY t.x (by unfold rm; omega)
 have v2:=LY t.y (by unfold rm; omega)
 have c1:=QY t.x t.x (by unfold rm; omega) (by unfold rm; omega)
 have c2:=QY t.y t.y (by unfold rm; omega) (by unfold rm; omega)
 have c3:=JG (t.x*t.x) (t.y*t.y) (by unfold rm; omega) (by unfold rm; omega)
 have c4:=QV 1 1 ⟨by omega,by omega⟩ ⟨by omega,by omega⟩
 rw [Br] at c4
 have c5:=Bu (t.x*t.x+t.y*t.y) 1 (by unfold rm; omega) (by have:=(BJ 1 1 ⟨by omega,by omega⟩ ⟨by omega,by omega⟩); rw [Br] at this; unfold rm; omega)
 rw [show decide (t.x*t.x+t.y*t.y=1)=decide (Jy t) from decide_eq_decide.2 Iff.rfl] at c5
 refine Fr Tryz.call128 Tryz.func128 4 [] [3,40000001] [] ?_; simp (maxSteps:=999999) only [AS.start,↓X1,wF,seval]
 refine X0 v1 rfl ?_
 simp only [↓X1,wF,seval]
 refine X0 v2 rfl ?_
 simp only [↓X1,wF,seval]
 refine X0 c1 rfl ?_
 simp only [↓X1,wF,seval]
 refine X0 c2 rfl ?_
 simp only [↓X1,wF,seval]
 refine X0 c3 rfl ?_
 simp only [↓X1,wF,seval]
 refine X0 c4 rfl ?_
 simp only [↓X1,wF,seval]
 refine X0 c5 rfl ?_
 simp only [↓X1,wF,seval]
 exact Xt rfl rfl (X2 _) rfl
theorem jw (b:Rat):qb b⁻¹≤qb b:=by
 rw [Rat.inv_def]
 exact Kr _ _ _ (V7 b) (K3 b) (JU b)
theorem jx (a b:Rat):qb (a / b)≤qb a+qb b:=by
 rw [Rat.div_def]
 have:=Qz a b⁻¹; have:=jw b
 omega
theorem WG (a b:Rat) (ha:qb a≤vm) (hb:qb b≤vm) (h0:b≠0):Fn Tryz.prog 192 [qA a,qA b] (qA (a / b)):=by
 unfold vm at ha hb
 have q1:=jw b
 have hn:b.num≠0:=fun h=>h0 (Rat.num_eq_zero.1 h)
 have c1:=CU b
 have c2:=Ey b.den b.num hn (by
  have:=b.reduced
  rw [Int.gcd_comm]
  exact this)
 rw [← Rat.inv_def] at c2
 have c3:=KH a b⁻¹ (by unfold rm; omega) (by unfold rm; omega)
 rw [← Rat.div_def] at c3
 obtain ⟨R,hR⟩:∃ R,R=qA (a / b):=⟨_,rfl⟩
 have sR:Settled R:=hR▸Xa _
 have f1:((X8 b.num.natAbs).length=0)=False:=eq_false fun h=>hn (by have:=digs_len_zero.1 h; omega)
 have f2:(((X8 b.num.natAbs).length:Int)=0)=False:=eq_false fun h=>hn (by have:=digs_len_zero.1 (show (X8 b.num.natAbs).length=0 by omega); omega)
 rw [← hR] at c3 ⊢
 refine Fr Tryz.call192 Tryz.func192 5 [] [] [] ?_; simp (maxSteps:=999999) only [AS.start,↓X1,wF,seval]
 simp only [f1,f2,↓X1,wF,seval]
 refine X0 c1 rfl ?_
 simp only [↓X1,wF,seval]
 refine X0 c2 rfl ?_
 simp only [↓X1,wF,seval]
 refine X0 c3 rfl ?_
 simp only [hR,↓X1,wF,seval]
 exact JH rfl Qa rfl rfl rfl sR (hR.trans rfl)
theorem sM (a b:Rat):Rat.divInt (a.num*b.den) (a.den*b.num)=a / b:=by
 rw [← Rat.divInt_mul_divInt,Rat.div_def,Rat.inv_def,Rat.num_divInt_den]
theorem LX (a b:Rat) (ha:qb a≤vm) (hb:qb b≤vm):Fn Tryz.prog 194 [qA a,qA b] (qA (a / b)):=by
 unfold vm at ha hb
 have a1:=JU a; have a2:=K3 a; have b1:=JU b; have b2:=K3 b
 have m1:=ZJ a.num b.den (by unfold room; omega) (by unfold room; omega)
 have m3:=ZJ a.den b.num (by unfold room; omega) (by unfold room; omega)
 have n1:=Ki a.num b.den
 have n3:=Ki a.den b.num
 have k:=Ez (a.num*b.den) (a.den*b.num) (by omega) (by omega)
 rw [sM] at k
 have d1:=A1 a
 have d2:=A1 b
 obtain ⟨R,hR⟩:∃ R,R=qA (a / b):=⟨_,rfl⟩
 have sR:Settled R:=hR▸Xa _
 rw [← hR] at k ⊢
 refine Fr Tryz.call194 Tryz.func194 5 [] [1,20000002,20000003] [] ?_; simp (maxSteps:=999999) only [AS.start,↓X1,wF,seval]
 refine X0 d2 rfl ?_
 simp only [↓X1,wF,seval]
 refine X0 m1 rfl ?_
 simp only [↓X1,wF,seval]
 refine X0 d1 rfl ?_
 simp only [↓X1,wF,seval]
 refine X0 m3 rfl ?_
 simp only [↓X1,wF,seval]
 refine X0 k rfl ?_
 simp only [hR,↓X1,wF,seval]
 exact JH rfl Qa rfl rfl rfl sR (hR.trans rfl)
noncomputable def QI (a b:V2):V2×Int :=
 if XS a a=0∨XS b b=0 then (v0,1) else if XS a a=XS b b then (⟨XS a b / XS a a,Qe a b / XS a a⟩,0) else (v0,21)
def Zt:List AV:=[.bool false,.sl 0 0 (fun _=>.any) false,.bool false,.sl 0 0 (fun _=>.any) false,.bool false,.sl 0 0 (fun _=>.any) false,.bool false,.sl 0 0 (fun _=>.any) false]
theorem Zp:WeakL Zt (vC v0) :=
 have h1:X8 (0:Rat).num.natAbs=[]:=by rw [Rat.zero_num]; simp [Q1]
 have h2:X8 (qd (0:Rat))=[]:=Da rfl
 ⟨Weak.rfl' _,Qw h1,Weak.rfl' _,Qw h2,Weak.rfl' _,Qw h1,Weak.rfl' _,Qw h2,trivial⟩
theorem bX (a b:V2) (ha:vb a≤10000) (hb:vb b≤10000):Fn Tryz.prog 114 [vA a,vA b] (.tup [vA (QI a b).1,I (QI a b).2]):=by
 obtain ⟨R,hR⟩:∃ R,R=QI a b:=⟨_,rfl⟩
 rw [← hR]
 have q1:=Ai a a; have q2:=Ai b b; have q3:=Ai a b; have q4:=CG a b
 have c1:=Gp a a (by unfold vm; omega) (by unfold vm; omega)
 have c2:=Gp b b (by unfold vm; omega) (by unfold vm; omega)
 have c3:=Gp a b (by unfold vm; omega) (by unfold vm; omega)
 have c4:=Hi a b (by unfold vm; omega) (by unfold vm; omega)
 have s1:=Ks (XS a a)
 have s2:=Ks (XS b b)
 have e1:=Hm (XS a a) (XS b b) (by unfold rm; omega) (by unfold rm; omega)
 have zret:∀ {s:AS} {ver id':Nat} {k:Int},s.get 4=.ref id' ver 0→s.h[id']?=some (.row ver 8 (Xn Zt))→s.get 5=I k→R=(v0,k)→RetOk (QJ Tryz.prog Tryz.f114 [1,20000002,20000003,6,70000002,70000003,70000006] [] (.tup [vA R.1,I R.2])) s:=fun h1 h2 h3 h4=>by
  subst h4
  exact J2 rfl (Xo C9 h1 h2 rfl) (by unfold QH; rfl) (Xr (Xk _) (XO Zp)) (by rw [h3]; exact (X9 _).sees _)
 refine Fr Tryz.call114 Tryz.func114 8 [] [1,20000002,20000003,6,70000002,70000003,70000006] [] ?_; simp (maxSteps:=999999) only [AS.start,↓X1,wF,seval]
 refine X0 c1 rfl ?_
 simp only [↓X1,wF,seval]
 refine X0 c2 rfl ?_
 simp only [↓X1,wF,seval]
 refine X0 s1 rfl ?_
 by_cases h1:XS a a=0
 ·have f1:((XS a a).num.sign=0)=True:=eq_true ((Bn _).2 h1)
  simp only [f1,↓X1,wF,seval]
  exact zret rfl rfl rfl (by rw [hR]; unfold QI; rw [if_pos (.inl h1)])
 have f1:((XS a a).num.sign=0)=False:=eq_false fun h=>h1 ((Bn _).1 h)
 simp only [f1,↓X1,wF,seval]
 refine X0 s2 rfl ?_
 by_cases h2:XS b b=0
 ·have f2:((XS b b).num.sign=0)=True:=eq_true ((Bn _).2 h2)
  simp only [f1,f2,↓X1,wF,seval]
  exact zret rfl rfl rfl (by rw [hR]; unfold QI; rw [if_pos (.inr h2)])
 have f2:((XS b b).num.sign=0)=False:=eq_false fun h=>h2 ((Bn _).1 h)
 simp only [f1,f2,↓X1,wF,seval]
 refine X0 e1 rfl ?_
 have hno:¬ (XS a a=0∨XS b b=0):=fun h=>h.elim h1 h2
 by_cases h3:XS a a=XS b b
 rotate_left
 ·rw [decide_eq_false h3]
  simp only [↓X1,wF,seval]
  exact zret rfl rfl rfl (by rw [hR]; unfold QI; rw [if_neg hno,if_neg h3])
 rw [decide_eq_true h3]
 have d1:=WG (XS a b) (XS a a) (by unfold vm; omega) (by unfold vm; omega) h1
 have d2:=WG (Qe a b) (XS a a) (by unfold vm; omega) (by unfold vm; omega) h1
 simp only [↓X1,wF,seval]
 refine X0 c3 rfl ?_
 simp only [↓X1,wF,seval]
 refine X0 d1 rfl ?_
 simp only [↓X1,wF,seval]
 refine X0 c4 rfl ?_
 simp only [↓X1,wF,seval]
 refine X0 d2 rfl ?_
 simp only [↓X1,wF,seval]
 have hRe:R=(⟨XS a b / XS a a,Qe a b / XS a a⟩,0):=by rw [hR]; unfold QI; rw [if_neg hno,if_pos h3]
 subst hRe
 exact J2 rfl (Xo C9 rfl rfl rfl) (by unfold QH; rfl) (Xr (Xk _) (XO (XZ (vC ⟨XS a b / XS a a,Qe a b / XS a a⟩)))) ((X9 _).sees _)
theorem P5 (a b:V2) (ha:vb a≤10000) (hb:vb b≤10000):Fn Tryz.prog 116 [vA a,vA b] (.tup [vA (QI a b).1,I (QI a b).2]):=by
 obtain ⟨R,hR⟩:∃ R,R=QI a b:=⟨_,rfl⟩
 rw [← hR]
 have q1:=Ai a a; have q2:=Ai b b; have q3:=Ai a b; have q4:=CG a b
 have c1:=Z8 a a (by unfold vm; omega) (by unfold vm; omega)
 have c2:=Z8 b b (by unfold vm; omega) (by unfold vm; omega)
 have c3:=Z8 a b (by unfold vm; omega) (by unfold vm; omega)
 have c4:=Gz a b (by unfold vm; omega) (by unfold vm; omega)
 have s1:=B5 (XS a a) (by unfold rm; omega)
 have s2:=B5 (XS b b) (by unfold rm; omega)
 have e1:=Bu (XS a a) (XS b b) (by unfold rm; omega) (by unfold rm; omega)
 have zret:∀ {s:AS} {ver id':Nat} {k:Int},s.get 4=.ref id' ver 0→s.h[id']?=some (.row ver 8 (Xn Zt))→s.get 5=I k→R=(v0,k)→RetOk (QJ Tryz.prog Tryz.f116 [4,50000003,50000006,6,70000002,70000003,70000006] [] (.tup [vA R.1,I R.2])) s:=fun h1 h2 h3 h4=>by
  subst h4
  exact J2 rfl (Xo C9 h1 h2 rfl) (by unfold QH; rfl) (Xr (Xk _) (XO Zp)) (by rw [h3]; exact (X9 _).sees _)
 refine Fr Tryz.call116 Tryz.func116 7 [] [4,50000003,50000006,6,70000002,70000003,70000006] [] ?_; simp (maxSteps:=999999) only [AS.start,↓X1,wF,seval]
 refine X0 c1 rfl ?_
 simp only [↓X1,wF,seval]
 refine X0 s1 rfl ?_
 by_cases h1:XS a a=0
 ·have f1:((XS a a).num.sign=0)=True:=eq_true ((Bn _).2 h1)
  simp only [f1,↓X1,wF,seval]
  exact zret rfl rfl rfl (by rw [hR]; unfold QI; rw [if_pos (.inl h1)])
 have f1:((XS a a).num.sign=0)=False:=eq_false fun h=>h1 ((Bn _).1 h)
 simp only [f1,↓X1,wF,seval]
 refine X0 c2 rfl ?_
 simp only [f1,↓X1,wF,seval]
 refine X0 s2 rfl ?_
 by_cases h2:XS b b=0
 ·have f2:((XS b b).num.sign=0)=True:=eq_true ((Bn _).2 h2)
  simp only [f1,f2,↓X1,wF,seval]
  exact zret rfl rfl rfl (by rw [hR]; unfold QI; rw [if_pos (.inr h2)])
 have f2:((XS b b).num.sign=0)=False:=eq_false fun h=>h2 ((Bn _).1 h)
 simp only [f1,f2,↓X1,wF,seval]
 refine X0 c2 rfl ?_
 simp only [f1,f2,↓X1,wF,seval]
 refine X0 e1 rfl ?_
 have hno:¬ (XS a a=0∨XS b b=0):=fun h=>h.elim h1 h2
 by_cases h3:XS a a=XS b b
 rotate_left
 ·rw [decide_eq_false h3]
  simp only [↓X1,wF,seval]
  exact zret rfl rfl rfl (by rw [hR]; unfold QI; rw [if_neg hno,if_neg h3])
 rw [decide_eq_true h3]
 have d1:=LX (XS a b) (XS a a) (by unfold vm; omega) (by unfold vm; omega)
 have d2:=LX (Qe a b) (XS a a) (by unfold vm; omega) (by unfold vm; omega)
 simp only [↓X1,wF,seval]
 refine X0 c3 rfl ?_
 simp only [↓X1,wF,seval]
 refine X0 d1 rfl ?_
 simp only [↓X1,wF,seval]
 refine X0 c4 rfl ?_
 simp only [↓X1,wF,seval]
 refine X0 d2 rfl ?_
 simp only [↓X1,wF,seval]
 have hRe:R=(⟨XS a b / XS a a,Qe a b / XS a a⟩,0):=by rw [hR]; unfold QI; rw [if_neg hno,if_pos h3]
 subst hRe
 exact J2 rfl (Xo C9 rfl rfl rfl) (by unfold QH; rfl) (Xr (Xk _) (XO (XZ (vC ⟨XS a b / XS a a,Qe a b / XS a a⟩)))) ((X9 _).sees _)
def Gr (t c:V2):List AV:=[.bool (decide (t.x.num<0)),X7 (X8 t.x.num.natAbs),.bool false,X7 (X8 (qd t.x)),.bool (decide (t.y.num<0)),X7 (X8 t.y.num.natAbs),.bool false,X7 (X8 (qd t.y)),
 .bool (decide (c.x.num<0)),X7 (X8 c.x.num.natAbs),.bool false,X7 (X8 (qd c.x)),.bool (decide (c.y.num<0)),X7 (X8 c.y.num.natAbs),.bool false,X7 (X8 (qd c.y))]
def Wz (t c:V2):AV:=.agg (Gr t c)
theorem Zc (t c:V2):∀ x∈Gr t c,Settled x:=by simp [Gr,X6,X2]
theorem A4 (t c:V2):Settled (Wz t c):=Qn (Zc t c)
def put (t c a:V2):V2:=(Co t a).add c
def uR (t c:V2):AV:=.ptr 16 (Xn (Gr t c)) 0
theorem HX (t c:V2):Settled (uR t c):=J0 fun j _=>Xb (Zc t c) j
theorem tx (t c a:V2):vb (put t c a)≤2*(vb t+vb a)+vb c+2:=by
 have:=Dk t a; have:=Be (Co t a) c
 unfold put; omega
theorem bJ (t c a:V2) (ht:vb t≤100000) (hc:vb c≤100000) (ha:vb a≤100000):Fn Tryz.prog 206 [vA a,uR t c] (vA (put t c a)):=by
 have m:=Dk t a
 have c1:=LN t a (by unfold vm; omega) (by unfold vm; omega)
 have c2:=OX (Co t a) c (by unfold vm; omega) (by unfold vm; omega)
 obtain ⟨R,hR⟩:∃ R,R=vA (put t c a):=⟨_,rfl⟩
 have sR:Settled R:=hR▸Xk _
 rw [← hR]
 refine Fq Tryz.call206 Tryz.func206 4 [] [] [] (by simp [Xk,HX]) (Xl ?_)
 simp only [AS.start,uR,Gr,↓X1,wF,seval]
 refine X0 c1 rfl ?_
 simp only [↓X1,wF,seval]
 refine X0 c2 rfl ?_
 simp only [↓X1,wF,seval]
 exact Zm rfl Ju rfl rfl rfl sR (hR.trans rfl)
theorem iY (t c:V2):Fn Tryz.prog 143 [Wz t c] (.fn 206 [uR t c]):=by
 have hset:Settled (.fn 206 [uR t c]):=Jq (by simp [HX])
 refine Fq Tryz.call143 Tryz.func143 3 [] [] [] (by simp [A4]) (Xl ?_)
 simp only [AS.start,Wz,Gr,↓X1,wF,seval]
 refine Bm rfl (Cg ⟨Za (.inl rfl) (by omega) fun j hj=>?_,trivial⟩)
 exact (Xb (Zc t c) j).sees _
theorem sH (t c a:V2) (ht:vb t≤100000) (hc:vb c≤100000) (ha:vb a≤100000):Fn Tryz.prog 55 [Wz t c,vA a] (vA (put t c a)):=by
 have c1:=iY t c
 have c2:=bJ t c a ht hc ha
 obtain ⟨R,hR⟩:∃ R,R=vA (put t c a):=⟨_,rfl⟩
 have sR:Settled R:=hR▸Xk _
 rw [← hR]
 refine Fq Tryz.call55 Tryz.func55 5 [] [] [] (by simp [A4,Xk]) (Xl ?_)
 simp only [AS.start,Wz,Gr,↓X1,wF,seval]
 refine X0 c1 rfl ?_
 simp only [↓X1,wF,seval]
 refine X0 c2 rfl ?_
 simp only [↓X1,wF,seval]
 exact Zm rfl Ju rfl rfl rfl sR (hR.trans rfl)
def JM (t c:V2) (L:List V2):List V2:=L.map (put t c)
theorem NA (t c:V2) (L:List V2) (i:Nat) (hi:i<L.length):JM t c (L.take i) ++ [put t c (L.getD i v0)]=JM t c (L.take (i+1)):=by
 rw [BS _ v0 hi]; simp [JM]
theorem S9 (t c:V2) (L:List V2) (i:Nat) (hi:i≤L.length):(JM t c (L.take i)).length=i:=by simp [JM]; omega
theorem Mq {P:Program} {fn:Func} {str hcs:List Nat} {s:AS} {t id ver:Nat} (L:List V2) (hr:fn.results=#[.tmp t]) (hs:s.get t=.osl id ver 8 0 L.length) (ho:s.h[id]?=some (.row ver (L.length*8) (Xs vC 8 v0 L))):RetOk (QJ P fn str hcs (Xp L)) s:=by
 refine Bm hr ?_
 rw [hs,X4]
 refine Qx (.inl ho) (by omega) (fun h=>by rw [h]) fun j hj=>?_
 rw [Nat.zero_add]
 exact (Xb (by simp [vC,X6,X2]) _).sees _
theorem Zg (a:V2):∀ j,j<8→((vC a).getD j .any).one=true:=fun j hj=>by
 match j,hj with
 | 0,_=>rfl
 | 1,_=>rfl
 | 2,_=>rfl
 | 3,_=>rfl
 | 4,_=>rfl
 | 5,_=>rfl
 | 6,_=>rfl
 | 7,_=>rfl
 | j+8,h=>omega
theorem jq (t c:V2) (L:List V2) (k:Nat) (h:Q2 L k) (hk:k≤100000) (hl:L.length<1000000) (ht:vb t≤100000) (hc:vb c≤100000):Fn Tryz.prog 69 [Wz t c,Xp L] (Xp (JM t c L)):=by
 have bo:XI 2 (.row 0 16 (Xn (Gr t c)))=True:=eq_true (XD (Zc t c))
 have hvc:∀ a:V2,∀ x∈vC a,Settled x:=fun a=>by simp [vC,X6,X2]
 have bv:JO 2 (Xp L)=True:=eq_true (X5 (Xc L))
 have br:∀ i l n,XI 2 (.row i n (Xs vC 8 v0 l))=True:=fun i l n=>eq_true fun j _=>X5 (Xb (hvc _) _)
 obtain ⟨R,hR⟩:∃ R,R=Xp (JM t c L):=⟨_,rfl⟩
 rw [← hR]
 refine Fq Tryz.call69 Tryz.func69 8 [8,9,10] [] [] (by simp [A4,Xc]) (Xl ?_)
 simp only [AS.start,Wz,Gr,X4,↓X1,wF,seval]
 refine Xe (fun i:Nat=>⟨8,[8,9,10],[.any,.any,.ref 0 0 0,.any,.any,.osl 1 i 8 0 i,.any,.any],[(8,Xp L),(9,I L.length),(10,I i)],[.row 0 16 (Xn (Gr t c)),.row i (i*8) (Xs vC 8 v0 (JM t c (L.take i)))]⟩) (fun i=>i≤L.length) (fun i=>L.length - i) 0 (by omega)
  (Sub.trans (Q5 5 8 (Xs vC 8 v0 []) rfl) (Xi rfl (by simp [AS.put,Xf,I]) (by simp [AS.put,Xq,Xw,X4,I]) (by simp [AS.put,Gr,X3,JM]))) ?_
 intro i hi next
 have w1:=wj i (by omega)
 by_cases hi2:i<L.length
 ·have f1:((i:Int)<L.length)=True:=eq_true (by omega)
  have f2:(i<L.length)=True:=eq_true hi2
  have f3:(i*8+8≤L.length*8)=True:=eq_true (by omega)
  have v1:=vF L i
  have hb:=h i
  have c1:=sH t c (L.getD i v0) ht hc (by omega)
  have hap:=XR vC 8 v0 (JM t c (L.take i)) (put t c (L.getD i v0)) (by omega)
  rw [NA _ _ _ _ hi2,S9 _ _ _ _ hi] at hap
  refine Xl ?_
  simp only [Gr,X4,w1,f1,f2,f3,v1,Int.toNat_natCast,↓X1,wF,seval]
  refine X0 c1 rfl ?_
  simp only [w1,↓X1,wF,seval]
  exact ⟨⟨Zg _,by omega,by omega⟩,next (i+1) _ (by omega) (by omega) (XE (m:=2) (Nat.zero_le _) rfl (by simp [Xf]) (by simp [Xq,Xw,X4,I]) (by rw [← hap]; rfl) (by simp [XA]) (by simp [XA,bv]) (by simp [bo,br]))⟩
 obtain rfl:i=L.length:=by omega
 refine Xl ?_
 simp only [Gr,X4,Int.lt_irrefl,Nat.lt_irrefl,↓X1,wF,seval]
 rw [hR,List.take_length]
 have hlen:(JM t c L).length=L.length:=by simp [JM]
 exact Mq _ rfl (by rw [hlen]; rfl) (by rw [hlen]; rfl)
theorem SE (t c:V2) (L:List V2) (k:Nat) (h:Q2 L k) (hk:k≤100000) (hl:L.length<1000000) (ht:vb t≤100000) (hc:vb c≤100000):Fn Tryz.prog 247 [Wz t c,Xp L] (Xp (JM t c L)):=by
 have bo:XI 2 (.con 0 16 (Xn (Gr t c)))=True:=eq_true (fun j _=>X5 (Xb (Zc t c) j))
 have hvc:∀ a:V2,∀ x∈vC a,Settled x:=fun a=>by simp [vC,X6,X2]
 have bv:JO 2 (Xp L)=True:=eq_true (X5 (Xc L))
 have br:∀ i l n,XI 2 (.row i n (Xs vC 8 v0 l))=True:=fun i l n=>eq_true fun j _=>X5 (Xb (hvc _) _)
 obtain ⟨R,hR⟩:∃ R,R=Xp (JM t c L):=⟨_,rfl⟩
 rw [← hR]
 refine Fq Tryz.call247 Tryz.func247 7 [] [5,60000002] [] (by simp [A4,Xc]) (Xl ?_)
 simp only [AS.start,Wz,Gr,X4,↓X1,wF,seval]
 refine Xe (fun i:Nat=>⟨7,[],[.any,Xp L,.ref 0 0 0,.any,.any,.osl 1 i 8 0 i,I i],[],[.con 0 16 (Xn (Gr t c)),.row i (i*8) (Xs vC 8 v0 (JM t c (L.take i)))]⟩) (fun i=>i≤L.length) (fun i=>L.length - i) 0 (by omega)
  (Sub.trans (XX 0 rfl) (Sub.trans (Q5 5 8 (Xs vC 8 v0 []) rfl) (Xi rfl (by simp [AS.put,X4,Xf,I]) (by simp [AS.put,Xq]) (by simp [AS.put,Gr,X3,JM])))) ?_
 intro i hi next
 have w1:=wj i (by omega)
 by_cases hi2:i<L.length
 ·have f1:((i:Int)<L.length)=True:=eq_true (by omega)
  have f2:(i<L.length)=True:=eq_true hi2
  have f3:(i*8+8≤L.length*8)=True:=eq_true (by omega)
  have v1:=vF L i
  have hb:=h i
  have m:=Dk t (L.getD i v0)
  have c1:=Cn t (L.getD i v0) (by unfold vm; omega) (by unfold vm; omega)
  have c2:=BM (Co t (L.getD i v0)) c (by unfold vm; omega) (by unfold vm; omega)
  have hap:=XR vC 8 v0 (JM t c (L.take i)) (put t c (L.getD i v0)) (by omega)
  rw [NA _ _ _ _ hi2,S9 _ _ _ _ hi] at hap
  refine Xl ?_
  simp only [Gr,X4,w1,f1,f2,f3,v1,Int.toNat_natCast,↓X1,wF,seval]
  refine X0 c1 rfl ?_
  simp only [Gr,X4,w1,f1,f2,f3,v1,Int.toNat_natCast,↓X1,wF,seval]
  refine X0 c2 rfl ?_
  simp only [w1,↓X1,wF,seval]
  exact ⟨⟨Zg _,by omega,by omega⟩,next (i+1) _ (by omega) (by omega) (dK (m:=2) (by simp [X4,Xf,I]) (by rw [← hap]; rfl) (by simp [XA,bv]) (by simp [bo,br]))⟩
 obtain rfl:i=L.length:=by omega
 refine Xl ?_
 simp only [Gr,X4,Int.lt_irrefl,Nat.lt_irrefl,↓X1,wF,seval]
 rw [hR,List.take_length]
 have hlen:(JM t c L).length=L.length:=by simp [JM]
 exact Mq _ rfl (by rw [hlen]; rfl) (by rw [hlen]; rfl)
end
end Go.Ab.N
