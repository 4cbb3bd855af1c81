/- Contracts of functions, for arguments that fit. -/
import Derived.Test.YtefjhgcndhepeaaGreatC12
import Derived.Test.YtefjhgcndhepeaaGreatC6
import Derived.Test.YtefjhgcndhepeaaGreatC7
set_option linter.unusedSimpArgs false
set_option linter.unusedVariables false
open Nat renaming reducePow → Y1, reduceLT → Y2, reduceLeDiff → Y3, reduceEqDiff → Y4, reduceAdd → Y5, reduceMul → Y6, reduceSub → Y7, reduceBEq → Y8, reduceDiv → Y9, reduceMod → YA
namespace Go.Ab.N
open Go Go.RowKit Go.Proofs
noncomputable section
set_option maxRecDepth 10000
set_option maxHeartbeats 4000000
open Classical
def ER (l:List FV):AV:=sD XJ 29 Zx l
theorem XB (l:List FV):ER l=.sl l.length (l.length*29) (Xs XJ 29 Zx l) false:=nrfl rfl
theorem K0 (l:List FV):Settled (ER l):=J9 fun j _=>Xc (XM _) _
def QF (i j k:Nat) (t:V2):FV:=⟨0,1,i,j,k,t,v0,v0⟩
def G5 (a b:PV) (e:Rat) (i j k:Nat) (t:V2):Bool:=(XE a.rim b.rim (QF i j k t) e).2.2 && KK a b (Ag a b (QF i j k t) e) e
def Zw (a b:PV) (e:Rat) (i j k:Nat) (L:List V2):List FV:=(L.filter (G5 a b e i j k)).map fun t=>Ag a b (QF i j k t) e
def Dk (a b:PV) (e:Rat) (i j k:Nat):List FV:=if DX a b (QF i j k v0) then Zw a b e i j k (Ja a b (QF i j k v0) k) else []
def Kj (a b:PV) (e:Rat) (i j:Nat):Nat→List FV
 | 0=>[]
 | k+1=>Kj a b e i j k ++ Dk a b e i j (k+1)
def JT (a b:PV) (e:Rat) (i:Nat):Nat→List FV
 | 0=>[]
 | j+1=>JT a b e i j ++ Kj a b e i j (min a.rim.length b.rim.length - 1)
def JF (a b:PV) (e:Rat):Nat→List FV
 | 0=>[]
 | i+1=>JF a b e i ++ JT a b e i b.rim.length
def Bh (a b:PV) (e:Rat):List FV:=JF a b e a.rim.length
theorem Lj (a b:PV) (e:Rat) (i j k:Nat) (L:List V2) (n:Nat) (h:n<L.length):Zw a b e i j k (L.take (n+1))=Zw a b e i j k (L.take n) ++ (if G5 a b e i j k (L.getD n v0)=true then [Ag a b (QF i j k (L.getD n v0)) e] else []):=by
 unfold Zw
 rw [Q5 L v0 n h,List.filter_append,List.map_append]
 congr 1
 by_cases hq:G5 a b e i j k (L.getD n v0)=true
 ·rw [if_pos hq,List.filter_cons_of_pos hq]; rfl
 ·rw [if_neg hq,List.filter_cons_of_neg hq]; rfl
theorem H8 (a b:PV) (e:Rat) (i j k:Nat) (L:List V2):(Zw a b e i j k L).length≤L.length:=by
 unfold Zw; rw [List.length_map]; exact List.length_filter_le _ _
theorem ry {l:List AV} (h:∀ x∈l,x.one=true):∀ j,j<l.length→(l.getD j .any).one=true:=fun j hj=>by
 rw [List.getD_eq_getElem?_getD,List.getElem?_eq_getElem hj]; exact h _ (List.getElem_mem _)
theorem Il (f:FV):∀ j,j<29→((XJ f).getD j .any).one=true:=ry (l:=XJ f) (by simp [XJ,AV.one,X4,I])
theorem OH {P:Program} {fn:Func} {str hcs:List Nat} {s:AS} {t id ver:Nat} (L:List FV) (hr:fn.results=#[.tmp t]) (hs:s.get t=.osl id ver 29 0 L.length) (ho:s.h[id]?=some (.row ver (L.length*29) (Xs XJ 29 Zx L))):RetOk (QI P fn str hcs (ER L)) s:=by
 refine Bl hr ?_
 rw [hs,XB]
 refine Qx (.inl ho) (by omega) (fun h=>by rw [h]) fun j hj=>?_
 rw [Nat.zero_add]
 exact (Xc (XM _) _).sees _
theorem Ef {m:Nat} {s:AS} (id:Nat) {ver n:Nat} {l:List AV} (l':List AV) (ho:s.h[id]?=some (.row ver n (Xo l))) (hn:n=l.length) (h:WeakL l l'):Sub m s { s with h:=s.h.set id (.row ver n (Xo l')) } :=
 ZF id (Xo l') ho fun j hj c v _ _ hv=>(WeakL.spec h).2 j (by omega) v hv
theorem O5 (i j k:Nat):WeakL ([I 0,I 1,I i,I j,I k] ++ (Zj ++ (Zj ++ Zj))) (XJ (QF i j k v0)):=by
 obtain ⟨w1,w2,w3,w4,w5,w6,w7,w8,_⟩:=ZJ
 exact ⟨Weak.rfl' _,Weak.rfl' _,Weak.rfl' _,Weak.rfl' _,Weak.rfl' _,w1,w2,w3,w4,w5,w6,w7,w8,w1,w2,w3,w4,w5,w6,w7,w8,w1,w2,w3,w4,w5,w6,w7,w8,trivial⟩
def J5 (a b:PV) (D:List FV) (x6 x7 x8 x9 x10 x11:AV) (r:List AO):AS:=⟨15,[],[.any,.any,.ref 0 0 0,.ref 1 0 0,.any,.osl 2 D.length 29 0 D.length,x6,x7,x8,x9,x10,x11,.any,.any,.any],[],[.row 0 25 (Xo (XD a)),.row 0 25 (Xo (XD b)),.row D.length (D.length*29) (Xs XJ 29 Zx D)] ++ r⟩
theorem UP (a b:PV) {ta tb:Rat} (ha:GP a ta) (hb:GP b tb):Fn Tryz.prog 109 [QH a,QH b] (ER (Bh a b (ta+tb))):=by
 have la:=(JN _ ha.poly).1
 have lb:=(JN _ hb.poly).1
 have ea:(XC a.rim).length=a.rim.length:=by simp [XC]
 have eb:(XC b.rim).length=b.rim.length:=by simp [XC]
 rw [ea] at la
 rw [eb] at lb
 have qa:=ha.qt; have q2:=hb.qt
 have qe:=JL ta tb
 generalize hT:ta+tb=e at *
 have ba:XK 3 (.row 0 25 (Xo (XD a)))=True:=eq_true (XH (Xy a))
 have bb:XK 3 (.row 0 25 (Xo (XD b)))=True:=eq_true (XH (Xy b))
 have bd:∀ v n l,XK 3 (.row v n (Xs XJ 29 Zx l))=True:=fun v n l=>eq_true fun j _=>X6 (Xc (XM _) _)
 refine Fq Tryz.call109 Tryz.func109 15 [] [] [] (by simp [Xx]) (X0 1000 ?_)
 simp (disch:=omega) only [AS.start,QH,XD,↓Xw,wG,seval]
 refine Xg (fun i:Nat=>J5 a b (JF a b e i) (I i) .any .any .any .any .any []) (fun i=>i≤a.rim.length∧(JF a b e i).length≤2000*i) (fun i=>a.rim.length - i) 0 ⟨by omega,by simp [JF]⟩
  (Sub.trans (Q7 5 29 (Xs XJ 29 Zx []) rfl) (Xa rfl (by simp [AS.put,Xh,J5,JF,I]) (by simp [AS.put,Xi,J5]) (by simp [AS.put,J5,XD,Xe,Xl,X4,JF,I]))) ?_
 rintro i ⟨hi,hil⟩ next
 by_cases hi2:i<a.rim.length
 rotate_left
 ·obtain rfl:i=a.rim.length:=by omega
  refine X0 1000 ?_
  simp (disch:=omega) only [J5,XD,Xe,List.cons_append,List.nil_append,↓Xw,wG,seval]
  exact OH _ rfl rfl rfl
 refine X0 1000 ?_
 simp (disch:=omega) only [J5,XD,Xe,List.cons_append,List.nil_append,↓Xw,wG,seval]
 refine Xg (fun j:Nat=>J5 a b (JF a b e i ++ JT a b e i j) (I i) (I j) .any .any .any .any []) (fun j=>j≤b.rim.length∧(JF a b e i ++ JT a b e i j).length≤2000*i+150*j) (fun j=>b.rim.length - j) 0 ⟨by omega,by simpa [JT] using hil⟩
  (Xa rfl (by simp [Xh,J5,JT,I]) (by simp [Xi,J5]) (by simp [J5,XD,Xe,Xl,X4,JT,I])) ?_
 rintro j ⟨hj,hjl⟩ nextj
 by_cases hj2:j<b.rim.length
 rotate_left
 ·obtain rfl:j=b.rim.length:=by omega
  refine X0 1000 ?_
  simp (disch:=omega) only [J5,XD,Xe,List.cons_append,List.nil_append,↓Xw,wG,seval]
  exact next (i+1) _ ⟨by omega,by show (JF a b e i ++ JT a b e i b.rim.length).length≤_; omega⟩ (by omega) (Xa rfl (by simp [Xh,J5,JF,I]) (by simp [Xi,J5]) (by simp [J5,XD,Xe,Xl,X4,JF,I]))
 generalize hA:JF a b e i ++ JT a b e i j=A at *
 refine X0 1000 ?_
 simp (disch:=omega) only [J5,XD,Xe,List.cons_append,List.nil_append,↓Xw,wG,seval]
 refine Xg (fun k:Nat=>J5 a b (A ++ Kj a b e i j k) (I i) (I j) (I (k+1:Nat)) .any .any .any []) (fun k=>k≤min a.rim.length b.rim.length - 1∧(A ++ Kj a b e i j k).length≤2000*i+150*j+12*k) (fun k=>min a.rim.length b.rim.length - k) 0 ⟨by omega,by simpa [Kj] using hjl⟩
  (Xa rfl (by simp [Xh,J5,Kj,I]) (by simp [Xi,J5]) (by simp [J5,XD,Xe,Xl,X4,Kj,I])) ?_
 rintro k ⟨hk,hkl⟩ nextk
 by_cases hk2:k+1<a.rim.length∧k+1<b.rim.length
 rotate_left
 ·have hke:k=min a.rim.length b.rim.length - 1:=by omega
  by_cases hn:k+1<a.rim.length
  all_goals
   refine X0 1000 ?_
   simp (disch:=omega) only [J5,XD,Xe,List.cons_append,List.nil_append,↓Xw,wG,seval]
   subst hke
   exact nextj (j+1) _ ⟨by omega,by
    have e1:JF a b e i ++ JT a b e i (j+1)=A ++ Kj a b e i j (min a.rim.length b.rim.length - 1):=by rw [← hA,List.append_assoc]; rfl
    rw [e1]; omega⟩ (by omega) (Xa rfl (by simp [Xh,J5,JT,hA.symm,I]) (by simp [Xi,J5]) (by simp [J5,XD,Xe,Xl,X4,JT,hA.symm,I]))
 have hlk:Kj a b e i j (k+1)=Kj a b e i j k ++ Dk a b e i j (k+1):=rfl
 have nx:=nextk (k+1)
 rw [hlk,← List.append_assoc] at nx
 generalize A ++ Kj a b e i j k=A2 at *
 have hst:∀ t lo hi,AB a.rim.length b.rim.length ⟨0,1,i,j,(k+1:Nat),t,lo,hi⟩:=fun t lo hi=>⟨⟨by show (0:Int)≤i; omega,by show (i:Int)<_; omega⟩,⟨by show (0:Int)≤j; omega,by show (j:Int)<_; omega⟩,by show (1:Int)≤((k+1:Nat):Int); omega,by show ((k+1:Nat):Int)<_; omega,by show ((k+1:Nat):Int)<_; omega⟩
 have cp:=GB a b (QF i j (k+1) v0) (hst _ _ _) ha.even hb.even
 have ct:=jy a b (QF i j (k+1) v0) (hst _ _ _) ha.even hb.even
 change Fn _ _ _ (Xp (Ja a b (QF i j (k+1) v0) (k+1))) at ct
 have hsm:=Bn a b (QF i j (k+1) v0) ha.even.near hb.even.near (k+1)
 have hlen:=BT a b (QF i j (k+1) v0) (k+1)
 have hfk:Dk a b e i j (k+1)=if DX a b (QF i j (k+1) v0) then Zw a b e i j (k+1) (Ja a b (QF i j (k+1) v0) (k+1)) else []:=rfl
 have hfl:=H8 a b e i j (k+1) (Ja a b (QF i j (k+1) v0) (k+1))
 rw [hfk] at nx
 generalize Ja a b (QF i j (k+1) v0) (k+1)=L at *
 have wf:=O5 i j (k+1)
 refine X0 1000 ?_
 simp (disch:=omega) only [J5,XD,Xe,List.cons_append,List.nil_append,↓Xw,wG,seval]
 refine XZ cp ⟨Weak.rfl' _,Weak.rfl' _,XW wf,trivial⟩ ?_
 by_cases hp:DX a b (QF i j (k+1) v0)
 rotate_left
 ·rw [if_neg hp,List.append_nil] at nx
  simp (disch:=omega) only [decide_eq_false hp,↓Xw,wG,seval]
  exact nx _ ⟨by omega,by omega⟩ (by omega) (Xr (m:=3) (Nat.zero_le _) rfl (by simp [Xh,J5,I]) (by simp [Xi,J5]) (by simp [J5,XD,Xe,Xl,X4,I]) (by simp [J5,Xv]) (by simp [J5,Xv]) (by simp [J5,ba,bb,bd]))
 rw [if_pos hp] at nx
 simp (disch:=omega) only [decide_eq_true hp,↓Xw,wG,seval]
 refine XZ ct ⟨Weak.rfl' _,Weak.rfl' _,XW wf,trivial⟩ ?_
 simp (disch:=omega) only [↓Xw,wG,seval]
 refine Xg (fun w:Nat×V2×V2×V2=>J5 a b (A2 ++ Zw a b e i j (k+1) (L.take w.1)) (I i) (I j) (I (k+1:Nat)) (.ref 3 0 0) (Xp L) (I w.1) [.row 0 29 (Xo (XJ ⟨0,1,i,j,(k+1:Nat),w.2.1,w.2.2.1,w.2.2.2⟩))]) (fun w=>w.1≤L.length∧(A2 ++ Zw a b e i j (k+1) (L.take w.1)).length≤2000*i+150*j+12*k+w.1) (fun w=>L.length - w.1) (0,v0,v0,v0) ⟨by simp,by simpa [Zw] using hkl⟩
  (Sub.trans (Ef 3 (XJ (QF i j (k+1) v0)) rfl rfl wf) (Xa rfl (by simp [Xh,J5,Zw,I]) (by simp [Xi,J5]) (by simp [J5,XD,Xe,Xl,X4,Zw,QF,I]))) ?_
 rintro ⟨t,T,lo,hi'⟩ ⟨ht,htl⟩ nextt
 replace ht:t≤L.length:=ht
 replace htl:(A2 ++ Zw a b e i j (k+1) (L.take t)).length≤2000*i+150*j+12*k+t:=htl
 have bL:JJ 3 (Xp L)=True:=eq_true (X6 (Xf L))
 by_cases ht2:t<L.length
 rotate_left
 ·obtain rfl:t=L.length:=by omega
  rw [List.take_length] at *
  refine X0 1000 ?_
  simp (disch:=omega) only [J5,X5,XD,Xe,List.cons_append,List.nil_append,↓Xw,wG,seval]
  exact nx _ ⟨by omega,by omega⟩ (by omega) (Xr (m:=3) (Nat.zero_le _) rfl (by simp [Xh,J5,I]) (by simp [Xi,J5]) (by simp [J5,XD,Xe,Xl,X4,I]) (by simp [J5,Xv]) (by simp [J5,Xv]) (by simp [J5,ba,bb,bd]))
 have hx:=hsm (L.getD t v0) (QN ht2)
 have htk:=Lj a b e i j (k+1) L t ht2
 have v1:=vF L t
 generalize L.getD t v0=x at *
 have ca:=Hg a b ⟨0,1,i,j,(k+1:Nat),x,lo,hi'⟩ ha.even hb.even (by show vb x≤1000; omega) ha.tol hb.tol (by omega) (by omega)
 rw [hT] at ca
 have hag:XE a.rim b.rim ⟨0,1,i,j,(k+1:Nat),x,lo,hi'⟩ e=XE a.rim b.rim (QF i j (k+1) x) e:=rfl
 rw [hag] at ca
 have hfine:(Ag a b (QF i j (k+1) x) e).fine:=by
  obtain ⟨h1,h2⟩:=FM a b (QF i j (k+1) x) ha.even.near hb.even.near e (by show vb x≤60; omega)
  exact ⟨by show vb x≤60; omega,by show vb (XE a.rim b.rim (QF i j (k+1) x) e).1≤300; omega,by show vb (XE a.rim b.rim (QF i j (k+1) x) e).2.1≤300; omega⟩
 have cc:=HM a b _ ha hb hfine
 rw [hT] at cc
 have hok:G5 a b e i j (k+1) x=((XE a.rim b.rim (QF i j (k+1) x) e).2.2 && KK a b (Ag a b (QF i j (k+1) x) e) e):=rfl
 have hsf:Ag a b (QF i j (k+1) x) e=⟨0,1,i,j,(k+1:Nat),x,(XE a.rim b.rim (QF i j (k+1) x) e).1,(XE a.rim b.rim (QF i j (k+1) x) e).2.1⟩:=rfl
 rw [hok,hsf] at htk
 rw [hsf] at cc
 generalize XE a.rim b.rim (QF i j (k+1) x) e=G at *
 obtain ⟨g1,g2,ok⟩:=G
 simp only at htk cc ca
 have nx2:=nextt (t+1,x,g1,g2)
 rw [htk,← List.append_assoc] at nx2
 generalize A2 ++ Zw a b e i j (k+1) (L.take t)=D at *
 generalize KK a b ⟨0,1,i,j,(k+1:Nat),x,g1,g2⟩ e=q at *
 have bq:∀ f:FV,XK 4 (.row 0 29 (Xo (XJ f)))=True:=fun f=>eq_true (XH (XM f))
 refine X0 1000 ?_
 simp (disch:=omega) only [J5,X5,XJ,v1,XD,Xe,List.cons_append,List.nil_append,↓Xw,wG,seval]
 refine X1 ca rfl ?_
 have ba4:XK 4 (.row 0 25 (Xo (XD a)))=True:=eq_true (XH (Xy a))
 have bb4:XK 4 (.row 0 25 (Xo (XD b)))=True:=eq_true (XH (Xy b))
 have bd4:∀ v n l,XK 4 (.row v n (Xs XJ 29 Zx l))=True:=fun v n l=>eq_true fun j _=>X6 (Xc (XM _) _)
 have bL4:JJ 4 (Xp L)=True:=eq_true (X6 (Xf L))
 cases ok with
 | false =>
  simp only [Bool.false_and,Bool.false_eq_true,if_false,List.append_nil] at nx2
  simp (disch:=omega) only [X5,↓Xw,wG,seval]
  exact nx2 _ ⟨by show t+1≤L.length; omega,by show D.length≤2000*i+150*j+12*k+(t+1); omega⟩ (by show L.length - (t+1)<L.length - t; omega) (Xr (m:=4) (Nat.zero_le _) rfl (by simp [Xh,J5,X5,I]) (by simp [Xi,J5]) (by simp [J5,XD,XJ,Xe,Xl,X4,I,sg]) (by simp [J5,Xv,bL4]) (by simp [J5,Xv]) (by simp [J5,ba4,bb4,bd4,bq]))
 | true =>
  simp (disch:=omega) only [X5,↓Xw,wG,seval]
  refine X1 cc rfl ?_
  cases q with
  | false =>
   simp only [Bool.and_false,Bool.false_eq_true,if_false,List.append_nil] at nx2
   simp (disch:=omega) only [X5,↓Xw,wG,seval]
   exact nx2 _ ⟨by show t+1≤L.length; omega,by show D.length≤2000*i+150*j+12*k+(t+1); omega⟩ (by show L.length - (t+1)<L.length - t; omega) (Xr (m:=4) (Nat.zero_le _) rfl (by simp [Xh,J5,X5,I]) (by simp [Xi,J5]) (by simp [J5,XD,XJ,Xe,Xl,X4,I,sg]) (by simp [J5,Xv,bL4]) (by simp [J5,Xv]) (by simp [J5,ba4,bb4,bd4,bq]))
  | true =>
   simp only [Bool.and_true,if_true] at nx2
   have hap:=XT XJ 29 Zx D ⟨0,1,i,j,(k+1:Nat),x,g1,g2⟩ (by omega)
   have hDl:(D ++ [(⟨0,1,i,j,(k+1:Nat),x,g1,g2⟩:FV)]).length=D.length+1:=by simp
   simp (disch:=omega) only [X5,↓Xw,wG,seval]
   refine ⟨Il ⟨0,1,i,j,(k+1:Nat),x,g1,g2⟩,?_⟩
   exact nx2 _ ⟨by show t+1≤L.length; omega,by show (D ++ [(⟨0,1,i,j,(k+1:Nat),x,g1,g2⟩:FV)]).length≤2000*i+150*j+12*k+(t+1); omega⟩ (by show L.length - (t+1)<L.length - t; omega) (Xr (m:=4) (Nat.zero_le _) rfl (by simp [Xh,J5,X5,I]) (by simp [Xi,J5]) (by simp only [J5,hDl,← hap]; rfl) (by simp [J5,Xv,bL4]) (by simp [J5,Xv]) (by simp [J5,ba4,bb4,bd4,bq]))
def Ng (a b:PV) (e:Rat) (f:FV) (i j k:Nat) (t:V2):Prop:=k≠0∧k<a.rim.length∧k<b.rim.length∧DX a b (QF i j k v0)∧t∈Ja a b (QF i j k v0) k∧G5 a b e i j k t=true∧f=Ag a b (QF i j k t) e
theorem ah (a b:PV) (e:Rat) (i j k:Nat) (L:List V2) (f:FV):f∈Zw a b e i j k L↔∃ t,t∈L∧G5 a b e i j k t=true∧f=Ag a b (QF i j k t) e:=by
 unfold Zw
 rw [List.mem_map]
 constructor
 ·rintro ⟨t,h,rfl⟩
  rw [List.mem_filter] at h
  exact ⟨t,h.1,h.2,rfl⟩
 ·rintro ⟨t,h1,h2,rfl⟩
  exact ⟨t,List.mem_filter.2 ⟨h1,h2⟩,rfl⟩
theorem Nv (a b:PV) (e:Rat) (i j:Nat) (f:FV):∀ n,n<a.rim.length→n<b.rim.length→(f∈Kj a b e i j n↔∃ k t,k≤n∧Ng a b e f i j k t)
 | 0,_,_=>by simp [Kj,Ng]
 | n+1,h1,h2=>by
  have ih:=Nv a b e i j f n (by omega) (by omega)
  unfold Kj
  rw [List.mem_append,ih]
  have hk:f∈Dk a b e i j (n+1)↔∃ t,Ng a b e f i j (n+1) t:=by
   unfold Dk
   by_cases hp:DX a b (QF i j (n+1) v0)
   ·rw [if_pos hp,ah]
    exact ⟨fun ⟨t,q1,q2,q3⟩=>⟨t,by omega,h1,h2,hp,q1,q2,q3⟩,fun ⟨t,_,_,_,_,q1,q2,q3⟩=>⟨t,q1,q2,q3⟩⟩
   ·rw [if_neg hp]
    exact ⟨fun h=>absurd h List.not_mem_nil,fun ⟨t,_,_,_,q,_⟩=>absurd q hp⟩
  rw [hk]
  constructor
  ·rintro (⟨k,t,q1,q2⟩ | ⟨t,q⟩)
   ·exact ⟨k,t,by omega,q2⟩
   ·exact ⟨n+1,t,Nat.le_refl _,q⟩
  ·rintro ⟨k,t,q1,q2⟩
   by_cases hk:k=n+1
   ·subst hk; exact .inr ⟨t,q2⟩
   ·exact .inl ⟨k,t,by omega,q2⟩
theorem Nu (a b:PV) (e:Rat) (i:Nat) (f:FV) (ha:0<a.rim.length) (hb:0<b.rim.length):∀ n,f∈JT a b e i n↔∃ j k t,j<n∧Ng a b e f i j k t
 | 0=>by simp [JT]
 | n+1=>by
  have ih:=Nu a b e i f ha hb n
  unfold JT
  rw [List.mem_append,ih,Nv a b e i n f _ (by omega) (by omega)]
  constructor
  ·rintro (⟨j,k,t,q1,q2⟩ | ⟨k,t,q1,q2⟩)
   ·exact ⟨j,k,t,by omega,q2⟩
   ·exact ⟨n,k,t,by omega,q2⟩
  ·rintro ⟨j,k,t,q1,q2⟩
   by_cases hj:j=n
   ·subst hj; exact .inr ⟨k,t,by have:=q2.2.1; have:=q2.2.2.1; omega,q2⟩
   ·exact .inl ⟨j,k,t,by omega,q2⟩
theorem Nt (a b:PV) (e:Rat) (f:FV) (ha:0<a.rim.length) (hb:0<b.rim.length):∀ n,f∈JF a b e n↔∃ i j k t,i<n∧j<b.rim.length∧Ng a b e f i j k t
 | 0=>by simp [JF]
 | n+1=>by
  have ih:=Nt a b e f ha hb n
  unfold JF
  rw [List.mem_append,ih,Nu a b e n f ha hb]
  constructor
  ·rintro (⟨i,j,k,t,q1,q2⟩ | ⟨j,k,t,q1,q2⟩)
   ·exact ⟨i,j,k,t,by omega,q2⟩
   ·exact ⟨n,j,k,t,by omega,q1,q2⟩
  ·rintro ⟨i,j,k,t,q1,q2,q3⟩
   by_cases hi:i=n
   ·subst hi; exact .inr ⟨j,k,t,q2,q3⟩
   ·exact .inl ⟨i,j,k,t,by omega,q2,q3⟩
theorem Dy (a b:PV) (e:Rat) (f:FV) (ha:0<a.rim.length) (hb:0<b.rim.length):f∈Bh a b e↔∃ i j k t,i<a.rim.length∧j<b.rim.length∧Ng a b e f i j k t:=Nt a b e f ha hb _
def Dv (n m:Nat) (W:List FV) (f:FV):Bool:=W.any fun g=>decide (ZS n m f g)
def Ct (a b:PV) (e:Rat):List FV:=(Bh a b e).filter fun f=>!Dv a.rim.length b.rim.length (Bh a b e) f
theorem fF (l:List FV) (i:Nat):∀ j,j<29→Xs XJ 29 Zx l (i*29+j)=(XJ (l.getD i Zx)).getD j .any:=fun j hj=>K5 _ _ _ _ _ _ hj
theorem oZ (l:List FV) (i:Nat):Xs XJ 29 Zx l (i*29)=(XJ (l.getD i Zx)).getD 0 .any:=Ko _ _ _ _ _ (by omega)
theorem gP (n m:Nat) (W:List FV) (f:FV) (j:Nat) (h:j<W.length):Dv n m (W.take (j+1)) f=(Dv n m (W.take j) f || decide (ZS n m f (W.getD j Zx))):=by
 unfold Dv
 rw [Q5 W Zx j h,List.any_append]; simp
theorem Nf (n m:Nat) (W:List FV) (i:Nat) (h:i<W.length):(W.take (i+1)).filter (fun f=>!Dv n m W f)=(W.take i).filter (fun f=>!Dv n m W f) ++ (if Dv n m W (W.getD i Zx)=true then [] else [W.getD i Zx]):=by
 rw [Q5 W Zx i h,List.filter_append]
 congr 1
 cases hq:Dv n m W (W.getD i Zx) with
 | true=>rw [if_pos rfl,List.filter_cons_of_neg (by rw [hq]; decide)]; rfl
 | false=>rw [if_neg (by decide),List.filter_cons_of_pos (by rw [hq]; rfl)]; rfl
theorem IK (a b:PV) (e:Rat) (ha:a.rim.length≤12) (hb:b.rim.length≤12) (h1:0<a.rim.length) (h2:0<b.rim.length):(Bh a b e).length≤24000:=by
 have hk:∀ i j n,n≤12→(Kj a b e i j n).length≤12*n:=fun i j n=>by
  induction n with
  | zero=>intro _; simp [Kj]
  | succ n ih =>
   intro hn
   have h3:=ih (by omega)
   unfold Kj
   rw [List.length_append]
   have:(Dk a b e i j (n+1)).length≤n+1:=by
    unfold Dk
    split
    ·exact Nat.le_trans (H8 ..) (BT ..)
    ·simp
   omega
 have hj:∀ i n,(JT a b e i n).length≤144*n:=fun i n=>by
  induction n with
  | zero=>simp [JT]
  | succ n ih =>
   unfold JT
   rw [List.length_append]
   have:=hk i n (min a.rim.length b.rim.length - 1) (by omega)
   omega
 have hi:∀ n,(JF a b e n).length≤1728*n:=fun n=>by
  induction n with
  | zero=>simp [JF]
  | succ n ih =>
   unfold JF
   rw [List.length_append]
   have:=hj n b.rim.length
   omega
 have:=hi a.rim.length
 unfold Bh; omega
theorem G6 {a b:PV} {ta tb:Rat} (ha:GP a ta) (hb:GP b tb) {f:FV} (h:f∈Bh a b (ta+tb)):f.near∧vb f.turn≤26∧vb f.lo≤200∧vb f.hi≤200:=by
 have la:=(JN _ ha.poly).1
 have lb:=(JN _ hb.poly).1
 have ea:(XC a.rim).length=a.rim.length:=by simp [XC]
 have eb:(XC b.rim).length=b.rim.length:=by simp [XC]
 rw [ea] at la
 rw [eb] at lb
 have qa:=ha.qt; have q2:=hb.qt
 have qe:=JL ta tb
 obtain ⟨i,j,k,t,h1,h2,_,h3,h4,_,h5,_,rfl⟩:=(Dy a b (ta+tb) f (by omega) (by omega)).1 h
 have ht:=Bn a b (QF i j k v0) ha.even.near hb.even.near k t h5
 obtain ⟨m1,m2⟩:=FM a b (QF i j k t) ha.even.near hb.even.near (ta+tb) (by show vb t≤60; omega)
 exact ⟨⟨⟨by show (-1000000:Int)≤(i:Int); omega,by show (i:Int)≤1000000; omega⟩,⟨by show (-1000000:Int)≤(j:Int); omega,by show (j:Int)≤1000000; omega⟩,by show (-1000000:Int)≤(k:Int); omega,by show (k:Int)≤1000000; omega⟩,ht,by show vb (XE a.rim b.rim (QF i j k t) (ta+tb)).1≤200; omega,by show vb (XE a.rim b.rim (QF i j k t) (ta+tb)).2.1≤200; omega⟩
theorem UO (a b:PV) {ta tb:Rat} (ha:GP a ta) (hb:GP b tb):Fn Tryz.prog 30 [QH a,QH b] (ER (Ct a b (ta+tb))):=by
 have la:=(JN _ ha.poly).1
 have lb:=(JN _ hb.poly).1
 have ea:(XC a.rim).length=a.rim.length:=by simp [XC]
 have eb:(XC b.rim).length=b.rim.length:=by simp [XC]
 rw [ea] at la
 rw [eb] at lb
 have c1:=UP a b ha hb
 have hfin:=fun f=>@G6 a b ta tb ha hb f
 have hl:=IK a b (ta+tb) la.2 lb.2 (by omega) (by omega)
 unfold Ct
 generalize Bh a b (ta+tb)=W at *
 have ba:XK 3 (.con 0 25 (Xo (XD a)))=True:=eq_true (fun j _=>X6 (Xc (Xy a) j))
 have bb:XK 3 (.con 0 25 (Xo (XD b)))=True:=eq_true (fun j _=>X6 (Xc (Xy b) j))
 have bd:∀ v n l,XK 3 (.row v n (Xs XJ 29 Zx l))=True:=fun v n l=>eq_true fun j _=>X6 (Xc (XM _) _)
 refine Fq Tryz.call30 Tryz.func30 10 [] [10,110000002,110000003] [] (by simp [Xx]) (X0 1000 ?_)
 simp (disch:=omega) only [AS.start,QH,XD,↓Xw,wG,seval]
 refine X1 c1 rfl ?_
 simp (disch:=omega) only [XB,↓Xw,wG,seval]
 refine Xg (fun i:Nat=>⟨10,[],[.any,.any,.ref 0 0 0,.ref 1 0 0,.any,ER W,.osl 2 ((W.take i).filter (fun f=>!Dv a.rim.length b.rim.length W f)).length 29 0 ((W.take i).filter (fun f=>!Dv a.rim.length b.rim.length W f)).length,I i,.any,.any],[],[.con 0 25 (Xo (XD a)),.con 0 25 (Xo (XD b)),.row ((W.take i).filter (fun f=>!Dv a.rim.length b.rim.length W f)).length (((W.take i).filter (fun f=>!Dv a.rim.length b.rim.length W f)).length*29) (Xs XJ 29 Zx ((W.take i).filter (fun f=>!Dv a.rim.length b.rim.length W f)))]⟩) (fun i=>i≤W.length∧((W.take i).filter (fun f=>!Dv a.rim.length b.rim.length W f)).length≤i) (fun i=>W.length - i) 0 ⟨by omega,by simp⟩
  (Sub.trans (XR 0 rfl) (Sub.trans (XR 1 rfl) (Sub.trans (Q7 6 29 (Xs XJ 29 Zx []) rfl) (Xa rfl (by simp [AS.put,Xh,XB,I]) (by simp [AS.put,Xi]) (by simp [AS.put,XD,Xe,Xl,X4,I]))))) ?_
 rintro i ⟨hi,hil⟩ next
 by_cases hi2:i<W.length
 rotate_left
 ·obtain rfl:i=W.length:=by omega
  rw [List.take_length]
  refine X0 1000 ?_
  simp (disch:=omega) only [XB,XD,Xe,↓Xw,wG,seval]
  exact OH _ rfl rfl rfl
 have nx:=next (i+1)
 rw [Nf _ _ W i hi2] at nx
 generalize (W.take i).filter (fun f=>!Dv a.rim.length b.rim.length W f)=D at *
 obtain ⟨n1,n2,n3,n4⟩:=hfin _ (QN (d:=Zx) hi2)
 have v1:=fF W i
 have v2:=oZ W i
 have hBe:Dv a.rim.length b.rim.length W (W.getD i Zx)=Dv a.rim.length b.rim.length (W.take W.length) (W.getD i Zx):=by rw [List.take_length]
 rw [hBe] at nx
 generalize W.getD i Zx=f at *
 refine X0 1000 ?_
 simp (disch:=omega) only [XB,XD,Xe,↓Xw,wG,seval]
 refine Xg (fun j:Nat=>⟨10,[],[.any,.any,.ref 0 0 0,.ref 1 0 0,.any,ER W,.osl 2 D.length 29 0 D.length,I i,.bool (Dv a.rim.length b.rim.length (W.take j) f),I j],[],[.con 0 25 (Xo (XD a)),.con 0 25 (Xo (XD b)),.row D.length (D.length*29) (Xs XJ 29 Zx D)]⟩) (fun j=>j≤W.length) (fun j=>W.length - j) 0 (by omega)
  (Xa rfl (by simp [Xh,XB,Dv,I]) (by simp [Xi]) (by simp [XD,Xe,Xl,X4,I])) ?_
 intro j hj nextj
 by_cases hj2:j<W.length
 rotate_left
 ·obtain rfl:j=W.length:=by omega
  generalize Dv a.rim.length b.rim.length (W.take W.length) f=q at *
  refine X0 1000 ?_
  cases q with
  | true =>
   rw [if_pos rfl,List.append_nil] at nx
   simp (disch:=omega) only [XB,XD,Xe,Bool.not_true,↓Xw,wG,seval]
   exact nx _ ⟨by omega,by omega⟩ (by omega) (Xa rfl (by simp [Xh,XB,I]) (by simp [Xi]) (by simp [XD,Xe,Xl,X4,I]))
  | false =>
   rw [if_neg (by decide)] at nx
   have hap:=XT XJ 29 Zx D f (by omega)
   have hDl:(D ++ [f]).length=D.length+1:=by simp
   simp (disch:=omega) only [XB,v1,v2,XJ,XD,Xe,Bool.not_false,↓Xw,wG,seval]
   exact ⟨Il f,nx _ ⟨by omega,by omega⟩ (by omega) (Xa rfl (by simp [Xh,XB,hDl,I]) (by simp [Xi]) (by rw [hDl,← hap]; rfl))⟩
 obtain ⟨m1,m2,m3,m4⟩:=hfin _ (QN (d:=Zx) hj2)
 have cp:=Wb a b f (W.getD j Zx) ⟨by omega,by omega⟩ ⟨by omega,by omega⟩ n1 m1 (by unfold vm; omega) (by unfold vm; omega)
 have w1:=fF W j
 have w2:=oZ W j
 have nx2:=nextj (j+1)
 rw [gP _ _ W f j hj2] at nx2
 generalize W.getD j Zx=g at *
 generalize Dv a.rim.length b.rim.length (W.take j) f=q at *
 refine X0 1000 ?_
 cases q with
 | true =>
  simp (disch:=omega) only [XB,XD,Xe,↓Xw,wG,seval]
  exact nx2 _ (by omega) (by omega) (Xa rfl (by simp [Xh,XB,I]) (by simp [Xi]) (by simp [XD,Xe,Xl,X4,I]))
 | false =>
  simp (disch:=omega) only [XB,v1,v2,w1,w2,XJ,XD,Xe,↓Xw,wG,seval]
  refine X1 cp rfl ?_
  simp (disch:=omega) only [XB,XD,Xe,↓Xw,wG,seval]
  exact nx2 _ (by omega) (by omega) (Xa rfl (by simp [Xh,XB,I]) (by simp [Xi]) (by simp [XD,Xe,Xl,X4,I]))
def Z5:Nat→Int×Int→Int×Int
 | 0,p=>p
 | i+1,p=>(-(Z5 i p).2,(Z5 i p).1)
theorem GK (p:Int×Int) (c:Int) (h1:-c≤p.1∧p.1≤c) (h2:-c≤p.2∧p.2≤c):∀ i,(-c≤(Z5 i p).1∧(Z5 i p).1≤c)∧(-c≤(Z5 i p).2∧(Z5 i p).2≤c)
 | 0=>⟨h1,h2⟩
 | i+1=>by
  have ih:=GK p c h1 h2 i
  unfold Z5
  simp only
  omega
theorem bZ (p:Int×Int) (q:Nat) (h1:-1000≤p.1∧p.1≤1000) (h2:-1000≤p.2∧p.2≤1000) (hq:q≤4):Fn Tryz.prog 101 [.agg (Kk p),I q] (.agg (Kk (Z5 q p))):=by
 obtain ⟨R,hR⟩:∃ R,R=AV.agg (Kk (Z5 q p)):=⟨_,rfl⟩
 have sR:Settled R:=hR▸Qm (Kx _)
 rw [← hR]
 refine Fq Tryz.call101 Tryz.func101 6 [] [] [] (by simp [X9,Qm (Kx p)]) (X0 1000 ?_)
 simp (disch:=omega) only [AS.start,Kk,↓Xw,wG,seval]
 refine Xg (fun i:Nat=>⟨6,[],[.any,I q,.ref 0 0 0,.any,.ref 1 0 0,I i],[],[.row 0 2 (Xo (Kk (Z5 i p))),.row 0 2 (Xo [I 0,I 0])]⟩) (fun i=>i≤q) (fun i=>q - i) 0 (by omega)
  (Xa rfl (by simp [Xh,I]) (by simp [Xi]) rfl) ?_
 intro i hi next
 have hb:=GK p 1000 h1 h2 i
 by_cases hi2:i<q
 ·refine X0 1000 ?_
  simp (disch:=omega) only [Kk,↓Xw,wG,seval]
  exact next (i+1) _ (by omega) (by omega) (Xa rfl (by simp [Xh,I]) (by simp [Xi]) (by simp [Kk,Z5,I]))
 ·obtain rfl:i=q:=by omega
  refine X0 1000 ?_
  simp (disch:=omega) only [Kk,↓Xw,wG,seval]
  exact ZB rfl gU rfl rfl rfl sR (hR.trans rfl)
theorem Mg (l:List (Int×Int)) (hn:QY l) (hl:l.length<1000000):Fn Tryz.prog 100 [Dw l] (.bool (decide (XO (XC l)))):=by
 have hrl:(XC l).length=l.length:=by simp [XC]
 have cv:=D5 (XC l) (fun i=>Nat.le_trans (EK hn i) (by omega)) (by omega)
 refine Fq Tryz.call100 Tryz.func100 5 [] [5] [] (by simp [QG]) (X0 1000 ?_)
 simp (disch:=omega) only [AS.start,Xe,↓Xw,wG,seval]
 refine Xg (fun k:Nat=>⟨5,[],[Dw l,.any,.any,.osl 0 k 8 0 k,I k],[],[.row k (k*8) (Xs vC 8 v0 (XC (l.take k)))]⟩) (fun k=>k≤l.length) (fun k=>l.length - k) 0 (by omega)
  (Sub.trans (Q7 3 8 (Xs vC 8 v0 []) rfl) (Xa rfl (by simp [AS.put,Xh,Xe,I]) (by simp [AS.put,Xi]) (by simp [AS.put,XC]))) ?_
 intro k hk next
 by_cases hk2:k<l.length
 rotate_left
 ·obtain rfl:k=l.length:=by omega
  rw [List.take_length]
  refine X0 1000 ?_
  simp (disch:=omega) only [Xe,↓Xw,wG,seval]
  refine JI cv rfl ⟨?_,trivial⟩ (As _) ?_
  ·show JH _ (.osl 0 l.length 8 0 l.length) (Xp (XC l))
   rw [X5,hrl]
   refine Qx (.inl rfl) (by omega) (fun h=>by rw [h]) fun j hj=>?_
   rw [Nat.zero_add]
   exact (Xc (l:=vC ((XC l).getD (j / 8) v0)) (by simp [vC,X7,X3]) _).sees _
  simp (disch:=omega) only [↓Xw,wG,seval]
  exact Xt rfl rfl (X3 _) rfl
 have hc:=DT hn k
 have c1:=KI (l.getD k (0,0)).1 (l.getD k (0,0)).2 ⟨by omega,by omega⟩ ⟨by omega,by omega⟩
 have p1:Xs Kk 2 (0,0) l (k*2)=I (l.getD k (0,0)).1:=Ko _ _ _ _ _ (by omega)
 have p2:Xs Kk 2 (0,0) l (k*2+1)=I (l.getD k (0,0)).2:=K5 _ _ _ _ _ _ (by omega)
 have hap:=XT vC 8 v0 (XC (l.take k)) (JD (l.getD k (0,0))) (by omega)
 have htk:XC (l.take k) ++ [JD (l.getD k (0,0))]=XC (l.take (k+1)):=by unfold XC; rw [Q5 l (0,0) k hk2,List.map_append]; rfl
 have hkl:(XC (l.take k)).length=k:=by simp [XC]; omega
 rw [htk,hkl] at hap
 have hpv:(⟨((l.getD k (0,0)).1:Rat),((l.getD k (0,0)).2:Rat)⟩:V2)=JD (l.getD k (0,0)):=rfl
 rw [hpv] at c1
 refine X0 1000 ?_
 simp (disch:=omega) only [Xe,p1,p2,↓Xw,wG,seval]
 refine X1 c1 rfl ?_
 simp (disch:=omega) only [↓Xw,wG,seval]
 exact ⟨Z7 _,next (k+1) _ (by omega) (by omega) (Xa rfl (by simp [Xh,Xe,I]) (by simp [Xi]) (by rw [← hap]; rfl))⟩
def Mm (l:List Int) (at' k:Nat):Bool:=decide (Ab.atF l (at'+2+k:Nat) 16=15)
def Ft (l:List Int) (at' k:Nat):Int:=if 11<Ab.atF l (at'+2+k:Nat) 16 then Ab.atF l (at'+2+k:Nat) 16 - 11 else 0
def Zy (rim:List (Int×Int)) (l:List Int) (at':Nat):PV:=⟨Ab.atF l at' 900,Ab.atF l at' 5,rim,(List.range rim.length).map (Mm l at'),(List.range rim.length).map (Ft l at'),
 RQ.of (Rat.divInt (Ab.atF l (at'+1:Nat) 3) 4),RQ.of (Rat.divInt 1 1),RQ.of (Rat.divInt (1+Ab.atF l at' 3) 1),RQ.of (Rat.divInt 100 1),RQ.of (Rat.divInt 1 2)⟩
theorem T1 {m:Nat} {s:AS} (id i:Nat) (b:AV) {ver n:Nat} {f:Nat→AV} (ho:s.h[id]?=some (.row ver n f)) (h:ZK s.h (f i) b):Sub m s { s with h:=s.h.set id (.row ver n (BX f i b)) } :=
 ZF id (BX f i b) ho fun j hj=>by
  unfold BX
  by_cases e:j=i
  ·rw [if_pos e,e]; exact h
  ·rw [if_neg e]; exact J1 _ _
def Jj:List AV:=[I 0,I 0,.sl 0 0 (fun _=>.any) true,.sl 0 0 (fun _=>.any) true,.sl 0 0 (fun _=>.any) true,.bool false,.sl 0 0 (fun _=>.any) true,.bool false,.sl 0 0 (fun _=>.any) true,.bool false,.sl 0 0 (fun _=>.any) true,.bool false,.sl 0 0 (fun _=>.any) true,
 .bool false,.sl 0 0 (fun _=>.any) true,.bool false,.sl 0 0 (fun _=>.any) true,.bool false,.sl 0 0 (fun _=>.any) true,.bool false,.sl 0 0 (fun _=>.any) true,.bool false,.sl 0 0 (fun _=>.any) true,.bool false,.sl 0 0 (fun _=>.any) true]
def Gd (id home:Int) (rim:List (Int×Int)) (k:Nat) (t u h s r:Rat):List AV:=[I id,I home,Dw rim,.osl 2 k 1 0 k,.osl 3 k 1 0 k] ++ (qC t ++ (qC u ++ (qC h ++ (qC s ++ qC r))))
theorem Lx {α:Type} (f:Nat→α) (k:Nat):(List.range (k+1)).map f=(List.range k).map f ++ [f k]:=by rw [List.range_succ,List.map_append]; rfl
theorem VV (rim:List (Int×Int)) (l:List Int) (at':Nat) (hr:rim.length<1000) (hl:C0 l) (ha:at'<1000):Fn Tryz.prog 102 [Dw rim,X8 l,I at'] (QH (Zy rim l at')):=by
 obtain ⟨V,hV⟩:∃ V,V=QH (Zy rim l at'):=⟨_,rfl⟩
 rw [← hV]
 have c1:=Qs l at' 900 hl (by omega)
 have c2:=Qs l at' 5 hl (by omega)
 have c3:=Qs l (at'+1:Nat) 3 hl (by omega)
 have c4:=Qs l at' 3 hl (by omega)
 have b3:=XF l (at'+1:Nat) 3 (by omega)
 have b4:=XF l at' 3 (by omega)
 have q1:=QX (Ab.atF l (at'+1:Nat) 3) 4 ⟨by omega,by omega⟩ ⟨by omega,by omega⟩
 have q2:=QX 1 1 ⟨by omega,by omega⟩ ⟨by omega,by omega⟩
 have q3:=QX (1+Ab.atF l at' 3) 1 ⟨by omega,by omega⟩ ⟨by omega,by omega⟩
 have q4:=QX 100 1 ⟨by omega,by omega⟩ ⟨by omega,by omega⟩
 have q5:=QX 1 2 ⟨by omega,by omega⟩ ⟨by omega,by omega⟩
 unfold Zy at hV
 generalize Rat.divInt (Ab.atF l (at'+1:Nat) 3) 4=t at *
 generalize Rat.divInt 1 1=u at *
 generalize Rat.divInt (1+Ab.atF l at' 3) 1=h at *
 generalize Rat.divInt 100 1=s at *
 generalize Rat.divInt 1 2=r at *
 generalize Ab.atF l at' 900=id at *
 generalize Ab.atF l at' 5=home at *
 rw [Int.natCast_add] at c3
 refine Fq Tryz.call102 Tryz.func102 11 [] [1] [] (by simp [X9,QG,X7]) (X0 1000 ?_)
 simp (disch:=omega) only [AS.start,Xe,↓Xw,wG,seval]
 refine X1 c1 rfl ?_
 simp (disch:=omega) only [↓Xw,wG,seval]
 refine X1 c2 rfl ?_
 simp (disch:=omega) only [↓Xw,wG,seval]
 refine X1 c3 rfl ?_
 simp (disch:=omega) only [↓Xw,wG,seval]
 refine X1 q1 rfl ?_
 simp (disch:=omega) only [↓Xw,wG,seval]
 refine X1 q2 rfl ?_
 simp (disch:=omega) only [↓Xw,wG,seval]
 refine X1 c4 rfl ?_
 simp (disch:=omega) only [↓Xw,wG,seval]
 refine X1 q3 rfl ?_
 simp (disch:=omega) only [↓Xw,wG,seval]
 refine X1 q4 rfl ?_
 simp (disch:=omega) only [↓Xw,wG,seval]
 refine X1 q5 rfl ?_
 simp (disch:=omega) only [↓Xw,wG,seval]
 refine Xg (fun k:Nat=>⟨11,[],[Dw rim,X8 l,I at',.any,.any,.any,.ref 0 0 0,.ref 1 0 0,I k,.any,.any],[],[.row 0 25 (Xo Jj),.row 0 25 (Xo (Gd id home rim k t u h s r)),.row k k (Qa AV.bool false ((List.range k).map (Mm l at'))),.row k k (Qa I 0 ((List.range k).map (Ft l at')))]⟩) (fun k=>k≤rim.length) (fun k=>rim.length - k) 0 (by omega)
  (Sub.trans (IC (Qa AV.bool false [])) (Sub.trans (IC (Qa I 0 [])) (Sub.trans (T1 1 3 (.osl 2 0 1 0 0) rfl (Bo rfl)) (Sub.trans (T1 1 4 (.osl 3 0 1 0 0) rfl (Bo rfl)) (Xa rfl (by simp [Xh,Xe,X4,I]) (by simp [Xi]) (by simp [Jj,Gd,qC,Pi,Xe,X4,I,sg])))))) ?_
 intro k hk next
 by_cases hk2:k<rim.length
 rotate_left
 ·obtain rfl:k=rim.length:=by omega
  refine X0 1000 ?_
  simp (disch:=omega) only [Jj,Gd,qC,Xe,X4,↓Xw,wG,seval]
  subst hV
  refine E7 (L:=Gd id home rim rim.length t u h s r) rfl Gc rfl rfl rfl ?_
  have h2:∀ H:List AO,H[2]?=some (.row rim.length rim.length (Qa AV.bool false ((List.range rim.length).map (Mm l at'))))→JH H (.osl 2 rim.length 1 0 rim.length) (A3 ((List.range rim.length).map (Mm l at'))):=fun H ho=>by
   rw [Xl,List.length_map,List.length_range]
   refine Qx (.inl ho) (by omega) (fun h=>h) fun j hj=>?_
   rw [Nat.zero_add]
   exact (X3 _).sees _
  have h3:∀ H:List AO,H[3]?=some (.row rim.length rim.length (Qa I 0 ((List.range rim.length).map (Ft l at'))))→JH H (.osl 3 rim.length 1 0 rim.length) (X8 ((List.range rim.length).map (Ft l at'))):=fun H ho=>by
   rw [X4,List.length_map,List.length_range]
   refine Qx (.inl ho) (by omega) (fun h=>h) fun j hj=>?_
   rw [Nat.zero_add]
   exact (X9 _).sees _
  exact ZD ⟨(X9 _).sees _,(X9 _).sees _,(QG _).sees _,h2 _ rfl,h3 _ rfl,(X3 _).sees _,(X7 _).sees _,(X3 _).sees _,(X7 _).sees _,(X3 _).sees _,(X7 _).sees _,(X3 _).sees _,(X7 _).sees _,(X3 _).sees _,(X7 _).sees _,(X3 _).sees _,(X7 _).sees _,(X3 _).sees _,(X7 _).sees _,(X3 _).sees _,(X7 _).sees _,(X3 _).sees _,(X7 _).sees _,(X3 _).sees _,(X7 _).sees _,trivial⟩
 have c5:=Qs l (at'+2+k:Nat) 16 hl (by omega)
 have b5:=XF l (at'+2+k:Nat) 16 (by omega)
 have nx:=next (k+1)
 rw [Lx,Lx] at nx
 have e1:Mm l at' k=decide (Ab.atF l (at'+2+k:Nat) 16=15):=rfl
 have e2:Ft l at' k=if 11<Ab.atF l (at'+2+k:Nat) 16 then Ab.atF l (at'+2+k:Nat) 16 - 11 else 0:=rfl
 rw [e1,e2] at nx
 generalize Ab.atF l (at'+2+k:Nat) 16=n at *
 rw [show ((at'+2+k:Nat):Int)=(at':Int)+2+k by omega] at c5
 have hW:((List.range k).map (Mm l at')).length=k:=by simp
 have hM:((List.range k).map (Ft l at')).length=k:=by simp
 generalize (List.range k).map (Mm l at')=W at *
 generalize (List.range k).map (Ft l at')=M at *
 have hap1:=IQ AV.bool false W (decide (n=15))
 rw [hW,Nat.mul_one] at hap1
 refine X0 1000 ?_
 simp (disch:=omega) only [Gd,qC,Xe,X4,List.cons_append,List.nil_append,↓Xw,wG,seval]
 refine X1 c5 rfl ?_
 by_cases hn:11<n
 ·have hap2:=CJ M (n - 11)
  rw [if_pos hn] at nx
  rw [hM] at hap2
  simp (disch:=omega) only [Gd,qC,Xe,X4,List.cons_append,List.nil_append,↓Xw,wG,seval]
  exact nx _ (by omega) (by omega) (Xa rfl (by simp [Xh,Xe,X4,I]) (by simp [Xi]) (by rw [← hap1,← hap2]; simp [Jj,Gd,qC,Xe,X4,I,sg]))
 ·have hap2:=CJ M 0
  rw [if_neg hn] at nx
  rw [hM] at hap2
  simp (disch:=omega) only [Gd,qC,Xe,X4,List.cons_append,List.nil_append,↓Xw,wG,seval]
  exact nx _ (by omega) (by omega) (Xa rfl (by simp [Xh,Xe,X4,I]) (by simp [Xi]) (by rw [← hap1,← hap2]; simp [Jj,Gd,qC,Xe,X4,I,sg,show ¬ n=15 by omega]))
structure Iso (g h:V2→V2):Prop where
 sub:∀ a b,(g a).sub (g b)=h (a.sub b)
 cr:∀ u v,Qq (h u) (h v)=Qq u v
 dt:∀ u v,Q9 (h u) (h v)=Q9 u v
 tn:∀ u,(h u).turned=h u.turned
theorem kO (g:V2→V2) (L:List V2) (h:0<L.length) (i:Nat):atF (L.map g) i=g (atF L i):=by
 unfold atF
 have hlt:=Nat.mod_lt i h
 rw [List.length_map,List.getD_eq_getElem?_getD,List.getElem?_map,List.getD_eq_getElem?_getD,List.getElem?_eq_getElem hlt]; rfl
theorem gT {g h:V2→V2} (I:Iso g h) (a b c:V2):Jg (g a) (g b) (g c)=Jg a b c:=by unfold Jg; rw [I.sub,I.sub,I.cr]
theorem VI (n a b:V2):Q9 n a - Q9 n b=Q9 n (a.sub b):=by unfold Q9 V2.sub; grind
theorem rg {g h:V2→V2} (I:Iso g h) (n a b:V2):(Q9 (h n) (g a)<Q9 (h n) (g b))↔(Q9 n a<Q9 n b):=by
 have e1:=VI (h n) (g a) (g b)
 have e2:=VI n a b
 rw [I.sub,I.dt] at e1
 constructor <;> intro hh <;> grind
theorem RN {g h:V2→V2} (I:Iso g h) (n a b c d:V2):Kg (h n) (g a) (g b) (g c) (g d)=Kg n a b c d:=by
 unfold Kg HE
 simp only [rg I]
theorem gS {g h:V2→V2} (I:Iso g h) (a b c d:V2) (i:Nat):Dq (g a) (g b) (g c) (g d) i=h (Dq a b c d i):=by
 unfold Dq
 split <;> simp only [I.sub,I.tn]
theorem RO {g h:V2→V2} (I:Iso g h) (L:List V2) (hp:XO L) (ha:Zs (L.map g)=Zs L):XO (L.map g):=by
 obtain ⟨h1,h2,h3⟩:=hp
 have hl:0<L.length:=by omega
 have hat:=kO g L hl
 refine ⟨by rw [List.length_map]; exact h1,fun i hi=>?_,by rw [ha]; exact h3⟩
 rw [List.length_map] at hi
 obtain ⟨k1,k2⟩:=h2 i hi
 refine ⟨fun hb=>k1 ?_,fun k hk hg=>k2 k (by rw [List.length_map] at hk; exact hk) ?_⟩
 ·unfold FS at hb ⊢
  rw [hat,hat,hat,gT I] at hb
  exact hb
 ·obtain ⟨q1,q2,q3⟩:=hg
  rw [List.length_map] at q1 q2
  refine ⟨q1,q2,fun j hj=>?_⟩
  have:=q3 j hj
  rw [hat,hat,hat,hat,gS I,RN I] at this
  exact this
theorem quart_iso:Iso Bf Bf:=⟨fun a b=>by unfold Bf V2.sub; rw [V2.ext']; exact ⟨by simp only; grind,rfl⟩,fun u v=>by unfold Bf Qq; grind,fun u v=>by unfold Bf Q9; grind,fun u=>by unfold Bf V2.turned; rfl⟩
theorem kG (t:V2):Iso (fun a=>a.add t) id:=⟨fun a b=>by unfold V2.add V2.sub; rw [V2.ext']; exact ⟨by simp only [id]; grind,by simp only [id]; grind⟩,fun _ _=>rfl,fun _ _=>rfl,fun _=>rfl⟩
theorem Ge (g:V2→V2) (L:List V2) (i:Nat) (h:i<L.length):(L.map g).getD i v0=g (L.getD i v0):=by
 rw [List.getD_eq_getElem?_getD,List.getElem?_map,List.getD_eq_getElem?_getD,List.getElem?_eq_getElem h]; rfl
theorem TX (L:List V2) (h:0<L.length):Zs (L.map Bf)=Zs L:=by
 have key:∀ n,n≤L.length→KN (L.map Bf) n=KN L n:=fun n=>by
  induction n with
  | zero=>intro _; rfl
  | succ n ih =>
   intro hn
   unfold KN
   rw [ih (by omega),List.length_map,Ge _ _ _ (by omega),Ge _ _ _ (Nat.mod_lt _ h),quart_iso.cr]
 unfold Zs
 rw [List.length_map,key _ (Nat.le_refl _)]
theorem eD (t:V2) (L:List V2) (h:0<L.length):Zs (L.map fun a=>a.add t)=Zs L:=by
 have key:∀ n,n≤L.length→KN (L.map fun a=>a.add t) n=KN L n+Qq t ((L.getD (n % L.length) v0).sub (L.getD 0 v0)):=fun n=>by
  induction n with
  | zero=>intro _; rw [Nat.zero_mod]; unfold KN Qq V2.sub; grind
  | succ n ih =>
   intro hn
   have hm:n % L.length=n:=Nat.mod_eq_of_lt (by omega)
   unfold KN
   rw [ih (by omega),List.length_map,Ge _ _ _ (by omega),Ge _ _ _ (Nat.mod_lt _ h),hm]
   generalize L.getD n v0=p
   generalize L.getD ((n+1) % L.length) v0=q
   generalize L.getD 0 v0=o
   unfold Qq V2.sub V2.add
   grind
 unfold Zs
 rw [List.length_map,key _ (Nat.le_refl _),Nat.mod_self]
 have:Qq t ((L.getD 0 v0).sub (L.getD 0 v0))=0:=by unfold Qq V2.sub; grind
 rw [this,Rat.add_zero]
theorem HH (L:List V2) (hp:XO L):∀ q,XO (L.map (Jz q))
 | 0=>by
  have:L.map (Jz 0)=L:=by
   have e:Jz 0=id:=rfl
   rw [e,List.map_id]
  rw [this]; exact hp
 | q+1=>by
  have ih:=HH L hp q
  have e:L.map (Jz (q+1))=(L.map (Jz q)).map Bf:=by rw [List.map_map]; rfl
  rw [e]
  exact RO quart_iso _ ih (TX _ (by have:=ih.1; omega))
theorem iL (t:V2) (L:List V2) (hp:XO L):XO (L.map fun a=>a.add t):=RO (kG t) L hp (eD t L (by have:=hp.1; omega))
def rr (q:Nat) (d p:Int×Int):Int×Int:=((Z5 q p).1+d.1,(Z5 q p).2+d.2)
theorem iO (q:Nat) (p:Int×Int):JD (Z5 q p)=Jz q (JD p):=by
 induction q with
 | zero=>rfl
 | succ q ih =>
  show (⟨((-(Z5 q p).2:Int):Rat),((Z5 q p).1:Rat)⟩:V2)=Bf (Jz q (JD p))
  rw [← ih]
  unfold JD Bf
  rw [V2.ext']
  exact ⟨by simp,rfl⟩
theorem nt (R:List (Int×Int)) (q:Nat) (d:Int×Int) (h:XO (XC R)):XO (XC (R.map (rr q d))):=by
 have h1:=iL (JD d) _ (HH _ h q)
 have e:XC (R.map (rr q d))=((XC R).map (Jz q)).map fun a=>a.add (JD d):=by
  unfold XC
  rw [List.map_map,List.map_map,List.map_map]
  refine List.map_congr_left fun p _=>?_
  show JD (rr q d p)=(Jz q (JD p)).add (JD d)
  rw [← iO]
  unfold rr JD V2.add
  rw [V2.ext']
  exact ⟨by simp,by simp⟩
 rw [e]; exact h1
end
end Go.Ab.N
namespace Go.Ab.N
open Go Go.RowKit Go.Proofs
noncomputable section
set_option maxRecDepth 10000
set_option maxHeartbeats 4000000
def tD (L:List V2) (i k:Nat):Bool:=decide (1<(k+L.length - i) % L.length) && decide ((k+L.length - i) % L.length<L.length - 1) &&
 (List.range 5).all fun j=>!Kg (Dq (atF L i) (atF L (i+1)) (atF L k) (atF L (k+1)) j) (atF L i) (atF L (i+1)) (atF L k) (atF L (k+1))
def DZ (L:List V2):Bool:=decide (3≤L.length) && decide (L.length≤12) && ((List.range L.length).all fun i=>!decide (Jg (atF L i) (atF L (i+1)) (atF L (i+2))=0) && (List.range L.length).all fun k=>!tD L i k) && decide (0<(Zs L).num.sign)
theorem E0 (L:List V2) (h:DZ L=true):XO L:=by
 unfold DZ at h
 simp only [Bool.and_eq_true,decide_eq_true_eq,List.all_eq_true,List.mem_range,Bool.not_eq_true',decide_eq_false_iff_not] at h
 obtain ⟨⟨⟨h1,h2⟩,h3⟩,h4⟩:=h
 refine ⟨⟨h1,h2⟩,fun i hi=>⟨(h3 i hi).1,fun k hk hg=>?_⟩,h4⟩
 have:=(h3 i hi).2 k hk
 obtain ⟨q1,q2,q3⟩:=hg
 unfold tD at this
 rw [decide_eq_true q1,decide_eq_true q2,Bool.true_and,Bool.true_and] at this
 rw [List.all_eq_true.2] at this
 ·cases this
 ·intro j hj
  rw [q3 j (List.mem_range.1 hj)]; rfl
def iT (x y h:Int):List (Int×Int):=[(0,0),(x,0),(y,h),(0,h)]
def iV (w x y h:Int):List (Int×Int):=[(x,0),(w,0),(w,h),(y,h)]
theorem nz:((List.range 4).all fun h=>(List.range 6).all fun x=>(List.range 6).all fun y=>DZ (XC (iT (1+x) (1+y) (3+h))))=true:=by decide +kernel
theorem nA:((List.range 4).all fun w=>(List.range 4).all fun h=>(List.range 6).all fun x=>(List.range 6).all fun y=>!(decide (x<w+3) && decide (y<w+3)) || DZ (XC (iV (4+w) (1+x) (1+y) (3+h))))=true:=by decide +kernel
theorem iU (x y h:Int) (hx:1≤x∧x≤6) (hy:1≤y∧y≤6) (hh:3≤h∧h≤6):XO (XC (iT x y h)):=by
 have h1:=nz
 simp only [List.all_eq_true,List.mem_range] at h1
 have h2:=h1 (h - 3).toNat (by omega) (x - 1).toNat (by omega) (y - 1).toNat (by omega)
 rw [show (1:Int)+((x - 1).toNat:Nat)=x by omega,show (1:Int)+((y - 1).toNat:Nat)=y by omega,show (3:Int)+((h - 3).toNat:Nat)=h by omega] at h2
 exact E0 _ h2
theorem iW (w x y h:Int) (hw:4≤w∧w≤7) (hx:1≤x∧x<w) (hy:1≤y∧y<w) (hh:3≤h∧h≤6):XO (XC (iV w x y h)):=by
 have h1:=nA
 simp only [List.all_eq_true,List.mem_range] at h1
 have h2:=h1 (w - 4).toNat (by omega) (h - 3).toNat (by omega) (x - 1).toNat (by omega) (y - 1).toNat (by omega)
 rw [show (4:Int)+((w - 4).toNat:Nat)=w by omega,show (1:Int)+((x - 1).toNat:Nat)=x by omega,show (1:Int)+((y - 1).toNat:Nat)=y by omega,show (3:Int)+((h - 3).toNat:Nat)=h by omega] at h2
 rw [Bool.or_eq_true] at h2
 rcases h2 with h2 | h2
 ·rw [decide_eq_true (show (x - 1).toNat<(w - 4).toNat+3 by omega),decide_eq_true (show (y - 1).toNat<(w - 4).toNat+3 by omega)] at h2
  cases h2
 ·exact E0 _ h2
end
end Go.Ab.N
namespace Go.Ab.N
open Go Go.RowKit Go.Proofs
noncomputable section
set_option maxRecDepth 10000
set_option maxHeartbeats 4000000
open Classical
theorem dZ {a b:List (Int×Int)} {f:FV} {e:Rat} (h:(XE a b f e).2.2=true) :
  AB a.length b.length f∧Df f.turn∧XE a b f e=((Av a b f f.M.toNat).sub ⟨e,e⟩,(At a b f f.M.toNat).add ⟨e,e⟩,true)∧(Av a b f f.M.toNat).x - e≤(At a b f f.M.toNat).x+e∧(Av a b f f.M.toNat).y - e≤(At a b f f.M.toNat).y+e:=by
 by_cases g:AB a.length b.length f∧Df f.turn
 ·by_cases g2:((At a b f f.M.toNat).add ⟨e,e⟩).x<((Av a b f f.M.toNat).sub ⟨e,e⟩).x∨((At a b f f.M.toNat).add ⟨e,e⟩).y<((Av a b f f.M.toNat).sub ⟨e,e⟩).y
  ·exfalso
   unfold XE at h; rw [if_pos g] at h; simp only at h; rw [if_pos g2] at h; cases h
  ·refine ⟨g.1,g.2,?_,?_⟩
   ·unfold XE; rw [if_pos g]; simp only; rw [if_neg g2]
   ·simp only [not_or,Rat.not_lt] at g2; exact g2
 ·unfold XE at h; rw [if_neg g] at h; cases h
theorem Lh {p:V2→Bool}:∀ {s:List V2},(G4 p s).2=true↔∃ x∈s,p x=true
 | []=>by simp [G4]
 | x :: l=>by
  have ih:=Lh (p:=p) (s:=l)
  show ((if p x=true then (x,true) else G4 p l).2=true)↔_
  by_cases h:p x=true
  ·rw [if_pos h]; simp [h]
  ·rw [if_neg h,ih]; simp [h]
theorem FU (a b:PV) (f:FV) (e:Rat):Ki a b f e=0↔AB a.rim.length b.rim.length f∧DX a b f∧MB a b f∧((XE a.rim b.rim f e).2.2=true∧(XE a.rim b.rim f e).1=f.lo∧(XE a.rim b.rim f e).2.1=f.hi)∧KK a b f e=true:=by
 unfold Ki
 by_cases h1:AB a.rim.length b.rim.length f
 rotate_left
 ·rw [if_neg h1]; exact ⟨fun h=>absurd h (by decide),fun h=>absurd h.1 h1⟩
 rw [if_pos h1]
 by_cases h2:DX a b f
 rotate_left
 ·rw [if_neg h2]; exact ⟨fun h=>absurd h (by decide),fun h=>absurd h.2.1 h2⟩
 rw [if_pos h2]
 by_cases h3:MB a b f
 rotate_left
 ·rw [if_neg h3]; exact ⟨fun h=>absurd h (by decide),fun h=>absurd h.2.2.1 h3⟩
 rw [if_pos h3]
 by_cases h4:(XE a.rim b.rim f e).2.2=true∧(XE a.rim b.rim f e).1=f.lo∧(XE a.rim b.rim f e).2.1=f.hi
 rotate_left
 ·rw [if_neg h4]; exact ⟨fun h=>absurd h (by decide),fun h=>absurd h.2.2.2.1 h4⟩
 rw [if_pos h4]
 by_cases h5:KK a b f e=true
 ·rw [if_pos h5]; exact ⟨fun _=>⟨h1,h2,h3,h4,h5⟩,fun _=>rfl⟩
 ·rw [if_neg h5]; exact ⟨fun h=>absurd h (by decide),fun h=>absurd h.2.2.2.2 h5⟩
theorem Hv {a b:PV} {e:Rat} {f:FV} (h:f∈Bh a b e) (ha:0<a.rim.length) (hb:0<b.rim.length):Ki a b f e=0:=by
 obtain ⟨i,j,k,t,hi,hj,k0,kn,km,hp,ht,ho,rfl⟩:=(Dy a b e f ha hb).1 h
 unfold G5 at ho
 rw [Bool.and_eq_true] at ho
 obtain ⟨o1,o2⟩:=ho
 rw [AE] at ht
 obtain ⟨k',q1,q2,q3⟩:=ht
 rw [FU]
 refine ⟨?_,hp,⟨k',?_,q2,q3⟩,⟨o1,rfl,rfl⟩,o2⟩
 ·show (0≤(i:Int)∧(i:Int)<a.rim.length)∧(0≤(j:Int)∧(j:Int)<b.rim.length)∧1≤(k:Int)∧(k:Int)<a.rim.length∧(k:Int)<b.rim.length
  omega
 ·show k'<((k:Nat):Int).toNat
  omega
theorem Rt (f g:FV) (hf:f.fine) (hg:g.fine):Fn Tryz.prog 32 [Jx f,Jx g] (.bool (decide (f=g))):=by
 obtain ⟨V,hV⟩:∃ V,V=decide (f=g):=⟨_,rfl⟩
 rw [← hV]
 rw [decide_eq_decide.2 (p6 f g)] at hV
 have fin:∀ {s:AS} {v:Bool},s.get 4=.bool v→v=V→RetOk (QI Tryz.prog Tryz.f32 [] [] (.bool V)) s:=fun h e=>Xt rfl h (X3 _) (by rw [e])
 obtain ⟨f1,f2,f3⟩:=hf
 obtain ⟨g1,g2,g3⟩:=hg
 have c1:=AP f.turn g.turn (by unfold vm; omega) (by unfold vm; omega)
 have c2:=It f.lo g.lo (by unfold vm; omega) (by unfold vm; omega)
 have c3:=It f.hi g.hi (by unfold vm; omega) (by unfold vm; omega)
 refine Fq Tryz.call32 Tryz.func32 5 [] [] [] (by simp [XP]) (X0 1000 ?_)
 by_cases h:f.A=g.A∧f.B=g.B∧f.EA=g.EA∧f.EB=g.EB∧f.M=g.M
 rotate_left
 ·have hv:false=V:=by rw [hV]; exact (decide_eq_false fun hh=>h hh.1).symm
  rcases (show f.A≠g.A∨(f.A=g.A∧f.B≠g.B)∨(f.A=g.A∧f.B=g.B∧f.EA≠g.EA)∨(f.A=g.A∧f.B=g.B∧f.EA=g.EA∧f.EB≠g.EB)∨(f.A=g.A∧f.B=g.B∧f.EA=g.EA∧f.EB=g.EB∧f.M≠g.M) by omega) with q | ⟨q1,q⟩ | ⟨q1,q2,q⟩ | ⟨q1,q2,q3,q⟩ | ⟨q1,q2,q3,q4,q⟩
  ·simp only [AS.start,Jx,XJ,eq_false q,↓X2,wF,seval]
   exact fin rfl hv
  ·simp only [AS.start,Jx,XJ,eq_true q1,eq_false q,↓X2,wF,seval]
   exact fin rfl hv
  ·simp only [AS.start,Jx,XJ,eq_true q1,eq_true q2,eq_false q,↓X2,wF,seval]
   exact fin rfl hv
  ·simp only [AS.start,Jx,XJ,eq_true q1,eq_true q2,eq_true q3,eq_false q,↓X2,wF,seval]
   exact fin rfl hv
  ·simp only [AS.start,Jx,XJ,eq_true q1,eq_true q2,eq_true q3,eq_true q4,eq_false q,↓X2,wF,seval]
   exact fin rfl hv
 have e:V=decide (f.turn=g.turn∧f.lo=g.lo∧f.hi=g.hi):=by rw [hV]; exact decide_eq_decide.2 ⟨fun hh=>hh.2,fun hh=>⟨h,hh⟩⟩
 clear hV
 simp (disch:=omega) only [AS.start,Jx,XJ,↓Xw,wG,seval]
 refine X1 c1 rfl ?_
 by_cases n1:f.turn=g.turn
 rotate_left
 ·simp (disch:=omega) only [decide_eq_false n1,↓Xw,wG,seval]
  exact fin rfl (by rw [e]; exact (decide_eq_false fun hh=>n1 hh.1).symm)
 simp (disch:=omega) only [decide_eq_true n1,↓Xw,wG,seval]
 refine X1 c2 rfl ?_
 by_cases n2:f.lo=g.lo
 rotate_left
 ·simp (disch:=omega) only [decide_eq_false n2,↓Xw,wG,seval]
  exact fin rfl (by rw [e]; exact (decide_eq_false fun hh=>n2 hh.2.1).symm)
 simp (disch:=omega) only [decide_eq_true n2,↓Xw,wG,seval]
 refine X1 c3 rfl ?_
 simp (disch:=omega) only [↓Xw,wG,seval]
 exact fin rfl (by rw [e]; exact decide_eq_decide.2 ⟨fun hh=>⟨n1,n2,hh⟩,fun hh=>hh.2.2⟩)
theorem VW (R:List (Int×Int)) (l:List Int) (p:Nat) (hn:QY R) (hp:XO (XC R)):GP (Zy R l p) (Rat.divInt (Ab.atF l (p+1:Nat) 3) 4)∧(Zy R l p).small∧qb (Rat.divInt (Ab.atF l (p+1:Nat) 3) 4)≤3:=by
 have b1:=XF l (p+1:Nat) 3 (by omega)
 have b2:=XF l p 3 (by omega)
 have q:=BH (Ab.atF l (p+1:Nat) 3) 4 ⟨by omega,by omega⟩ ⟨by omega,by omega⟩
 have hl:R.length≤12:=by have:=hp.1; simp [XC] at this; omega
 have z:=fun (n m:Int) (h1:Ks n) (h2:Ks m)=>jq n m h1 h2
 refine ⟨⟨⟨by show R.length<_; omega,by simp [Zy],by simp [Zy],hn⟩,hp,rfl,by omega⟩,⟨by show R.length<_; omega,by simp [Zy]; omega,by simp [Zy]; omega,?_,?_,?_,?_,?_⟩,q⟩
 ·exact Nat.le_trans (z (Ab.atF l (p+1:Nat) 3) 4 ⟨by omega,by omega⟩ ⟨by omega,by omega⟩) (by omega)
 ·exact Nat.le_trans (z 1 1 ⟨by omega,by omega⟩ ⟨by omega,by omega⟩) (by omega)
 ·exact Nat.le_trans (z (1+Ab.atF l p 3) 1 ⟨by omega,by omega⟩ ⟨by omega,by omega⟩) (by omega)
 ·exact Nat.le_trans (z 100 1 ⟨by omega,by omega⟩ ⟨by omega,by omega⟩) (by omega)
 ·exact Nat.le_trans (z 1 2 ⟨by omega,by omega⟩ ⟨by omega,by omega⟩) (by omega)
theorem H9 {α:Type} (C:α→List AV) (s:Nat) (d:α) (hs:0<s) (hC:∀ a,(C a).length=s):∀ (L:List α) (j:Nat),j<L.length*s→Xo (L.flatMap C) j=Xs C s d L j
 | [],j,h=>by simp at h
 | a :: L,j,h=>by
  unfold Xs Xo
  rw [List.flatMap_cons,List.getD_eq_getElem?_getD]
  by_cases hj:j<s
  ·rw [Nat.div_eq_of_lt hj,Nat.mod_eq_of_lt hj,List.getElem?_append_left (by rw [hC]; exact hj),← List.getD_eq_getElem?_getD]; rfl
  ·obtain ⟨i,rfl⟩:∃ i,j=s+i:=⟨j - s,by omega⟩
   have hi:i<L.length*s:=by
    rw [List.length_cons,Nat.succ_mul] at h; omega
   have ih:=H9 C s d hs hC L i hi
   unfold Xs Xo at ih
   rw [Nat.add_div_left i hs,Nat.add_mod_left,List.getElem?_append_right (by rw [hC]; omega),hC,Nat.add_sub_cancel_left,← List.getD_eq_getElem?_getD,ih]; rfl
def QE (l:List Int) (W H M k:Nat):Int×Int:=(1+Ab.atF l (3+k:Nat) ((W:Int) - 1),if k=M then (H:Int) else k)
def JK (l:List Int) (W H M:Nat):List (Int×Int):=(List.range (M+1)).map (QE l W H M)
def Jd (l:List Int) (W H M:Nat):List (Int×Int):=(0,0) :: JK l W H M ++ [(0,(H:Int))]
def Zd (l:List Int) (W H M i:Nat):List (Int×Int):=[QE l W H M 0,((W:Int),0),((W:Int),(H:Int))] ++ (List.range i).map fun i=>QE l W H M (M - i)
def Ju (l:List Int) (W H M:Nat):List (Int×Int):=Zd l W H M M
def PS (l:List Int):Int×Int:=(Ab.atF l 8 9 - 4,Ab.atF l 9 9 - 4)
def bc (l:List Int):Nat:=(Ab.atF l 7 4).toNat
def Af (l:List Int) (W H M:Nat):List (Int×Int):=(Ju l W H M).map (rr (bc l) (PS l))
def DW (l:List Int):V2:=Jz ((4 - bc l) % 4) KQ
def DV (l:List Int):V2:=v0.sub (LY (DW l) (JD (PS l)))
def Ir (l:List Int) (M:Nat):FV:=⟨0,1,1,(M+2:Nat),M,DW l,DV l,DV l⟩
def kc (a b:PV) (f:FV):List AV:=XD a ++ (XD b ++ XJ f)
def Zf:List AV:=[I 0,I 0,I 0,I 0,I 0] ++ (XQ ++ (XQ ++ XQ))
theorem R4 (l:List Int) (W H M k:Nat) (h:k≤M):(JK l W H M).getD k (0,0)=QE l W H M k:=EL _ _ _ _ (by omega)
theorem R5 (l:List Int) (W H M k:Nat) (hW:4≤W∧W≤7) (hH:H≤6) (hk:k≤3):(1≤(QE l W H M k).1∧(QE l W H M k).1<W)∧0≤(QE l W H M k).2∧(QE l W H M k).2≤6:=by
 have:=XF l (3+k:Nat) ((W:Int) - 1) (by omega)
 unfold QE
 simp only
 refine ⟨by omega,?_⟩
 split <;> omega
theorem lN (C:List (Int×Int)) (x y:Int×Int) (j:Nat) (h:j<C.length):(x :: C ++ [y]).getD (j+1) (0,0)=C.getD j (0,0):=by
 rw [List.getD_eq_getElem?_getD,List.getD_eq_getElem?_getD,List.cons_append,List.getElem?_cons_succ,List.getElem?_append_left h]
theorem ag (C:List (Int×Int)) (h:Int) (j:Nat) (hj:j<(C.length+2)*2):QR ((1+C.length)*2) (QR 2 (Xo [I 0,I 0]) (C.length*2) (Xs Kk 2 (0,0) C)) 2 (Xo [I 0,I h]) j=Xs Kk 2 (0,0) ((0,0) :: C ++ [(0,h)]) j:=by
 unfold QR Xs
 by_cases h1:j<(1+C.length)*2
 ·rw [if_pos h1]
  by_cases h2:j<2
  ·rw [if_pos h2]
   match j,h2 with
   | 0,_=>rfl
   | 1,_=>rfl
  ·rw [if_neg h2,if_pos (by omega)]
   obtain ⟨i,rfl⟩:∃ i,j=i+2:=⟨j - 2,by omega⟩
   rw [show (i+2) / 2=i / 2+1 by omega,show (i+2) % 2=i % 2 by omega,show i+2 - 2=i by omega,lN C (0,0) (0,h) (i / 2) (by omega)]
 ·rw [if_neg h1,if_pos (by omega)]
  have e:((0,0) :: C ++ [(0,h)]).getD (j / 2) (0,0)=(0,h):=by
   rw [show j / 2=C.length+1 by omega,List.getD_eq_getElem?_getD,List.cons_append,List.getElem?_cons_succ,List.getElem?_append_right (Nat.le_refl _),Nat.sub_self]; rfl
  rw [e]
  obtain ⟨i,hi,rfl⟩:∃ i,i<2∧j=(1+C.length)*2+i:=⟨j - (1+C.length)*2,by omega,by omega⟩
  rw [Nat.add_sub_cancel_left,show ((1+C.length)*2+i) % 2=i by omega]
  match i,hi with
  | 0,_=>rfl
  | 1,_=>rfl
theorem UY (a b c d:Int×Int) (j:Nat) (hj:j<8):QR 6 (Xo (Kk a ++ (Kk b ++ Kk c))) 2 (Xo (Kk d)) j=Xs Kk 2 (0,0) [a,b,c,d] j:=by
 match j,hj with
 | 0,_=>rfl
 | 1,_=>rfl
 | 2,_=>rfl
 | 3,_=>rfl
 | 4,_=>rfl
 | 5,_=>rfl
 | 6,_=>rfl
 | 7,_=>rfl
def Gg (g:Int×Int→Int×Int) (S:List (Int×Int)) (k:Nat):List (Int×Int):=(S.take k).map g ++ S.drop k
theorem VY (g:Int×Int→Int×Int) (S:List (Int×Int)) (k:Nat) (h:k<S.length):(Gg g S k).getD k (0,0)=S.getD k (0,0):=by
 unfold Gg
 rw [List.getD_eq_getElem?_getD,List.getElem?_append_right (by simp; omega),List.getD_eq_getElem?_getD]
 simp [Nat.min_eq_left (Nat.le_of_lt h)]
theorem ig (g:Int×Int→Int×Int) (S:List (Int×Int)) (k:Nat) (h:k≤S.length):(Gg g S k).length=S.length:=by unfold Gg; simp; omega
theorem ii (g:Int×Int→Int×Int) (S:List (Int×Int)) (k:Nat) (h:k<S.length):(Gg g S k).set k (g (S.getD k (0,0)))=Gg g S (k+1):=by
 refine List.ext_getElem? fun j=>?_
 unfold Gg
 rw [List.getElem?_set]
 by_cases hj:k=j
 ·subst hj
  rw [if_pos rfl,if_pos (by simp; omega),List.getElem?_append_left (by simp; omega),List.getElem?_map,List.getElem?_take,if_pos (by omega),List.getElem?_eq_getElem h,List.getD_eq_getElem?_getD,List.getElem?_eq_getElem h]; rfl
 ·rw [if_neg hj]
  by_cases hlt:j<k
  ·rw [List.getElem?_append_left (by simp; omega),List.getElem?_append_left (by simp; omega),List.getElem?_map,List.getElem?_map,List.getElem?_take,List.getElem?_take,if_pos hlt,if_pos (by omega)]
  ·rw [List.getElem?_append_right (by simp; omega),List.getElem?_append_right (by simp; omega),List.getElem?_drop,List.getElem?_drop]
   congr 1
   simp; omega
theorem tW (l:List (Int×Int)) (k:Nat) (x:Int×Int) (hk:k<l.length):BX (BX (Xs Kk 2 (0,0) l) (k*2) (I x.1)) (k*2+1) (I x.2)=Xs Kk 2 (0,0) (l.set k x):=by
 funext j
 have e:(l.set k x).getD k (0,0)=x:=by rw [List.getD_eq_getElem?_getD,List.getElem?_set_self hk]; rfl
 unfold BX Xs
 by_cases h1:j=k*2+1
 ·rw [if_pos h1,h1,show (k*2+1) / 2=k by omega,show (k*2+1) % 2=1 by omega,e]; rfl
 ·rw [if_neg h1]
  by_cases h2:j=k*2
  ·rw [if_pos h2,h2,show (k*2) / 2=k by omega,show (k*2) % 2=0 by omega,e]; rfl
  ·rw [if_neg h2]
   have:(l.set k x).getD (j / 2) (0,0)=l.getD (j / 2) (0,0):=by rw [List.getD_eq_getElem?_getD,List.getElem?_set_ne (by omega),List.getD_eq_getElem?_getD]
   rw [this]
theorem Fk (l:List Int) (W H M:Nat) (hW:4≤W∧W≤7) (hH:H≤6) (hM:M≤3) (k:Nat) (hk:k≤M):(0≤(QE l W H M k).1∧(QE l W H M k).1≤7)∧0≤(QE l W H M k).2∧(QE l W H M k).2≤7:=by
 have:=R5 l W H M k hW hH (by omega)
 omega
theorem Li (l:List Int) (W H M:Nat) (hW:4≤W∧W≤7) (hH:H≤6) (hM:M≤3):QY (Jd l W H M):=fun c hc=>by
 unfold Jd at hc
 rw [List.mem_append,List.mem_cons,List.mem_singleton] at hc
 rcases hc with (rfl | hc) | rfl
 ·exact ⟨⟨by decide,by decide⟩,⟨by decide,by decide⟩⟩
 ·obtain ⟨k,hk,rfl⟩:=List.mem_map.1 hc
  have:=Fk l W H M hW hH hM k (by have:=List.mem_range.1 hk; omega)
  omega
 ·show (-65536≤(0:Int)∧(0:Int)≤65536)∧(-65536≤(H:Int)∧(H:Int)≤65536)
  omega
theorem HS (l:List Int) (W H M:Nat) (hW:4≤W∧W≤7) (hH:H≤6) (hM:M≤3):∀ c∈Ju l W H M,(0≤c.1∧c.1≤7)∧0≤c.2∧c.2≤7:=fun c hc=>by
 unfold Ju Zd at hc
 simp only [List.mem_append,List.mem_cons,List.not_mem_nil,or_false,List.mem_map,List.mem_range] at hc
 rcases hc with (rfl | rfl | rfl) | ⟨k,hk,rfl⟩
 ·exact Fk l W H M hW hH hM 0 (by omega)
 ·show (0≤(W:Int)∧(W:Int)≤7)∧0≤(0:Int)∧(0:Int)≤7
  omega
 ·show (0≤(W:Int)∧(W:Int)≤7)∧0≤(H:Int)∧(H:Int)≤7
  omega
 ·exact Fk l W H M hW hH hM (M - k) (by omega)
theorem HX (l:List Int) (W H M:Nat) (hW:4≤W∧W≤7) (hH:H≤6) (hM:M≤3):QY (Af l W H M):=fun c hc=>by
 obtain ⟨p,hp,rfl⟩:=List.mem_map.1 hc
 have h1:=HS l W H M hW hH hM p hp
 have h2:=GK p 7 (by omega) (by omega) (bc l)
 have b8:=XF l 8 9 (by omega)
 have b9:=XF l 9 9 (by omega)
 show (-65536≤(Z5 (bc l) p).1+(Ab.atF l 8 9 - 4)∧(Z5 (bc l) p).1+(Ab.atF l 8 9 - 4)≤65536)∧(-65536≤(Z5 (bc l) p).2+(Ab.atF l 9 9 - 4)∧(Z5 (bc l) p).2+(Ab.atF l 9 9 - 4)≤65536)
 omega
theorem LC (l:List Int):vb (DW l)≤10∧vb (DV l)≤100:=by
 have h1:vb (DW l)≤10:=by unfold DW; rw [CG]; exact Ei
 have b8:=XF l 8 9 (by omega)
 have b9:=XF l 9 9 (by omega)
 have h2:vb (JD (PS l))≤3:=by
  have q1:=KW (PS l).1 3 (by omega) (Qy (by unfold PS; simp only; exact ⟨by omega,by omega⟩))
  have q2:=KW (PS l).2 3 (by omega) (Qy (by unfold PS; simp only; exact ⟨by omega,by omega⟩))
  unfold vb JD
  simp only
  omega
 have h3:=Dg (DW l) (JD (PS l))
 have h4:=Kc v0 (LY (DW l) (JD (PS l)))
 have:=Ej
 refine ⟨h1,?_⟩
 unfold DV
 omega
def I4 (l:List Int) (W H:Nat):List Int:=[(W:Int) - 4,(H:Int) - 3,0,Ab.atF l 3 ((W:Int) - 1),Ab.atF l 4 ((W:Int) - 1),0,0,Ab.atF l 7 4]
def Az (l:List Int) (W H M:Nat) (x9 x10 x11 x12 x13 x14 x16 x17 x18:AV) (r:List AO):AS:=⟨20,[],[X8 l,.any,.ref 0 0 0,I W,I H,I M,.osl 1 (M+1) 2 0 (M+1),.any,.any,x9,x10,x11,x12,x13,x14,.any,x16,x17,x18,.any],[],[.row 0 79 (Xo (Jj ++ (Jj ++ Zf))),.row (M+1) ((M+1)*2) (Xs Kk 2 (0,0) (JK l W H M))] ++ r⟩
theorem P7 (l:List Int) (W H M i:Nat):Zd l W H M (i+1)=Zd l W H M i ++ [QE l W H M (M - i)]:=by
 unfold Zd; rw [Lx,List.append_assoc]
theorem HR (l:List Int) (W H M i:Nat):(Zd l W H M i).length=3+i:=by simp [Zd]; omega
theorem SN (a b:PV) (f:FV):∀ x∈kc a b f,Settled x:=fun x h=>by
 unfold kc at h
 rw [List.mem_append,List.mem_append] at h
 rcases h with h | h | h
 ·exact Xy a x h
 ·exact Xy b x h
 ·exact XM f x h
theorem sX (m v n:Nat) (L:List (Int×Int)):XK m (.row v n (Xs Kk 2 (0,0) L))=True:=eq_true fun j _=>X6 (Xc (Kx _) _)
theorem SR (f:Nat→AV) (t:Bool):Settled (.sl 0 0 f t):=J9 fun j hj=>absurd hj (Nat.not_lt_zero j)
theorem uq (m v n:Nat):XK m (.row v n (Xo (Jj ++ (Jj ++ Zf))))=True:=eq_true fun j _=>X6 (Xc (l:=Jj ++ (Jj ++ Zf)) (by simp [Jj,Zf,XQ,X9,X3,SR]) _)
theorem LB (l:List Int) (hl:C0 l) (W H M:Nat) (hW:(4:Int)+Ab.atF l 0 4=W) (hH:(3:Int)+Ab.atF l 1 4=H) (hM:(1:Int)+Ab.atF l 2 3=M) (A' B':PV) (F':FV)
  (hr:¬ (XO (XC (Jd l W H M))∧XO (XC (Ju l W H M)))→Fn Tryz.prog 28 [X8 (I4 l W H)] (.agg (kc A' B' F'))) :
  ∃ A B F,Fn Tryz.prog 28 [X8 l] (.agg (kc A B F))∧(((XO (XC (Jd l W H M))∧XO (XC (Ju l W H M)))∧A=Zy (Jd l W H M) l 10∧B=Zy (Af l W H M) l 20∧F=Ir l M) ∨
   (¬ (XO (XC (Jd l W H M))∧XO (XC (Ju l W H M)))∧A=A'∧B=B'∧F=F')):=by
 obtain ⟨A,B,F,hABF⟩:∃ A B F,(((XO (XC (Jd l W H M))∧XO (XC (Ju l W H M)))∧A=Zy (Jd l W H M) l 10∧B=Zy (Af l W H M) l 20∧F=Ir l M) ∨
   (¬ (XO (XC (Jd l W H M))∧XO (XC (Ju l W H M)))∧A=A'∧B=B'∧F=F')):=by
  by_cases h:XO (XC (Jd l W H M))∧XO (XC (Ju l W H M))
  ·exact ⟨_,_,_,.inl ⟨h,rfl,rfl,rfl⟩⟩
  ·exact ⟨_,_,_,.inr ⟨h,rfl,rfl,rfl⟩⟩
 refine ⟨A,B,F,?_,hABF⟩
 obtain ⟨R,hR⟩:∃ R,R=AV.agg (kc A B F):=⟨_,rfl⟩
 have sR:Settled R:=hR▸Qm (SN A B F)
 rw [← hR]
 have b0:=XF l 0 4 (by omega)
 have b1:=XF l 1 4 (by omega)
 have b2:=XF l 2 3 (by omega)
 have c0:=Qs l 0 4 hl (by omega)
 have c1:=Qs l 1 4 hl (by omega)
 have c2:=Qs l 2 3 hl (by omega)
 refine Fq Tryz.call28 Tryz.func28 20 [] [37,380000013,380000017] [] (by simp [X7]) (X0 1000 ?_)
 simp (disch:=omega) only [AS.start,X4,↓Xw,wG,seval]
 refine X1 c0 rfl ?_
 simp (disch:=omega) only [X4,hW,↓Xw,wG,seval]
 refine X1 c1 rfl ?_
 simp (disch:=omega) only [X4,hH,↓Xw,wG,seval]
 refine X1 c2 rfl ?_
 simp (disch:=omega) only [X4,hM,↓Xw,wG,seval]
 refine Xg (fun k:Nat=>⟨20,[],[X8 l,.any,.ref 0 0 0,I W,I H,I M,.osl 1 k 2 0 k,I k,.any,.any,.any,.any,.any,.any,.any,.any,.any,.any,.any,.any],[],[.row 0 79 (Xo (Jj ++ (Jj ++ Zf))),.row k (k*2) (Xs Kk 2 (0,0) ((JK l W H M).take k))]⟩) (fun k=>k≤M+1) (fun k=>M+1 - k) 0 (by omega)
  (Sub.trans (Q7 6 2 (Xs Kk 2 (0,0) []) rfl) (Xa rfl (by simp [AS.put,Xh,X4,I]) (by simp [AS.put,Xi]) (by simp [AS.put,Jj,Zf,XQ,I]))) ?_
 intro k hk next
 by_cases hk2:k<M+1
 ·have c3:=Qs l (3+k:Nat) ((W:Int) - 1) hl (by omega)
  have b3:=XF l (3+k:Nat) ((W:Int) - 1) (by omega)
  have htk:(JK l W H M).take (k+1)=(JK l W H M).take k ++ [QE l W H M k]:=by rw [Q5 _ (0,0) k (by simp [JK]; omega),R4 _ _ _ _ _ (by omega)]
  have nx:=next (k+1)
  rw [htk] at nx
  have hcl:((JK l W H M).take k).length=k:=by simp [JK]; omega
  have hcp:QE l W H M k=(1+Ab.atF l (3+k:Nat) ((W:Int) - 1),if k=M then (H:Int) else k):=rfl
  rw [hcp] at nx
  generalize Ab.atF l (3+k:Nat) ((W:Int) - 1)=x at *
  rw [Int.natCast_add] at c3
  change Fn _ _ [X8 l,I ((3:Int)+k),_] _ at c3
  generalize (JK l W H M).take k=C at *
  by_cases he:k=M
  ·rw [if_pos he] at nx
   have hap:=XT Kk 2 (0,0) C (1+x,(H:Int)) (by omega)
   rw [hcl] at hap
   refine X0 1000 ?_
   simp (disch:=omega) only [X4,↓Xw,wG,seval]
   refine X1 c3 rfl ?_
   simp (disch:=omega) only [X4,↓Xw,wG,seval]
   exact ⟨EG (1+x,(H:Int)),nx _ (by omega) (by omega) (Xa rfl (by simp [Xh,X4,I]) (by simp [Xi]) (by rw [← hap]; simp [Kk,I]))⟩
  ·rw [if_neg he] at nx
   have hap:=XT Kk 2 (0,0) C (1+x,(k:Int)) (by omega)
   rw [hcl] at hap
   refine X0 1000 ?_
   simp (disch:=omega) only [X4,↓Xw,wG,seval]
   refine X1 c3 rfl ?_
   simp (disch:=omega) only [X4,↓Xw,wG,seval]
   exact ⟨EG (1+x,(k:Int)),nx _ (by omega) (by omega) (Xa rfl (by simp [Xh,X4,I]) (by simp [Xi]) (by rw [← hap]; simp [Kk,I]))⟩
 obtain rfl:k=M+1:=by omega
 have htk:(JK l W H M).take (M+1)=JK l W H M:=List.take_of_length_le (by simp [JK])
 rw [htk]
 have hCl:(JK l W H M).length=M+1:=by simp [JK]
 have hq:∀ k,k≤M→Xs Kk 2 (0,0) (JK l W H M) (k*2)=I (QE l W H M k).1∧Xs Kk 2 (0,0) (JK l W H M) (k*2+1)=I (QE l W H M k).2:=fun k hk=>by
  rw [Ko Kk 2 (0,0) (JK l W H M) k (by omega),K5 Kk 2 (0,0) (JK l W H M) k 1 (by omega),R4 _ _ _ _ _ hk]
  exact ⟨rfl,rfl⟩
 have q0:Xs Kk 2 (0,0) (JK l W H M) 0=I (QE l W H M 0).1:=(hq 0 (by omega)).1
 have q1:Xs Kk 2 (0,0) (JK l W H M) 1=I (QE l W H M 0).2:=(hq 0 (by omega)).2
 have hF:Jd l W H M=(0,0) :: JK l W H M ++ [(0,(H:Int))]:=rfl
 have hfr:=ag (JK l W H M) H
 rw [← hF,hCl] at hfr
 have hFl:(Jd l W H M).length=M+3:=by rw [hF]; simp [hCl]
 have hSl:(Ju l W H M).length=M+3:=by unfold Ju; rw [HR]; omega
 have hcr:=R5 l W H M
 have n1:=Li l W H M (by omega) (by omega) (by omega)
 have n2:=HS l W H M (by omega) (by omega) (by omega)
 refine X0 1000 ?_
 simp (disch:=omega) only [X4,q0,q1,↓Xw,wG,seval]
 refine ⟨fun j _=>SY _ _ _ _ _ (by omega) fun a=>⟨rfl,by simp [Kk,I,AV.one]⟩,EG (0,(H:Int)),?_⟩
 refine Xg (fun i:Nat=>match i with
  | 0=>Az l W H M (.osl 2 1 2 0 (M+3)) (.sl 3 6 (Xo [I (QE l W H M 0).1,I (QE l W H M 0).2,I W,I 0,I W,I H]) true) (I M) .any .any .any .any .any .any [.row 1 ((M+3)*2) (Xs Kk 2 (0,0) (Jd l W H M))]
  | i+1=>Az l W H M (.osl 2 1 2 0 (M+3)) (.osl 3 i 2 0 (4+i)) (I (M - (i+1):Nat)) .any .any .any .any .any .any [.row 1 ((M+3)*2) (Xs Kk 2 (0,0) (Jd l W H M)),.row i ((4+i)*2) (Xs Kk 2 (0,0) (Zd l W H M (i+1)))])
  (fun i=>i≤M) (fun i=>M - i) 0 (by omega)
  (Sub.trans (Qr 2 ((M+3)*2) (Xs Kk 2 (0,0) (Jd l W H M)) rfl (by omega) (fun j hj=>hfr j (by omega))) (Xa rfl (by simp [Az,Xh,X4,I]; omega) (by simp [Xi,Az]) (by simp [Az,Jj,Zf,XQ,I]))) ?_
 intro i hi next
 match i,hi,next with
 | 0,hi,next =>
  have ho:=UY (QE l W H M 0) ((W:Int),0) ((W:Int),(H:Int)) (QE l W H M M)
  have w1:=(hq M (by omega)).1
  have w2:=(hq M (by omega)).2
  refine X0 1000 ?_
  simp (disch:=omega) only [Az,X4,List.cons_append,List.nil_append,w1,w2,↓Xw,wG,seval]
  exact ⟨EG (QE l W H M M),next 1 _ (by omega) (by omega) (Sub.trans (Qr 3 8 (Xs Kk 2 (0,0) (Zd l W H M 1)) rfl (by omega) (fun j hj=>ho j hj)) (Xa rfl (by simp [Az,Xh,X4,I]; omega) (by simp [Xi,Az]) (by simp [Az])))⟩
 | i+1,hi,next =>
 by_cases hi2:i+1<M
 ·have w1:=(hq (M - (i+1)) (by omega)).1
  have w2:=(hq (M - (i+1)) (by omega)).2
  have hs:=P7 l W H M (i+1)
  have hap:=XT Kk 2 (0,0) (Zd l W H M (i+1)) (QE l W H M (M - (i+1))) (by omega)
  rw [HR,show 3+(i+1)=4+i by omega] at hap
  refine X0 1000 ?_
  simp (disch:=omega) only [Az,X4,List.cons_append,List.nil_append,w1,w2,↓Xw,wG,seval]
  exact ⟨EG (QE l W H M (M - (i+1))),next (i+2) _ (by omega) (by omega) (Xa rfl (by simp [Az,Xh,X4,I]; omega) (by simp [Xi,Az]) (by rw [← hs] at hap; simp [Az,← hap,Kk,I,show 4+i+1=4+(i+1) by omega]))⟩
 obtain rfl:M=i+1:=by omega
 clear next
 have k1:=Mg (Jd l W H (i+1)) n1 (by omega)
 have k2:=Mg (Ju l W H (i+1)) (fun c hc=>by have:=n2 c hc; omega) (by omega)
 refine X0 1000 ?_
 simp (disch:=omega) only [Az,X4,List.cons_append,List.nil_append,↓Xw,wG,seval]
 refine JI k1 rfl ⟨?_,trivial⟩ (As _) ?_
 ·show JH _ (.osl 2 1 2 0 (i+1+3)) (Dw (Jd l W H (i+1)))
  rw [Xe,hFl]
  refine Qx (.inl rfl) (by omega) (fun h=>by omega) fun j hj=>?_
  rw [Nat.zero_add]
  exact (Xc (l:=Kk ((Jd l W H (i+1)).getD (j / 2) (0,0))) (Kx _) _).sees _
 by_cases p1:XO (XC (Jd l W H (i+1)))
 rotate_left
 ·have hr2:=hr (fun h=>p1 h.1)
  rcases hABF with ⟨h,_⟩ | ⟨_,rfl,rfl,rfl⟩
  ·exact absurd h.1 p1
  have a3:=Qs l 3 ((W:Int) - 1) hl (by omega)
  have a4:=Qs l 4 ((W:Int) - 1) hl (by omega)
  have a7:=Qs l 7 4 hl (by omega)
  simp (disch:=omega) only [decide_eq_false p1,Az,X4,List.cons_append,List.nil_append,↓Xw,wG,seval]
  refine X1 a3 rfl ?_
  simp (disch:=omega) only [Az,X4,List.cons_append,List.nil_append,↓Xw,wG,seval]
  refine X1 a4 rfl ?_
  simp (disch:=omega) only [Az,X4,List.cons_append,List.nil_append,↓Xw,wG,seval]
  refine X1 a7 rfl ?_
  simp (disch:=omega) only [Az,X4,List.cons_append,List.nil_append,↓Xw,wG,seval]
  refine XZ hr2 ⟨A0 rfl rfl,trivial⟩ ?_
  simp (disch:=omega) only [kc,XD,XJ,Jj,Zf,XQ,X4,List.cons_append,List.nil_append,↓Xw,wG,seval]
  exact ZB rfl VT rfl rfl rfl sR (hR.trans rfl)
 simp (disch:=omega) only [decide_eq_true p1,Az,X4,List.cons_append,List.nil_append,↓Xw,wG,seval]
 refine JI k2 rfl ⟨?_,trivial⟩ (As _) ?_
 ·show JH _ (.osl 3 i 2 0 (4+i)) (Dw (Ju l W H (i+1)))
  rw [Xe,hSl,show i+1+3=4+i by omega]
  refine Qx (.inl rfl) (by omega) (fun h=>by omega) fun j hj=>?_
  rw [Nat.zero_add]
  exact (Xc (l:=Kk ((Ju l W H (i+1)).getD (j / 2) (0,0))) (Kx _) _).sees _
 by_cases p2:XO (XC (Ju l W H (i+1)))
 rotate_left
 ·have hr2:=hr (fun h=>p2 h.2)
  rcases hABF with ⟨h,_⟩ | ⟨_,rfl,rfl,rfl⟩
  ·exact absurd h.2 p2
  have a3:=Qs l 3 ((W:Int) - 1) hl (by omega)
  have a4:=Qs l 4 ((W:Int) - 1) hl (by omega)
  have a7:=Qs l 7 4 hl (by omega)
  simp (disch:=omega) only [decide_eq_false p2,Az,X4,List.cons_append,List.nil_append,↓Xw,wG,seval]
  refine X1 a3 rfl ?_
  simp (disch:=omega) only [Az,X4,List.cons_append,List.nil_append,↓Xw,wG,seval]
  refine X1 a4 rfl ?_
  simp (disch:=omega) only [Az,X4,List.cons_append,List.nil_append,↓Xw,wG,seval]
  refine X1 a7 rfl ?_
  simp (disch:=omega) only [Az,X4,List.cons_append,List.nil_append,↓Xw,wG,seval]
  refine XZ hr2 ⟨A0 rfl rfl,trivial⟩ ?_
  simp (disch:=omega) only [kc,XD,XJ,Jj,Zf,XQ,X4,List.cons_append,List.nil_append,↓Xw,wG,seval]
  exact ZB rfl VT rfl rfl rfl sR (hR.trans rfl)
 clear hr
 rcases hABF with ⟨_,rfl,rfl,rfl⟩ | ⟨h,_⟩
 rotate_left
 ·exact absurd ⟨p1,p2⟩ h
 have a7:=Qs l 7 4 hl (by omega)
 have a8:=Qs l 8 9 hl (by omega)
 have a9:=Qs l 9 9 hl (by omega)
 have b7:=XF l 7 4 (by omega)
 have b8:=XF l 8 9 (by omega)
 have b9:=XF l 9 9 (by omega)
 have e7:Ab.atF l 7 4=(bc l:Int):=by unfold bc; omega
 have hD:PS l=(Ab.atF l 8 9 - 4,Ab.atF l 9 9 - 4):=rfl
 simp (disch:=omega) only [decide_eq_true p2,Az,X4,List.cons_append,List.nil_append,↓Xw,wG,seval]
 refine X1 a7 rfl ?_
 simp (disch:=omega) only [e7,Az,X4,List.cons_append,List.nil_append,↓Xw,wG,seval]
 refine X1 a8 rfl ?_
 simp (disch:=omega) only [Az,X4,List.cons_append,List.nil_append,↓Xw,wG,seval]
 refine X1 a9 rfl ?_
 simp (disch:=omega) only [Az,X4,List.cons_append,List.nil_append,↓Xw,wG,seval]
 have hSN:Zd l W H (i+1) (i+1)=Ju l W H (i+1):=rfl
 rw [← hSN] at hSl n2
 have hST:Af l W H (i+1)=(Zd l W H (i+1) (i+1)).map (rr (bc l) (PS l)):=rfl
 have n3:=HX l W H (i+1) (by omega) (by omega) (by omega)
 have hTl:(Af l W H (i+1)).length=4+i:=by rw [hST,List.length_map,hSl]; omega
 have q4:bc l≤3:=by omega
 generalize Zd l W H (i+1) (i+1)=S at *
 have bD:(-4≤(PS l).1∧(PS l).1≤4)∧-4≤(PS l).2∧(PS l).2≤4:=by rw [hD]; omega
 have hAt:DV l=v0.sub (LY (DW l) (JD (PS l))):=rfl
 have hT:DW l=Jz ((4 - bc l) % 4) KQ:=rfl
 have hPF:Ir l (i+1)=⟨0,1,1,(i+1+2:Nat),(i+1:Nat),DW l,DV l,DV l⟩:=rfl
 have hps:=LC l
 rw [hPF] at hR
 have m1:=VV (Jd l W H (i+1)) l 10 (by omega) hl (by omega)
 have m2:=VV (Af l W H (i+1)) l 20 (by omega) hl (by omega)
 generalize Zy (Jd l W H (i+1)) l 10=A at *
 generalize Zy (Af l W H (i+1)) l 20=B at *
 generalize Jd l W H (i+1)=FL at *
 generalize DV l=at' at *
 generalize PS l=D at *
 obtain ⟨D1,D2⟩:=D
 rw [Prod.mk.injEq] at hD
 obtain ⟨rfl,rfl⟩:=hD
 generalize bc l=q at *
 generalize DW l=T at *
 generalize Ab.atF l 8 9 - 4=D1 at *
 generalize Ab.atF l 9 9 - 4=D2 at *
 simp only at bD
 generalize hg:rr q (D1,D2)=g at *
 refine Xg (fun k:Nat=>Az l W H (i+1) (.osl 2 1 2 0 (i+1+3)) (.osl 3 i 2 0 (4+i)) .any (I q) (.ref 4 0 0) (I k) .any .any .any [.row 1 ((i+1+3)*2) (Xs Kk 2 (0,0) FL),.row i ((4+i)*2) (Xs Kk 2 (0,0) (Gg g S k)),.row 0 2 (Xo [I D1,I D2])])
  (fun k=>k≤4+i) (fun k=>4+i - k) 0 (by omega)
  (Xa rfl (by simp [Az,Xh,X4,I]) (by simp [Xi,Az]) (by simp [Az,Gg,I])) ?_
 intro k hk next
 by_cases hk2:k<4+i
 ·have hp:=n2 (S.getD k (0,0)) (QN (by omega))
  have hb:=GK (S.getD k (0,0)) 7 (by omega) (by omega) q
  have c:=bZ (S.getD k (0,0)) q (by omega) (by omega) (by omega)
  have u0:Xs Kk 2 (0,0) (Gg g S k) (k*2)=I (S.getD k (0,0)).1:=by rw [Ko _ _ _ _ _ (by omega),VY g S k (by omega)]; rfl
  have u1:Xs Kk 2 (0,0) (Gg g S k) (k*2+1)=I (S.getD k (0,0)).2:=by rw [K5 _ _ _ _ _ _ (by omega),VY g S k (by omega)]; rfl
  have hs:=tW (Gg g S k) k (g (S.getD k (0,0))) (by rw [ig g S k (by omega)]; omega)
  rw [ii g S k (by omega)] at hs
  have hgk:g (S.getD k (0,0))=((Z5 q (S.getD k (0,0))).1+D1,(Z5 q (S.getD k (0,0))).2+D2):=by rw [← hg]; rfl
  rw [hgk] at hs
  generalize S.getD k (0,0)=p at *
  generalize Z5 q p=w at *
  refine X0 1000 ?_
  simp (disch:=omega) only [Az,X4,Kk,List.cons_append,List.nil_append,u0,u1,↓Xw,wG,seval]
  refine X1 c rfl ?_
  simp (disch:=omega) only [Az,X4,Kk,List.cons_append,List.nil_append,↓Xw,wG,seval]
  exact next (k+1) _ (by omega) (by omega) (Xr (m:=5) (Nat.zero_le _) rfl (by simp [Az,Xh,X4,I]) (by simp [Xi,Az]) (by simp [Az,← hs,Kk,I]) (by simp [Az,Xv]) (by simp [Az,Xv]) (by simp [Az,sX,uq,Xv]))
 obtain rfl:k=4+i:=by omega
 have hm:Gg g S (4+i)=Af l W H (i+1):=by
  rw [hST]; unfold Gg; rw [List.take_of_length_le (by omega),List.drop_eq_nil_of_le (by omega),List.append_nil]
 rw [hm]
 clear next
 generalize Af l W H (i+1)=ST at *
 refine Run.sub (s':=Az l W H (i+1) (Dw FL) (Dw ST) .any (I q) (.ref 4 0 0) (I (4+i:Nat)) .any .any .any [.con 1 ((i+1+3)*2) (Xs Kk 2 (0,0) FL),.con i ((4+i)*2) (Xs Kk 2 (0,0) ST),.row 0 2 (Xo [I D1,I D2])]) ?_
  (Sub.trans (XR 2 rfl) (Sub.trans (Mb 9 (M:=(i+1+3)*2) rfl rfl (by omega) (fun h=>by omega)) (Sub.trans (XR 3 rfl) (Sub.trans (Mb 10 (M:=(4+i)*2) rfl rfl (by omega) (fun h=>by omega)) (Xa rfl (by simp [AS.put,Az,Xh,Xe,X4,hFl,hTl,I]) (by simp [AS.put,Xi,Az]) (by simp [AS.put,Az]))))))
 have o1:=QX 1 1 ⟨by omega,by omega⟩ ⟨by omega,by omega⟩
 have v1:Rat.divInt 1 1=1:=by decide +kernel
 rw [v1] at o1
 have hrem:((4:Int) - q).tmod 4=((4 - q) % 4:Nat):=by rw [Int.tmod_eq_emod_of_nonneg (by omega)]; omega
 refine X0 1000 ?_
 simp (disch:=omega) only [Az,X4,List.cons_append,List.nil_append,↓Xw,wG,seval]
 refine X1 m1 rfl ?_
 simp (disch:=omega) only [Az,X4,List.cons_append,List.nil_append,↓Xw,wG,seval]
 refine X1 m2 rfl ?_
 simp (disch:=omega) only [Az,X4,QH,XD,Jj,Zf,XQ,List.cons_append,List.nil_append,↓Xw,wG,seval]
 refine X1 o1 rfl ?_
 simp (disch:=omega) only [X4,Xe,↓Xw,wG,seval]
 have wst:WeakL [.bool (sg 1),X8 (Xb (Rat.num 1).natAbs),.bool false,X8 (Xb (qd 1)),.bool false,.sl 0 0 (fun _=>.any) false,.bool false,.sl 0 0 (fun _=>.any) false] (vC KQ):=by
  obtain ⟨w1,w2,w3,w4,w5,w6,w7,w8,_⟩:=ZJ
  exact ⟨Weak.rfl' _,Weak.rfl' _,Weak.rfl' _,Weak.rfl' _,w5,w6,w7,w8,trivial⟩
 refine Xg (fun j:Nat=>Az l W H (i+1) .any .any .any (I q) (.ref 4 0 0) .any (.ref 5 0 0) (.ref 6 0 0) (I j) [.con 1 ((i+1+3)*2) (Xs Kk 2 (0,0) FL),.con i ((4+i)*2) (Xs Kk 2 (0,0) ST),.row 0 2 (Xo [I D1,I D2]),.row 0 79 (Xo (XD A ++ (XD B ++ Pm))),.row 0 8 (Xo (vC (Jz j KQ)))])
  (fun j=>j≤(4 - q) % 4) (fun j=>(4 - q) % 4 - j) 0 (by omega)
  (Sub.trans (Ef 6 (vC KQ) rfl rfl wst) (Xa rfl (by simp [Az,Xh,X4,I]) (by simp [Xi,Az]) (by simp [Az,Jj,Zf,XQ,Pm,Zj,XD,Xe,Xl,X4,Jz,I]))) ?_
 intro j hj next
 have hvq:vb (Jz j KQ)≤10:=by rw [CG]; exact Ei
 have hqs:Jz (j+1) KQ=Bf (Jz j KQ):=rfl
 by_cases hj2:j<(4 - q) % 4
 ·have nx:=next (j+1)
  rw [hqs] at nx
  generalize Jz j KQ=V at *
  have q1:=Qn V
  have c:=KZ V.y (by unfold rm; omega)
  refine X0 1000 ?_
  simp (disch:=omega) only [Az,X4,vC,hrem,List.cons_append,List.nil_append,↓Xw,wG,seval]
  refine X1 c rfl ?_
  simp (disch:=omega) only [X4,↓Xw,wG,seval]
  have hV:vC (Bf V)=[.bool (sg (-V.y)),X8 (Xb (-V.y).num.natAbs),.bool false,X8 (Xb (qd (-V.y))),.bool (sg V.x),X8 (Xb V.x.num.natAbs),.bool false,X8 (Xb (qd V.x))]:=rfl
  exact nx _ (by omega) (by omega) (Xa rfl (by simp [Az,Xh,X4,I]) (by simp [Xi,Az]) (by simp [Az,Jj,Zf,XQ,Pm,Zj,XD,Xe,Xl,X4,hV,I]))
 obtain rfl:j=(4 - q) % 4:=by omega
 rw [← hT] at hvq ⊢
 clear next
 have c1:=KI D1 D2 ⟨by omega,by omega⟩ ⟨by omega,by omega⟩
 have hpv:(⟨(D1:Rat),(D2:Rat)⟩:V2)=JD (D1,D2):=rfl
 rw [hpv] at c1
 have vq:vb (JD (D1,D2))≤3:=by
  have q1:=KW D1 3 (by omega) (Qy ⟨by omega,by omega⟩)
  have q2:=KW D2 3 (by omega) (Qy ⟨by omega,by omega⟩)
  unfold vb JD
  simp only
  omega
 have c2:=Ch T (JD (D1,D2)) (by unfold vm; omega) (by unfold vm; omega)
 have vr:=Dg T (JD (D1,D2))
 have vz:=Ej
 have c3:=JO v0 (LY T (JD (D1,D2))) (by unfold rm; omega) (by unfold rm; omega)
 rw [← hAt] at c3
 refine X0 1000 ?_
 simp (disch:=omega) only [Az,X4,vC,hrem,List.cons_append,List.nil_append,↓Xw,wG,seval]
 refine X1 c1 rfl ?_
 simp (disch:=omega) only [X4,vA,vC,↓Xw,wG,seval]
 refine X1 c2 rfl ?_
 simp (disch:=omega) only [X4,vA,vC,↓Xw,wG,seval]
 refine XZ c3 ⟨XW (Ek _),Weak.rfl' _,trivial⟩ ?_
 simp (disch:=omega) only [X4,vA,vC,XD,Pm,Zj,Jj,Zf,XQ,List.cons_append,List.nil_append,↓Xw,wG,seval]
 exact ZB rfl VT rfl rfl rfl sR (hR.trans rfl)
theorem TY (k m:Int) (h:0≤k∧k<m):QV k m=k:=by
 unfold QV
 rw [if_neg (by omega),Int.tmod_eq_emod_of_nonneg h.1,Int.emod_eq_of_lt h.1 h.2]
theorem FP (L:List Int) (j:Nat) (m:Int) (h:j<L.length) (hb:0≤L.getD j 0∧L.getD j 0<m):Ab.atF L (j:Nat) m=L.getD j 0:=by
 unfold Ab.atF
 rw [if_neg (by omega),Int.toNat_natCast,TY _ _ hb]
theorem r6 (l:List Int) (W H:Nat) (hW:4≤W∧W≤7) (hH:3≤H∧H≤6):C0 (I4 l W H):=fun x hx=>by
 have b3:=XF l 3 ((W:Int) - 1) (by omega)
 have b4:=XF l 4 ((W:Int) - 1) (by omega)
 have b7:=XF l 7 4 (by omega)
 simp only [I4,List.mem_cons,List.not_mem_nil,or_false] at hx
 rcases hx with rfl | rfl | rfl | rfl | rfl | rfl | rfl | rfl <;> exact ⟨by omega,by omega⟩
theorem iG (l:List Int) (hl:C0 l):∃ (L:List Int) (W H M:Nat),C0 L∧(4≤W∧W≤7)∧(3≤H∧H≤6)∧(1≤M∧M≤3)∧XO (XC (Jd L W H M))∧XO (XC (Ju L W H M)) ∧
  Fn Tryz.prog 28 [X8 l] (.agg (kc (Zy (Jd L W H M) L 10) (Zy (Af L W H M) L 20) (Ir L M))):=by
 have b0:=XF l 0 4 (by omega)
 have b1:=XF l 1 4 (by omega)
 have b2:=XF l 2 3 (by omega)
 obtain ⟨W,hW⟩:∃ W:Nat,(4:Int)+Ab.atF l 0 4=W:=⟨(4+Ab.atF l 0 4).toNat,by omega⟩
 obtain ⟨H,hH⟩:∃ H:Nat,(3:Int)+Ab.atF l 1 4=H:=⟨(3+Ab.atF l 1 4).toNat,by omega⟩
 obtain ⟨M,hM⟩:∃ M:Nat,(1:Int)+Ab.atF l 2 3=M:=⟨(1+Ab.atF l 2 3).toNat,by omega⟩
 by_cases hv:XO (XC (Jd l W H M))∧XO (XC (Ju l W H M))
 ·obtain ⟨A,B,F,hf,h⟩:=LB l hl W H M hW hH hM (Zy [] [] 0) (Zy [] [] 0) Zx (fun h=>absurd hv h)
  rcases h with ⟨_,rfl,rfl,rfl⟩ | ⟨h,_⟩
  ·exact ⟨l,W,H,M,hl,by omega,by omega,by omega,hv.1,hv.2,hf⟩
  ·exact absurd hv h
 have b3:=XF l 3 ((W:Int) - 1) (by omega)
 have b4:=XF l 4 ((W:Int) - 1) (by omega)
 have b7:=XF l 7 4 (by omega)
 have hl2:=r6 l W H (by omega) (by omega)
 have a0:Ab.atF (I4 l W H) 0 4=(W:Int) - 4:=FP _ 0 _ (by simp [I4]) (by show 0≤(W:Int) - 4∧(W:Int) - 4<4; omega)
 have a1:Ab.atF (I4 l W H) 1 4=(H:Int) - 3:=FP _ 1 _ (by simp [I4]) (by show 0≤(H:Int) - 3∧(H:Int) - 3<4; omega)
 have a2:Ab.atF (I4 l W H) 2 3=0:=FP _ 2 _ (by simp [I4]) (by show 0≤(0:Int)∧(0:Int)<3; omega)
 have a3:Ab.atF (I4 l W H) 3 ((W:Int) - 1)=Ab.atF l 3 ((W:Int) - 1):=FP _ 3 _ (by simp [I4]) b3
 have a4:Ab.atF (I4 l W H) 4 ((W:Int) - 1)=Ab.atF l 4 ((W:Int) - 1):=FP _ 4 _ (by simp [I4]) b4
 have c0:QE (I4 l W H) W H 1 0=(1+Ab.atF l 3 ((W:Int) - 1),0):=by
  unfold QE; rw [if_neg (by omega)]; exact congrArg (fun z:Int=>((1:Int)+z,(0:Int))) a3
 have c1:QE (I4 l W H) W H 1 1=(1+Ab.atF l 4 ((W:Int) - 1),(H:Int)):=by
  unfold QE; rw [if_pos rfl]; exact congrArg (fun z:Int=>((1:Int)+z,(H:Int))) a4
 have p1:XO (XC (Jd (I4 l W H) W H 1)):=by
  have e:Jd (I4 l W H) W H 1=iT (1+Ab.atF l 3 ((W:Int) - 1)) (1+Ab.atF l 4 ((W:Int) - 1)) H:=by
   show (0,0) :: [QE (I4 l W H) W H 1 0,QE (I4 l W H) W H 1 1] ++ [(0,(H:Int))]=_
   rw [c0,c1]; rfl
  rw [e]
  exact iU _ _ _ (by omega) (by omega) (by omega)
 have p2:XO (XC (Ju (I4 l W H) W H 1)):=by
  have e:Ju (I4 l W H) W H 1=iV W (1+Ab.atF l 3 ((W:Int) - 1)) (1+Ab.atF l 4 ((W:Int) - 1)) H:=by
   show [QE (I4 l W H) W H 1 0,((W:Int),0),((W:Int),(H:Int))] ++ [QE (I4 l W H) W H 1 1]=_
   rw [c0,c1]; rfl
  rw [e]
  exact iW _ _ _ _ (by omega) (by omega) (by omega) (by omega)
 obtain ⟨A,B,F,hf,h⟩:=LB (I4 l W H) hl2 W H 1 (by rw [a0]; omega) (by rw [a1]; omega) (by rw [a2]; rfl) (Zy [] [] 0) (Zy [] [] 0) Zx (fun h=>absurd ⟨p1,p2⟩ h)
 rcases h with ⟨_,rfl,rfl,rfl⟩ | ⟨h,_⟩
 rotate_left
 ·exact absurd ⟨p1,p2⟩ h
 obtain ⟨A,B,F,hf2,h⟩:=LB l hl W H M hW hH hM _ _ _ (fun _=>hf)
 rcases h with ⟨h,_⟩ | ⟨_,rfl,rfl,rfl⟩
 ·exact absurd h hv
 ·exact ⟨I4 l W H,W,H,1,hl2,by omega,by omega,by omega,p1,p2,hf2⟩
theorem np (l:List Int) (hl:C0 l):∃ (A B:PV) (F:FV) (ta tb:Rat),Fn Tryz.prog 28 [X8 l] (.agg (kc A B F))∧GP A ta∧GP B tb∧A.small∧B.small∧qb ta≤3∧qb tb≤3∧vb F.turn≤10∧vb F.lo≤100∧vb F.hi≤100:=by
 obtain ⟨L,W,H,M,hL,hW,hH,hM,p1,p2,hf⟩:=iG l hl
 have g1:=VW (Jd L W H M) L 10 (Li L W H M hW (by omega) (by omega)) p1
 have g2:=VW (Af L W H M) L 20 (HX L W H M hW (by omega) (by omega)) (nt _ _ _ p2)
 have hs:=LC L
 exact ⟨_,_,_,_,_,hf,g1.1,g2.1,g1.2.1,g2.2.1,g1.2.2,g2.2.2,hs.1,hs.2,hs.2⟩
end
end Go.Ab.N
