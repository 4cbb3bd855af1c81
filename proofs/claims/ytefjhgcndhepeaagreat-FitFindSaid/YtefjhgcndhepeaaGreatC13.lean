/- Contracts of functions of these chapters, for every argument that fits, and what they need. -/
import Derived.Test.YtefjhgcndhepeaaGreatC12
import Derived.Test.YtefjhgcndhepeaaGreatC6
import Derived.Test.YtefjhgcndhepeaaGreatC7
set_option linter.unusedSimpArgs false
set_option linter.unusedVariables false
open Nat renaming reducePow → Y1, reduceLT → Y2, reduceLeDiff → Y3, reduceEqDiff → Y4, reduceAdd → Y5, reduceMul → Y6, reduceSub → Y7, reduceBEq → Y8, reduceDiv → Y9, reduceMod → YA
namespace Go.Ab.N
open Go Go.RowKit Go.Proofs
noncomputable section
set_option maxRecDepth 10000
set_option maxHeartbeats 4000000
open Classical
def HG (l:List FV):AV:=ru XW 29 ZG l
theorem XI (l:List FV):HG l=.sl l.length (l.length*29) (Xs XW 29 ZG l) false:=nrfl rfl
theorem KS (l:List FV):Settled (HG l):=J7 fun j _=>Xe (XU _) _
def QD (i j k:Nat) (t:V2):FV:=⟨0,1,i,j,k,t,v0,v0⟩
def FF (a b:PV) (e:Rat) (i j k:Nat) (t:V2):Bool:=(XG a.rim b.rim (QD i j k t) e).2.2 && KK a b (A8 a b (QD i j k t) e) e
def Zm (a b:PV) (e:Rat) (i j k:Nat) (L:List V2):List FV:=(L.filter (FF a b e i j k)).map fun t=>A8 a b (QD i j k t) e
def D9 (a b:PV) (e:Rat) (i j k:Nat):List FV:=if Ey a b (QD i j k v0) then Zm a b e i j k (J8 a b (QD i j k v0) k) else []
def Kc (a b:PV) (e:Rat) (i j:Nat):Nat→List FV
 | 0=>[]
 | k+1=>Kc a b e i j k ++ D9 a b e i j (k+1)
def JP (a b:PV) (e:Rat) (i:Nat):Nat→List FV
 | 0=>[]
 | j+1=>JP a b e i j ++ Kc a b e i j (min a.rim.length b.rim.length - 1)
def JB (a b:PV) (e:Rat):Nat→List FV
 | 0=>[]
 | i+1=>JB a b e i ++ JP a b e i b.rim.length
def BI (a b:PV) (e:Rat):List FV:=JB a b e a.rim.length
theorem IX (a b:PV) (e:Rat) (i j k:Nat) (L:List V2) (n:Nat) (h:n<L.length):Zm a b e i j k (L.take (n+1))=Zm a b e i j k (L.take n) ++ (if FF a b e i j k (L.getD n v0)=true then [A8 a b (QD i j k (L.getD n v0)) e] else []):=by
 unfold Zm
 rw [Q0 L v0 n h,List.filter_append,List.map_append]
 congr 1
 by_cases hq:FF a b e i j k (L.getD n v0)=true
 ·rw [if_pos hq,List.filter_cons_of_pos hq]; rfl
 ·rw [if_neg hq,List.filter_cons_of_neg hq]; rfl
theorem GI (a b:PV) (e:Rat) (i j k:Nat) (L:List V2):(Zm a b e i j k L).length≤L.length:=by
 unfold Zm; rw [List.length_map]; exact List.length_filter_le _ _
theorem qB {l:List AV} (h:∀ x∈l,x.one=true):∀ j,j<l.length→(l.getD j .any).one=true:=fun j hj=>by
 rw [List.getD_eq_getElem?_getD,List.getElem?_eq_getElem hj]; exact h _ (List.getElem_mem _)
theorem HY (f:FV):∀ j,j<29→((XW f).getD j .any).one=true:=qB (l:=XW f) (by simp [XW,AV.one,X4,I])
theorem Oc {P:Program} {fn:Func} {str hcs:List Nat} {s:AS} {t id ver:Nat} (L:List FV) (hr:fn.results=#[.tmp t]) (hs:s.get t=.osl id ver 29 0 L.length) (ho:s.h[id]?=some (.row ver (L.length*29) (Xs XW 29 ZG L))):RetOk (QR P fn str hcs (HG L)) s:=by
 refine Ba hr ?_
 rw [hs,XI]
 refine Qw (.inl ho) (by omega) (fun h=>by rw [h]) fun j hj=>?_
 rw [Nat.zero_add]
 exact (Xe (XU _) _).sees _
theorem Gk {m:Nat} {s:AS} (id:Nat) {ver n:Nat} {l:List AV} (l':List AV) (ho:s.h[id]?=some (.row ver n (Xp l))) (hn:n=l.length) (h:WeakL l l'):Sub m s { s with h:=s.h.set id (.row ver n (Xp l')) } :=
 Zt id (Xp l') ho fun j hj c v _ _ hv=>(WeakL.spec h).2 j (by omega) v hv
theorem NI (i j k:Nat):WeakL ([I 0,I 1,I i,I j,I k] ++ (Z8 ++ (Z8 ++ Z8))) (XW (QD i j k v0)):=by
 obtain ⟨w1,w2,w3,w4,w5,w6,w7,w8,_⟩:=Zx
 exact ⟨Weak.rfl' _,Weak.rfl' _,Weak.rfl' _,Weak.rfl' _,Weak.rfl' _,w1,w2,w3,w4,w5,w6,w7,w8,w1,w2,w3,w4,w5,w6,w7,w8,w1,w2,w3,w4,w5,w6,w7,w8,trivial⟩
def J3 (a b:PV) (D:List FV) (x6 x7 x8 x9 x10 x11:AV) (r:List AO):AS:=⟨15,[],[.any,.any,.ref 0 0 0,.ref 1 0 0,.any,.osl 2 D.length 29 0 D.length,x6,x7,x8,x9,x10,x11,.any,.any,.any],[],[.row 0 25 (Xp (XH a)),.row 0 25 (Xp (XH b)),.row D.length (D.length*29) (Xs XW 29 ZG D)] ++ r⟩
theorem Uq (a b:PV) {ta tb:Rat} (ha:GP a ta) (hb:GP b tb):Fn Tryz.prog 109 [QW a,QW b] (HG (BI a b (ta+tb))):=by
 have la:=(JI _ ha.poly).1
 have lb:=(JI _ hb.poly).1
 have ea:(XB a.rim).length=a.rim.length:=by simp [XB]
 have eb:(XB b.rim).length=b.rim.length:=by simp [XB]
 rw [ea] at la
 rw [eb] at lb
 have qa:=ha.qt; have q2:=hb.qt
 have qe:=K5 ta tb
 generalize hT:ta+tb=e at *
 have ba:XK 3 (.row 0 25 (Xp (XH a)))=True:=eq_true (XE (XA a))
 have bb:XK 3 (.row 0 25 (Xp (XH b)))=True:=eq_true (XE (XA b))
 have bd:∀ v n l,XK 3 (.row v n (Xs XW 29 ZG l))=True:=fun v n l=>eq_true fun j _=>X6 (Xe (XU _) _)
 refine Fq Tryz.call109 Tryz.func109 15 [] [] [] (by simp [Xz]) (X0 1000 ?_)
 simp (disch:=omega) only [AS.start,QW,XH,↓Xl,wD,↓X2,wA,seval,wE]
 refine Xg (fun i:Nat=>J3 a b (JB a b e i) (I i) .any .any .any .any .any []) (fun i=>i≤a.rim.length∧(JB a b e i).length≤2000*i) (fun i=>a.rim.length - i) 0 ⟨by omega,by simp [JB]⟩
  (Sub.trans (Q4 5 29 (Xs XW 29 ZG []) rfl) (Xa rfl (by simp [AS.put,Xh,J3,JB,I]) (by simp [AS.put,Xi,J3]) (by simp [AS.put,J3,XH,Xf,Xo,X4,JB,I]))) ?_
 rintro i ⟨hi,hil⟩ next
 by_cases hi2:i<a.rim.length
 rotate_left
 ·obtain rfl:i=a.rim.length:=by omega
  refine X0 1000 ?_
  simp (disch:=omega) only [J3,XH,Xf,List.cons_append,List.nil_append,↓Xl,wD,↓X2,wA,seval,wE]
  exact Oc _ rfl rfl rfl
 refine X0 1000 ?_
 simp (disch:=omega) only [J3,XH,Xf,List.cons_append,List.nil_append,↓Xl,wD,↓X2,wA,seval,wE]
 refine Xg (fun j:Nat=>J3 a b (JB a b e i ++ JP a b e i j) (I i) (I j) .any .any .any .any []) (fun j=>j≤b.rim.length∧(JB a b e i ++ JP a b e i j).length≤2000*i+150*j) (fun j=>b.rim.length - j) 0 ⟨by omega,by simpa [JP] using hil⟩
  (Xa rfl (by simp [Xh,J3,JP,I]) (by simp [Xi,J3]) (by simp [J3,XH,Xf,Xo,X4,JP,I])) ?_
 rintro j ⟨hj,hjl⟩ nextj
 by_cases hj2:j<b.rim.length
 rotate_left
 ·obtain rfl:j=b.rim.length:=by omega
  refine X0 1000 ?_
  simp (disch:=omega) only [J3,XH,Xf,List.cons_append,List.nil_append,↓Xl,wD,↓X2,wA,seval,wE]
  exact next (i+1) _ ⟨by omega,by show (JB a b e i ++ JP a b e i b.rim.length).length≤_; omega⟩ (by omega) (Xa rfl (by simp [Xh,J3,JB,I]) (by simp [Xi,J3]) (by simp [J3,XH,Xf,Xo,X4,JB,I]))
 generalize hA:JB a b e i ++ JP a b e i j=A at *
 refine X0 1000 ?_
 simp (disch:=omega) only [J3,XH,Xf,List.cons_append,List.nil_append,↓Xl,wD,↓X2,wA,seval,wE]
 refine Xg (fun k:Nat=>J3 a b (A ++ Kc a b e i j k) (I i) (I j) (I (k+1:Nat)) .any .any .any []) (fun k=>k≤min a.rim.length b.rim.length - 1∧(A ++ Kc a b e i j k).length≤2000*i+150*j+12*k) (fun k=>min a.rim.length b.rim.length - k) 0 ⟨by omega,by simpa [Kc] using hjl⟩
  (Xa rfl (by simp [Xh,J3,Kc,I]) (by simp [Xi,J3]) (by simp [J3,XH,Xf,Xo,X4,Kc,I])) ?_
 rintro k ⟨hk,hkl⟩ nextk
 by_cases hk2:k+1<a.rim.length∧k+1<b.rim.length
 rotate_left
 ·have hke:k=min a.rim.length b.rim.length - 1:=by omega
  by_cases hn:k+1<a.rim.length
  all_goals
   refine X0 1000 ?_
   simp (disch:=omega) only [J3,XH,Xf,List.cons_append,List.nil_append,↓Xl,wD,↓X2,wA,seval,wE]
   subst hke
   exact nextj (j+1) _ ⟨by omega,by
    have e1:JB a b e i ++ JP a b e i (j+1)=A ++ Kc a b e i j (min a.rim.length b.rim.length - 1):=by rw [← hA,List.append_assoc]; rfl
    rw [e1]; omega⟩ (by omega) (Xa rfl (by simp [Xh,J3,JP,hA.symm,I]) (by simp [Xi,J3]) (by simp [J3,XH,Xf,Xo,X4,JP,hA.symm,I]))
 have hlk:Kc a b e i j (k+1)=Kc a b e i j k ++ D9 a b e i j (k+1):=rfl
 have nx:=nextk (k+1)
 rw [hlk,← List.append_assoc] at nx
 generalize A ++ Kc a b e i j k=A2 at *
 have hst:∀ t lo hi,Bc a.rim.length b.rim.length ⟨0,1,i,j,(k+1:Nat),t,lo,hi⟩:=fun t lo hi=>⟨⟨by show (0:Int)≤i; omega,by show (i:Int)<_; omega⟩,⟨by show (0:Int)≤j; omega,by show (j:Int)<_; omega⟩,by show (1:Int)≤((k+1:Nat):Int); omega,by show ((k+1:Nat):Int)<_; omega,by show ((k+1:Nat):Int)<_; omega⟩
 have cp:=OE a b (QD i j (k+1) v0) (hst _ _ _) ha.even hb.even
 have ct:=iM a b (QD i j (k+1) v0) (hst _ _ _) ha.even hb.even
 change Fn _ _ _ (Xq (J8 a b (QD i j (k+1) v0) (k+1))) at ct
 have hsm:=Bd a b (QD i j (k+1) v0) ha.even.near hb.even.near (k+1)
 have hlen:=BH a b (QD i j (k+1) v0) (k+1)
 have hfk:D9 a b e i j (k+1)=if Ey a b (QD i j (k+1) v0) then Zm a b e i j (k+1) (J8 a b (QD i j (k+1) v0) (k+1)) else []:=rfl
 have hfl:=GI a b e i j (k+1) (J8 a b (QD i j (k+1) v0) (k+1))
 rw [hfk] at nx
 generalize J8 a b (QD i j (k+1) v0) (k+1)=L at *
 have wf:=NI i j (k+1)
 refine X0 1000 ?_
 simp (disch:=omega) only [J3,XH,Xf,List.cons_append,List.nil_append,↓Xl,wD,↓X2,wA,seval,wE]
 refine Q3 cp ⟨Weak.rfl' _,Weak.rfl' _,XV wf,trivial⟩ ?_
 by_cases hp:Ey a b (QD i j (k+1) v0)
 rotate_left
 ·rw [if_neg hp,List.append_nil] at nx
  simp (disch:=omega) only [decide_eq_false hp,↓Xl,wD,↓X2,wA,seval,wE]
  exact nx _ ⟨by omega,by omega⟩ (by omega) (Xv (m:=3) (Nat.zero_le _) rfl (by simp [Xh,J3,I]) (by simp [Xi,J3]) (by simp [J3,XH,Xf,Xo,X4,I]) (by simp [J3,Xy]) (by simp [J3,Xy]) (by simp [J3,ba,bb,bd]))
 rw [if_pos hp] at nx
 simp (disch:=omega) only [decide_eq_true hp,↓Xl,wD,↓X2,wA,seval,wE]
 refine Q3 ct ⟨Weak.rfl' _,Weak.rfl' _,XV wf,trivial⟩ ?_
 simp (disch:=omega) only [↓Xl,wD,↓X2,wA,seval,wE]
 refine Xg (fun w:Nat×V2×V2×V2=>J3 a b (A2 ++ Zm a b e i j (k+1) (L.take w.1)) (I i) (I j) (I (k+1:Nat)) (.ref 3 0 0) (Xq L) (I w.1) [.row 0 29 (Xp (XW ⟨0,1,i,j,(k+1:Nat),w.2.1,w.2.2.1,w.2.2.2⟩))]) (fun w=>w.1≤L.length∧(A2 ++ Zm a b e i j (k+1) (L.take w.1)).length≤2000*i+150*j+12*k+w.1) (fun w=>L.length - w.1) (0,v0,v0,v0) ⟨by simp,by simpa [Zm] using hkl⟩
  (Sub.trans (Gk 3 (XW (QD i j (k+1) v0)) rfl rfl wf) (Xa rfl (by simp [Xh,J3,Zm,I]) (by simp [Xi,J3]) (by simp [J3,XH,Xf,Xo,X4,Zm,QD,I]))) ?_
 rintro ⟨t,T,lo,hi'⟩ ⟨ht,htl⟩ nextt
 replace ht:t≤L.length:=ht
 replace htl:(A2 ++ Zm a b e i j (k+1) (L.take t)).length≤2000*i+150*j+12*k+t:=htl
 have bL:JM 3 (Xq L)=True:=eq_true (X6 (Xd L))
 by_cases ht2:t<L.length
 rotate_left
 ·obtain rfl:t=L.length:=by omega
  rw [List.take_length] at *
  refine X0 1000 ?_
  simp (disch:=omega) only [J3,X5,XH,Xf,List.cons_append,List.nil_append,↓Xl,wD,↓X2,wA,seval,wE]
  exact nx _ ⟨by omega,by omega⟩ (by omega) (Xv (m:=3) (Nat.zero_le _) rfl (by simp [Xh,J3,I]) (by simp [Xi,J3]) (by simp [J3,XH,Xf,Xo,X4,I]) (by simp [J3,Xy]) (by simp [J3,Xy]) (by simp [J3,ba,bb,bd]))
 have hx:=hsm (L.getD t v0) (QE ht2)
 have htk:=IX a b e i j (k+1) L t ht2
 have v1:=vF L t
 generalize L.getD t v0=x at *
 have ca:=aC a b ⟨0,1,i,j,(k+1:Nat),x,lo,hi'⟩ ha.even hb.even (by show vb x≤1000; omega) ha.tol hb.tol (by omega) (by omega)
 rw [hT] at ca
 have hag:XG a.rim b.rim ⟨0,1,i,j,(k+1:Nat),x,lo,hi'⟩ e=XG a.rim b.rim (QD i j (k+1) x) e:=rfl
 rw [hag] at ca
 have hfine:(A8 a b (QD i j (k+1) x) e).fine:=by
  obtain ⟨h1,h2⟩:=Im a b (QD i j (k+1) x) ha.even.near hb.even.near e (by show vb x≤60; omega)
  exact ⟨by show vb x≤60; omega,by show vb (XG a.rim b.rim (QD i j (k+1) x) e).1≤300; omega,by show vb (XG a.rim b.rim (QD i j (k+1) x) e).2.1≤300; omega⟩
 have cc:=RU a b _ ha hb hfine
 rw [hT] at cc
 have hok:FF a b e i j (k+1) x=((XG a.rim b.rim (QD i j (k+1) x) e).2.2 && KK a b (A8 a b (QD i j (k+1) x) e) e):=rfl
 have hsf:A8 a b (QD i j (k+1) x) e=⟨0,1,i,j,(k+1:Nat),x,(XG a.rim b.rim (QD i j (k+1) x) e).1,(XG a.rim b.rim (QD i j (k+1) x) e).2.1⟩:=rfl
 rw [hok,hsf] at htk
 rw [hsf] at cc
 generalize XG a.rim b.rim (QD i j (k+1) x) e=G at *
 obtain ⟨g1,g2,ok⟩:=G
 simp only at htk cc ca
 have nx2:=nextt (t+1,x,g1,g2)
 rw [htk,← List.append_assoc] at nx2
 generalize A2 ++ Zm a b e i j (k+1) (L.take t)=D at *
 generalize KK a b ⟨0,1,i,j,(k+1:Nat),x,g1,g2⟩ e=q at *
 have bq:∀ f:FV,XK 4 (.row 0 29 (Xp (XW f)))=True:=fun f=>eq_true (XE (XU f))
 refine X0 1000 ?_
 simp (disch:=omega) only [J3,X5,XW,v1,XH,Xf,List.cons_append,List.nil_append,↓Xl,wD,↓X2,wA,seval,wE]
 refine X1 ca rfl ?_
 have ba4:XK 4 (.row 0 25 (Xp (XH a)))=True:=eq_true (XE (XA a))
 have bb4:XK 4 (.row 0 25 (Xp (XH b)))=True:=eq_true (XE (XA b))
 have bd4:∀ v n l,XK 4 (.row v n (Xs XW 29 ZG l))=True:=fun v n l=>eq_true fun j _=>X6 (Xe (XU _) _)
 have bL4:JM 4 (Xq L)=True:=eq_true (X6 (Xd L))
 cases ok with
 | false =>
  simp only [Bool.false_and,Bool.false_eq_true,if_false,List.append_nil] at nx2
  simp (disch:=omega) only [X5,↓Xl,wD,↓X2,wA,seval,wE]
  exact nx2 _ ⟨by show t+1≤L.length; omega,by show D.length≤2000*i+150*j+12*k+(t+1); omega⟩ (by show L.length - (t+1)<L.length - t; omega) (Xv (m:=4) (Nat.zero_le _) rfl (by simp [Xh,J3,X5,I]) (by simp [Xi,J3]) (by simp [J3,XH,XW,Xf,Xo,X4,I,sg]) (by simp [J3,Xy,bL4]) (by simp [J3,Xy]) (by simp [J3,ba4,bb4,bd4,bq]))
 | true =>
  simp (disch:=omega) only [X5,↓Xl,wD,↓X2,wA,seval,wE]
  refine X1 cc rfl ?_
  cases q with
  | false =>
   simp only [Bool.and_false,Bool.false_eq_true,if_false,List.append_nil] at nx2
   simp (disch:=omega) only [X5,↓Xl,wD,↓X2,wA,seval,wE]
   exact nx2 _ ⟨by show t+1≤L.length; omega,by show D.length≤2000*i+150*j+12*k+(t+1); omega⟩ (by show L.length - (t+1)<L.length - t; omega) (Xv (m:=4) (Nat.zero_le _) rfl (by simp [Xh,J3,X5,I]) (by simp [Xi,J3]) (by simp [J3,XH,XW,Xf,Xo,X4,I,sg]) (by simp [J3,Xy,bL4]) (by simp [J3,Xy]) (by simp [J3,ba4,bb4,bd4,bq]))
  | true =>
   simp only [Bool.and_true,if_true] at nx2
   have hap:=XO XW 29 ZG D ⟨0,1,i,j,(k+1:Nat),x,g1,g2⟩ (by omega)
   have hDl:(D ++ [(⟨0,1,i,j,(k+1:Nat),x,g1,g2⟩:FV)]).length=D.length+1:=by simp
   simp (disch:=omega) only [X5,↓Xl,wD,↓X2,wA,seval,wE]
   refine ⟨HY ⟨0,1,i,j,(k+1:Nat),x,g1,g2⟩,?_⟩
   exact nx2 _ ⟨by show t+1≤L.length; omega,by show (D ++ [(⟨0,1,i,j,(k+1:Nat),x,g1,g2⟩:FV)]).length≤2000*i+150*j+12*k+(t+1); omega⟩ (by show L.length - (t+1)<L.length - t; omega) (Xv (m:=4) (Nat.zero_le _) rfl (by simp [Xh,J3,X5,I]) (by simp [Xi,J3]) (by simp only [J3,hDl,← hap]; rfl) (by simp [J3,Xy,bL4]) (by simp [J3,Xy]) (by simp [J3,ba4,bb4,bd4,bq]))
def MT (a b:PV) (e:Rat) (f:FV) (i j k:Nat) (t:V2):Prop:=k≠0∧k<a.rim.length∧k<b.rim.length∧Ey a b (QD i j k v0)∧t∈J8 a b (QD i j k v0) k∧FF a b e i j k t=true∧f=A8 a b (QD i j k t) e
theorem YG (a b:PV) (e:Rat) (i j k:Nat) (L:List V2) (f:FV):f∈Zm a b e i j k L↔∃ t,t∈L∧FF a b e i j k t=true∧f=A8 a b (QD i j k t) e:=by
 unfold Zm
 rw [List.mem_map]
 constructor
 ·rintro ⟨t,h,rfl⟩
  rw [List.mem_filter] at h
  exact ⟨t,h.1,h.2,rfl⟩
 ·rintro ⟨t,h1,h2,rfl⟩
  exact ⟨t,List.mem_filter.2 ⟨h1,h2⟩,rfl⟩
theorem N7 (a b:PV) (e:Rat) (i j:Nat) (f:FV):∀ n,n<a.rim.length→n<b.rim.length→(f∈Kc a b e i j n↔∃ k t,k≤n∧MT a b e f i j k t)
 | 0,_,_=>by simp [Kc,MT]
 | n+1,h1,h2=>by
  have ih:=N7 a b e i j f n (by omega) (by omega)
  unfold Kc
  rw [List.mem_append,ih]
  have hk:f∈D9 a b e i j (n+1)↔∃ t,MT a b e f i j (n+1) t:=by
   unfold D9
   by_cases hp:Ey a b (QD i j (n+1) v0)
   ·rw [if_pos hp,YG]
    exact ⟨fun ⟨t,q1,q2,q3⟩=>⟨t,by omega,h1,h2,hp,q1,q2,q3⟩,fun ⟨t,_,_,_,_,q1,q2,q3⟩=>⟨t,q1,q2,q3⟩⟩
   ·rw [if_neg hp]
    exact ⟨fun h=>absurd h List.not_mem_nil,fun ⟨t,_,_,_,q,_⟩=>absurd q hp⟩
  rw [hk]
  constructor
  ·rintro (⟨k,t,q1,q2⟩ | ⟨t,q⟩)
   ·exact ⟨k,t,by omega,q2⟩
   ·exact ⟨n+1,t,Nat.le_refl _,q⟩
  ·rintro ⟨k,t,q1,q2⟩
   by_cases hk:k=n+1
   ·subst hk; exact .inr ⟨t,q2⟩
   ·exact .inl ⟨k,t,by omega,q2⟩
theorem N6 (a b:PV) (e:Rat) (i:Nat) (f:FV) (ha:0<a.rim.length) (hb:0<b.rim.length):∀ n,f∈JP a b e i n↔∃ j k t,j<n∧MT a b e f i j k t
 | 0=>by simp [JP]
 | n+1=>by
  have ih:=N6 a b e i f ha hb n
  unfold JP
  rw [List.mem_append,ih,N7 a b e i n f _ (by omega) (by omega)]
  constructor
  ·rintro (⟨j,k,t,q1,q2⟩ | ⟨k,t,q1,q2⟩)
   ·exact ⟨j,k,t,by omega,q2⟩
   ·exact ⟨n,k,t,by omega,q2⟩
  ·rintro ⟨j,k,t,q1,q2⟩
   by_cases hj:j=n
   ·subst hj; exact .inr ⟨k,t,by have:=q2.2.1; have:=q2.2.2.1; omega,q2⟩
   ·exact .inl ⟨j,k,t,by omega,q2⟩
theorem N5 (a b:PV) (e:Rat) (f:FV) (ha:0<a.rim.length) (hb:0<b.rim.length):∀ n,f∈JB a b e n↔∃ i j k t,i<n∧j<b.rim.length∧MT a b e f i j k t
 | 0=>by simp [JB]
 | n+1=>by
  have ih:=N5 a b e f ha hb n
  unfold JB
  rw [List.mem_append,ih,N6 a b e n f ha hb]
  constructor
  ·rintro (⟨i,j,k,t,q1,q2⟩ | ⟨j,k,t,q1,q2⟩)
   ·exact ⟨i,j,k,t,by omega,q2⟩
   ·exact ⟨n,j,k,t,by omega,q1,q2⟩
  ·rintro ⟨i,j,k,t,q1,q2,q3⟩
   by_cases hi:i=n
   ·subst hi; exact .inr ⟨j,k,t,q2,q3⟩
   ·exact .inl ⟨i,j,k,t,by omega,q2,q3⟩
theorem Dl (a b:PV) (e:Rat) (f:FV) (ha:0<a.rim.length) (hb:0<b.rim.length):f∈BI a b e↔∃ i j k t,i<a.rim.length∧j<b.rim.length∧MT a b e f i j k t:=N5 a b e f ha hb _
def Eh (n m:Nat) (W:List FV) (f:FV):Bool:=W.any fun g=>decide (Db n m f g)
def BS (a b:PV) (e:Rat):List FV:=(BI a b e).filter fun f=>!Eh a.rim.length b.rim.length (BI a b e) f
theorem fF (l:List FV) (i:Nat):∀ j,j<29→Xs XW 29 ZG l (i*29+j)=(XW (l.getD i ZG)).getD j .any:=fun j hj=>K0 _ _ _ _ _ _ hj
theorem nX (l:List FV) (i:Nat):Xs XW 29 ZG l (i*29)=(XW (l.getD i ZG)).getD 0 .any:=Kh _ _ _ _ _ (by omega)
theorem fS (n m:Nat) (W:List FV) (f:FV) (j:Nat) (h:j<W.length):Eh n m (W.take (j+1)) f=(Eh n m (W.take j) f || decide (Db n m f (W.getD j ZG))):=by
 unfold Eh
 rw [Q0 W ZG j h,List.any_append]; simp
theorem MS (n m:Nat) (W:List FV) (i:Nat) (h:i<W.length):(W.take (i+1)).filter (fun f=>!Eh n m W f)=(W.take i).filter (fun f=>!Eh n m W f) ++ (if Eh n m W (W.getD i ZG)=true then [] else [W.getD i ZG]):=by
 rw [Q0 W ZG i h,List.filter_append]
 congr 1
 cases hq:Eh n m W (W.getD i ZG) with
 | true=>rw [if_pos rfl,List.filter_cons_of_neg (by rw [hq]; decide)]; rfl
 | false=>rw [if_neg (by decide),List.filter_cons_of_pos (by rw [hq]; rfl)]; rfl
theorem Io (a b:PV) (e:Rat) (ha:a.rim.length≤12) (hb:b.rim.length≤12) (h1:0<a.rim.length) (h2:0<b.rim.length):(BI a b e).length≤24000:=by
 have hk:∀ i j n,n≤12→(Kc a b e i j n).length≤12*n:=fun i j n=>by
  induction n with
  | zero=>intro _; simp [Kc]
  | succ n ih =>
   intro hn
   have h3:=ih (by omega)
   unfold Kc
   rw [List.length_append]
   have:(D9 a b e i j (n+1)).length≤n+1:=by
    unfold D9
    split
    ·exact Nat.le_trans (GI ..) (BH ..)
    ·simp
   omega
 have hj:∀ i n,(JP a b e i n).length≤144*n:=fun i n=>by
  induction n with
  | zero=>simp [JP]
  | succ n ih =>
   unfold JP
   rw [List.length_append]
   have:=hk i n (min a.rim.length b.rim.length - 1) (by omega)
   omega
 have hi:∀ n,(JB a b e n).length≤1728*n:=fun n=>by
  induction n with
  | zero=>simp [JB]
  | succ n ih =>
   unfold JB
   rw [List.length_append]
   have:=hj n b.rim.length
   omega
 have:=hi a.rim.length
 unfold BI; omega
theorem IW {a b:PV} {ta tb:Rat} (ha:GP a ta) (hb:GP b tb) {f:FV} (h:f∈BI a b (ta+tb)):f.near∧vb f.turn≤26∧vb f.lo≤200∧vb f.hi≤200:=by
 have la:=(JI _ ha.poly).1
 have lb:=(JI _ hb.poly).1
 have ea:(XB a.rim).length=a.rim.length:=by simp [XB]
 have eb:(XB b.rim).length=b.rim.length:=by simp [XB]
 rw [ea] at la
 rw [eb] at lb
 have qa:=ha.qt; have q2:=hb.qt
 have qe:=K5 ta tb
 obtain ⟨i,j,k,t,h1,h2,_,h3,h4,_,h5,_,rfl⟩:=(Dl a b (ta+tb) f (by omega) (by omega)).1 h
 have ht:=Bd a b (QD i j k v0) ha.even.near hb.even.near k t h5
 obtain ⟨m1,m2⟩:=Im a b (QD i j k t) ha.even.near hb.even.near (ta+tb) (by show vb t≤60; omega)
 exact ⟨⟨⟨by show (-1000000:Int)≤(i:Int); omega,by show (i:Int)≤1000000; omega⟩,⟨by show (-1000000:Int)≤(j:Int); omega,by show (j:Int)≤1000000; omega⟩,by show (-1000000:Int)≤(k:Int); omega,by show (k:Int)≤1000000; omega⟩,ht,by show vb (XG a.rim b.rim (QD i j k t) (ta+tb)).1≤200; omega,by show vb (XG a.rim b.rim (QD i j k t) (ta+tb)).2.1≤200; omega⟩
theorem Up (a b:PV) {ta tb:Rat} (ha:GP a ta) (hb:GP b tb):Fn Tryz.prog 30 [QW a,QW b] (HG (BS a b (ta+tb))):=by
 have la:=(JI _ ha.poly).1
 have lb:=(JI _ hb.poly).1
 have ea:(XB a.rim).length=a.rim.length:=by simp [XB]
 have eb:(XB b.rim).length=b.rim.length:=by simp [XB]
 rw [ea] at la
 rw [eb] at lb
 have c1:=Uq a b ha hb
 have hfin:=fun f=>@IW a b ta tb ha hb f
 have hl:=Io a b (ta+tb) la.2 lb.2 (by omega) (by omega)
 unfold BS
 generalize BI a b (ta+tb)=W at *
 have ba:XK 3 (.con 0 25 (Xp (XH a)))=True:=eq_true (fun j _=>X6 (Xe (XA a) j))
 have bb:XK 3 (.con 0 25 (Xp (XH b)))=True:=eq_true (fun j _=>X6 (Xe (XA b) j))
 have bd:∀ v n l,XK 3 (.row v n (Xs XW 29 ZG l))=True:=fun v n l=>eq_true fun j _=>X6 (Xe (XU _) _)
 refine Fq Tryz.call30 Tryz.func30 10 [] [10,110000002,110000003] [] (by simp [Xz]) (X0 1000 ?_)
 simp (disch:=omega) only [AS.start,QW,XH,↓Xl,wD,↓X2,wA,seval,wE]
 refine X1 c1 rfl ?_
 simp (disch:=omega) only [XI,↓Xl,wD,↓X2,wA,seval,wE]
 refine Xg (fun i:Nat=>⟨10,[],[.any,.any,.ref 0 0 0,.ref 1 0 0,.any,HG W,.osl 2 ((W.take i).filter (fun f=>!Eh a.rim.length b.rim.length W f)).length 29 0 ((W.take i).filter (fun f=>!Eh a.rim.length b.rim.length W f)).length,I i,.any,.any],[],[.con 0 25 (Xp (XH a)),.con 0 25 (Xp (XH b)),.row ((W.take i).filter (fun f=>!Eh a.rim.length b.rim.length W f)).length (((W.take i).filter (fun f=>!Eh a.rim.length b.rim.length W f)).length*29) (Xs XW 29 ZG ((W.take i).filter (fun f=>!Eh a.rim.length b.rim.length W f)))]⟩) (fun i=>i≤W.length∧((W.take i).filter (fun f=>!Eh a.rim.length b.rim.length W f)).length≤i) (fun i=>W.length - i) 0 ⟨by omega,by simp⟩
  (Sub.trans (Q2 0 rfl) (Sub.trans (Q2 1 rfl) (Sub.trans (Q4 6 29 (Xs XW 29 ZG []) rfl) (Xa rfl (by simp [AS.put,Xh,XI,I]) (by simp [AS.put,Xi]) (by simp [AS.put,XH,Xf,Xo,X4,I]))))) ?_
 rintro i ⟨hi,hil⟩ next
 by_cases hi2:i<W.length
 rotate_left
 ·obtain rfl:i=W.length:=by omega
  rw [List.take_length]
  refine X0 1000 ?_
  simp (disch:=omega) only [XI,XH,Xf,↓Xl,wD,↓X2,wA,seval,wE]
  exact Oc _ rfl rfl rfl
 have nx:=next (i+1)
 rw [MS _ _ W i hi2] at nx
 generalize (W.take i).filter (fun f=>!Eh a.rim.length b.rim.length W f)=D at *
 obtain ⟨n1,n2,n3,n4⟩:=hfin _ (QE (d:=ZG) hi2)
 have v1:=fF W i
 have v2:=nX W i
 have hBe:Eh a.rim.length b.rim.length W (W.getD i ZG)=Eh a.rim.length b.rim.length (W.take W.length) (W.getD i ZG):=by rw [List.take_length]
 rw [hBe] at nx
 generalize W.getD i ZG=f at *
 refine X0 1000 ?_
 simp (disch:=omega) only [XI,XH,Xf,↓Xl,wD,↓X2,wA,seval,wE]
 refine Xg (fun j:Nat=>⟨10,[],[.any,.any,.ref 0 0 0,.ref 1 0 0,.any,HG W,.osl 2 D.length 29 0 D.length,I i,.bool (Eh a.rim.length b.rim.length (W.take j) f),I j],[],[.con 0 25 (Xp (XH a)),.con 0 25 (Xp (XH b)),.row D.length (D.length*29) (Xs XW 29 ZG D)]⟩) (fun j=>j≤W.length) (fun j=>W.length - j) 0 (by omega)
  (Xa rfl (by simp [Xh,XI,Eh,I]) (by simp [Xi]) (by simp [XH,Xf,Xo,X4,I])) ?_
 intro j hj nextj
 by_cases hj2:j<W.length
 rotate_left
 ·obtain rfl:j=W.length:=by omega
  generalize Eh a.rim.length b.rim.length (W.take W.length) f=q at *
  refine X0 1000 ?_
  cases q with
  | true =>
   rw [if_pos rfl,List.append_nil] at nx
   simp (disch:=omega) only [XI,XH,Xf,Bool.not_true,↓Xl,wD,↓X2,wA,seval,wE]
   exact nx _ ⟨by omega,by omega⟩ (by omega) (Xa rfl (by simp [Xh,XI,I]) (by simp [Xi]) (by simp [XH,Xf,Xo,X4,I]))
  | false =>
   rw [if_neg (by decide)] at nx
   have hap:=XO XW 29 ZG D f (by omega)
   have hDl:(D ++ [f]).length=D.length+1:=by simp
   simp (disch:=omega) only [XI,v1,v2,XW,XH,Xf,Bool.not_false,↓Xl,wD,↓X2,wA,seval,wE]
   exact ⟨HY f,nx _ ⟨by omega,by omega⟩ (by omega) (Xa rfl (by simp [Xh,XI,hDl,I]) (by simp [Xi]) (by rw [hDl,← hap]; rfl))⟩
 obtain ⟨m1,m2,m3,m4⟩:=hfin _ (QE (d:=ZG) hj2)
 have cp:=VN a b f (W.getD j ZG) ⟨by omega,by omega⟩ ⟨by omega,by omega⟩ n1 m1 (by unfold vm; omega) (by unfold vm; omega)
 have w1:=fF W j
 have w2:=nX W j
 have nx2:=nextj (j+1)
 rw [fS _ _ W f j hj2] at nx2
 generalize W.getD j ZG=g at *
 generalize Eh a.rim.length b.rim.length (W.take j) f=q at *
 refine X0 1000 ?_
 cases q with
 | true =>
  simp (disch:=omega) only [XI,XH,Xf,↓Xl,wD,↓X2,wA,seval,wE]
  exact nx2 _ (by omega) (by omega) (Xa rfl (by simp [Xh,XI,I]) (by simp [Xi]) (by simp [XH,Xf,Xo,X4,I]))
 | false =>
  simp (disch:=omega) only [XI,v1,v2,w1,w2,XW,XH,Xf,↓Xl,wD,↓X2,wA,seval,wE]
  refine X1 cp rfl ?_
  simp (disch:=omega) only [XI,XH,Xf,↓Xl,wD,↓X2,wA,seval,wE]
  exact nx2 _ (by omega) (by omega) (Xa rfl (by simp [Xh,XI,I]) (by simp [Xi]) (by simp [XH,Xf,Xo,X4,I]))
def KV:Nat→Int×Int→Int×Int
 | 0,p=>p
 | i+1,p=>(-(KV i p).2,(KV i p).1)
theorem Gl (p:Int×Int) (c:Int) (h1:-c≤p.1∧p.1≤c) (h2:-c≤p.2∧p.2≤c):∀ i,(-c≤(KV i p).1∧(KV i p).1≤c)∧(-c≤(KV i p).2∧(KV i p).2≤c)
 | 0=>⟨h1,h2⟩
 | i+1=>by
  have ih:=Gl p c h1 h2 i
  unfold KV
  simp only
  omega
theorem aY (p:Int×Int) (q:Nat) (h1:-1000≤p.1∧p.1≤1000) (h2:-1000≤p.2∧p.2≤1000) (hq:q≤4):Fn Tryz.prog 101 [.agg (Kd p),I q] (.agg (Kd (KV q p))):=by
 obtain ⟨R,hR⟩:∃ R,R=AV.agg (Kd (KV q p)):=⟨_,rfl⟩
 have sR:Settled R:=hR▸Ql (Ko _)
 rw [← hR]
 refine Fq Tryz.call101 Tryz.func101 6 [] [] [] (by simp [X9,Ql (Ko p)]) (X0 1000 ?_)
 simp (disch:=omega) only [AS.start,Kd,↓Xl,wD,↓X2,wA,seval,wE]
 refine Xg (fun i:Nat=>⟨6,[],[.any,I q,.ref 0 0 0,.any,.ref 1 0 0,I i],[],[.row 0 2 (Xp (Kd (KV i p))),.row 0 2 (Xp [I 0,I 0])]⟩) (fun i=>i≤q) (fun i=>q - i) 0 (by omega)
  (Xa rfl (by simp [Xh,I]) (by simp [Xi]) rfl) ?_
 intro i hi next
 have hb:=Gl p 1000 h1 h2 i
 by_cases hi2:i<q
 ·refine X0 1000 ?_
  simp (disch:=omega) only [Kd,↓Xl,wD,↓X2,wA,seval,wE]
  exact next (i+1) _ (by omega) (by omega) (Xa rfl (by simp [Xh,I]) (by simp [Xi]) (by simp [Kd,KV,I]))
 ·obtain rfl:i=q:=by omega
  refine X0 1000 ?_
  simp (disch:=omega) only [Kd,↓Xl,wD,↓X2,wA,seval,wE]
  exact ZQ rfl g9 rfl rfl rfl sR (hR.trans rfl)
theorem LU (l:List (Int×Int)) (hn:QV l) (hl:l.length<1000000):Fn Tryz.prog 100 [Dj l] (.bool (decide (XM (XB l)))):=by
 have hrl:(XB l).length=l.length:=by simp [XB]
 have cv:=CT (XB l) (fun i=>Nat.le_trans (Es hn i) (by omega)) (by omega)
 refine Fq Tryz.call100 Tryz.func100 5 [] [5] [] (by simp [QF]) (X0 1000 ?_)
 simp (disch:=omega) only [AS.start,Xf,↓Xl,wD,↓X2,wA,seval,wE]
 refine Xg (fun k:Nat=>⟨5,[],[Dj l,.any,.any,.osl 0 k 8 0 k,I k],[],[.row k (k*8) (Xs vC 8 v0 (XB (l.take k)))]⟩) (fun k=>k≤l.length) (fun k=>l.length - k) 0 (by omega)
  (Sub.trans (Q4 3 8 (Xs vC 8 v0 []) rfl) (Xa rfl (by simp [AS.put,Xh,Xf,I]) (by simp [AS.put,Xi]) (by simp [AS.put,XB]))) ?_
 intro k hk next
 by_cases hk2:k<l.length
 rotate_left
 ·obtain rfl:k=l.length:=by omega
  rw [List.take_length]
  refine X0 1000 ?_
  simp (disch:=omega) only [Xf,↓Xl,wD,↓X2,wA,seval,wE]
  refine JF cv rfl ⟨?_,trivial⟩ (Aj _) ?_
  ·show JE _ (.osl 0 l.length 8 0 l.length) (Xq (XB l))
   rw [X5,hrl]
   refine Qw (.inl rfl) (by omega) (fun h=>by rw [h]) fun j hj=>?_
   rw [Nat.zero_add]
   exact (Xe (l:=vC ((XB l).getD (j / 8) v0)) (by simp [vC,X7,X3]) _).sees _
  simp (disch:=omega) only [↓Xl,wD,↓X2,wA,seval,wE]
  exact Xu rfl rfl (X3 _) rfl
 have hc:=DH hn k
 have c1:=ZL (l.getD k (0,0)).1 (l.getD k (0,0)).2 ⟨by omega,by omega⟩ ⟨by omega,by omega⟩
 have p1:Xs Kd 2 (0,0) l (k*2)=I (l.getD k (0,0)).1:=Kh _ _ _ _ _ (by omega)
 have p2:Xs Kd 2 (0,0) l (k*2+1)=I (l.getD k (0,0)).2:=K0 _ _ _ _ _ _ (by omega)
 have hap:=XO vC 8 v0 (XB (l.take k)) (Jz (l.getD k (0,0))) (by omega)
 have htk:XB (l.take k) ++ [Jz (l.getD k (0,0))]=XB (l.take (k+1)):=by unfold XB; rw [Q0 l (0,0) k hk2,List.map_append]; rfl
 have hkl:(XB (l.take k)).length=k:=by simp [XB]; omega
 rw [htk,hkl] at hap
 have hpv:(⟨((l.getD k (0,0)).1:Rat),((l.getD k (0,0)).2:Rat)⟩:V2)=Jz (l.getD k (0,0)):=rfl
 rw [hpv] at c1
 refine X0 1000 ?_
 simp (disch:=omega) only [Xf,p1,p2,↓Xl,wD,↓X2,wA,seval,wE]
 refine X1 c1 rfl ?_
 simp (disch:=omega) only [↓Xl,wD,↓X2,wA,seval,wE]
 exact ⟨KX _,next (k+1) _ (by omega) (by omega) (Xa rfl (by simp [Xh,Xf,I]) (by simp [Xi]) (by rw [← hap]; rfl))⟩
def M0 (l:List Int) (at' k:Nat):Bool:=decide (Ab.atF l (at'+2+k:Nat) 16=15)
def F8 (l:List Int) (at' k:Nat):Int:=if 11<Ab.atF l (at'+2+k:Nat) 16 then Ab.atF l (at'+2+k:Nat) 16 - 11 else 0
def Zn (rim:List (Int×Int)) (l:List Int) (at':Nat):PV:=⟨Ab.atF l at' 900,Ab.atF l at' 5,rim,(List.range rim.length).map (M0 l at'),(List.range rim.length).map (F8 l at'),
 RQ.of (Rat.divInt (Ab.atF l (at'+1:Nat) 3) 4),RQ.of (Rat.divInt 1 1),RQ.of (Rat.divInt (1+Ab.atF l at' 3) 1),RQ.of (Rat.divInt 100 1),RQ.of (Rat.divInt 1 2)⟩
theorem SA {m:Nat} {s:AS} (id i:Nat) (b:AV) {ver n:Nat} {f:Nat→AV} (ho:s.h[id]?=some (.row ver n f)) (h:Zy s.h (f i) b):Sub m s { s with h:=s.h.set id (.row ver n (BM f i b)) } :=
 Zt id (BM f i b) ho fun j hj=>by
  unfold BM
  by_cases e:j=i
  ·rw [if_pos e,e]; exact h
  ·rw [if_neg e]; exact QZ _ _
def Ji:List AV:=[I 0,I 0,.sl 0 0 (fun _=>.any) true,.sl 0 0 (fun _=>.any) true,.sl 0 0 (fun _=>.any) true,.bool false,.sl 0 0 (fun _=>.any) true,.bool false,.sl 0 0 (fun _=>.any) true,.bool false,.sl 0 0 (fun _=>.any) true,.bool false,.sl 0 0 (fun _=>.any) true,
 .bool false,.sl 0 0 (fun _=>.any) true,.bool false,.sl 0 0 (fun _=>.any) true,.bool false,.sl 0 0 (fun _=>.any) true,.bool false,.sl 0 0 (fun _=>.any) true,.bool false,.sl 0 0 (fun _=>.any) true,.bool false,.sl 0 0 (fun _=>.any) true]
def FN (id home:Int) (rim:List (Int×Int)) (k:Nat) (t u h s r:Rat):List AV:=[I id,I home,Dj rim,.osl 2 k 1 0 k,.osl 3 k 1 0 k] ++ (qC t ++ (qC u ++ (qC h ++ (qC s ++ qC r))))
theorem Ld {α:Type} (f:Nat→α) (k:Nat):(List.range (k+1)).map f=(List.range k).map f ++ [f k]:=by rw [List.range_succ,List.map_append]; rfl
theorem Vx (rim:List (Int×Int)) (l:List Int) (at':Nat) (hr:rim.length<1000) (hl:BO l) (ha:at'<1000):Fn Tryz.prog 102 [Dj rim,X8 l,I at'] (QW (Zn rim l at')):=by
 obtain ⟨V,hV⟩:∃ V,V=QW (Zn rim l at'):=⟨_,rfl⟩
 rw [← hV]
 have c1:=Qr l at' 900 hl (by omega)
 have c2:=Qr l at' 5 hl (by omega)
 have c3:=Qr l (at'+1:Nat) 3 hl (by omega)
 have c4:=Qr l at' 3 hl (by omega)
 have b3:=XC l (at'+1:Nat) 3 (by omega)
 have b4:=XC l at' 3 (by omega)
 have q1:=Jg (Ab.atF l (at'+1:Nat) 3) 4 ⟨by omega,by omega⟩ ⟨by omega,by omega⟩
 have q2:=Jg 1 1 ⟨by omega,by omega⟩ ⟨by omega,by omega⟩
 have q3:=Jg (1+Ab.atF l at' 3) 1 ⟨by omega,by omega⟩ ⟨by omega,by omega⟩
 have q4:=Jg 100 1 ⟨by omega,by omega⟩ ⟨by omega,by omega⟩
 have q5:=Jg 1 2 ⟨by omega,by omega⟩ ⟨by omega,by omega⟩
 unfold Zn at hV
 generalize Rat.divInt (Ab.atF l (at'+1:Nat) 3) 4=t at *
 generalize Rat.divInt 1 1=u at *
 generalize Rat.divInt (1+Ab.atF l at' 3) 1=h at *
 generalize Rat.divInt 100 1=s at *
 generalize Rat.divInt 1 2=r at *
 generalize Ab.atF l at' 900=id at *
 generalize Ab.atF l at' 5=home at *
 rw [Int.natCast_add] at c3
 refine Fq Tryz.call102 Tryz.func102 11 [] [1] [] (by simp [X9,QF,X7]) (X0 1000 ?_)
 simp (disch:=omega) only [AS.start,Xf,↓Xl,wD,↓X2,wA,seval,wE]
 refine X1 c1 rfl ?_
 simp (disch:=omega) only [↓Xl,wD,↓X2,wA,seval,wE]
 refine X1 c2 rfl ?_
 simp (disch:=omega) only [↓Xl,wD,↓X2,wA,seval,wE]
 refine X1 c3 rfl ?_
 simp (disch:=omega) only [↓Xl,wD,↓X2,wA,seval,wE]
 refine X1 q1 rfl ?_
 simp (disch:=omega) only [↓Xl,wD,↓X2,wA,seval,wE]
 refine X1 q2 rfl ?_
 simp (disch:=omega) only [↓Xl,wD,↓X2,wA,seval,wE]
 refine X1 c4 rfl ?_
 simp (disch:=omega) only [↓Xl,wD,↓X2,wA,seval,wE]
 refine X1 q3 rfl ?_
 simp (disch:=omega) only [↓Xl,wD,↓X2,wA,seval,wE]
 refine X1 q4 rfl ?_
 simp (disch:=omega) only [↓Xl,wD,↓X2,wA,seval,wE]
 refine X1 q5 rfl ?_
 simp (disch:=omega) only [↓Xl,wD,↓X2,wA,seval,wE]
 refine Xg (fun k:Nat=>⟨11,[],[Dj rim,X8 l,I at',.any,.any,.any,.ref 0 0 0,.ref 1 0 0,I k,.any,.any],[],[.row 0 25 (Xp Ji),.row 0 25 (Xp (FN id home rim k t u h s r)),.row k k (Q8 AV.bool false ((List.range k).map (M0 l at'))),.row k k (Q8 I 0 ((List.range k).map (F8 l at')))]⟩) (fun k=>k≤rim.length) (fun k=>rim.length - k) 0 (by omega)
  (Sub.trans (Ie (Q8 AV.bool false [])) (Sub.trans (Ie (Q8 I 0 [])) (Sub.trans (SA 1 3 (.osl 2 0 1 0 0) rfl (Be rfl)) (Sub.trans (SA 1 4 (.osl 3 0 1 0 0) rfl (Be rfl)) (Xa rfl (by simp [Xh,Xf,X4,I]) (by simp [Xi]) (by simp [Ji,FN,qC,OS,Xf,X4,I,sg])))))) ?_
 intro k hk next
 by_cases hk2:k<rim.length
 rotate_left
 ·obtain rfl:k=rim.length:=by omega
  refine X0 1000 ?_
  simp (disch:=omega) only [Ji,FN,qC,Xf,X4,↓Xl,wD,↓X2,wA,seval,wE]
  subst hV
  refine DQ (L:=FN id home rim rim.length t u h s r) rfl FM rfl rfl rfl ?_
  have h2:∀ H:List AO,H[2]?=some (.row rim.length rim.length (Q8 AV.bool false ((List.range rim.length).map (M0 l at'))))→JE H (.osl 2 rim.length 1 0 rim.length) (ZT ((List.range rim.length).map (M0 l at'))):=fun H ho=>by
   rw [Xo,List.length_map,List.length_range]
   refine Qw (.inl ho) (by omega) (fun h=>h) fun j hj=>?_
   rw [Nat.zero_add]
   exact (X3 _).sees _
  have h3:∀ H:List AO,H[3]?=some (.row rim.length rim.length (Q8 I 0 ((List.range rim.length).map (F8 l at'))))→JE H (.osl 3 rim.length 1 0 rim.length) (X8 ((List.range rim.length).map (F8 l at'))):=fun H ho=>by
   rw [X4,List.length_map,List.length_range]
   refine Qw (.inl ho) (by omega) (fun h=>h) fun j hj=>?_
   rw [Nat.zero_add]
   exact (X9 _).sees _
  exact Zr ⟨(X9 _).sees _,(X9 _).sees _,(QF _).sees _,h2 _ rfl,h3 _ rfl,(X3 _).sees _,(X7 _).sees _,(X3 _).sees _,(X7 _).sees _,(X3 _).sees _,(X7 _).sees _,(X3 _).sees _,(X7 _).sees _,(X3 _).sees _,(X7 _).sees _,(X3 _).sees _,(X7 _).sees _,(X3 _).sees _,(X7 _).sees _,(X3 _).sees _,(X7 _).sees _,(X3 _).sees _,(X7 _).sees _,(X3 _).sees _,(X7 _).sees _,trivial⟩
 have c5:=Qr l (at'+2+k:Nat) 16 hl (by omega)
 have b5:=XC l (at'+2+k:Nat) 16 (by omega)
 have nx:=next (k+1)
 rw [Ld,Ld] at nx
 have e1:M0 l at' k=decide (Ab.atF l (at'+2+k:Nat) 16=15):=rfl
 have e2:F8 l at' k=if 11<Ab.atF l (at'+2+k:Nat) 16 then Ab.atF l (at'+2+k:Nat) 16 - 11 else 0:=rfl
 rw [e1,e2] at nx
 generalize Ab.atF l (at'+2+k:Nat) 16=n at *
 rw [show ((at'+2+k:Nat):Int)=(at':Int)+2+k by omega] at c5
 have hW:((List.range k).map (M0 l at')).length=k:=by simp
 have hM:((List.range k).map (F8 l at')).length=k:=by simp
 generalize (List.range k).map (M0 l at')=W at *
 generalize (List.range k).map (F8 l at')=M at *
 have hap1:=It AV.bool false W (decide (n=15))
 rw [hW,Nat.mul_one] at hap1
 refine X0 1000 ?_
 simp (disch:=omega) only [FN,qC,Xf,X4,List.cons_append,List.nil_append,↓Xl,wD,↓X2,wA,seval,wE]
 refine X1 c5 rfl ?_
 by_cases hn:11<n
 ·have hap2:=Cz M (n - 11)
  rw [if_pos hn] at nx
  rw [hM] at hap2
  simp (disch:=omega) only [FN,qC,Xf,X4,List.cons_append,List.nil_append,↓Xl,wD,↓X2,wA,seval,wE]
  exact nx _ (by omega) (by omega) (Xa rfl (by simp [Xh,Xf,X4,I]) (by simp [Xi]) (by rw [← hap1,← hap2]; simp [Ji,FN,qC,Xf,X4,I,sg]))
 ·have hap2:=Cz M 0
  rw [if_neg hn] at nx
  rw [hM] at hap2
  simp (disch:=omega) only [FN,qC,Xf,X4,List.cons_append,List.nil_append,↓Xl,wD,↓X2,wA,seval,wE]
  exact nx _ (by omega) (by omega) (Xa rfl (by simp [Xh,Xf,X4,I]) (by simp [Xi]) (by rw [← hap1,← hap2]; simp [Ji,FN,qC,Xf,X4,I,sg,show ¬ n=15 by omega]))
structure Iso (g h:V2→V2):Prop where
 sub:∀ a b,(g a).sub (g b)=h (a.sub b)
 cr:∀ u v,Qo (h u) (h v)=Qo u v
 dt:∀ u v,Q7 (h u) (h v)=Q7 u v
 tn:∀ u,(h u).turned=h u.turned
theorem jV (g:V2→V2) (L:List V2) (h:0<L.length) (i:Nat):atF (L.map g) i=g (atF L i):=by
 unfold atF
 have hlt:=Nat.mod_lt i h
 rw [List.length_map,List.getD_eq_getElem?_getD,List.getElem?_map,List.getD_eq_getElem?_getD,List.getElem?_eq_getElem hlt]; rfl
theorem fZ {g h:V2→V2} (I:Iso g h) (a b c:V2):Je (g a) (g b) (g c)=Je a b c:=by unfold Je; rw [I.sub,I.sub,I.cr]
theorem Vk (n a b:V2):Q7 n a - Q7 n b=Q7 n (a.sub b):=by unfold Q7 V2.sub; grind
theorem qk {g h:V2→V2} (I:Iso g h) (n a b:V2):(Q7 (h n) (g a)<Q7 (h n) (g b))↔(Q7 n a<Q7 n b):=by
 have e1:=Vk (h n) (g a) (g b)
 have e2:=Vk n a b
 rw [I.sub,I.dt] at e1
 constructor <;> intro hh <;> grind
theorem Rk {g h:V2→V2} (I:Iso g h) (n a b c d:V2):Ka (h n) (g a) (g b) (g c) (g d)=Ka n a b c d:=by
 unfold Ka He
 simp only [qk I]
theorem fV {g h:V2→V2} (I:Iso g h) (a b c d:V2) (i:Nat):De (g a) (g b) (g c) (g d) i=h (De a b c d i):=by
 unfold De
 split <;> simp only [I.sub,I.tn]
theorem Rl {g h:V2→V2} (I:Iso g h) (L:List V2) (hp:XM L) (ha:Zi (L.map g)=Zi L):XM (L.map g):=by
 obtain ⟨h1,h2,h3⟩:=hp
 have hl:0<L.length:=by omega
 have hat:=jV g L hl
 refine ⟨by rw [List.length_map]; exact h1,fun i hi=>?_,by rw [ha]; exact h3⟩
 rw [List.length_map] at hi
 obtain ⟨k1,k2⟩:=h2 i hi
 refine ⟨fun hb=>k1 ?_,fun k hk hg=>k2 k (by rw [List.length_map] at hk; exact hk) ?_⟩
 ·unfold Fw at hb ⊢
  rw [hat,hat,hat,fZ I] at hb
  exact hb
 ·obtain ⟨q1,q2,q3⟩:=hg
  rw [List.length_map] at q1 q2
  refine ⟨q1,q2,fun j hj=>?_⟩
  have:=q3 j hj
  rw [hat,hat,hat,hat,fV I,Rk I] at this
  exact this
theorem quart_iso:Iso B6 B6:=⟨fun a b=>by unfold B6 V2.sub; rw [V2.ext']; exact ⟨by simp only; grind,rfl⟩,fun u v=>by unfold B6 Qo; grind,fun u v=>by unfold B6 Q7; grind,fun u=>by unfold B6 V2.turned; rfl⟩
theorem jN (t:V2):Iso (fun a=>a.add t) id:=⟨fun a b=>by unfold V2.add V2.sub; rw [V2.ext']; exact ⟨by simp only [id]; grind,by simp only [id]; grind⟩,fun _ _=>rfl,fun _ _=>rfl,fun _=>rfl⟩
theorem FO (g:V2→V2) (L:List V2) (i:Nat) (h:i<L.length):(L.map g).getD i v0=g (L.getD i v0):=by
 rw [List.getD_eq_getElem?_getD,List.getElem?_map,List.getD_eq_getElem?_getD,List.getElem?_eq_getElem h]; rfl
theorem Tw (L:List V2) (h:0<L.length):Zi (L.map B6)=Zi L:=by
 have key:∀ n,n≤L.length→KE (L.map B6) n=KE L n:=fun n=>by
  induction n with
  | zero=>intro _; rfl
  | succ n ih =>
   intro hn
   unfold KE
   rw [ih (by omega),List.length_map,FO _ _ _ (by omega),FO _ _ _ (Nat.mod_lt _ h),quart_iso.cr]
 unfold Zi
 rw [List.length_map,key _ (Nat.le_refl _)]
theorem dF (t:V2) (L:List V2) (h:0<L.length):Zi (L.map fun a=>a.add t)=Zi L:=by
 have key:∀ n,n≤L.length→KE (L.map fun a=>a.add t) n=KE L n+Qo t ((L.getD (n % L.length) v0).sub (L.getD 0 v0)):=fun n=>by
  induction n with
  | zero=>intro _; rw [Nat.zero_mod]; unfold KE Qo V2.sub; grind
  | succ n ih =>
   intro hn
   have hm:n % L.length=n:=Nat.mod_eq_of_lt (by omega)
   unfold KE
   rw [ih (by omega),List.length_map,FO _ _ _ (by omega),FO _ _ _ (Nat.mod_lt _ h),hm]
   generalize L.getD n v0=p
   generalize L.getD ((n+1) % L.length) v0=q
   generalize L.getD 0 v0=o
   unfold Qo V2.sub V2.add
   grind
 unfold Zi
 rw [List.length_map,key _ (Nat.le_refl _),Nat.mod_self]
 have:Qo t ((L.getD 0 v0).sub (L.getD 0 v0))=0:=by unfold Qo V2.sub; grind
 rw [this,Rat.add_zero]
theorem Hi (L:List V2) (hp:XM L):∀ q,XM (L.map (Kr q))
 | 0=>by
  have:L.map (Kr 0)=L:=by
   have e:Kr 0=id:=rfl
   rw [e,List.map_id]
  rw [this]; exact hp
 | q+1=>by
  have ih:=Hi L hp q
  have e:L.map (Kr (q+1))=(L.map (Kr q)).map B6:=by rw [List.map_map]; rfl
  rw [e]
  exact Rl quart_iso _ ih (Tw _ (by have:=ih.1; omega))
theorem gR (t:V2) (L:List V2) (hp:XM L):XM (L.map fun a=>a.add t):=Rl (jN t) L hp (dF t L (by have:=hp.1; omega))
def qw (q:Nat) (d p:Int×Int):Int×Int:=((KV q p).1+d.1,(KV q p).2+d.2)
theorem gT (q:Nat) (p:Int×Int):Jz (KV q p)=Kr q (Jz p):=by
 induction q with
 | zero=>rfl
 | succ q ih =>
  show (⟨((-(KV q p).2:Int):Rat),((KV q p).1:Rat)⟩:V2)=B6 (Kr q (Jz p))
  rw [← ih]
  unfold Jz B6
  rw [V2.ext']
  exact ⟨by simp,rfl⟩
theorem mr (R:List (Int×Int)) (q:Nat) (d:Int×Int) (h:XM (XB R)):XM (XB (R.map (qw q d))):=by
 have h1:=gR (Jz d) _ (Hi _ h q)
 have e:XB (R.map (qw q d))=((XB R).map (Kr q)).map fun a=>a.add (Jz d):=by
  unfold XB
  rw [List.map_map,List.map_map,List.map_map]
  refine List.map_congr_left fun p _=>?_
  show Jz (qw q d p)=(Kr q (Jz p)).add (Jz d)
  rw [← gT]
  unfold qw Jz V2.add
  rw [V2.ext']
  exact ⟨by simp,by simp⟩
 rw [e]; exact h1
end
end Go.Ab.N
namespace Go.Ab.N
open Go Go.RowKit Go.Proofs
noncomputable section
set_option maxRecDepth 10000
set_option maxHeartbeats 4000000
def sn (L:List V2) (i k:Nat):Bool:=decide (1<(k+L.length - i) % L.length) && decide ((k+L.length - i) % L.length<L.length - 1) &&
 (List.range 5).all fun j=>!Ka (De (atF L i) (atF L (i+1)) (atF L k) (atF L (k+1)) j) (atF L i) (atF L (i+1)) (atF L k) (atF L (k+1))
def DN (L:List V2):Bool:=decide (3≤L.length) && decide (L.length≤12) && ((List.range L.length).all fun i=>!decide (Je (atF L i) (atF L (i+1)) (atF L (i+2))=0) && (List.range L.length).all fun k=>!sn L i k) && decide (0<(Zi L).num.sign)
theorem DO (L:List V2) (h:DN L=true):XM L:=by
 unfold DN at h
 simp only [Bool.and_eq_true,decide_eq_true_eq,List.all_eq_true,List.mem_range,Bool.not_eq_true',decide_eq_false_iff_not] at h
 obtain ⟨⟨⟨h1,h2⟩,h3⟩,h4⟩:=h
 refine ⟨⟨h1,h2⟩,fun i hi=>⟨(h3 i hi).1,fun k hk hg=>?_⟩,h4⟩
 have:=(h3 i hi).2 k hk
 obtain ⟨q1,q2,q3⟩:=hg
 unfold sn at this
 rw [decide_eq_true q1,decide_eq_true q2,Bool.true_and,Bool.true_and] at this
 rw [List.all_eq_true.2] at this
 ·cases this
 ·intro j hj
  rw [q3 j (List.mem_range.1 hj)]; rfl
def gY (x y h:Int):List (Int×Int):=[(0,0),(x,0),(y,h),(0,h)]
def i9 (w x y h:Int):List (Int×Int):=[(x,0),(w,0),(w,h),(y,h)]
theorem mz:((List.range 4).all fun h=>(List.range 6).all fun x=>(List.range 6).all fun y=>DN (XB (gY (1+x) (1+y) (3+h))))=true:=by decide +kernel
theorem mA:((List.range 4).all fun w=>(List.range 4).all fun h=>(List.range 6).all fun x=>(List.range 6).all fun y=>!(decide (x<w+3) && decide (y<w+3)) || DN (XB (i9 (4+w) (1+x) (1+y) (3+h))))=true:=by decide +kernel
theorem gZ (x y h:Int) (hx:1≤x∧x≤6) (hy:1≤y∧y≤6) (hh:3≤h∧h≤6):XM (XB (gY x y h)):=by
 have h1:=mz
 simp only [List.all_eq_true,List.mem_range] at h1
 have h2:=h1 (h - 3).toNat (by omega) (x - 1).toNat (by omega) (y - 1).toNat (by omega)
 rw [show (1:Int)+((x - 1).toNat:Nat)=x by omega,show (1:Int)+((y - 1).toNat:Nat)=y by omega,show (3:Int)+((h - 3).toNat:Nat)=h by omega] at h2
 exact DO _ h2
theorem ia (w x y h:Int) (hw:4≤w∧w≤7) (hx:1≤x∧x<w) (hy:1≤y∧y<w) (hh:3≤h∧h≤6):XM (XB (i9 w x y h)):=by
 have h1:=mA
 simp only [List.all_eq_true,List.mem_range] at h1
 have h2:=h1 (w - 4).toNat (by omega) (h - 3).toNat (by omega) (x - 1).toNat (by omega) (y - 1).toNat (by omega)
 rw [show (4:Int)+((w - 4).toNat:Nat)=w by omega,show (1:Int)+((x - 1).toNat:Nat)=x by omega,show (1:Int)+((y - 1).toNat:Nat)=y by omega,show (3:Int)+((h - 3).toNat:Nat)=h by omega] at h2
 rw [Bool.or_eq_true] at h2
 rcases h2 with h2 | h2
 ·rw [decide_eq_true (show (x - 1).toNat<(w - 4).toNat+3 by omega),decide_eq_true (show (y - 1).toNat<(w - 4).toNat+3 by omega)] at h2
  cases h2
 ·exact DO _ h2
end
end Go.Ab.N
namespace Go.Ab.N
open Go Go.RowKit Go.Proofs
noncomputable section
set_option maxRecDepth 10000
set_option maxHeartbeats 4000000
open Classical
theorem di {a b:List (Int×Int)} {f:FV} {e:Rat} (h:(XG a b f e).2.2=true) :
  Bc a.length b.length f∧D4 f.turn∧XG a b f e=((Am a b f f.M.toNat).sub ⟨e,e⟩,(Ak a b f f.M.toNat).add ⟨e,e⟩,true)∧(Am a b f f.M.toNat).x - e≤(Ak a b f f.M.toNat).x+e∧(Am a b f f.M.toNat).y - e≤(Ak a b f f.M.toNat).y+e:=by
 by_cases g:Bc a.length b.length f∧D4 f.turn
 ·by_cases g2:((Ak a b f f.M.toNat).add ⟨e,e⟩).x<((Am a b f f.M.toNat).sub ⟨e,e⟩).x∨((Ak a b f f.M.toNat).add ⟨e,e⟩).y<((Am a b f f.M.toNat).sub ⟨e,e⟩).y
  ·exfalso
   unfold XG at h; rw [if_pos g] at h; simp only at h; rw [if_pos g2] at h; cases h
  ·refine ⟨g.1,g.2,?_,?_⟩
   ·unfold XG; rw [if_pos g]; simp only; rw [if_neg g2]
   ·simp only [not_or,Rat.not_lt] at g2; exact g2
 ·unfold XG at h; rw [if_neg g] at h; cases h
theorem IU {p:V2→Bool}:∀ {s:List V2},(FE p s).2=true↔∃ x∈s,p x=true
 | []=>by simp [FE]
 | x :: l=>by
  have ih:=IU (p:=p) (s:=l)
  show ((if p x=true then (x,true) else FE p l).2=true)↔_
  by_cases h:p x=true
  ·rw [if_pos h]; simp [h]
  ·rw [if_neg h,ih]; simp [h]
theorem HT (a b:PV) (f:FV) (e:Rat):Bm a b f e=0↔Bc a.rim.length b.rim.length f∧Ey a b f∧Tt a b f∧((XG a.rim b.rim f e).2.2=true∧(XG a.rim b.rim f e).1=f.lo∧(XG a.rim b.rim f e).2.1=f.hi)∧KK a b f e=true:=by
 unfold Bm
 by_cases h1:Bc a.rim.length b.rim.length f
 rotate_left
 ·rw [if_neg h1]; exact ⟨fun h=>absurd h (by decide),fun h=>absurd h.1 h1⟩
 rw [if_pos h1]
 by_cases h2:Ey a b f
 rotate_left
 ·rw [if_neg h2]; exact ⟨fun h=>absurd h (by decide),fun h=>absurd h.2.1 h2⟩
 rw [if_pos h2]
 by_cases h3:Tt a b f
 rotate_left
 ·rw [if_neg h3]; exact ⟨fun h=>absurd h (by decide),fun h=>absurd h.2.2.1 h3⟩
 rw [if_pos h3]
 by_cases h4:(XG a.rim b.rim f e).2.2=true∧(XG a.rim b.rim f e).1=f.lo∧(XG a.rim b.rim f e).2.1=f.hi
 rotate_left
 ·rw [if_neg h4]; exact ⟨fun h=>absurd h (by decide),fun h=>absurd h.2.2.2.1 h4⟩
 rw [if_pos h4]
 by_cases h5:KK a b f e=true
 ·rw [if_pos h5]; exact ⟨fun _=>⟨h1,h2,h3,h4,h5⟩,fun _=>rfl⟩
 ·rw [if_neg h5]; exact ⟨fun h=>absurd h (by decide),fun h=>absurd h.2.2.2.2 h5⟩
theorem H5 {a b:PV} {e:Rat} {f:FV} (h:f∈BI a b e) (ha:0<a.rim.length) (hb:0<b.rim.length):Bm a b f e=0:=by
 obtain ⟨i,j,k,t,hi,hj,k0,kn,km,hp,ht,ho,rfl⟩:=(Dl a b e f ha hb).1 h
 unfold FF at ho
 rw [Bool.and_eq_true] at ho
 obtain ⟨o1,o2⟩:=ho
 rw [Av] at ht
 obtain ⟨k',q1,q2,q3⟩:=ht
 rw [HT]
 refine ⟨?_,hp,⟨k',?_,q2,q3⟩,⟨o1,rfl,rfl⟩,o2⟩
 ·show (0≤(i:Int)∧(i:Int)<a.rim.length)∧(0≤(j:Int)∧(j:Int)<b.rim.length)∧1≤(k:Int)∧(k:Int)<a.rim.length∧(k:Int)<b.rim.length
  omega
 ·show k'<((k:Nat):Int).toNat
  omega
theorem Vy (R:List (Int×Int)) (l:List Int) (p:Nat) (hn:QV R) (hp:XM (XB R)):GP (Zn R l p) (Rat.divInt (Ab.atF l (p+1:Nat) 3) 4)∧(Zn R l p).small∧qb (Rat.divInt (Ab.atF l (p+1:Nat) 3) 4)≤3:=by
 have b1:=XC l (p+1:Nat) 3 (by omega)
 have b2:=XC l p 3 (by omega)
 have q:=DL (Ab.atF l (p+1:Nat) 3) 4 ⟨by omega,by omega⟩ ⟨by omega,by omega⟩
 have hl:R.length≤12:=by have:=hp.1; simp [XB] at this; omega
 have z:=fun (n m:Int) (h1:ZY n) (h2:ZY m)=>iE n m h1 h2
 refine ⟨⟨⟨by show R.length<_; omega,by simp [Zn],by simp [Zn],hn⟩,hp,rfl,by omega⟩,⟨by show R.length<_; omega,by simp [Zn]; omega,by simp [Zn]; omega,?_,?_,?_,?_,?_⟩,q⟩
 ·exact Nat.le_trans (z (Ab.atF l (p+1:Nat) 3) 4 ⟨by omega,by omega⟩ ⟨by omega,by omega⟩) (by omega)
 ·exact Nat.le_trans (z 1 1 ⟨by omega,by omega⟩ ⟨by omega,by omega⟩) (by omega)
 ·exact Nat.le_trans (z (1+Ab.atF l p 3) 1 ⟨by omega,by omega⟩ ⟨by omega,by omega⟩) (by omega)
 ·exact Nat.le_trans (z 100 1 ⟨by omega,by omega⟩ ⟨by omega,by omega⟩) (by omega)
 ·exact Nat.le_trans (z 1 2 ⟨by omega,by omega⟩ ⟨by omega,by omega⟩) (by omega)
theorem MV {α:Type} (C:α→List AV) (s:Nat) (d:α) (hs:0<s) (hC:∀ a,(C a).length=s):∀ (L:List α) (j:Nat),j<L.length*s→Xp (L.flatMap C) j=Xs C s d L j
 | [],j,h=>by simp at h
 | a :: L,j,h=>by
  unfold Xs Xp
  rw [List.flatMap_cons,List.getD_eq_getElem?_getD]
  by_cases hj:j<s
  ·rw [Nat.div_eq_of_lt hj,Nat.mod_eq_of_lt hj,List.getElem?_append_left (by rw [hC]; exact hj),← List.getD_eq_getElem?_getD]; rfl
  ·obtain ⟨i,rfl⟩:∃ i,j=s+i:=⟨j - s,by omega⟩
   have hi:i<L.length*s:=by
    rw [List.length_cons,Nat.succ_mul] at h; omega
   have ih:=MV C s d hs hC L i hi
   unfold Xs Xp at ih
   rw [Nat.add_div_left i hs,Nat.add_mod_left,List.getElem?_append_right (by rw [hC]; omega),hC,Nat.add_sub_cancel_left,← List.getD_eq_getElem?_getD,ih]; rfl
def QC (l:List Int) (W H M k:Nat):Int×Int:=(1+Ab.atF l (3+k:Nat) ((W:Int) - 1),if k=M then (H:Int) else k)
def JG (l:List Int) (W H M:Nat):List (Int×Int):=(List.range (M+1)).map (QC l W H M)
def Jb (l:List Int) (W H M:Nat):List (Int×Int):=(0,0) :: JG l W H M ++ [(0,(H:Int))]
def Z3 (l:List Int) (W H M i:Nat):List (Int×Int):=[QC l W H M 0,((W:Int),0),((W:Int),(H:Int))] ++ (List.range i).map fun i=>QC l W H M (M - i)
def Jt (l:List Int) (W H M:Nat):List (Int×Int):=Z3 l W H M M
def Pp (l:List Int):Int×Int:=(Ab.atF l 8 9 - 4,Ab.atF l 9 9 - 4)
def aB (l:List Int):Nat:=(Ab.atF l 7 4).toNat
def A7 (l:List Int) (W H M:Nat):List (Int×Int):=(Jt l W H M).map (qw (aB l) (Pp l))
def DK (l:List Int):V2:=Kr ((4 - aB l) % 4) KH
def DJ (l:List Int):V2:=v0.sub (LB (DK l) (Jz (Pp l)))
def I4 (l:List Int) (M:Nat):FV:=⟨0,1,1,(M+2:Nat),M,DK l,DJ l,DJ l⟩
def jp (a b:PV) (f:FV):List AV:=XH a ++ (XH b ++ XW f)
def Z4:List AV:=[I 0,I 0,I 0,I 0,I 0] ++ (XP ++ (XP ++ XP))
theorem Pv (l:List Int) (W H M k:Nat) (h:k≤M):(JG l W H M).getD k (0,0)=QC l W H M k:=Et _ _ _ _ (by omega)
theorem Pw (l:List Int) (W H M k:Nat) (hW:4≤W∧W≤7) (hH:H≤6) (hk:k≤3):(1≤(QC l W H M k).1∧(QC l W H M k).1<W)∧0≤(QC l W H M k).2∧(QC l W H M k).2≤6:=by
 have:=XC l (3+k:Nat) ((W:Int) - 1) (by omega)
 unfold QC
 simp only
 refine ⟨by omega,?_⟩
 split <;> omega
theorem kQ (C:List (Int×Int)) (x y:Int×Int) (j:Nat) (h:j<C.length):(x :: C ++ [y]).getD (j+1) (0,0)=C.getD j (0,0):=by
 rw [List.getD_eq_getElem?_getD,List.getD_eq_getElem?_getD,List.cons_append,List.getElem?_cons_succ,List.getElem?_append_left h]
theorem YF (C:List (Int×Int)) (h:Int) (j:Nat) (hj:j<(C.length+2)*2):QN ((1+C.length)*2) (QN 2 (Xp [I 0,I 0]) (C.length*2) (Xs Kd 2 (0,0) C)) 2 (Xp [I 0,I h]) j=Xs Kd 2 (0,0) ((0,0) :: C ++ [(0,h)]) j:=by
 unfold QN Xs
 by_cases h1:j<(1+C.length)*2
 ·rw [if_pos h1]
  by_cases h2:j<2
  ·rw [if_pos h2]
   match j,h2 with
   | 0,_=>rfl
   | 1,_=>rfl
  ·rw [if_neg h2,if_pos (by omega)]
   obtain ⟨i,rfl⟩:∃ i,j=i+2:=⟨j - 2,by omega⟩
   rw [show (i+2) / 2=i / 2+1 by omega,show (i+2) % 2=i % 2 by omega,show i+2 - 2=i by omega,kQ C (0,0) (0,h) (i / 2) (by omega)]
 ·rw [if_neg h1,if_pos (by omega)]
  have e:((0,0) :: C ++ [(0,h)]).getD (j / 2) (0,0)=(0,h):=by
   rw [show j / 2=C.length+1 by omega,List.getD_eq_getElem?_getD,List.cons_append,List.getElem?_cons_succ,List.getElem?_append_right (Nat.le_refl _),Nat.sub_self]; rfl
  rw [e]
  obtain ⟨i,hi,rfl⟩:∃ i,i<2∧j=(1+C.length)*2+i:=⟨j - (1+C.length)*2,by omega,by omega⟩
  rw [Nat.add_sub_cancel_left,show ((1+C.length)*2+i) % 2=i by omega]
  match i,hi with
  | 0,_=>rfl
  | 1,_=>rfl
theorem UA (a b c d:Int×Int) (j:Nat) (hj:j<8):QN 6 (Xp (Kd a ++ (Kd b ++ Kd c))) 2 (Xp (Kd d)) j=Xs Kd 2 (0,0) [a,b,c,d] j:=by
 match j,hj with
 | 0,_=>rfl
 | 1,_=>rfl
 | 2,_=>rfl
 | 3,_=>rfl
 | 4,_=>rfl
 | 5,_=>rfl
 | 6,_=>rfl
 | 7,_=>rfl
def FQ (g:Int×Int→Int×Int) (S:List (Int×Int)) (k:Nat):List (Int×Int):=(S.take k).map g ++ S.drop k
theorem VA (g:Int×Int→Int×Int) (S:List (Int×Int)) (k:Nat) (h:k<S.length):(FQ g S k).getD k (0,0)=S.getD k (0,0):=by
 unfold FQ
 rw [List.getD_eq_getElem?_getD,List.getElem?_append_right (by simp; omega),List.getD_eq_getElem?_getD]
 simp [Nat.min_eq_left (Nat.le_of_lt h)]
theorem gm (g:Int×Int→Int×Int) (S:List (Int×Int)) (k:Nat) (h:k≤S.length):(FQ g S k).length=S.length:=by unfold FQ; simp; omega
theorem gn (g:Int×Int→Int×Int) (S:List (Int×Int)) (k:Nat) (h:k<S.length):(FQ g S k).set k (g (S.getD k (0,0)))=FQ g S (k+1):=by
 refine List.ext_getElem? fun j=>?_
 unfold FQ
 rw [List.getElem?_set]
 by_cases hj:k=j
 ·subst hj
  rw [if_pos rfl,if_pos (by simp; omega),List.getElem?_append_left (by simp; omega),List.getElem?_map,List.getElem?_take,if_pos (by omega),List.getElem?_eq_getElem h,List.getD_eq_getElem?_getD,List.getElem?_eq_getElem h]; rfl
 ·rw [if_neg hj]
  by_cases hlt:j<k
  ·rw [List.getElem?_append_left (by simp; omega),List.getElem?_append_left (by simp; omega),List.getElem?_map,List.getElem?_map,List.getElem?_take,List.getElem?_take,if_pos hlt,if_pos (by omega)]
  ·rw [List.getElem?_append_right (by simp; omega),List.getElem?_append_right (by simp; omega),List.getElem?_drop,List.getElem?_drop]
   congr 1
   simp; omega
theorem sN (l:List (Int×Int)) (k:Nat) (x:Int×Int) (hk:k<l.length):BM (BM (Xs Kd 2 (0,0) l) (k*2) (I x.1)) (k*2+1) (I x.2)=Xs Kd 2 (0,0) (l.set k x):=by
 funext j
 have e:(l.set k x).getD k (0,0)=x:=by rw [List.getD_eq_getElem?_getD,List.getElem?_set_self hk]; rfl
 unfold BM Xs
 by_cases h1:j=k*2+1
 ·rw [if_pos h1,h1,show (k*2+1) / 2=k by omega,show (k*2+1) % 2=1 by omega,e]; rfl
 ·rw [if_neg h1]
  by_cases h2:j=k*2
  ·rw [if_pos h2,h2,show (k*2) / 2=k by omega,show (k*2) % 2=0 by omega,e]; rfl
  ·rw [if_neg h2]
   have:(l.set k x).getD (j / 2) (0,0)=l.getD (j / 2) (0,0):=by rw [List.getD_eq_getElem?_getD,List.getElem?_set_ne (by omega),List.getD_eq_getElem?_getD]
   rw [this]
theorem F1 (l:List Int) (W H M:Nat) (hW:4≤W∧W≤7) (hH:H≤6) (hM:M≤3) (k:Nat) (hk:k≤M):(0≤(QC l W H M k).1∧(QC l W H M k).1≤7)∧0≤(QC l W H M k).2∧(QC l W H M k).2≤7:=by
 have:=Pw l W H M k hW hH (by omega)
 omega
theorem IV (l:List Int) (W H M:Nat) (hW:4≤W∧W≤7) (hH:H≤6) (hM:M≤3):QV (Jb l W H M):=fun c hc=>by
 unfold Jb at hc
 rw [List.mem_append,List.mem_cons,List.mem_singleton] at hc
 rcases hc with (rfl | hc) | rfl
 ·exact ⟨⟨by decide,by decide⟩,⟨by decide,by decide⟩⟩
 ·obtain ⟨k,hk,rfl⟩:=List.mem_map.1 hc
  have:=F1 l W H M hW hH hM k (by have:=List.mem_range.1 hk; omega)
  omega
 ·show (-65536≤(0:Int)∧(0:Int)≤65536)∧(-65536≤(H:Int)∧(H:Int)≤65536)
  omega
theorem Ht (l:List Int) (W H M:Nat) (hW:4≤W∧W≤7) (hH:H≤6) (hM:M≤3):∀ c∈Jt l W H M,(0≤c.1∧c.1≤7)∧0≤c.2∧c.2≤7:=fun c hc=>by
 unfold Jt Z3 at hc
 simp only [List.mem_append,List.mem_cons,List.not_mem_nil,or_false,List.mem_map,List.mem_range] at hc
 rcases hc with (rfl | rfl | rfl) | ⟨k,hk,rfl⟩
 ·exact F1 l W H M hW hH hM 0 (by omega)
 ·show (0≤(W:Int)∧(W:Int)≤7)∧0≤(0:Int)∧(0:Int)≤7
  omega
 ·show (0≤(W:Int)∧(W:Int)≤7)∧0≤(H:Int)∧(H:Int)≤7
  omega
 ·exact F1 l W H M hW hH hM (M - k) (by omega)
theorem Hy (l:List Int) (W H M:Nat) (hW:4≤W∧W≤7) (hH:H≤6) (hM:M≤3):QV (A7 l W H M):=fun c hc=>by
 obtain ⟨p,hp,rfl⟩:=List.mem_map.1 hc
 have h1:=Ht l W H M hW hH hM p hp
 have h2:=Gl p 7 (by omega) (by omega) (aB l)
 have b8:=XC l 8 9 (by omega)
 have b9:=XC l 9 9 (by omega)
 show (-65536≤(KV (aB l) p).1+(Ab.atF l 8 9 - 4)∧(KV (aB l) p).1+(Ab.atF l 8 9 - 4)≤65536)∧(-65536≤(KV (aB l) p).2+(Ab.atF l 9 9 - 4)∧(KV (aB l) p).2+(Ab.atF l 9 9 - 4)≤65536)
 omega
theorem Li (l:List Int):vb (DK l)≤10∧vb (DJ l)≤100:=by
 have h1:vb (DK l)≤10:=by unfold DK; rw [GX]; exact E0
 have b8:=XC l 8 9 (by omega)
 have b9:=XC l 9 9 (by omega)
 have h2:vb (Jz (Pp l))≤3:=by
  have q1:=Ap (Pp l).1 3 (by omega) (QO (by unfold Pp; simp only; exact ⟨by omega,by omega⟩))
  have q2:=Ap (Pp l).2 3 (by omega) (QO (by unfold Pp; simp only; exact ⟨by omega,by omega⟩))
  unfold vb Jz
  simp only
  omega
 have h3:=D5 (DK l) (Jz (Pp l))
 have h4:=K7 v0 (LB (DK l) (Jz (Pp l)))
 have:=EP
 refine ⟨h1,?_⟩
 unfold DJ
 omega
def HF (l:List Int) (W H:Nat):List Int:=[(W:Int) - 4,(H:Int) - 3,0,Ab.atF l 3 ((W:Int) - 1),Ab.atF l 4 ((W:Int) - 1),0,0,Ab.atF l 7 4]
def Ar (l:List Int) (W H M:Nat) (x9 x10 x11 x12 x13 x14 x16 x17 x18:AV) (r:List AO):AS:=⟨20,[],[X8 l,.any,.ref 0 0 0,I W,I H,I M,.osl 1 (M+1) 2 0 (M+1),.any,.any,x9,x10,x11,x12,x13,x14,.any,x16,x17,x18,.any],[],[.row 0 79 (Xp (Ji ++ (Ji ++ Z4))),.row (M+1) ((M+1)*2) (Xs Kd 2 (0,0) (JG l W H M))] ++ r⟩
theorem OH (l:List Int) (W H M i:Nat):Z3 l W H M (i+1)=Z3 l W H M i ++ [QC l W H M (M - i)]:=by
 unfold Z3; rw [Ld,List.append_assoc]
theorem Hr (l:List Int) (W H M i:Nat):(Z3 l W H M i).length=3+i:=by simp [Z3]; omega
theorem Sl (a b:PV) (f:FV):∀ x∈jp a b f,Settled x:=fun x h=>by
 unfold jp at h
 rw [List.mem_append,List.mem_append] at h
 rcases h with h | h | h
 ·exact XA a x h
 ·exact XA b x h
 ·exact XU f x h
theorem rN (m v n:Nat) (L:List (Int×Int)):XK m (.row v n (Xs Kd 2 (0,0) L))=True:=eq_true fun j _=>X6 (Xe (Ko _) _)
theorem Sp (f:Nat→AV) (t:Bool):Settled (.sl 0 0 f t):=J7 fun j hj=>absurd hj (Nat.not_lt_zero j)
theorem tu (m v n:Nat):XK m (.row v n (Xp (Ji ++ (Ji ++ Z4))))=True:=eq_true fun j _=>X6 (Xe (l:=Ji ++ (Ji ++ Z4)) (by simp [Ji,Z4,XP,X9,X3,Sp]) _)
theorem Lh (l:List Int) (hl:BO l) (W H M:Nat) (hW:(4:Int)+Ab.atF l 0 4=W) (hH:(3:Int)+Ab.atF l 1 4=H) (hM:(1:Int)+Ab.atF l 2 3=M) (A' B':PV) (F':FV)
  (hr:¬ (XM (XB (Jb l W H M))∧XM (XB (Jt l W H M)))→Fn Tryz.prog 28 [X8 (HF l W H)] (.agg (jp A' B' F'))) :
  ∃ A B F,Fn Tryz.prog 28 [X8 l] (.agg (jp A B F))∧(((XM (XB (Jb l W H M))∧XM (XB (Jt l W H M)))∧A=Zn (Jb l W H M) l 10∧B=Zn (A7 l W H M) l 20∧F=I4 l M) ∨
   (¬ (XM (XB (Jb l W H M))∧XM (XB (Jt l W H M)))∧A=A'∧B=B'∧F=F')):=by
 obtain ⟨A,B,F,hABF⟩:∃ A B F,(((XM (XB (Jb l W H M))∧XM (XB (Jt l W H M)))∧A=Zn (Jb l W H M) l 10∧B=Zn (A7 l W H M) l 20∧F=I4 l M) ∨
   (¬ (XM (XB (Jb l W H M))∧XM (XB (Jt l W H M)))∧A=A'∧B=B'∧F=F')):=by
  by_cases h:XM (XB (Jb l W H M))∧XM (XB (Jt l W H M))
  ·exact ⟨_,_,_,.inl ⟨h,rfl,rfl,rfl⟩⟩
  ·exact ⟨_,_,_,.inr ⟨h,rfl,rfl,rfl⟩⟩
 refine ⟨A,B,F,?_,hABF⟩
 obtain ⟨R,hR⟩:∃ R,R=AV.agg (jp A B F):=⟨_,rfl⟩
 have sR:Settled R:=hR▸Ql (Sl A B F)
 rw [← hR]
 have b0:=XC l 0 4 (by omega)
 have b1:=XC l 1 4 (by omega)
 have b2:=XC l 2 3 (by omega)
 have c0:=Qr l 0 4 hl (by omega)
 have c1:=Qr l 1 4 hl (by omega)
 have c2:=Qr l 2 3 hl (by omega)
 refine Fq Tryz.call28 Tryz.func28 20 [] [37,380000013,380000017] [] (by simp [X7]) (X0 1000 ?_)
 simp (disch:=omega) only [AS.start,X4,↓Xl,wD,↓X2,wA,seval,wE]
 refine X1 c0 rfl ?_
 simp (disch:=omega) only [X4,hW,↓Xl,wD,↓X2,wA,seval,wE]
 refine X1 c1 rfl ?_
 simp (disch:=omega) only [X4,hH,↓Xl,wD,↓X2,wA,seval,wE]
 refine X1 c2 rfl ?_
 simp (disch:=omega) only [X4,hM,↓Xl,wD,↓X2,wA,seval,wE]
 refine Xg (fun k:Nat=>⟨20,[],[X8 l,.any,.ref 0 0 0,I W,I H,I M,.osl 1 k 2 0 k,I k,.any,.any,.any,.any,.any,.any,.any,.any,.any,.any,.any,.any],[],[.row 0 79 (Xp (Ji ++ (Ji ++ Z4))),.row k (k*2) (Xs Kd 2 (0,0) ((JG l W H M).take k))]⟩) (fun k=>k≤M+1) (fun k=>M+1 - k) 0 (by omega)
  (Sub.trans (Q4 6 2 (Xs Kd 2 (0,0) []) rfl) (Xa rfl (by simp [AS.put,Xh,X4,I]) (by simp [AS.put,Xi]) (by simp [AS.put,Ji,Z4,XP,I]))) ?_
 intro k hk next
 by_cases hk2:k<M+1
 ·have c3:=Qr l (3+k:Nat) ((W:Int) - 1) hl (by omega)
  have b3:=XC l (3+k:Nat) ((W:Int) - 1) (by omega)
  have htk:(JG l W H M).take (k+1)=(JG l W H M).take k ++ [QC l W H M k]:=by rw [Q0 _ (0,0) k (by simp [JG]; omega),Pv _ _ _ _ _ (by omega)]
  have nx:=next (k+1)
  rw [htk] at nx
  have hcl:((JG l W H M).take k).length=k:=by simp [JG]; omega
  have hcp:QC l W H M k=(1+Ab.atF l (3+k:Nat) ((W:Int) - 1),if k=M then (H:Int) else k):=rfl
  rw [hcp] at nx
  generalize Ab.atF l (3+k:Nat) ((W:Int) - 1)=x at *
  rw [Int.natCast_add] at c3
  change Fn _ _ [X8 l,I ((3:Int)+k),_] _ at c3
  generalize (JG l W H M).take k=C at *
  by_cases he:k=M
  ·rw [if_pos he] at nx
   have hap:=XO Kd 2 (0,0) C (1+x,(H:Int)) (by omega)
   rw [hcl] at hap
   refine X0 1000 ?_
   simp (disch:=omega) only [X4,↓Xl,wD,↓X2,wA,seval,wE]
   refine X1 c3 rfl ?_
   simp (disch:=omega) only [X4,↓Xl,wD,↓X2,wA,seval,wE]
   exact ⟨En (1+x,(H:Int)),nx _ (by omega) (by omega) (Xa rfl (by simp [Xh,X4,I]) (by simp [Xi]) (by rw [← hap]; simp [Kd,I]))⟩
  ·rw [if_neg he] at nx
   have hap:=XO Kd 2 (0,0) C (1+x,(k:Int)) (by omega)
   rw [hcl] at hap
   refine X0 1000 ?_
   simp (disch:=omega) only [X4,↓Xl,wD,↓X2,wA,seval,wE]
   refine X1 c3 rfl ?_
   simp (disch:=omega) only [X4,↓Xl,wD,↓X2,wA,seval,wE]
   exact ⟨En (1+x,(k:Int)),nx _ (by omega) (by omega) (Xa rfl (by simp [Xh,X4,I]) (by simp [Xi]) (by rw [← hap]; simp [Kd,I]))⟩
 obtain rfl:k=M+1:=by omega
 have htk:(JG l W H M).take (M+1)=JG l W H M:=List.take_of_length_le (by simp [JG])
 rw [htk]
 have hCl:(JG l W H M).length=M+1:=by simp [JG]
 have hq:∀ k,k≤M→Xs Kd 2 (0,0) (JG l W H M) (k*2)=I (QC l W H M k).1∧Xs Kd 2 (0,0) (JG l W H M) (k*2+1)=I (QC l W H M k).2:=fun k hk=>by
  rw [Kh Kd 2 (0,0) (JG l W H M) k (by omega),K0 Kd 2 (0,0) (JG l W H M) k 1 (by omega),Pv _ _ _ _ _ hk]
  exact ⟨rfl,rfl⟩
 have q0:Xs Kd 2 (0,0) (JG l W H M) 0=I (QC l W H M 0).1:=(hq 0 (by omega)).1
 have q1:Xs Kd 2 (0,0) (JG l W H M) 1=I (QC l W H M 0).2:=(hq 0 (by omega)).2
 have hF:Jb l W H M=(0,0) :: JG l W H M ++ [(0,(H:Int))]:=rfl
 have hfr:=YF (JG l W H M) H
 rw [← hF,hCl] at hfr
 have hFl:(Jb l W H M).length=M+3:=by rw [hF]; simp [hCl]
 have hSl:(Jt l W H M).length=M+3:=by unfold Jt; rw [Hr]; omega
 have hcr:=Pw l W H M
 have n1:=IV l W H M (by omega) (by omega) (by omega)
 have n2:=Ht l W H M (by omega) (by omega) (by omega)
 refine X0 1000 ?_
 simp (disch:=omega) only [X4,q0,q1,↓Xl,wD,↓X2,wA,seval,wE]
 refine ⟨fun j _=>Sw _ _ _ _ _ (by omega) fun a=>⟨rfl,by simp [Kd,I,AV.one]⟩,En (0,(H:Int)),?_⟩
 refine Xg (fun i:Nat=>match i with
  | 0=>Ar l W H M (.osl 2 1 2 0 (M+3)) (.sl 3 6 (Xp [I (QC l W H M 0).1,I (QC l W H M 0).2,I W,I 0,I W,I H]) true) (I M) .any .any .any .any .any .any [.row 1 ((M+3)*2) (Xs Kd 2 (0,0) (Jb l W H M))]
  | i+1=>Ar l W H M (.osl 2 1 2 0 (M+3)) (.osl 3 i 2 0 (4+i)) (I (M - (i+1):Nat)) .any .any .any .any .any .any [.row 1 ((M+3)*2) (Xs Kd 2 (0,0) (Jb l W H M)),.row i ((4+i)*2) (Xs Kd 2 (0,0) (Z3 l W H M (i+1)))])
  (fun i=>i≤M) (fun i=>M - i) 0 (by omega)
  (Sub.trans (Qq 2 ((M+3)*2) (Xs Kd 2 (0,0) (Jb l W H M)) rfl (by omega) (fun j hj=>hfr j (by omega))) (Xa rfl (by simp [Ar,Xh,X4,I]; omega) (by simp [Xi,Ar]) (by simp [Ar,Ji,Z4,XP,I]))) ?_
 intro i hi next
 match i,hi,next with
 | 0,hi,next =>
  have ho:=UA (QC l W H M 0) ((W:Int),0) ((W:Int),(H:Int)) (QC l W H M M)
  have w1:=(hq M (by omega)).1
  have w2:=(hq M (by omega)).2
  refine X0 1000 ?_
  simp (disch:=omega) only [Ar,X4,List.cons_append,List.nil_append,w1,w2,↓Xl,wD,↓X2,wA,seval,wE]
  exact ⟨En (QC l W H M M),next 1 _ (by omega) (by omega) (Sub.trans (Qq 3 8 (Xs Kd 2 (0,0) (Z3 l W H M 1)) rfl (by omega) (fun j hj=>ho j hj)) (Xa rfl (by simp [Ar,Xh,X4,I]; omega) (by simp [Xi,Ar]) (by simp [Ar])))⟩
 | i+1,hi,next =>
 by_cases hi2:i+1<M
 ·have w1:=(hq (M - (i+1)) (by omega)).1
  have w2:=(hq (M - (i+1)) (by omega)).2
  have hs:=OH l W H M (i+1)
  have hap:=XO Kd 2 (0,0) (Z3 l W H M (i+1)) (QC l W H M (M - (i+1))) (by omega)
  rw [Hr,show 3+(i+1)=4+i by omega] at hap
  refine X0 1000 ?_
  simp (disch:=omega) only [Ar,X4,List.cons_append,List.nil_append,w1,w2,↓Xl,wD,↓X2,wA,seval,wE]
  exact ⟨En (QC l W H M (M - (i+1))),next (i+2) _ (by omega) (by omega) (Xa rfl (by simp [Ar,Xh,X4,I]; omega) (by simp [Xi,Ar]) (by rw [← hs] at hap; simp [Ar,← hap,Kd,I,show 4+i+1=4+(i+1) by omega]))⟩
 obtain rfl:M=i+1:=by omega
 clear next
 have k1:=LU (Jb l W H (i+1)) n1 (by omega)
 have k2:=LU (Jt l W H (i+1)) (fun c hc=>by have:=n2 c hc; omega) (by omega)
 refine X0 1000 ?_
 simp (disch:=omega) only [Ar,X4,List.cons_append,List.nil_append,↓Xl,wD,↓X2,wA,seval,wE]
 refine JF k1 rfl ⟨?_,trivial⟩ (Aj _) ?_
 ·show JE _ (.osl 2 1 2 0 (i+1+3)) (Dj (Jb l W H (i+1)))
  rw [Xf,hFl]
  refine Qw (.inl rfl) (by omega) (fun h=>by omega) fun j hj=>?_
  rw [Nat.zero_add]
  exact (Xe (l:=Kd ((Jb l W H (i+1)).getD (j / 2) (0,0))) (Ko _) _).sees _
 by_cases p1:XM (XB (Jb l W H (i+1)))
 rotate_left
 ·have hr2:=hr (fun h=>p1 h.1)
  rcases hABF with ⟨h,_⟩ | ⟨_,rfl,rfl,rfl⟩
  ·exact absurd h.1 p1
  have a3:=Qr l 3 ((W:Int) - 1) hl (by omega)
  have a4:=Qr l 4 ((W:Int) - 1) hl (by omega)
  have a7:=Qr l 7 4 hl (by omega)
  simp (disch:=omega) only [decide_eq_false p1,Ar,X4,List.cons_append,List.nil_append,↓Xl,wD,↓X2,wA,seval,wE]
  refine X1 a3 rfl ?_
  simp (disch:=omega) only [Ar,X4,List.cons_append,List.nil_append,↓Xl,wD,↓X2,wA,seval,wE]
  refine X1 a4 rfl ?_
  simp (disch:=omega) only [Ar,X4,List.cons_append,List.nil_append,↓Xl,wD,↓X2,wA,seval,wE]
  refine X1 a7 rfl ?_
  simp (disch:=omega) only [Ar,X4,List.cons_append,List.nil_append,↓Xl,wD,↓X2,wA,seval,wE]
  refine Q3 hr2 ⟨ZP rfl rfl,trivial⟩ ?_
  simp (disch:=omega) only [jp,XH,XW,Ji,Z4,XP,X4,List.cons_append,List.nil_append,↓Xl,wD,↓X2,wA,seval,wE]
  exact ZQ rfl Vv rfl rfl rfl sR (hR.trans rfl)
 simp (disch:=omega) only [decide_eq_true p1,Ar,X4,List.cons_append,List.nil_append,↓Xl,wD,↓X2,wA,seval,wE]
 refine JF k2 rfl ⟨?_,trivial⟩ (Aj _) ?_
 ·show JE _ (.osl 3 i 2 0 (4+i)) (Dj (Jt l W H (i+1)))
  rw [Xf,hSl,show i+1+3=4+i by omega]
  refine Qw (.inl rfl) (by omega) (fun h=>by omega) fun j hj=>?_
  rw [Nat.zero_add]
  exact (Xe (l:=Kd ((Jt l W H (i+1)).getD (j / 2) (0,0))) (Ko _) _).sees _
 by_cases p2:XM (XB (Jt l W H (i+1)))
 rotate_left
 ·have hr2:=hr (fun h=>p2 h.2)
  rcases hABF with ⟨h,_⟩ | ⟨_,rfl,rfl,rfl⟩
  ·exact absurd h.2 p2
  have a3:=Qr l 3 ((W:Int) - 1) hl (by omega)
  have a4:=Qr l 4 ((W:Int) - 1) hl (by omega)
  have a7:=Qr l 7 4 hl (by omega)
  simp (disch:=omega) only [decide_eq_false p2,Ar,X4,List.cons_append,List.nil_append,↓Xl,wD,↓X2,wA,seval,wE]
  refine X1 a3 rfl ?_
  simp (disch:=omega) only [Ar,X4,List.cons_append,List.nil_append,↓Xl,wD,↓X2,wA,seval,wE]
  refine X1 a4 rfl ?_
  simp (disch:=omega) only [Ar,X4,List.cons_append,List.nil_append,↓Xl,wD,↓X2,wA,seval,wE]
  refine X1 a7 rfl ?_
  simp (disch:=omega) only [Ar,X4,List.cons_append,List.nil_append,↓Xl,wD,↓X2,wA,seval,wE]
  refine Q3 hr2 ⟨ZP rfl rfl,trivial⟩ ?_
  simp (disch:=omega) only [jp,XH,XW,Ji,Z4,XP,X4,List.cons_append,List.nil_append,↓Xl,wD,↓X2,wA,seval,wE]
  exact ZQ rfl Vv rfl rfl rfl sR (hR.trans rfl)
 clear hr
 rcases hABF with ⟨_,rfl,rfl,rfl⟩ | ⟨h,_⟩
 rotate_left
 ·exact absurd ⟨p1,p2⟩ h
 have a7:=Qr l 7 4 hl (by omega)
 have a8:=Qr l 8 9 hl (by omega)
 have a9:=Qr l 9 9 hl (by omega)
 have b7:=XC l 7 4 (by omega)
 have b8:=XC l 8 9 (by omega)
 have b9:=XC l 9 9 (by omega)
 have e7:Ab.atF l 7 4=(aB l:Int):=by unfold aB; omega
 have hD:Pp l=(Ab.atF l 8 9 - 4,Ab.atF l 9 9 - 4):=rfl
 simp (disch:=omega) only [decide_eq_true p2,Ar,X4,List.cons_append,List.nil_append,↓Xl,wD,↓X2,wA,seval,wE]
 refine X1 a7 rfl ?_
 simp (disch:=omega) only [e7,Ar,X4,List.cons_append,List.nil_append,↓Xl,wD,↓X2,wA,seval,wE]
 refine X1 a8 rfl ?_
 simp (disch:=omega) only [Ar,X4,List.cons_append,List.nil_append,↓Xl,wD,↓X2,wA,seval,wE]
 refine X1 a9 rfl ?_
 simp (disch:=omega) only [Ar,X4,List.cons_append,List.nil_append,↓Xl,wD,↓X2,wA,seval,wE]
 have hSN:Z3 l W H (i+1) (i+1)=Jt l W H (i+1):=rfl
 rw [← hSN] at hSl n2
 have hST:A7 l W H (i+1)=(Z3 l W H (i+1) (i+1)).map (qw (aB l) (Pp l)):=rfl
 have n3:=Hy l W H (i+1) (by omega) (by omega) (by omega)
 have hTl:(A7 l W H (i+1)).length=4+i:=by rw [hST,List.length_map,hSl]; omega
 have q4:aB l≤3:=by omega
 generalize Z3 l W H (i+1) (i+1)=S at *
 have bD:(-4≤(Pp l).1∧(Pp l).1≤4)∧-4≤(Pp l).2∧(Pp l).2≤4:=by rw [hD]; omega
 have hAt:DJ l=v0.sub (LB (DK l) (Jz (Pp l))):=rfl
 have hT:DK l=Kr ((4 - aB l) % 4) KH:=rfl
 have hPF:I4 l (i+1)=⟨0,1,1,(i+1+2:Nat),(i+1:Nat),DK l,DJ l,DJ l⟩:=rfl
 have hps:=Li l
 rw [hPF] at hR
 have m1:=Vx (Jb l W H (i+1)) l 10 (by omega) hl (by omega)
 have m2:=Vx (A7 l W H (i+1)) l 20 (by omega) hl (by omega)
 generalize Zn (Jb l W H (i+1)) l 10=A at *
 generalize Zn (A7 l W H (i+1)) l 20=B at *
 generalize Jb l W H (i+1)=FL at *
 generalize DJ l=at' at *
 generalize Pp l=D at *
 obtain ⟨D1,D2⟩:=D
 rw [Prod.mk.injEq] at hD
 obtain ⟨rfl,rfl⟩:=hD
 generalize aB l=q at *
 generalize DK l=T at *
 generalize Ab.atF l 8 9 - 4=D1 at *
 generalize Ab.atF l 9 9 - 4=D2 at *
 simp only at bD
 generalize hg:qw q (D1,D2)=g at *
 refine Xg (fun k:Nat=>Ar l W H (i+1) (.osl 2 1 2 0 (i+1+3)) (.osl 3 i 2 0 (4+i)) .any (I q) (.ref 4 0 0) (I k) .any .any .any [.row 1 ((i+1+3)*2) (Xs Kd 2 (0,0) FL),.row i ((4+i)*2) (Xs Kd 2 (0,0) (FQ g S k)),.row 0 2 (Xp [I D1,I D2])])
  (fun k=>k≤4+i) (fun k=>4+i - k) 0 (by omega)
  (Xa rfl (by simp [Ar,Xh,X4,I]) (by simp [Xi,Ar]) (by simp [Ar,FQ,I])) ?_
 intro k hk next
 by_cases hk2:k<4+i
 ·have hp:=n2 (S.getD k (0,0)) (QE (by omega))
  have hb:=Gl (S.getD k (0,0)) 7 (by omega) (by omega) q
  have c:=aY (S.getD k (0,0)) q (by omega) (by omega) (by omega)
  have u0:Xs Kd 2 (0,0) (FQ g S k) (k*2)=I (S.getD k (0,0)).1:=by rw [Kh _ _ _ _ _ (by omega),VA g S k (by omega)]; rfl
  have u1:Xs Kd 2 (0,0) (FQ g S k) (k*2+1)=I (S.getD k (0,0)).2:=by rw [K0 _ _ _ _ _ _ (by omega),VA g S k (by omega)]; rfl
  have hs:=sN (FQ g S k) k (g (S.getD k (0,0))) (by rw [gm g S k (by omega)]; omega)
  rw [gn g S k (by omega)] at hs
  have hgk:g (S.getD k (0,0))=((KV q (S.getD k (0,0))).1+D1,(KV q (S.getD k (0,0))).2+D2):=by rw [← hg]; rfl
  rw [hgk] at hs
  generalize S.getD k (0,0)=p at *
  generalize KV q p=w at *
  refine X0 1000 ?_
  simp (disch:=omega) only [Ar,X4,Kd,List.cons_append,List.nil_append,u0,u1,↓Xl,wD,↓X2,wA,seval,wE]
  refine X1 c rfl ?_
  simp (disch:=omega) only [Ar,X4,Kd,List.cons_append,List.nil_append,↓Xl,wD,↓X2,wA,seval,wE]
  exact next (k+1) _ (by omega) (by omega) (Xv (m:=5) (Nat.zero_le _) rfl (by simp [Ar,Xh,X4,I]) (by simp [Xi,Ar]) (by simp [Ar,← hs,Kd,I]) (by simp [Ar,Xy]) (by simp [Ar,Xy]) (by simp [Ar,rN,tu,Xy]))
 obtain rfl:k=4+i:=by omega
 have hm:FQ g S (4+i)=A7 l W H (i+1):=by
  rw [hST]; unfold FQ; rw [List.take_of_length_le (by omega),List.drop_eq_nil_of_le (by omega),List.append_nil]
 rw [hm]
 clear next
 generalize A7 l W H (i+1)=ST at *
 refine Run.sub (s':=Ar l W H (i+1) (Dj FL) (Dj ST) .any (I q) (.ref 4 0 0) (I (4+i:Nat)) .any .any .any [.con 1 ((i+1+3)*2) (Xs Kd 2 (0,0) FL),.con i ((4+i)*2) (Xs Kd 2 (0,0) ST),.row 0 2 (Xp [I D1,I D2])]) ?_
  (Sub.trans (Q2 2 rfl) (Sub.trans (LP 9 (M:=(i+1+3)*2) rfl rfl (by omega) (fun h=>by omega)) (Sub.trans (Q2 3 rfl) (Sub.trans (LP 10 (M:=(4+i)*2) rfl rfl (by omega) (fun h=>by omega)) (Xa rfl (by simp [AS.put,Ar,Xh,Xf,X4,hFl,hTl,I]) (by simp [AS.put,Xi,Ar]) (by simp [AS.put,Ar]))))))
 have o1:=Jg 1 1 ⟨by omega,by omega⟩ ⟨by omega,by omega⟩
 have v1:Rat.divInt 1 1=1:=by decide +kernel
 rw [v1] at o1
 have hrem:((4:Int) - q).tmod 4=((4 - q) % 4:Nat):=by rw [Int.tmod_eq_emod_of_nonneg (by omega)]; omega
 refine X0 1000 ?_
 simp (disch:=omega) only [Ar,X4,List.cons_append,List.nil_append,↓Xl,wD,↓X2,wA,seval,wE]
 refine X1 m1 rfl ?_
 simp (disch:=omega) only [Ar,X4,List.cons_append,List.nil_append,↓Xl,wD,↓X2,wA,seval,wE]
 refine X1 m2 rfl ?_
 simp (disch:=omega) only [Ar,X4,QW,XH,Ji,Z4,XP,List.cons_append,List.nil_append,↓Xl,wD,↓X2,wA,seval,wE]
 refine X1 o1 rfl ?_
 simp (disch:=omega) only [X4,Xf,↓Xl,wD,↓X2,wA,seval,wE]
 have wst:WeakL [.bool (sg 1),X8 (Xb (Rat.num 1).natAbs),.bool false,X8 (Xb (qd 1)),.bool false,.sl 0 0 (fun _=>.any) false,.bool false,.sl 0 0 (fun _=>.any) false] (vC KH):=by
  obtain ⟨w1,w2,w3,w4,w5,w6,w7,w8,_⟩:=Zx
  exact ⟨Weak.rfl' _,Weak.rfl' _,Weak.rfl' _,Weak.rfl' _,w5,w6,w7,w8,trivial⟩
 refine Xg (fun j:Nat=>Ar l W H (i+1) .any .any .any (I q) (.ref 4 0 0) .any (.ref 5 0 0) (.ref 6 0 0) (I j) [.con 1 ((i+1+3)*2) (Xs Kd 2 (0,0) FL),.con i ((4+i)*2) (Xs Kd 2 (0,0) ST),.row 0 2 (Xp [I D1,I D2]),.row 0 79 (Xp (XH A ++ (XH B ++ OW))),.row 0 8 (Xp (vC (Kr j KH)))])
  (fun j=>j≤(4 - q) % 4) (fun j=>(4 - q) % 4 - j) 0 (by omega)
  (Sub.trans (Gk 6 (vC KH) rfl rfl wst) (Xa rfl (by simp [Ar,Xh,X4,I]) (by simp [Xi,Ar]) (by simp [Ar,Ji,Z4,XP,OW,Z8,XH,Xf,Xo,X4,Kr,I]))) ?_
 intro j hj next
 have hvq:vb (Kr j KH)≤10:=by rw [GX]; exact E0
 have hqs:Kr (j+1) KH=B6 (Kr j KH):=rfl
 by_cases hj2:j<(4 - q) % 4
 ·have nx:=next (j+1)
  rw [hqs] at nx
  generalize Kr j KH=V at *
  have q1:=Qp V
  have c:=ZB V.y (by unfold rm; omega)
  refine X0 1000 ?_
  simp (disch:=omega) only [Ar,X4,vC,hrem,List.cons_append,List.nil_append,↓Xl,wD,↓X2,wA,seval,wE]
  refine X1 c rfl ?_
  simp (disch:=omega) only [X4,↓Xl,wD,↓X2,wA,seval,wE]
  have hV:vC (B6 V)=[.bool (sg (-V.y)),X8 (Xb (-V.y).num.natAbs),.bool false,X8 (Xb (qd (-V.y))),.bool (sg V.x),X8 (Xb V.x.num.natAbs),.bool false,X8 (Xb (qd V.x))]:=rfl
  exact nx _ (by omega) (by omega) (Xa rfl (by simp [Ar,Xh,X4,I]) (by simp [Xi,Ar]) (by simp [Ar,Ji,Z4,XP,OW,Z8,XH,Xf,Xo,X4,hV,I]))
 obtain rfl:j=(4 - q) % 4:=by omega
 rw [← hT] at hvq ⊢
 clear next
 have c1:=ZL D1 D2 ⟨by omega,by omega⟩ ⟨by omega,by omega⟩
 have hpv:(⟨(D1:Rat),(D2:Rat)⟩:V2)=Jz (D1,D2):=rfl
 rw [hpv] at c1
 have vq:vb (Jz (D1,D2))≤3:=by
  have q1:=Ap D1 3 (by omega) (QO ⟨by omega,by omega⟩)
  have q2:=Ap D2 3 (by omega) (QO ⟨by omega,by omega⟩)
  unfold vb Jz
  simp only
  omega
 have c2:=C8 T (Jz (D1,D2)) (by unfold vm; omega) (by unfold vm; omega)
 have vr:=D5 T (Jz (D1,D2))
 have vz:=EP
 have c3:=JJ v0 (LB T (Jz (D1,D2))) (by unfold rm; omega) (by unfold rm; omega)
 rw [← hAt] at c3
 refine X0 1000 ?_
 simp (disch:=omega) only [Ar,X4,vC,hrem,List.cons_append,List.nil_append,↓Xl,wD,↓X2,wA,seval,wE]
 refine X1 c1 rfl ?_
 simp (disch:=omega) only [X4,vA,vC,↓Xl,wD,↓X2,wA,seval,wE]
 refine X1 c2 rfl ?_
 simp (disch:=omega) only [X4,vA,vC,↓Xl,wD,↓X2,wA,seval,wE]
 refine Q3 c3 ⟨XV (Gt _),Weak.rfl' _,trivial⟩ ?_
 simp (disch:=omega) only [X4,vA,vC,XH,OW,Z8,Ji,Z4,XP,List.cons_append,List.nil_append,↓Xl,wD,↓X2,wA,seval,wE]
 exact ZQ rfl Vv rfl rfl rfl sR (hR.trans rfl)
theorem Tx (k m:Int) (h:0≤k∧k<m):ZS k m=k:=by
 unfold ZS
 rw [if_neg (by omega),Int.tmod_eq_emod_of_nonneg h.1,Int.emod_eq_of_lt h.1 h.2]
theorem Fu (L:List Int) (j:Nat) (m:Int) (h:j<L.length) (hb:0≤L.getD j 0∧L.getD j 0<m):Ab.atF L (j:Nat) m=L.getD j 0:=by
 unfold Ab.atF
 rw [if_neg (by omega),Int.toNat_natCast,Tx _ _ hb]
theorem q8 (l:List Int) (W H:Nat) (hW:4≤W∧W≤7) (hH:3≤H∧H≤6):BO (HF l W H):=fun x hx=>by
 have b3:=XC l 3 ((W:Int) - 1) (by omega)
 have b4:=XC l 4 ((W:Int) - 1) (by omega)
 have b7:=XC l 7 4 (by omega)
 simp only [HF,List.mem_cons,List.not_mem_nil,or_false] at hx
 rcases hx with rfl | rfl | rfl | rfl | rfl | rfl | rfl | rfl <;> exact ⟨by omega,by omega⟩
theorem gM (l:List Int) (hl:BO l):∃ (L:List Int) (W H M:Nat),BO L∧(4≤W∧W≤7)∧(3≤H∧H≤6)∧(1≤M∧M≤3)∧XM (XB (Jb L W H M))∧XM (XB (Jt L W H M)) ∧
  Fn Tryz.prog 28 [X8 l] (.agg (jp (Zn (Jb L W H M) L 10) (Zn (A7 L W H M) L 20) (I4 L M))):=by
 have b0:=XC l 0 4 (by omega)
 have b1:=XC l 1 4 (by omega)
 have b2:=XC l 2 3 (by omega)
 obtain ⟨W,hW⟩:∃ W:Nat,(4:Int)+Ab.atF l 0 4=W:=⟨(4+Ab.atF l 0 4).toNat,by omega⟩
 obtain ⟨H,hH⟩:∃ H:Nat,(3:Int)+Ab.atF l 1 4=H:=⟨(3+Ab.atF l 1 4).toNat,by omega⟩
 obtain ⟨M,hM⟩:∃ M:Nat,(1:Int)+Ab.atF l 2 3=M:=⟨(1+Ab.atF l 2 3).toNat,by omega⟩
 by_cases hv:XM (XB (Jb l W H M))∧XM (XB (Jt l W H M))
 ·obtain ⟨A,B,F,hf,h⟩:=Lh l hl W H M hW hH hM (Zn [] [] 0) (Zn [] [] 0) ZG (fun h=>absurd hv h)
  rcases h with ⟨_,rfl,rfl,rfl⟩ | ⟨h,_⟩
  ·exact ⟨l,W,H,M,hl,by omega,by omega,by omega,hv.1,hv.2,hf⟩
  ·exact absurd hv h
 have b3:=XC l 3 ((W:Int) - 1) (by omega)
 have b4:=XC l 4 ((W:Int) - 1) (by omega)
 have b7:=XC l 7 4 (by omega)
 have hl2:=q8 l W H (by omega) (by omega)
 have a0:Ab.atF (HF l W H) 0 4=(W:Int) - 4:=Fu _ 0 _ (by simp [HF]) (by show 0≤(W:Int) - 4∧(W:Int) - 4<4; omega)
 have a1:Ab.atF (HF l W H) 1 4=(H:Int) - 3:=Fu _ 1 _ (by simp [HF]) (by show 0≤(H:Int) - 3∧(H:Int) - 3<4; omega)
 have a2:Ab.atF (HF l W H) 2 3=0:=Fu _ 2 _ (by simp [HF]) (by show 0≤(0:Int)∧(0:Int)<3; omega)
 have a3:Ab.atF (HF l W H) 3 ((W:Int) - 1)=Ab.atF l 3 ((W:Int) - 1):=Fu _ 3 _ (by simp [HF]) b3
 have a4:Ab.atF (HF l W H) 4 ((W:Int) - 1)=Ab.atF l 4 ((W:Int) - 1):=Fu _ 4 _ (by simp [HF]) b4
 have c0:QC (HF l W H) W H 1 0=(1+Ab.atF l 3 ((W:Int) - 1),0):=by
  unfold QC; rw [if_neg (by omega)]; exact congrArg (fun z:Int=>((1:Int)+z,(0:Int))) a3
 have c1:QC (HF l W H) W H 1 1=(1+Ab.atF l 4 ((W:Int) - 1),(H:Int)):=by
  unfold QC; rw [if_pos rfl]; exact congrArg (fun z:Int=>((1:Int)+z,(H:Int))) a4
 have p1:XM (XB (Jb (HF l W H) W H 1)):=by
  have e:Jb (HF l W H) W H 1=gY (1+Ab.atF l 3 ((W:Int) - 1)) (1+Ab.atF l 4 ((W:Int) - 1)) H:=by
   show (0,0) :: [QC (HF l W H) W H 1 0,QC (HF l W H) W H 1 1] ++ [(0,(H:Int))]=_
   rw [c0,c1]; rfl
  rw [e]
  exact gZ _ _ _ (by omega) (by omega) (by omega)
 have p2:XM (XB (Jt (HF l W H) W H 1)):=by
  have e:Jt (HF l W H) W H 1=i9 W (1+Ab.atF l 3 ((W:Int) - 1)) (1+Ab.atF l 4 ((W:Int) - 1)) H:=by
   show [QC (HF l W H) W H 1 0,((W:Int),0),((W:Int),(H:Int))] ++ [QC (HF l W H) W H 1 1]=_
   rw [c0,c1]; rfl
  rw [e]
  exact ia _ _ _ _ (by omega) (by omega) (by omega) (by omega)
 obtain ⟨A,B,F,hf,h⟩:=Lh (HF l W H) hl2 W H 1 (by rw [a0]; omega) (by rw [a1]; omega) (by rw [a2]; rfl) (Zn [] [] 0) (Zn [] [] 0) ZG (fun h=>absurd ⟨p1,p2⟩ h)
 rcases h with ⟨_,rfl,rfl,rfl⟩ | ⟨h,_⟩
 rotate_left
 ·exact absurd ⟨p1,p2⟩ h
 obtain ⟨A,B,F,hf2,h⟩:=Lh l hl W H M hW hH hM _ _ _ (fun _=>hf)
 rcases h with ⟨h,_⟩ | ⟨_,rfl,rfl,rfl⟩
 ·exact absurd h hv
 ·exact ⟨HF l W H,W,H,1,hl2,by omega,by omega,by omega,p1,p2,hf2⟩
theorem mn (l:List Int) (hl:BO l):∃ (A B:PV) (F:FV) (ta tb:Rat),Fn Tryz.prog 28 [X8 l] (.agg (jp A B F))∧GP A ta∧GP B tb∧A.small∧B.small∧qb ta≤3∧qb tb≤3∧vb F.turn≤10∧vb F.lo≤100∧vb F.hi≤100:=by
 obtain ⟨L,W,H,M,hL,hW,hH,hM,p1,p2,hf⟩:=gM l hl
 have g1:=Vy (Jb L W H M) L 10 (IV L W H M hW (by omega) (by omega)) p1
 have g2:=Vy (A7 L W H M) L 20 (Hy L W H M hW (by omega) (by omega)) (mr _ _ _ p2)
 have hs:=Li L
 exact ⟨_,_,_,_,_,hf,g1.1,g2.1,g1.2.1,g2.2.1,g1.2.2,g2.2.2,hs.1,hs.2,hs.2⟩
end
end Go.Ab.N
