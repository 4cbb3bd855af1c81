/- Contracts of functions of these chapters, for every argument that fits, and what they need. -/
import Derived.Test.YtefjhgcndhepeaaGreatC13
import Derived.Test.YtefjhgcndhepeaaGreatC12
import Derived.Test.YtefjhgcndhepeaaGreatC6
set_option linter.unusedSimpArgs false
set_option linter.unusedVariables false
open Nat renaming reducePow → Y1, reduceLT → Y2, reduceLeDiff → Y3, reduceEqDiff → Y4, reduceAdd → Y5, reduceMul → Y6, reduceSub → Y7, reduceBEq → Y8, reduceDiv → Y9, reduceMod → YA
namespace Go.Ab.N
open Go Go.RowKit Go.Proofs
noncomputable section
set_option maxRecDepth 10000
set_option maxHeartbeats 4000000
open Classical
def KK (a b:PV) (D:List FV):List AO:=[.row 0 25 (Xq (XD a)),.row 0 25 (Xq (XD b)),.row 0 1 (Xq [.osl 3 D.length 29 0 D.length]),.row D.length (D.length*29) (Xw Qc 29 fv0 D)]
theorem Ye (a b:PV) (D:List FV):KK a b D=[.row 0 25 (Xq (XD a)),.row 0 25 (Xq (XD b)),.row 0 1 (Xq [.osl 3 D.length 29 0 D.length]),.row D.length (D.length*29) (Xw Qc 29 fv0 D)]:=nrfl rfl
theorem GE (a b:PV) (D:List FV) (m:Nat) (h:4≤m):∀ o∈KK a b D,XI m o:=fun o ho=>by
 simp only [KK,List.mem_cons,List.not_mem_nil,or_false] at ho
 rcases ho with rfl | rfl | rfl | rfl
 ·exact XG (XF a)
 ·exact XG (XF b)
 ·intro j hj
  obtain rfl:j=0:=by omega
  exact Id (by omega)
 ·exact fun j _=>X6 (Xd (Qj _) _)
theorem Pm (a b:PV) (D:List FV):P8 4 (KK a b D):=⟨rfl,fun o ho=>⟨GE a b D 4 (by omega) o ho,by
 simp only [KK,List.mem_cons,List.not_mem_nil,or_false] at ho
 rcases ho with rfl | rfl | rfl | rfl <;> simp⟩⟩
def sN (i j k:Nat):List AV:=[I 0,I 1,I i,I j,I k] ++ (Zd ++ (Zd ++ Zd))
theorem SH (i j k:Nat):∀ x∈sN i j k,Settled x:=by simp [sN,Zd,X8,X3,HP]
theorem U5 (a b:PV) (f:FV) (n:Nat):B9 (B6 (Qs a b f n) ((Qs a b f n).length - 1)) ((B6 (Qs a b f n) ((Qs a b f n).length - 1)).length - 1)=Z1 a b f n:=by
 rw [BO]
 by_cases h:0<(Qs a b f n).length
 ·exact Yk a b f n h
 have e:Qs a b f n=[]:=List.eq_nil_of_length_eq_zero (by omega)
 have e2:Z1 a b f n=[]:=by
  refine List.eq_nil_iff_forall_not_mem.2 fun x hx=>?_
  have:x∈Qs a b f n:=(Ps a b f x n).2 ((BP a b f x n).1 hx)
  rw [e] at this; cases this
 rw [e,e2]; rfl
theorem Rd (a b:PV) {ta tb:Rat} (ha:GP a ta) (hb:GP b tb):Fn Tryz.prog 50 [Qd a,Qd b] (Rl (Re a b (ta+tb))):=by
 have la:=(KR _ ha.poly).1
 have lb:=(KR _ hb.poly).1
 simp only [XB,List.length_map] at la lb
 have cs:=OZ a b
 obtain ⟨e,hT⟩:∃ e,e=ta+tb:=⟨_,rfl⟩
 rw [← hT]
 refine Fq Tryz.call50 Tryz.func50 15 [18,32,33,34,63,64,65] [] [5,6,7] (by simp [Xu]) (X0 1000 ?_)
 simp (disch:=omega) only [AS.start,Qd,XD,↓Xo,wD,↓X2,wA,seval,wE]
 refine X1 cs rfl ?_
 simp (disch:=omega) only [XD,↓Xo,wD,↓X2,wA,seval,wE]
 refine Run.sub (s':=⟨15,[18,32,33,34,63,64,65],[.any,.any,.ref 0 0 0,.ref 1 0 0,.any,.ref 2 0 0,.any,.any,.any,.any,.any,.any,.any,.any,.any],[(17,.fn 197 [Z7 a,Z7 b])],KK a b []⟩) ?_
  ((QA 2 1 (fun _=>.sl 0 0 (fun _=>.any) true) rfl (Nat.le_refl _) (fun j hj=>by have e:j=0:=Nat.lt_one_iff.1 hj; subst e; rfl)).trans ((Ay 2 29 (Xw Qc 29 fv0 []) rfl 1 (Nat.le_refl _)).trans ((QA 2 1 (Xq [.osl 3 0 29 0 0]) rfl (Nat.le_refl _) (fun j hj=>by have e:j=0:=Nat.lt_one_iff.1 hj; subst e; rfl)).trans (Xa rfl (by simp [Xh]) (by simp [Xi,Xv,QR,XD,Xg,Xn,X4,I]) (by simp [KK,XD,Xg,Xn,X4,I])))))
 have hlenA:=Pl a b e la.2 lb.2 (by omega) (by omega)
 refine EO (gf:=197) (caps:=[Z7 a,Z7 b]) (Hn:=KK a b (Dk a b e)) rfl rfl rfl (fun t ht=>?_) ?_
 ·have hce:t.ce.H.length≤4:=by rw [ht.ch]; exact Nat.le_refl _
  refine Ma a b e t 4 (fun D=>KK a b D) (by omega) (by omega) (by omega) (by omega) (fun D=>Pm a b D) hce fun i j k D hi hj hk hD=>?_
  have hst:∀ t lo hi,Db a.rim.length b.rim.length ⟨0,1,i,j,(k+1:Nat),t,lo,hi⟩:=fun t lo hi=>⟨⟨by show (0:Int)≤i; omega,by show (i:Int)<_; omega⟩,⟨by show (0:Int)≤j; omega,by show (j:Int)<_; omega⟩,by show (1:Int)≤((k+1:Nat):Int); omega,by show ((k+1:Nat):Int)<_; omega,by show ((k+1:Nat):Int)<_; omega⟩
  have cp:=HA a b (JY i j (k+1) v0) (hst _ _ _) ha.even hb.even
  have wf:=ck i j (k+1)
  have hfk:EH a b e i j (k+1)=if G1 a b (JY i j (k+1) v0) then Cq a b e i j (k+1) (Z1 a b (JY i j (k+1) v0) (k+1)) else []:=rfl
  rw [hfk]
  refine E5 (str:=[]) (hcs:=[5,6,7]) ht mixed (by kernel_rfl) (by kernel_rfl) rfl (fun p hp=>?_) (fun o ho=>((Pm a b _).2 o ho).1) (fun l r hr=>?_)
  ·have hp':p=18:=by simpa using hp
   subst hp'
   exact Nat.le_of_ble_eq_true rfl
  show Run _ _ ⟨15,[18,32,33,34,63,64,65],[.any,.any,.ref 0 0 0,.ref 1 0 0,.any,.ref 2 0 0,.any,.any,.any,.any,.any,.any,.any,.any,.any],[(18,.agg (ud i j (k+1))),(17,.fn 197 [Z7 a,Z7 b])],KK a b D⟩
  refine X0 1000 ?_
  simp (disch:=omega) only [Ye,QR,ud,XM,List.cons_append,List.nil_append,↓Xo,wD,↓X2,wA,seval,wE]
  refine F4 hr ?_
  refine X0 1000 ?_
  simp (disch:=omega) only [XD,↓Xo,wD,↓X2,wA,seval,wE]
  refine Qm cp ⟨Weak.rfl' _,Weak.rfl' _,XP wf,trivial⟩ ?_
  by_cases hp:G1 a b (JY i j (k+1) v0)
  rotate_left
  ·rw [if_neg hp,List.append_nil]
   simp (disch:=omega) only [decide_eq_false hp,↓Xo,wD,↓X2,wA,seval,wE]
   exact nP rfl
  rw [if_pos hp]
  simp (disch:=omega) only [decide_eq_true hp,↓Xo,wD,↓X2,wA,seval,wE]
  have hZ:=GE a b D
  have cA:=Pu (.row 0 25 (Xq (XD a))) (.row 0 25 (Xq (XD b))) (.row 0 1 (Xq [.osl 3 D.length 29 0 D.length])) (.row D.length (D.length*29) (Xw Qc 29 fv0 D)) (.row 0 29 (Xq (sN i j (k+1)))) (fun m hm=>hZ m (by omega) _ (by simp [KK])) (fun m hm=>hZ m (by omega) _ (by simp [KK])) (fun m hm=>hZ m (by omega) _ (by simp [KK])) (fun m hm=>hZ m (by omega) _ (by simp [KK])) (fun m hm=>XG (SH i j (k+1))) a b (JY i j (k+1) v0) (hst _ _ _) ha.even hb.even
  rw [show (JY i j (k+1) v0).M.toNat=k+1 from rfl] at cA
  have hAl:=Dq a b (JY i j (k+1) v0) (k+1)
  have hAs:=EW a b (JY i j (k+1) v0) ha.even.near hb.even.near (k+1)
  have hct:=U5 a b (JY i j (k+1) v0) (k+1)
  have hsm:=Gr a b (JY i j (k+1) v0) ha.even.near hb.even.near (k+1)
  have hlen:=Fr a b (JY i j (k+1) v0) (k+1)
  have hcm2:=Vw (B6 (Qs a b (JY i j (k+1) v0) (k+1)) ((Qs a b (JY i j (k+1) v0) (k+1)).length - 1))
  generalize Qs a b (JY i j (k+1) v0) (k+1)=A at *
  generalize Z1 a b (JY i j (k+1) v0) (k+1)=L at *
  have hu8:∀ o∈[AO.row 0 25 (Xq (XD a)),.row 0 25 (Xq (XD b)),.row 0 1 (Xq [.osl 3 D.length 29 0 D.length]),.row D.length (D.length*29) (Xw Qc 29 fv0 D),.row 0 29 (Xq (sN i j (k+1))),.dead,.dead,.dead],o≠AO.unborn:=by simp
  have cS:=od (.row 0 25 (Xq (XD a))) (.row 0 25 (Xq (XD b))) (.row 0 1 (Xq [.osl 3 D.length 29 0 D.length])) (.row D.length (D.length*29) (Xw Qc 29 fv0 D)) (.row 0 29 (Xq (sN i j (k+1)))) .dead .dead .dead hu8 A.length A (fun x hx=>by have:=hAs x hx; unfold vm; omega) (by omega)
  have hSl:=BO A (A.length - 1)
  have hSm:∀ x∈B6 A (A.length - 1),vb x≤vm:=fun x hx=>by
   by_cases h0:0<A.length
   ·have:=hAs x (M7 A (A.length - 1) (by omega) x hx); unfold vm; omega
   ·rw [List.eq_nil_of_length_eq_zero (show (B6 A (A.length - 1)).length=0 by omega)] at hx; cases hx
  have cC:=U6 (.row 0 25 (Xq (XD a))) (.row 0 25 (Xq (XD b))) (.row 0 1 (Xq [.osl 3 D.length 29 0 D.length])) (.row D.length (D.length*29) (Xw Qc 29 fv0 D)) (.row 0 29 (Xq (sN i j (k+1)))) .dead .dead .dead A.length (B6 A (A.length - 1)) hSm (by omega)
  rw [hct] at cC
  rw [hSl] at cC
  generalize B6 A (A.length - 1)=S at *
  refine Z4 rfl cA (QP (by simp) (by simp)) (fun id hh=>absurd (List.mem_of_getElem? hh) (by simp)) ⟨Weak.rfl' _,Weak.rfl' _,XP wf,trivial⟩ ?_
  simp (disch:=omega) only [↓Xo,wD,↓X2,wA,seval,wE]
  refine Z4 rfl cS (QP (by simp) (by simp)) (fun id hh=>absurd (List.mem_of_getElem? hh) (by simp)) (XS _) ?_
  simp (disch:=omega) only [↓Xo,wD,↓X2,wA,seval,wE]
  refine Z4 rfl cC (QP (by simp) (by simp)) (fun id hh=>absurd (List.mem_of_getElem? hh) (by simp)) (XS _) ?_
  simp (disch:=omega) only [↓Xo,wD,↓X2,wA,seval,wE]
  have hvc:∀ a:V2,∀ x∈vC a,Settled x:=fun a=>by simp [vC,X7,X3]
  have bAll:∀ (E:List FV) (f:FV),∀ o∈KK a b E ++ [.row 0 29 (Xq (Qc f)),.dead,.dead,.dead,.row A.length (L.length*8) (Xw vC 8 v0 L)],XI 9 o:=fun E f o ho=>by
   rcases List.mem_append.1 ho with ho | ho
   ·exact GE a b E 9 (by omega) o ho
   simp only [List.mem_cons,List.not_mem_nil,or_false] at ho
   rcases ho with rfl | rfl | rfl | rfl | rfl
   ·exact XG (Qj f)
   ·trivial
   ·trivial
   ·trivial
   ·exact fun j _=>X6 (Xd (hvc _) _)
  refine Xe (fun w:Nat×V2×V2×V2=>⟨15,[18,32,33,34,63,64,65],[.any,.any,.ref 0 0 0,.ref 1 0 0,.any,.ref 2 0 0,.ref 4 0 0,.any,.any,.any,.any,.any,.any,.any,.any],[(32,.osl 8 A.length 8 0 L.length),(33,I L.length),(34,I w.1)],KK a b (D ++ Cq a b e i j (k+1) (L.take w.1)) ++ [.row 0 29 (Xq (Qc ⟨0,1,i,j,(k+1:Nat),w.2.1,w.2.2.1,w.2.2.2⟩)),.dead,.dead,.dead,.row A.length (L.length*8) (Xw vC 8 v0 L)]⟩) (fun w=>w.1≤L.length) (fun w=>L.length - w.1) (0,v0,v0,v0) (Nat.zero_le _)
   (Sub.trans (SR 4 (Qc (JY i j (k+1) v0)) rfl rfl wf) (Xa rfl (by simp [Xh,I]) (by simp [Xi,Xv,I]) (by simp [KK,XD,Xg,Xn,X4,Cq,JY,I]))) ?_
  rintro ⟨t,T,lo,hi'⟩ ht nextt
  replace ht:t≤L.length:=ht
  by_cases ht2:t<L.length
  rotate_left
  ·obtain rfl:t=L.length:=by omega
   rw [List.take_length] at *
   refine X0 1000 ?_
   simp (disch:=omega) only [KK,↓Xo,wD,↓X2,wA,seval,wE]
   exact nP rfl
  have hx:=hsm (L.getD t v0) (JC ht2)
  have htk:=Uj a b e i j (k+1) L t ht2
  have v1:=JR vC 8 v0 L t
  have v2:=K6 vC 8 v0 L t (by omega)
  have htl:=Nf a b e i j (k+1) (L.take t)
  rw [List.length_take] at htl
  generalize L.getD t v0=x at *
  have ca:=IE a b ⟨0,1,i,j,(k+1:Nat),x,lo,hi'⟩ ha.even hb.even (by show vb x≤1000; omega) ha.tol hb.tol (by have:=ha.qt; omega) (by have:=hb.qt; omega)
  rw [← hT] at ca
  have hag:XV a.rim b.rim ⟨0,1,i,j,(k+1:Nat),x,lo,hi'⟩ e=XV a.rim b.rim (JY i j (k+1) x) e:=rfl
  rw [hag] at ca
  have hqe:qb e≤41:=by rw [hT]; have:=Jx ta tb; have:=ha.qt; have:=hb.qt; omega
  have hfine:(QU a b (JY i j (k+1) x) e).fine:=by
   obtain ⟨h1,h2⟩:=IF a b (JY i j (k+1) x) ha.even.near hb.even.near e (by show vb x≤60; omega)
   exact ⟨by show vb x≤60; omega,by show vb (XV a.rim b.rim (JY i j (k+1) x) e).1≤300; omega,by show vb (XV a.rim b.rim (JY i j (k+1) x) e).2.1≤300; omega⟩
  have cc:=Nb a b _ ha hb hfine
  rw [← hT] at cc
  have hok:Lh a b e i j (k+1) x=((XV a.rim b.rim (JY i j (k+1) x) e).2.2 && ZY a b (QU a b (JY i j (k+1) x) e) e):=rfl
  have hsf:QU a b (JY i j (k+1) x) e=⟨0,1,i,j,(k+1:Nat),x,(XV a.rim b.rim (JY i j (k+1) x) e).1,(XV a.rim b.rim (JY i j (k+1) x) e).2.1⟩:=rfl
  rw [hok,hsf] at htk
  rw [hsf] at cc
  generalize XV a.rim b.rim (JY i j (k+1) x) e=G at *
  obtain ⟨g1,g2,ok⟩:=G
  simp only at htk cc ca
  have nx2:=nextt (t+1,x,g1,g2)
  rw [htk,← List.append_assoc] at nx2
  have hDl:(D ++ Cq a b e i j (k+1) (L.take t)).length≤24000+12:=by rw [List.length_append]; omega
  generalize D ++ Cq a b e i j (k+1) (L.take t)=E at *
  generalize ZY a b ⟨0,1,i,j,(k+1:Nat),x,g1,g2⟩ e=q at *
  refine X0 1000 ?_
  simp (disch:=omega) only [KK,vC,Qc,XD,Xg,List.cons_append,List.nil_append,v1,v2,↓Xo,wD,↓X2,wA,seval,wE]
  refine X1 ca rfl ?_
  cases ok with
  | false =>
   simp only [Bool.false_and,Bool.false_eq_true,if_false,List.append_nil] at nx2
   simp (disch:=omega) only [↓Xo,wD,↓X2,wA,seval,wE]
   exact nx2 _ (by show t+1≤L.length; omega) (by show L.length - (t+1)<L.length - t; omega) (Xz (m:=9) (Nat.le_add_right 4 5) rfl (by simp [Xh,I]) (by simp [Xi,Xv,I]) (by simp [KK,XD,Qc,Xg,Xn,X4,I,sg]) (by simp [Xy]) (by simp [Xy]) (bAll _ _))
  | true =>
   simp (disch:=omega) only [↓Xo,wD,↓X2,wA,seval,wE]
   refine X1 cc rfl ?_
   cases q with
   | false =>
    simp only [Bool.and_false,Bool.false_eq_true,if_false,List.append_nil] at nx2
    simp (disch:=omega) only [↓Xo,wD,↓X2,wA,seval,wE]
    exact nx2 _ (by show t+1≤L.length; omega) (by show L.length - (t+1)<L.length - t; omega) (Xz (m:=9) (Nat.le_add_right 4 5) rfl (by simp [Xh,I]) (by simp [Xi,Xv,I]) (by simp [KK,XD,Qc,Xg,Xn,X4,I,sg]) (by simp [Xy]) (by simp [Xy]) (bAll _ _))
   | true =>
    simp only [Bool.and_true,if_true] at nx2
    have hap:=Q0 Qc 29 fv0 E ⟨0,1,i,j,(k+1:Nat),x,g1,g2⟩ (by omega)
    have hEl:(E ++ [(⟨0,1,i,j,(k+1:Nat),x,g1,g2⟩:FV)]).length=E.length+1:=by simp
    simp (disch:=omega) only [↓Xo,wD,↓X2,wA,seval,wE]
    refine ⟨VK ⟨0,1,i,j,(k+1:Nat),x,g1,g2⟩,?_⟩
    exact nx2 _ (by show t+1≤L.length; omega) (by show L.length - (t+1)<L.length - t; omega) (Xz (m:=9) (Nat.le_add_right 4 5) rfl (by simp [Xh,I]) (by simp [Xi,Xv,I]) (by simp only [KK,hEl,← hap]; rfl) (by simp [Xy]) (by simp [Xy]) (bAll _ _))
 have hfin:∀ f∈Dk a b e,f.near∧vb f.turn≤vm:=fun f hf=>by
  rw [hT] at hf
  obtain ⟨h1,h2,_⟩:=Rg ha hb hf
  exact ⟨h1,by unfold vm; omega⟩
 have hdef:Re a b e=(Dk a b e).filter fun f=>!Rv a.rim.length b.rim.length (Dk a b e) f:=rfl
 rw [hdef]
 clear hdef
 show Run _ _ ⟨15,[18,32,33,34,63,64,65],[.any,.any,.ref 0 0 0,.ref 1 0 0,.any,.ref 2 0 0,.any,.any,.any,.any,.any,.any,.any,.any,.any],[(17,.fn 197 [Z7 a,Z7 b])],KK a b (Dk a b e)⟩
 generalize Dk a b e=W at *
 refine Run.sub (s':=⟨15,[18,32,33,34,63,64,65],[.any,.any,Z7 a,Z7 b,.any,Uh W,.any,.any,.any,.any,.any,.any,.any,.any,.any],[],[]⟩) ?_
  ((Qr 0 rfl).trans ((Qr 1 rfl).trans ((Qr 3 rfl).trans ((Zv 2 (Xq [Rl W]) rfl (fun j hj=>by
   obtain rfl:j=0:=by omega
   exact Fs (M:=W.length*29) rfl (Nat.le_refl _) (fun h=>by rw [h]) (fun j hj=>J1 _ _))).trans ((Qr 2 rfl).trans ((CE 2 rfl rfl (by omega)).trans ((CE 3 rfl rfl (by omega)).trans ((CE 5 rfl rfl (by omega)).trans
   (Xz (m:=0) (Nat.zero_le _) rfl (by simp [AS.put,Xh,QR,FG]) (by simp [AS.put,Xi]) (by simp) (by simp [Xy,X6 (K4 a),X6 (K4 b),X6 (Da W)]) (by simp [Xy]) (by simp))))))))))
 refine X0 1000 ?_
 simp (disch:=omega) only [QR,FG,QG,↓Xo,wD,↓X2,wA,seval,wE]
 have sCl:Settled (.fn 138 [Uh W,Z7 a,Z7 b]):=Jg (by simp [Da,K4])
 have bCl:Jq 1 (.fn 138 [Uh W,Z7 a,Z7 b])=True:=eq_true (X6 sCl)
 have bW:Jq 1 (Rl W)=True:=eq_true (X6 (KV W))
 have b3:∀ v n l,XI 1 (.row v n (Xw Qc 29 fv0 l))=True:=fun v n l=>eq_true fun j _=>X6 (Xd (Qj _) _)
 refine Xe (fun i:Nat=>⟨15,[18,32,33,34,63,64,65],[.any,.any,.any,.any,.any,.any,.any,.any,.any,.any,.any,.fn 138 [Uh W,Z7 a,Z7 b],.osl 0 ((W.take i).filter (fun f=>!Rv a.rim.length b.rim.length W f)).length 29 0 ((W.take i).filter (fun f=>!Rv a.rim.length b.rim.length W f)).length,.any,.any],[(65,I i),(64,I W.length),(63,Rl W)],[.row ((W.take i).filter (fun f=>!Rv a.rim.length b.rim.length W f)).length (((W.take i).filter (fun f=>!Rv a.rim.length b.rim.length W f)).length*29) (Xw Qc 29 fv0 ((W.take i).filter (fun f=>!Rv a.rim.length b.rim.length W f)))]⟩) (fun i=>i≤W.length∧((W.take i).filter (fun f=>!Rv a.rim.length b.rim.length W f)).length≤i) (fun i=>W.length - i) 0 ⟨by omega,by simp⟩
  (Sub.trans (Qg 12 29 (Xw Qc 29 fv0 []) rfl) (Xa rfl (by simp [AS.put,Xh,FG,QR,QG,I]) (by simp [AS.put,Xi,Xv,QG,I]) (by simp [AS.put]))) ?_
 rintro i ⟨hi,hil⟩ next
 by_cases hi2:i<W.length
 rotate_left
 ·obtain rfl:i=W.length:=by omega
  rw [List.take_length]
  refine X0 1000 ?_
  simp (disch:=omega) only [QG,↓Xo,wD,↓X2,wA,seval,wE]
  exact mV _ rfl rfl rfl
 have nx:=next (i+1)
 rw [ac _ _ W i hi2] at nx
 generalize (W.take i).filter (fun f=>!Rv a.rim.length b.rim.length W f)=D at *
 obtain ⟨n1,n2⟩:=hfin _ (JC (d:=fv0) hi2)
 have v1:=fF W i
 have v2:=um W i
 have c:=gj a b (W.getD i fv0) W ⟨by omega,by omega⟩ ⟨by omega,by omega⟩ (by omega) n1 n2 hfin
 generalize W.getD i fv0=f at *
 generalize Rv a.rim.length b.rim.length W f=q at *
 refine X0 1000 ?_
 simp (disch:=omega) only [QG,v1,v2,Qc,↓Xo,wD,↓X2,wA,seval,wE]
 refine X1 c rfl ?_
 cases q with
 | true =>
  rw [if_pos rfl,List.append_nil] at nx
  simp (disch:=omega) only [QG,↓Xo,wD,↓X2,wA,seval,wE]
  exact nx _ ⟨by omega,by omega⟩ (by omega) (Xz (m:=1) (Nat.zero_le _) rfl (by simp [Xh,I]) (by simp [Xi,Xv,QG,I]) (by simp) (by simp [Xy,bCl]) (by simp [Xy,bW]) (by simp [b3]))
 | false =>
  rw [if_neg (by decide)] at nx
  have hap:=Q0 Qc 29 fv0 D f (by omega)
  have hDl:(D ++ [f]).length=D.length+1:=by simp
  simp (disch:=omega) only [QG,↓Xo,wD,↓X2,wA,seval,wE]
  refine ⟨VK f,nx _ ⟨by omega,by omega⟩ (by omega) (Xz (m:=1) (Nat.zero_le _) rfl (by simp [Xh,hDl,I]) (by simp [Xi,Xv,QG,I]) (by simp only [hDl,← hap]; rfl) (by simp [Xy,bCl]) (by simp [Xy,bW]) (by simp [b3]))⟩
theorem bH (a b c d:PV) (f:FV) (e e':Rat):QU a b (QU c d f e) e'=QU a b f e':=rfl
theorem Uk {a b:PV} {e:Rat} {f:FV} (h:f∈Dk a b e) (ha:0<a.rim.length) (hb:0<b.rim.length):QU a b f e=f:=by
 obtain ⟨i,j,k,t,hi,hj,k0,kn,km,hp,ht,ho,rfl⟩:=(IH a b e f ha hb).1 h
 rfl
theorem OY (a b:PV) (f:FV) (e:Rat):((JE a b f e).2=0∧Kj a b (JE a b f e).1 e=0)∨((JE a b f e).2≠0∧(JE a b f e).1=fv0):=by
 unfold JE
 by_cases h:Kj a b (QU a b f e) e=0
 ·rw [if_pos h]; exact .inl ⟨rfl,h⟩
 ·rw [if_neg h]; exact .inr ⟨h,rfl⟩
theorem SA {a b c d:PV} {f:FV} {e e':Rat} (h1:QU a b f e=f) (h2:Kj a b f e=0):JE a b (QU c d f e') e=(f,0):=by
 unfold JE
 rw [bH,h1,if_pos h2]
theorem We {p:PV} {t:Rat} (h:GP p t):0<p.rim.length∧p.rim.length≤12:=by have:=h.poly.1; simp [XB] at this; omega
structure Fnd (a b:PV) (e:Rat) (L:List FV):Prop where
 len:L.length≤24000
 fine:∀ f∈L,f.fine
 self:∀ f∈L,QU a b f e=f
 ok:∀ f∈L,Kj a b f e=0
theorem Rf {a b:PV} {ta tb:Rat} (ha:GP a ta) (hb:GP b tb):Fnd a b (ta+tb) (Re a b (ta+tb)):=by
 have la:=We ha; have lb:=We hb
 refine ⟨Nat.le_trans (List.length_filter_le _ _) (Pl a b (ta+tb) la.2 lb.2 la.1 lb.1),fun f hf=>?_,fun f hf=>Uk (List.mem_filter.1 hf).1 la.1 lb.1,fun f hf=>PL (List.mem_filter.1 hf).1 la.1 lb.1⟩
 obtain ⟨_,h1,h2,h3⟩:=Rg ha hb (List.mem_filter.1 hf).1
 exact ⟨by omega,by omega,by omega⟩
theorem cz:WeakL KI (Qc fv0):=by
 obtain ⟨w1,w2,w3,w4,w5,w6,w7,w8,_⟩:=Gy true
 exact ⟨Weak.rfl' _,Weak.rfl' _,Weak.rfl' _,Weak.rfl' _,Weak.rfl' _,w1,w2,w3,w4,w5,w6,w7,w8,w1,w2,w3,w4,w5,w6,w7,w8,w1,w2,w3,w4,w5,w6,w7,w8,trivial⟩
theorem MS (l:List Int) (n m:Int) (hl:Fy l) (hl2:l.length<9223372036854775808) (hn:Zz n) (hm:Zz m) :
  Fn Tryz.prog 13 [X9 l,I n,I m] (.bool true):=by
 obtain ⟨A,B,F,ta,tb,cP,gA,gB,sA,sB,qa,qb',hF1,hF2,hF3⟩:=nC l hl
 obtain ⟨kA,gCA,sCA,aA,lA,_⟩:=N1 gA sA (by omega) n hn
 obtain ⟨kB,gCB,sCB,aB,lB,_⟩:=N1 gB sB (by omega) m hm
 have tA:=HS n; have tB:=HS m
 generalize EF A ta n=CA at *
 generalize EF B tb m=CB at *
 have cw:=Rd CA CB gCA gCB
 have hw:=Rf gCA gCB
 have co:=Rd A B gA gB
 have ho:=Rf gA gB
 have leA:ta≤ta+I7 n:=Hu tA
 have leB:tb≤tb+I7 m:=Hu tB
 generalize ta+I7 n=sa at *
 generalize tb+I7 m=sb at *
 generalize Re CA CB (sa+sb)=W at *
 generalize Re A B (ta+tb)=L at *
 have lW:=hw.len
 have lL:=ho.len
 have bX:XI 3 (.con 0 79 (Xq (Ie A B F)))=True:=eq_true (fun j _=>X6 (Xd (HN A B F) _))
 have bA:XI 3 (.con 0 25 (Xq (XD CA)))=True:=eq_true (fun j _=>X6 (Xd (XF CA) _))
 have bB:XI 3 (.con 0 25 (Xq (XD CB)))=True:=eq_true (fun j _=>X6 (Xd (XF CB) _))
 have bW:Jq 3 (Rl W)=True:=eq_true (X6 (KV W))
 have bL:Jq 3 (Rl L)=True:=eq_true (X6 (KV L))
 refine Fq Tryz.call13 Tryz.func13 20 [] [8,15,17,180000018] [] (by simp [X8,X7]) (X0 1000 ?_)
 simp (disch:=omega) only [AS.start,↓Xo,wD,↓X2,wA,seval,wE]
 refine X1 cP rfl ?_
 simp (disch:=omega) only [Ie,XD,Qc,List.cons_append,List.nil_append,↓Xo,wD,↓X2,wA,seval,wE]
 refine X1 kA rfl ?_
 simp (disch:=omega) only [Qd,XD,↓Xo,wD,↓X2,wA,seval,wE]
 refine X1 kB rfl ?_
 simp (disch:=omega) only [Qd,XD,↓Xo,wD,↓X2,wA,seval,wE]
 refine X1 cw rfl ?_
 simp (disch:=omega) only [↓Xo,wD,↓X2,wA,seval,wE]
 refine Xe (fun i:Nat=>⟨20,[],[.any,.any,.any,.any,.any,.any,.bool false,.ref 0 0 0,.ref 1 0 0,.ref 2 0 0,Rl W,I i,.any,.any,.any,.any,.any,.any,.any,.any],[],[.con 0 79 (Xq (Ie A B F)),.con 0 25 (Xq (XD CA)),.con 0 25 (Xq (XD CB))]⟩) (fun i=>i≤W.length) (fun i=>W.length - i) 0 (by omega)
  (Sub.trans (Qr 0 rfl) (Sub.trans (Qr 1 rfl) (Sub.trans (Qr 2 rfl) (Xa rfl (by simp [Xh,QG,I]) (by simp [Xi]) (by simp [Ie,XD,Qc,Xg,Xn,X4,I,sg]))))) ?_
 intro i hi next
 by_cases hi2:i<W.length
 ·have hm:=JC (d:=fv0) hi2
  have hf:=hw.fine _ hm
  have x1:=fF W i
  have x2:=um W i
  generalize W.getD i fv0=f at *
  obtain ⟨c1,_⟩:=HM A B f gA gB hf
  have hsf:(JE A B f (ta+tb)).1.fine:=SB gA gB hf
  have c2:=GQ A B (JE A B f (ta+tb)).1 gA gB hsf
  have c3:=Rj (JE A B f (ta+tb)).1 fv0 hsf Rk
  have hc:=OY A B f (ta+tb)
  generalize JE A B f (ta+tb)=R at *
  obtain ⟨g,k⟩:=R
  simp only at c1 c2 c3 hc
  refine X0 1000 ?_
  simp (disch:=omega) only [x1,x2,QG,Ie,XD,Qc,List.cons_append,List.nil_append,↓Xo,wD,↓X2,wA,seval,wE]
  refine X1 c1 rfl ?_
  rcases hc with ⟨rfl,h2⟩ | ⟨h1,rfl⟩
  ·rw [h2] at c2
   simp (disch:=omega) only [Ie,Ke,XD,Qc,List.cons_append,List.nil_append,↓Xo,wD,↓X2,wA,seval,wE]
   refine X1 c2 rfl ?_
   simp (disch:=omega) only [↓Xo,wD,↓X2,wA,seval,wE]
   exact next (i+1) _ (by omega) (by omega) (Xz (m:=3) (Nat.zero_le _) rfl (by simp [Xh,QG,I]) (by simp [Xi]) (by simp [Ie,XD,Qc,Xg,Xn,X4,I,sg]) (by simp [Xy,bW]) (by simp [Xy]) (by simp [bX,bA,bB]))
  ·rw [decide_eq_true rfl] at c3
   simp (disch:=omega) only [eq_false h1,Ie,Ke,XD,Qc,List.cons_append,List.nil_append,↓Xo,wD,↓X2,wA,seval,wE]
   refine Qm c3 ⟨Weak.rfl' _,XP cz,trivial⟩ ?_
   simp (disch:=omega) only [↓Xo,wD,↓X2,wA,seval,wE]
   exact next (i+1) _ (by omega) (by omega) (Xz (m:=3) (Nat.zero_le _) rfl (by simp [Xh,QG,I]) (by simp [Xi]) (by simp [Ie,XD,Qc,Xg,Xn,X4,I,sg]) (by simp [Xy,bW]) (by simp [Xy]) (by simp [bX,bA,bB]))
 obtain rfl:i=W.length:=by omega
 refine X0 1000 ?_
 simp (disch:=omega) only [QG,Ie,XD,Qc,List.cons_append,List.nil_append,↓Xo,wD,↓X2,wA,seval,wE]
 refine X1 co rfl ?_
 simp (disch:=omega) only [↓Xo,wD,↓X2,wA,seval,wE]
 refine Xe (fun i:Nat=>⟨20,[],[.any,.any,.any,.any,.any,.any,.bool false,.ref 0 0 0,.ref 1 0 0,.ref 2 0 0,.any,.any,.any,.any,Rl L,I i,.any,.any,.any,.any],[],[.con 0 79 (Xq (Ie A B F)),.con 0 25 (Xq (XD CA)),.con 0 25 (Xq (XD CB))]⟩) (fun i=>i≤L.length) (fun i=>L.length - i) 0 (by omega)
  (Xa rfl (by simp [Xh,QG,I]) (by simp [Xi]) (by simp [Ie,XD,Qc,Xg,Xn,X4,I,sg])) ?_
 clear next
 intro i hi next
 by_cases hi2:i<L.length
 rotate_left
 ·refine X0 1000 ?_
  simp (disch:=omega) only [QG,↓Xo,wD,↓X2,wA,seval,wE]
  refine X1 gS rfl ?_
  simp (disch:=omega) only [↓Xo,wD,↓X2,wA,seval,wE]
  exact Xs rfl rfl (X3 _) rfl
 have hm:=JC (d:=fv0) hi2
 have hf:=ho.fine _ hm
 have h1:=ho.self _ hm
 have h2:=ho.ok _ hm
 have x1:=fF L i
 have x2:=um L i
 generalize L.getD i fv0=f at *
 obtain ⟨c1,_⟩:=Uu A B f CA CB gA gB gCA gCB sA sB sCA sCB hf
 rw [gU h2 ⟨lA.symm,leA⟩ ⟨lB.symm,leB⟩] at c1
 have hg:(QU CA CB f (sa+sb)).fine:=Fl gCA gCB hf
 obtain ⟨c2,_⟩:=HM A B (QU CA CB f (sa+sb)) gA gB hg
 rw [SA h1 h2] at c2
 have c3:=Rj f f hf hf
 rw [decide_eq_true rfl] at c3
 simp only at c1 c2
 generalize QU CA CB f (sa+sb)=g at *
 refine X0 1000 ?_
 simp (disch:=omega) only [x1,x2,QG,Ie,XD,Qc,List.cons_append,List.nil_append,↓Xo,wD,↓X2,wA,seval,wE]
 refine X1 c1 rfl ?_
 simp (disch:=omega) only [Ie,Ke,XD,Qc,List.cons_append,List.nil_append,↓Xo,wD,↓X2,wA,seval,wE]
 refine X1 c2 rfl ?_
 simp (disch:=omega) only [x1,x2,QG,Ke,Qc,↓Xo,wD,↓X2,wA,seval,wE]
 refine X1 c3 rfl ?_
 simp (disch:=omega) only [↓Xo,wD,↓X2,wA,seval,wE]
 exact next (i+1) _ (by omega) (by omega) (Xz (m:=3) (Nat.zero_le _) rfl (by simp [Xh,QG,I]) (by simp [Xi]) (by simp [Ie,XD,Qc,Xg,Xn,X4,I,sg]) (by simp [Xy,bL]) (by simp [Xy]) (by simp [bX,bA,bB]))
end
end Go.Ab.N
