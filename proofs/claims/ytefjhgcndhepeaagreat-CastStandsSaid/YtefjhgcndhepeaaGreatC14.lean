/- Contracts of functions of these chapters, for every argument that fits, and what they need. -/
import Derived.Test.YtefjhgcndhepeaaGreatC13
import Derived.Test.YtefjhgcndhepeaaGreatC12
import Derived.Test.YtefjhgcndhepeaaGreatC6
set_option linter.unusedSimpArgs false
set_option linter.unusedVariables false
open Nat renaming reducePow → Y1, reduceLT → Y2, reduceLeDiff → Y3, reduceEqDiff → Y4, reduceAdd → Y5, reduceMul → Y6, reduceSub → Y7, reduceBEq → Y8, reduceDiv → Y9, reduceMod → YA
namespace Go.Ab.N
open Go Go.RowKit Go.Proofs
noncomputable section
set_option maxRecDepth 10000
set_option maxHeartbeats 4000000
open Classical
def KK (a b:PV) (D:List FV):List AO:=[.row 0 25 (Xp (XD a)),.row 0 25 (Xp (XD b)),.row 0 1 (Xp [.osl 3 D.length 29 0 D.length]),.row D.length (D.length*29) (Xw Q8 29 BD D)]
theorem Yo (a b:PV) (D:List FV):KK a b D=[.row 0 25 (Xp (XD a)),.row 0 25 (Xp (XD b)),.row 0 1 (Xp [.osl 3 D.length 29 0 D.length]),.row D.length (D.length*29) (Xw Q8 29 BD D)]:=nrfl rfl
theorem GQ (a b:PV) (D:List FV) (m:Nat) (h:4≤m):∀ o∈KK a b D,XH m o:=fun o ho=>by
 simp only [KK,List.mem_cons,List.not_mem_nil,or_false] at ho
 rcases ho with rfl | rfl | rfl | rfl
 ·exact XF (XE a)
 ·exact XF (XE b)
 ·intro j hj
  obtain rfl:j=0:=by omega
  exact Im (by omega)
 ·exact fun j _=>X6 (Xd (Qe _) _)
theorem Pv (a b:PV) (D:List FV):Ph 4 (KK a b D):=⟨rfl,fun o ho=>⟨GQ a b D 4 (by omega) o ho,by
 simp only [KK,List.mem_cons,List.not_mem_nil,or_false] at ho
 rcases ho with rfl | rfl | rfl | rfl <;> simp⟩⟩
def tp (i j k:Nat):List AV:=[I 0,I 1,I i,I j,I k] ++ (Zd ++ (Zd ++ Zd))
theorem SM (i j k:Nat):∀ x∈tp i j k,Settled x:=by simp [tp,Zd,X8,X3,HW]
theorem Uc (a b:PV) (f:FV) (n:Nat):Be (Ba (Qu a b f n) ((Qu a b f n).length - 1)) ((Ba (Qu a b f n) ((Qu a b f n).length - 1)).length - 1)=Z0 a b f n:=by
 rw [BS]
 by_cases h:0<(Qu a b f n).length
 ·exact Yu a b f n h
 have e:Qu a b f n=[]:=List.eq_nil_of_length_eq_zero (by omega)
 have e2:Z0 a b f n=[]:=by
  refine List.eq_nil_iff_forall_not_mem.2 fun x hx=>?_
  have:x∈Qu a b f n:=(PD a b f x n).2 ((AE a b f x n).1 hx)
  rw [e] at this; cases this
 rw [e,e2]; rfl
theorem Rn (a b:PV) {ta tb:Rat} (ha:GP a ta) (hb:GP b tb):Fn Tryz.prog 50 [Qf a,Qf b] (OD (ER a b (ta+tb))):=by
 have la:=(KR _ ha.poly).1
 have lb:=(KR _ hb.poly).1
 simp only [XB,List.length_map] at la lb
 have cs:=P8 a b
 obtain ⟨e,hT⟩:∃ e,e=ta+tb:=⟨_,rfl⟩
 rw [← hT]
 refine Fq Tryz.call50 Tryz.func50 15 [18,32,33,34,63,64,65] [] [5,6,7] (by simp [Xu]) (X0 1000 ?_)
 simp (disch:=omega) only [AS.start,Qf,XD,↓Xo,wD,↓X2,wA,seval,wE]
 refine X1 cs rfl ?_
 simp (disch:=omega) only [XD,↓Xo,wD,↓X2,wA,seval,wE]
 refine Run.sub (s':=⟨15,[18,32,33,34,63,64,65],[.any,.any,.ref 0 0 0,.ref 1 0 0,.any,.ref 2 0 0,.any,.any,.any,.any,.any,.any,.any,.any,.any],[(17,.fn 197 [Z6 a,Z6 b])],KK a b []⟩) ?_
  ((QC 2 1 (fun _=>.sl 0 0 (fun _=>.any) true) rfl (Nat.le_refl _) (fun j hj=>by have e:j=0:=Nat.lt_one_iff.1 hj; subst e; rfl)).trans ((AA 2 29 (Xw Q8 29 BD []) rfl 1 (Nat.le_refl _)).trans ((QC 2 1 (Xp [.osl 3 0 29 0 0]) rfl (Nat.le_refl _) (fun j hj=>by have e:j=0:=Nat.lt_one_iff.1 hj; subst e; rfl)).trans (Xa rfl (by simp [Xh]) (by simp [Xi,Xv,QT,XD,Xg,Xm,X4,I]) (by simp [KK,XD,Xg,Xm,X4,I])))))
 have hlenA:=Pu a b e la.2 lb.2 (by omega) (by omega)
 refine EZ (gf:=197) (caps:=[Z6 a,Z6 b]) (Hn:=KK a b (BZ a b e)) rfl rfl rfl (fun t ht=>?_) ?_
 ·have hce:t.ce.H.length≤4:=by rw [ht.ch]; exact Nat.le_refl _
  refine Mg a b e t 4 (fun D=>KK a b D) (by omega) (by omega) (by omega) (by omega) (fun D=>Pv a b D) hce fun i j k D hi hj hk hD=>?_
  have hst:∀ t lo hi,Cp a.rim.length b.rim.length ⟨0,1,i,j,(k+1:Nat),t,lo,hi⟩:=fun t lo hi=>⟨⟨by show (0:Int)≤i; omega,by show (i:Int)<_; omega⟩,⟨by show (0:Int)≤j; omega,by show (j:Int)<_; omega⟩,by show (1:Int)≤((k+1:Nat):Int); omega,by show ((k+1:Nat):Int)<_; omega,by show ((k+1:Nat):Int)<_; omega⟩
  have cp:=HK a b (JI i j (k+1) v0) (hst _ _ _) ha.even hb.even
  have wf:=cO i j (k+1)
  have hfk:ES a b e i j (k+1)=if Gg a b (JI i j (k+1) v0) then Cv a b e i j (k+1) (Z0 a b (JI i j (k+1) v0) (k+1)) else []:=rfl
  rw [hfk]
  refine Ec (str:=[]) (hcs:=[5,6,7]) ht mixed (by kernel_rfl) (by kernel_rfl) rfl (fun p hp=>?_) (fun o ho=>((Pv a b _).2 o ho).1) (fun l r hr=>?_)
  ·have hp':p=18:=by simpa using hp
   subst hp'
   exact Nat.le_of_ble_eq_true rfl
  show Run _ _ ⟨15,[18,32,33,34,63,64,65],[.any,.any,.ref 0 0 0,.ref 1 0 0,.any,.ref 2 0 0,.any,.any,.any,.any,.any,.any,.any,.any,.any],[(18,.agg (uI i j (k+1))),(17,.fn 197 [Z6 a,Z6 b])],KK a b D⟩
  refine X0 1000 ?_
  simp (disch:=omega) only [Yo,QT,uI,XN,List.cons_append,List.nil_append,↓Xo,wD,↓X2,wA,seval,wE]
  refine Fh hr ?_
  refine X0 1000 ?_
  simp (disch:=omega) only [XD,↓Xo,wD,↓X2,wA,seval,wE]
  refine Qv cp ⟨Weak.rfl' _,Weak.rfl' _,XT wf,trivial⟩ ?_
  by_cases hp:Gg a b (JI i j (k+1) v0)
  rotate_left
  ·rw [if_neg hp,List.append_nil]
   simp (disch:=omega) only [decide_eq_false hp,↓Xo,wD,↓X2,wA,seval,wE]
   exact oh rfl
  rw [if_pos hp]
  simp (disch:=omega) only [decide_eq_true hp,↓Xo,wD,↓X2,wA,seval,wE]
  have hZ:=GQ a b D
  have cA:=PF (.row 0 25 (Xp (XD a))) (.row 0 25 (Xp (XD b))) (.row 0 1 (Xp [.osl 3 D.length 29 0 D.length])) (.row D.length (D.length*29) (Xw Q8 29 BD D)) (.row 0 29 (Xp (tp i j (k+1)))) (fun m hm=>hZ m (by omega) _ (by simp [KK])) (fun m hm=>hZ m (by omega) _ (by simp [KK])) (fun m hm=>hZ m (by omega) _ (by simp [KK])) (fun m hm=>hZ m (by omega) _ (by simp [KK])) (fun m hm=>XF (SM i j (k+1))) a b (JI i j (k+1) v0) (hst _ _ _) ha.even hb.even
  rw [show (JI i j (k+1) v0).M.toNat=k+1 from rfl] at cA
  have hAl:=Dy a b (JI i j (k+1) v0) (k+1)
  have hAs:=F9 a b (JI i j (k+1) v0) ha.even.near hb.even.near (k+1)
  have hct:=Uc a b (JI i j (k+1) v0) (k+1)
  have hsm:=GE a b (JI i j (k+1) v0) ha.even.near hb.even.near (k+1)
  have hlen:=FC a b (JI i j (k+1) v0) (k+1)
  have hcm2:=VF (Ba (Qu a b (JI i j (k+1) v0) (k+1)) ((Qu a b (JI i j (k+1) v0) (k+1)).length - 1))
  generalize Qu a b (JI i j (k+1) v0) (k+1)=A at *
  generalize Z0 a b (JI i j (k+1) v0) (k+1)=L at *
  have hu8:∀ o∈[AO.row 0 25 (Xp (XD a)),.row 0 25 (Xp (XD b)),.row 0 1 (Xp [.osl 3 D.length 29 0 D.length]),.row D.length (D.length*29) (Xw Q8 29 BD D),.row 0 29 (Xp (tp i j (k+1))),.dead,.dead,.dead],o≠AO.unborn:=by simp
  have cS:=oF (.row 0 25 (Xp (XD a))) (.row 0 25 (Xp (XD b))) (.row 0 1 (Xp [.osl 3 D.length 29 0 D.length])) (.row D.length (D.length*29) (Xw Q8 29 BD D)) (.row 0 29 (Xp (tp i j (k+1)))) .dead .dead .dead hu8 A.length A (fun x hx=>by have:=hAs x hx; unfold vm; omega) (by omega)
  have hSl:=BS A (A.length - 1)
  have hSm:∀ x∈Ba A (A.length - 1),vb x≤vm:=fun x hx=>by
   by_cases h0:0<A.length
   ·have:=hAs x (Mc A (A.length - 1) (by omega) x hx); unfold vm; omega
   ·rw [List.eq_nil_of_length_eq_zero (show (Ba A (A.length - 1)).length=0 by omega)] at hx; cases hx
  have cC:=Ud (.row 0 25 (Xp (XD a))) (.row 0 25 (Xp (XD b))) (.row 0 1 (Xp [.osl 3 D.length 29 0 D.length])) (.row D.length (D.length*29) (Xw Q8 29 BD D)) (.row 0 29 (Xp (tp i j (k+1)))) .dead .dead .dead A.length (Ba A (A.length - 1)) hSm (by omega)
  rw [hct] at cC
  rw [hSl] at cC
  generalize Ba A (A.length - 1)=S at *
  refine Z3 rfl cA (QP (by simp) (by simp)) (fun id hh=>absurd (List.mem_of_getElem? hh) (by simp)) ⟨Weak.rfl' _,Weak.rfl' _,XT wf,trivial⟩ ?_
  simp (disch:=omega) only [↓Xo,wD,↓X2,wA,seval,wE]
  refine Z3 rfl cS (QP (by simp) (by simp)) (fun id hh=>absurd (List.mem_of_getElem? hh) (by simp)) (XS _) ?_
  simp (disch:=omega) only [↓Xo,wD,↓X2,wA,seval,wE]
  refine Z3 rfl cC (QP (by simp) (by simp)) (fun id hh=>absurd (List.mem_of_getElem? hh) (by simp)) (XS _) ?_
  simp (disch:=omega) only [↓Xo,wD,↓X2,wA,seval,wE]
  have hvc:∀ a:V2,∀ x∈vC a,Settled x:=fun a=>by simp [vC,X7,X3]
  have bAll:∀ (E:List FV) (f:FV),∀ o∈KK a b E ++ [.row 0 29 (Xp (Q8 f)),.dead,.dead,.dead,.row A.length (L.length*8) (Xw vC 8 v0 L)],XH 9 o:=fun E f o ho=>by
   rcases List.mem_append.1 ho with ho | ho
   ·exact GQ a b E 9 (by omega) o ho
   simp only [List.mem_cons,List.not_mem_nil,or_false] at ho
   rcases ho with rfl | rfl | rfl | rfl | rfl
   ·exact XF (Qe f)
   ·trivial
   ·trivial
   ·trivial
   ·exact fun j _=>X6 (Xd (hvc _) _)
  refine Xe (fun w:Nat×V2×V2×V2=>⟨15,[18,32,33,34,63,64,65],[.any,.any,.ref 0 0 0,.ref 1 0 0,.any,.ref 2 0 0,.ref 4 0 0,.any,.any,.any,.any,.any,.any,.any,.any],[(32,.osl 8 A.length 8 0 L.length),(33,I L.length),(34,I w.1)],KK a b (D ++ Cv a b e i j (k+1) (L.take w.1)) ++ [.row 0 29 (Xp (Q8 ⟨0,1,i,j,(k+1:Nat),w.2.1,w.2.2.1,w.2.2.2⟩)),.dead,.dead,.dead,.row A.length (L.length*8) (Xw vC 8 v0 L)]⟩) (fun w=>w.1≤L.length) (fun w=>L.length - w.1) (0,v0,v0,v0) (Nat.zero_le _)
   (Sub.trans (SY 4 (Q8 (JI i j (k+1) v0)) rfl rfl wf) (Xa rfl (by simp [Xh,I]) (by simp [Xi,Xv,I]) (by simp [KK,XD,Xg,Xm,X4,Cv,JI,I]))) ?_
  rintro ⟨t,T,lo,hi'⟩ ht nextt
  replace ht:t≤L.length:=ht
  by_cases ht2:t<L.length
  rotate_left
  ·obtain rfl:t=L.length:=by omega
   rw [List.take_length] at *
   refine X0 1000 ?_
   simp (disch:=omega) only [KK,↓Xo,wD,↓X2,wA,seval,wE]
   exact oh rfl
  have hx:=hsm (L.getD t v0) (JD ht2)
  have htk:=Uq a b e i j (k+1) L t ht2
  have v1:=JS vC 8 v0 L t
  have v2:=K6 vC 8 v0 L t (by omega)
  have htl:=Nj a b e i j (k+1) (L.take t)
  rw [List.length_take] at htl
  generalize L.getD t v0=x at *
  have ca:=IK a b ⟨0,1,i,j,(k+1:Nat),x,lo,hi'⟩ ha.even hb.even (by show vb x≤1000; omega) ha.tol hb.tol (by have:=ha.qt; omega) (by have:=hb.qt; omega)
  rw [← hT] at ca
  have hag:XJ a.rim b.rim ⟨0,1,i,j,(k+1:Nat),x,lo,hi'⟩ e=XJ a.rim b.rim (JI i j (k+1) x) e:=rfl
  rw [hag] at ca
  have hqe:qb e≤41:=by rw [hT]; have:=Jy ta tb; have:=ha.qt; have:=hb.qt; omega
  have hfine:(Ql a b (JI i j (k+1) x) e).fine:=by
   obtain ⟨h1,h2⟩:=IL a b (JI i j (k+1) x) ha.even.near hb.even.near e (by show vb x≤60; omega)
   exact ⟨by show vb x≤60; omega,by show vb (XJ a.rim b.rim (JI i j (k+1) x) e).1≤300; omega,by show vb (XJ a.rim b.rim (JI i j (k+1) x) e).2.1≤300; omega⟩
  have cc:=Nh a b _ ha hb hfine
  rw [← hT] at cc
  have hok:Hw a b e i j (k+1) x=((XJ a.rim b.rim (JI i j (k+1) x) e).2.2 && Zz a b (Ql a b (JI i j (k+1) x) e) e):=rfl
  have hsf:Ql a b (JI i j (k+1) x) e=⟨0,1,i,j,(k+1:Nat),x,(XJ a.rim b.rim (JI i j (k+1) x) e).1,(XJ a.rim b.rim (JI i j (k+1) x) e).2.1⟩:=rfl
  rw [hok,hsf] at htk
  rw [hsf] at cc
  generalize XJ a.rim b.rim (JI i j (k+1) x) e=G at *
  obtain ⟨g1,g2,ok⟩:=G
  simp only at htk cc ca
  have nx2:=nextt (t+1,x,g1,g2)
  rw [htk,← List.append_assoc] at nx2
  have hDl:(D ++ Cv a b e i j (k+1) (L.take t)).length≤24000+12:=by rw [List.length_append]; omega
  generalize D ++ Cv a b e i j (k+1) (L.take t)=E at *
  generalize Zz a b ⟨0,1,i,j,(k+1:Nat),x,g1,g2⟩ e=q at *
  refine X0 1000 ?_
  simp (disch:=omega) only [KK,vC,Q8,XD,Xg,List.cons_append,List.nil_append,v1,v2,↓Xo,wD,↓X2,wA,seval,wE]
  refine X1 ca rfl ?_
  cases ok with
  | false =>
   simp only [Bool.false_and,Bool.false_eq_true,if_false,List.append_nil] at nx2
   simp (disch:=omega) only [↓Xo,wD,↓X2,wA,seval,wE]
   exact nx2 _ (by show t+1≤L.length; omega) (by show L.length - (t+1)<L.length - t; omega) (Xz (m:=9) (Nat.le_add_right 4 5) rfl (by simp [Xh,I]) (by simp [Xi,Xv,I]) (by simp [KK,XD,Q8,Xg,Xm,X4,I,sg]) (by simp [Xy]) (by simp [Xy]) (bAll _ _))
  | true =>
   simp (disch:=omega) only [↓Xo,wD,↓X2,wA,seval,wE]
   refine X1 cc rfl ?_
   cases q with
   | false =>
    simp only [Bool.and_false,Bool.false_eq_true,if_false,List.append_nil] at nx2
    simp (disch:=omega) only [↓Xo,wD,↓X2,wA,seval,wE]
    exact nx2 _ (by show t+1≤L.length; omega) (by show L.length - (t+1)<L.length - t; omega) (Xz (m:=9) (Nat.le_add_right 4 5) rfl (by simp [Xh,I]) (by simp [Xi,Xv,I]) (by simp [KK,XD,Q8,Xg,Xm,X4,I,sg]) (by simp [Xy]) (by simp [Xy]) (bAll _ _))
   | true =>
    simp only [Bool.and_true,if_true] at nx2
    have hap:=Q0 Q8 29 BD E ⟨0,1,i,j,(k+1:Nat),x,g1,g2⟩ (by omega)
    have hEl:(E ++ [(⟨0,1,i,j,(k+1:Nat),x,g1,g2⟩:FV)]).length=E.length+1:=by simp
    simp (disch:=omega) only [↓Xo,wD,↓X2,wA,seval,wE]
    refine ⟨VT ⟨0,1,i,j,(k+1:Nat),x,g1,g2⟩,?_⟩
    exact nx2 _ (by show t+1≤L.length; omega) (by show L.length - (t+1)<L.length - t; omega) (Xz (m:=9) (Nat.le_add_right 4 5) rfl (by simp [Xh,I]) (by simp [Xi,Xv,I]) (by simp only [KK,hEl,← hap]; rfl) (by simp [Xy]) (by simp [Xy]) (bAll _ _))
 have hfin:∀ f∈BZ a b e,f.near∧vb f.turn≤vm:=fun f hf=>by
  rw [hT] at hf
  obtain ⟨h1,h2,_⟩:=Rp ha hb hf
  exact ⟨h1,by unfold vm; omega⟩
 have hdef:ER a b e=(BZ a b e).filter fun f=>!OH a.rim.length b.rim.length (BZ a b e) f:=rfl
 rw [hdef]
 clear hdef
 show Run _ _ ⟨15,[18,32,33,34,63,64,65],[.any,.any,.ref 0 0 0,.ref 1 0 0,.any,.ref 2 0 0,.any,.any,.any,.any,.any,.any,.any,.any,.any],[(17,.fn 197 [Z6 a,Z6 b])],KK a b (BZ a b e)⟩
 generalize BZ a b e=W at *
 refine Run.sub (s':=⟨15,[18,32,33,34,63,64,65],[.any,.any,Z6 a,Z6 b,.any,Uo W,.any,.any,.any,.any,.any,.any,.any,.any,.any],[],[]⟩) ?_
  ((Qt 0 rfl).trans ((Qt 1 rfl).trans ((Qt 3 rfl).trans ((Zv 2 (Xp [OD W]) rfl (fun j hj=>by
   obtain rfl:j=0:=by omega
   exact FD (M:=W.length*29) rfl (Nat.le_refl _) (fun h=>by rw [h]) (fun j hj=>J3 _ _))).trans ((Qt 2 rfl).trans ((CK 2 rfl rfl (by omega)).trans ((CK 3 rfl rfl (by omega)).trans ((CK 5 rfl rfl (by omega)).trans
   (Xz (m:=0) (Nat.zero_le _) rfl (by simp [AS.put,Xh,QT,FW]) (by simp [AS.put,Xi]) (by simp) (by simp [Xy,X6 (K4 a),X6 (K4 b),X6 (Di W)]) (by simp [Xy]) (by simp))))))))))
 refine X0 1000 ?_
 simp (disch:=omega) only [QT,FW,Q5,↓Xo,wD,↓X2,wA,seval,wE]
 have sCl:Settled (.fn 138 [Uo W,Z6 a,Z6 b]):=Ji (by simp [Di,K4])
 have bCl:Js 1 (.fn 138 [Uo W,Z6 a,Z6 b])=True:=eq_true (X6 sCl)
 have bW:Js 1 (OD W)=True:=eq_true (X6 (KV W))
 have b3:∀ v n l,XH 1 (.row v n (Xw Q8 29 BD l))=True:=fun v n l=>eq_true fun j _=>X6 (Xd (Qe _) _)
 refine Xe (fun i:Nat=>⟨15,[18,32,33,34,63,64,65],[.any,.any,.any,.any,.any,.any,.any,.any,.any,.any,.any,.fn 138 [Uo W,Z6 a,Z6 b],.osl 0 ((W.take i).filter (fun f=>!OH a.rim.length b.rim.length W f)).length 29 0 ((W.take i).filter (fun f=>!OH a.rim.length b.rim.length W f)).length,.any,.any],[(65,I i),(64,I W.length),(63,OD W)],[.row ((W.take i).filter (fun f=>!OH a.rim.length b.rim.length W f)).length (((W.take i).filter (fun f=>!OH a.rim.length b.rim.length W f)).length*29) (Xw Q8 29 BD ((W.take i).filter (fun f=>!OH a.rim.length b.rim.length W f)))]⟩) (fun i=>i≤W.length∧((W.take i).filter (fun f=>!OH a.rim.length b.rim.length W f)).length≤i) (fun i=>W.length - i) 0 ⟨by omega,by simp⟩
  (Sub.trans (Qi 12 29 (Xw Q8 29 BD []) rfl) (Xa rfl (by simp [AS.put,Xh,FW,QT,Q5,I]) (by simp [AS.put,Xi,Xv,Q5,I]) (by simp [AS.put]))) ?_
 rintro i ⟨hi,hil⟩ next
 by_cases hi2:i<W.length
 rotate_left
 ·obtain rfl:i=W.length:=by omega
  rw [List.take_length]
  refine X0 1000 ?_
  simp (disch:=omega) only [Q5,↓Xo,wD,↓X2,wA,seval,wE]
  exact nz _ rfl rfl rfl
 have nx:=next (i+1)
 rw [au _ _ W i hi2] at nx
 generalize (W.take i).filter (fun f=>!OH a.rim.length b.rim.length W f)=D at *
 obtain ⟨n1,n2⟩:=hfin _ (JD (d:=BD) hi2)
 have v1:=fF W i
 have v2:=uP W i
 have c:=gC a b (W.getD i BD) W ⟨by omega,by omega⟩ ⟨by omega,by omega⟩ (by omega) n1 n2 hfin
 generalize W.getD i BD=f at *
 generalize OH a.rim.length b.rim.length W f=q at *
 refine X0 1000 ?_
 simp (disch:=omega) only [Q5,v1,v2,Q8,↓Xo,wD,↓X2,wA,seval,wE]
 refine X1 c rfl ?_
 cases q with
 | true =>
  rw [if_pos rfl,List.append_nil] at nx
  simp (disch:=omega) only [Q5,↓Xo,wD,↓X2,wA,seval,wE]
  exact nx _ ⟨by omega,by omega⟩ (by omega) (Xz (m:=1) (Nat.zero_le _) rfl (by simp [Xh,I]) (by simp [Xi,Xv,Q5,I]) (by simp) (by simp [Xy,bCl]) (by simp [Xy,bW]) (by simp [b3]))
 | false =>
  rw [if_neg (by decide)] at nx
  have hap:=Q0 Q8 29 BD D f (by omega)
  have hDl:(D ++ [f]).length=D.length+1:=by simp
  simp (disch:=omega) only [Q5,↓Xo,wD,↓X2,wA,seval,wE]
  refine ⟨VT f,nx _ ⟨by omega,by omega⟩ (by omega) (Xz (m:=1) (Nat.zero_le _) rfl (by simp [Xh,hDl,I]) (by simp [Xi,Xv,Q5,I]) (by simp only [hDl,← hap]; rfl) (by simp [Xy,bCl]) (by simp [Xy,bW]) (by simp [b3]))⟩
theorem Ur {a b:PV} {e:Rat} {f:FV} (h:f∈BZ a b e) (ha:0<a.rim.length) (hb:0<b.rim.length):Ql a b f e=f:=by
 obtain ⟨i,j,k,t,hi,hj,k0,kn,km,hp,ht,ho,rfl⟩:=(Dx a b e f ha hb).1 h
 rfl
theorem Ey {p:PV} {t:Rat} (h:GP p t):0<p.rim.length∧p.rim.length≤12:=by have:=h.poly.1; simp [XB] at this; omega
structure Fnd (a b:PV) (e:Rat) (L:List FV):Prop where
 len:L.length≤24000
 fine:∀ f∈L,f.fine
 self:∀ f∈L,Ql a b f e=f
 ok:∀ f∈L,JK a b f e=0
theorem Ro {a b:PV} {ta tb:Rat} (ha:GP a ta) (hb:GP b tb):Fnd a b (ta+tb) (ER a b (ta+tb)):=by
 have la:=Ey ha; have lb:=Ey hb
 refine ⟨Nat.le_trans (List.length_filter_le _ _) (Pu a b (ta+tb) la.2 lb.2 la.1 lb.1),fun f hf=>?_,fun f hf=>Ur (List.mem_filter.1 hf).1 la.1 lb.1,fun f hf=>PW (List.mem_filter.1 hf).1 la.1 lb.1⟩
 obtain ⟨_,h1,h2,h3⟩:=Rp ha hb (List.mem_filter.1 hf).1
 exact ⟨by omega,by omega,by omega⟩
theorem Se {n m:Nat} {f g h:FV} (hn:0<n) (hf:0≤f.M) (hh:h.M<n) (h1:Ah n m f g) (h2:Ah n m g h):Ah n m f h:=by
 obtain ⟨a1,a2,a3,a4⟩:=h1
 obtain ⟨b1,b2,b3,b4⟩:=h2
 have p1:=Int.emod_nonneg (f.EA - g.EA) (show (n:Int)≠0 by omega)
 have p2:=Int.emod_nonneg (g.EA - h.EA) (show (n:Int)≠0 by omega)
 have e:(f.EA - h.EA) % n=(f.EA - g.EA) % n+(g.EA - h.EA) % n:=by
  have q:f.EA - h.EA=(f.EA - g.EA)+(g.EA - h.EA):=by omega
  rw [q,Int.add_emod]
  exact Int.emod_eq_of_lt (by omega) (by omega)
 refine ⟨by omega,by omega,?_,a4.trans b4⟩
 rw [e,← a3,← b3]
 generalize (f.EA - g.EA) % (n:Int)=d1
 generalize (g.EA - h.EA) % (n:Int)=d2
 rw [Int.emod_sub_emod]
 congr 1
 omega
theorem Al {a b:PV} {e:Rat} {f:FV} (h:f∈BZ a b e) (ha:0<a.rim.length) (hb:0<b.rim.length):f.A=0∧f.B=1∧(0≤f.EA∧f.EA<a.rim.length)∧(0≤f.EB∧f.EB<b.rim.length)∧1≤f.M∧f.M<a.rim.length∧f.M<b.rim.length:=by
 obtain ⟨i,j,k,t,hi,hj,k0,kn,km,hp,ht,ho,rfl⟩:=(Dx a b e f ha hb).1 h
 refine ⟨rfl,rfl,?_⟩
 show (0≤(i:Int)∧(i:Int)<a.rim.length)∧(0≤(j:Int)∧(j:Int)<b.rim.length)∧1≤(k:Int)∧(k:Int)<a.rim.length∧(k:Int)<b.rim.length
 omega
theorem gD {a b:PV} {e:Rat} (ha:0<a.rim.length) (hb:0<b.rim.length):∀ (d:Nat) (f:FV),f∈BZ a b e→a.rim.length≤f.M.toNat+d→∃ h∈ER a b e,f=h∨Ah a.rim.length b.rim.length f h:=by
 intro d
 induction d with
 | zero =>
  intro f hf hd
  have:=Al hf ha hb
  omega
 | succ d ih =>
  intro f hf hd
  have sf:=Al hf ha hb
  by_cases hp:OH a.rim.length b.rim.length (BZ a b e) f=true
  ·unfold OH at hp
   obtain ⟨g,hg,hq⟩:=List.any_eq_true.1 hp
   have hq:=of_decide_eq_true hq
   have sg:=Al hg ha hb
   have hM:=hq.1
   obtain ⟨h,hh,hor⟩:=ih g hg (by omega)
   refine ⟨h,hh,.inr ?_⟩
   rcases hor with rfl | hor
   ·exact hq
   ·have sh:=Al (List.mem_filter.1 hh).1 ha hb
    exact Se ha (by omega) (by omega) hq hor
  ·exact ⟨f,List.mem_filter.2 ⟨hf,by simp [hp]⟩,.inl rfl⟩
theorem YU {a b:PV} {e:Rat} {f:FV} (h:JK a b f e=0) (hA:f.A=0) (hB:f.B=1) (ha:0<a.rim.length) (hb:0<b.rim.length):f∈BZ a b e:=by
 obtain ⟨h1,h2,h3,⟨h4,h5,h6⟩,h7⟩:=(FP a b f e).1 h
 obtain ⟨A,B,EA,EB,M,t,lo,hi⟩:=f
 simp only at hA hB
 subst hA hB
 obtain ⟨⟨x1,x2⟩,⟨x3,x4⟩,x5,x6,x7⟩:=h1
 simp only at x1 x2 x3 x4 x5 x6 x7
 obtain ⟨i,rfl⟩:=Int.eq_ofNat_of_zero_le x1
 obtain ⟨j,rfl⟩:=Int.eq_ofNat_of_zero_le x3
 obtain ⟨k,rfl⟩:=Int.eq_ofNat_of_zero_le (show 0≤M by omega)
 simp only at h5 h6
 obtain ⟨k',q1,q2,q3⟩:=h3
 have hs:(⟨0,1,(i:Int),(j:Int),(k:Int),t,lo,hi⟩:FV)=Ql a b (JI i j k t) e:=by
  show _=(⟨0,1,(i:Int),(j:Int),(k:Int),t,(XJ a.rim b.rim (JI i j k t) e).1,(XJ a.rim b.rim (JI i j k t) e).2.1⟩:FV)
  rw [show XJ a.rim b.rim (JI i j k t) e=XJ a.rim b.rim ⟨0,1,(i:Int),(j:Int),(k:Int),t,lo,hi⟩ e from rfl,h5,h6]
 refine (Dx a b e _ ha hb).2 ⟨i,j,k,t,by omega,by omega,by omega,by omega,by omega,h2,?_,?_,hs⟩
 ·rw [AE]
  exact ⟨k',by simpa using q1,q2,q3⟩
 ·unfold Hw
  rw [Bool.and_eq_true,← hs]
  exact ⟨h4,h7⟩
theorem YV {a b:PV} {e:Rat} {f:FV} (h:JK a b f e=0) (hA:f.A=0) (hB:f.B=1) (ha:0<a.rim.length) (hb:0<b.rim.length):∃ h∈ER a b e,f=h∨Ah a.rim.length b.rim.length f h :=
 gD ha hb a.rim.length f (YU h hA hB ha hb) (by omega)
theorem eQ {a b:PV} {f:FV} {e e':Rat} (h:JK a b f e=0) (he:e≤e'):(Ql a b f e').lo.x≤f.lo.x∧(Ql a b f e').lo.y≤f.lo.y∧f.hi.x≤(Ql a b f e').hi.x∧f.hi.y≤(Ql a b f e').hi.y∧(Ql a b f e').lo.add (Ql a b f e').hi=f.lo.add f.hi:=by
 obtain ⟨h1,h2,h3,⟨h4,h5,h6⟩,h7⟩:=(FP a b f e).1 h
 obtain ⟨_,_,z1,_⟩:=Dw h4
 obtain ⟨_,_,z2,_⟩:=Dw (F4 h4 he)
 unfold Ql
 rw [← h5,← h6]
 simp only [z1,z2]
 unfold V2.add V2.sub
 simp only [V2.ext']
 refine ⟨by grind,by grind,by grind,by grind,by grind,by grind⟩
def Rs (n m:Nat) (g:FV) (W:List FV) (j:Nat):Bool:=(W.take j).any fun x=>decide (g=x) || decide (Ah n m g x)
theorem az (n m:Nat) (g:FV) (W:List FV) (j:Nat) (h:j<W.length):Rs n m g W (j+1)=(Rs n m g W j || (decide (g=W.getD j BD) || decide (Ah n m g (W.getD j BD)))):=by
 unfold Rs
 rw [List.take_succ_eq_append_getElem h,List.any_append,List.getD_eq_getElem?_getD,List.getElem?_eq_getElem h]
 simp
theorem gN {n m:Nat} {g:FV} {W:List FV} (h:∃ x∈W,g=x∨Ah n m g x):Rs n m g W W.length=true:=by
 unfold Rs
 rw [List.take_length,List.any_eq_true]
 obtain ⟨x,hx,h⟩:=h
 exact ⟨x,hx,by rcases h with h | h <;> simp [h]⟩
theorem OB {f:FV} (h:f.fine):(vb f.turn≤vm∧vb f.lo≤vm∧vb f.hi≤vm)∧(qb f.lo.x≤rm∧qb f.lo.y≤rm)∧qb f.hi.x≤rm∧qb f.hi.y≤rm:=by
 obtain ⟨h1,h2,h3⟩:=h
 have a1:=Qw f.lo; have a2:=Qq f.lo; have a3:=Qw f.hi; have a4:=Qq f.hi
 unfold vm rm
 exact ⟨⟨by omega,by omega,by omega⟩,⟨by omega,by omega⟩,by omega,by omega⟩
theorem W4 {n m:Nat} {f:FV} (hn:n≤12) (hm:m≤12) (h:(0≤f.EA∧f.EA<n)∧(0≤f.EB∧f.EB<m)∧1≤f.M∧f.M<n∧f.M<m):f.near:=⟨by omega,by omega,by omega⟩
theorem P6 (l:List Int) (n m:Int) (hl:FJ l) (hl2:l.length<9223372036854775808) (hn:ZA n) (hm:ZA m) :
  Fn Tryz.prog 12 [X9 l,I n,I m] (.bool true):=by
 obtain ⟨A,B,F,ta,tb,cP,gA,gB,sA,sB,qa,qb',hF1,hF2,hF3⟩:=nS l hl
 obtain ⟨kA,gCA,sCA,aA,lA,_⟩:=N5 gA sA (by omega) n hn
 obtain ⟨kB,gCB,sCB,aB,lB,_⟩:=N5 gB sB (by omega) m hm
 have tA:=I0 n; have tB:=I0 m
 generalize EP A ta n=CA at *
 generalize EP B tb m=CB at *
 have cw:=Rn CA CB gCA gCB
 have hw:=Ro gCA gCB
 have co:=Rn A B gA gB
 have ho:=Ro gA gB
 have leA:ta≤ta+Ig n:=HD tA
 have leB:tb≤tb+Ig m:=HD tB
 have pA:=Ey gA; have pB:=Ey gB
 have pCA:=Ey gCA; have pCB:=Ey gCB
 have hsh:∀ f∈ER A B (ta+tb),f.A=0∧f.B=1∧(0≤f.EA∧f.EA<A.rim.length)∧(0≤f.EB∧f.EB<B.rim.length)∧1≤f.M∧f.M<A.rim.length∧f.M<B.rim.length:=fun f hf=>Al (List.mem_filter.1 hf).1 pA.1 pB.1
 generalize ta+Ig n=sa at *
 generalize tb+Ig m=sb at *
 have hwn:∀ f∈ER CA CB (sa+sb),f.near:=fun f hf=>W4 pCA.2 pCB.2 (Al (List.mem_filter.1 hf).1 pCA.1 pCB.1).2.2
 have htop:∀ f,JK CA CB f (sa+sb)=0→f.A=0→f.B=1→∃ h∈ER CA CB (sa+sb),f=h∨Ah CA.rim.length CB.rim.length f h:=fun f h1 h2 h3=>YV h1 h2 h3 pCA.1 pCB.1
 generalize ER CA CB (sa+sb)=W at *
 generalize ER A B (ta+tb)=L at *
 have lW:=hw.len
 have lL:=ho.len
 have bX:XH 3 (.con 0 79 (Xp (L7 A B F)))=True:=eq_true (fun j _=>X6 (Xd (HU A B F) _))
 have bA:XH 3 (.con 0 25 (Xp (XD CA)))=True:=eq_true (fun j _=>X6 (Xd (XE CA) _))
 have bB:XH 3 (.con 0 25 (Xp (XD CB)))=True:=eq_true (fun j _=>X6 (Xd (XE CB) _))
 have bW:Js 3 (OD W)=True:=eq_true (X6 (KV W))
 have bL:Js 3 (OD L)=True:=eq_true (X6 (KV L))
 refine Fq Tryz.call12 Tryz.func12 17 [] [9,12,130000013,14,20] [] (by simp [X8,X7]) (X0 1000 ?_)
 simp (disch:=omega) only [AS.start,↓Xo,wD,↓X2,wA,seval,wE]
 refine X1 cP rfl ?_
 simp (disch:=omega) only [L7,XD,Q8,List.cons_append,List.nil_append,↓Xo,wD,↓X2,wA,seval,wE]
 refine X1 kA rfl ?_
 simp (disch:=omega) only [Qf,XD,↓Xo,wD,↓X2,wA,seval,wE]
 refine X1 kB rfl ?_
 simp (disch:=omega) only [Qf,XD,↓Xo,wD,↓X2,wA,seval,wE]
 refine X1 co rfl ?_
 simp (disch:=omega) only [Qf,XD,↓Xo,wD,↓X2,wA,seval,wE]
 refine X1 cw rfl ?_
 simp (disch:=omega) only [↓Xo,wD,↓X2,wA,seval,wE]
 refine Xe (fun i:Nat=>⟨17,[],[.any,.any,.any,.any,.any,.any,.bool false,.ref 0 0 0,.ref 1 0 0,.ref 2 0 0,OD L,OD W,I i,.any,.any,.any,.any],[],[.con 0 79 (Xp (L7 A B F)),.con 0 25 (Xp (XD CA)),.con 0 25 (Xp (XD CB))]⟩) (fun i=>i≤L.length) (fun i=>L.length - i) 0 (by omega)
  (Sub.trans (Qt 0 rfl) (Sub.trans (Qt 1 rfl) (Sub.trans (Qt 2 rfl) (Xa rfl (by simp [Xh,Q5,I]) (by simp [Xi]) (by simp [L7,XD,Q8,Xg,Xm,X4,I,sg]))))) ?_
 intro i hi next
 by_cases hi2:i<L.length
 rotate_left
 ·refine X0 1000 ?_
  simp (disch:=omega) only [Q5,↓Xo,wD,↓X2,wA,seval,wE]
  refine X1 ij rfl ?_
  simp (disch:=omega) only [↓Xo,wD,↓X2,wA,seval,wE]
  exact Xr rfl rfl (X3 _) rfl
 have hm:=JD (d:=BD) hi2
 have hf:=ho.fine _ hm
 have h1:=ho.self _ hm
 have h2:=ho.ok _ hm
 have h3:=hsh _ hm
 have x1:=fF L i
 have x2:=uP L i
 have x3:∀ a k,a+k<29→Xw Q8 29 BD L (i*29+a+k)=(Q8 (L.getD i BD)).getD (a+k) .any:=fun a k hk=>by rw [Nat.add_assoc]; exact x1 _ hk
 have x4:∀ a b k,a+b+k<29→Xw Q8 29 BD L (i*29+a+b+k)=(Q8 (L.getD i BD)).getD (a+b+k) .any:=fun a b k hk=>by rw [Nat.add_assoc (i*29),Nat.add_assoc (i*29)]; exact x1 _ hk
 generalize L.getD i BD=f at *
 obtain ⟨c1,_⟩:=UB A B f CA CB gA gB gCA gCB sA sB sCA sCB hf
 rw [im h2 ⟨lA.symm,leA⟩ ⟨lB.symm,leB⟩] at c1
 have hg:(Ql CA CB f (sa+sb)).fine:=V7 gCA gCB hf
 have le2:ta+tb≤sa+sb:=by grind
 have hck:JK CA CB (Ql CA CB f (sa+sb)) (sa+sb)=0:=by
  rw [PU aA aB,HZ aA aB]; exact U7 h2 le2
 have c2:=Ng CA CB (Ql CA CB f (sa+sb)) gCA gCB hg
 rw [hck] at c2
 have hbx:=eQ h2 le2
 rw [← HZ aA aB] at hbx
 obtain ⟨b1,b2,b3,b4,b5⟩:=hbx
 have hgn:(Ql CA CB f (sa+sb)).near:=W4 pA.2 pB.2 h3.2.2
 have hfi:=gN (htop _ hck h3.1 h3.2.1)
 simp only at c1
 generalize Ql CA CB f (sa+sb)=g at *
 obtain ⟨⟨u1,u2,u3⟩,⟨u4,u5⟩,u6,u7⟩:=(OB hf)
 obtain ⟨⟨w1,w2,w3⟩,⟨w4,w5⟩,w6,w7⟩:=(OB hg)
 have k1:=QR g.lo.x f.lo.x w4 u4
 have k2:=QR g.lo.y f.lo.y w5 u5
 have k3:=QR g.hi.x f.hi.x w6 u6
 have k4:=QR g.hi.y f.hi.y w7 u7
 have m1:=(A4 g.lo.x f.lo.x).2 b1
 have m2:=(A4 g.lo.y f.lo.y).2 b2
 have m3:=(D8 g.hi.x f.hi.x).2 b3
 have m4:=(D8 g.hi.y f.hi.y).2 b4
 generalize XV g.lo.x f.lo.x=z1 at *
 generalize XV g.lo.y f.lo.y=z2 at *
 generalize XV g.hi.x f.hi.x=z3 at *
 generalize XV g.hi.y f.hi.y=z4 at *
 have k5:=Gd g.lo g.hi w2 w3
 have k6:=Gd f.lo f.hi u2 u3
 rw [b5] at k5
 have k7:=OP (f.lo.add f.hi) (f.lo.add f.hi) (by have:=Bc f.lo f.hi; have:=hf.lo; have:=hf.hi; unfold vm; omega) (by have:=Bc f.lo f.hi; have:=hf.lo; have:=hf.hi; unfold vm; omega)
 rw [decide_eq_true rfl] at k7
 generalize f.lo.add f.hi=S at *
 refine X0 1000 ?_
 simp (disch:=omega) only [x1,x2,x3,x4,Q5,L7,XD,Q8,List.cons_append,List.nil_append,↓Xo,wD,↓X2,wA,seval,wE]
 refine X1 c1 rfl ?_
 simp (disch:=omega) only [L7,Ke,XD,Q8,List.cons_append,List.nil_append,↓Xo,wD,↓X2,wA,seval,wE]
 refine X1 c2 rfl ?_
 simp (disch:=omega) only [x1,x2,x3,x4,Q5,Ke,Q8,↓Xo,wD,↓X2,wA,seval,wE]
 refine X1 k1 rfl ?_
 simp (disch:=omega) only [x1,x2,x3,x4,Q5,Ke,Q8,↓Xo,wD,↓X2,wA,seval,wE]
 refine X1 k2 rfl ?_
 simp (disch:=omega) only [x1,x2,x3,x4,Q5,Ke,Q8,↓Xo,wD,↓X2,wA,seval,wE]
 refine X1 k3 rfl ?_
 simp (disch:=omega) only [x1,x2,x3,x4,Q5,Ke,Q8,↓Xo,wD,↓X2,wA,seval,wE]
 refine X1 k4 rfl ?_
 simp (disch:=omega) only [x1,x2,x3,x4,Q5,Ke,Q8,↓Xo,wD,↓X2,wA,seval,wE]
 refine X1 k5 rfl ?_
 simp (disch:=omega) only [x1,x2,x3,x4,Q5,Ke,Q8,↓Xo,wD,↓X2,wA,seval,wE]
 refine X1 k6 rfl ?_
 simp (disch:=omega) only [↓Xo,wD,↓X2,wA,seval,wE]
 refine X1 k7 rfl ?_
 simp (disch:=omega) only [↓Xo,wD,↓X2,wA,seval,wE]
 have bG:XH 4 (.con 0 29 (Xp (Q8 g)))=True:=eq_true (fun j _=>X6 (Xd (Qe g) _))
 refine Xe (fun j:Nat=>⟨17,[],[.any,.any,.any,.any,.any,.any,.bool false,.ref 0 0 0,.ref 1 0 0,.ref 2 0 0,OD L,OD W,I i,.ref 3 0 0,.any,.bool (Rs CA.rim.length CB.rim.length g W j),I j],[],[.con 0 79 (Xp (L7 A B F)),.con 0 25 (Xp (XD CA)),.con 0 25 (Xp (XD CB)),.con 0 29 (Xp (Q8 g))]⟩) (fun j=>j≤W.length) (fun j=>W.length - j) 0 (by omega)
  (Xa rfl (by simp [Xh,Q5,I,Rs]) (by simp [Xi]) (by simp [L7,XD,Q8,Xg,Xm,X4,I,sg])) ?_
 intro j hj nextj
 by_cases hj2:j<W.length
 rotate_left
 ·obtain rfl:j=W.length:=by omega
  refine X0 1000 ?_
  rw [hfi]
  simp (disch:=omega) only [Q5,↓Xo,wD,↓X2,wA,seval,wE]
  exact next (i+1) _ (by omega) (by omega) (Xz (m:=3) (Nat.zero_le _) rfl (by simp [Xh,Q5,I]) (by simp [Xi]) (by simp [L7,XD,Q8,Xg,Xm,X4,I,sg]) (by simp [Xy,bL,bW]) (by simp [Xy]) (by simp [bX,bA,bB]))
 clear next
 have hmw:=JD (d:=BD) hj2
 have hsu:=az CA.rim.length CB.rim.length g W j hj2
 have hf2:=hw.fine _ hmw
 have hn2:=hwn _ hmw
 have y1:=fF W j
 have y2:=uP W j
 generalize W.getD j BD=o at *
 have p1:=UQ g o hg hf2
 have p2:=nT CA CB g o (by omega) (by omega) hgn hn2 w1 (OB hf2).1.1
 generalize decide (g=o)=D1 at *
 generalize decide (Ah CA.rim.length CB.rim.length g o)=D2 at *
 generalize Rs CA.rim.length CB.rim.length g W j=B0 at *
 cases B0
 ·refine X0 1000 ?_
  simp (disch:=omega) only [y1,y2,Q5,L7,XD,Q8,List.cons_append,List.nil_append,↓Xo,wD,↓X2,wA,seval,wE]
  refine X1 p1 rfl ?_
  cases D1
  ·simp (disch:=omega) only [y1,y2,Q5,Ke,Qf,L7,XD,Q8,List.cons_append,List.nil_append,↓Xo,wD,↓X2,wA,seval,wE]
   refine X1 p2 rfl ?_
   simp (disch:=omega) only [↓Xo,wD,↓X2,wA,seval,wE]
   exact nextj (j+1) _ (by omega) (by omega) (Xa rfl (by simp [Xh,Q5,I,hsu]) (by simp [Xi]) (by simp [L7,XD,Q8,Xg,Xm,X4,I,sg]))
  ·simp (disch:=omega) only [↓Xo,wD,↓X2,wA,seval,wE]
   exact nextj (j+1) _ (by omega) (by omega) (Xa rfl (by simp [Xh,Q5,I,hsu]) (by simp [Xi]) (by simp [L7,XD,Q8,Xg,Xm,X4,I,sg]))
 ·refine X0 1000 ?_
  simp (disch:=omega) only [Q5,↓Xo,wD,↓X2,wA,seval,wE]
  exact nextj (j+1) _ (by omega) (by omega) (Xa rfl (by simp [Xh,Q5,I,hsu]) (by simp [Xi]) (by simp [L7,XD,Q8,Xg,Xm,X4,I,sg]))
end
end Go.Ab.N
