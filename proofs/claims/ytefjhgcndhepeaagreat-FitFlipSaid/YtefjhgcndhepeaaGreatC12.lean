/- Own texts. -/
import Derived.Test.YtefjhgcndhepeaaGreatC11
import Derived.Test.YtefjhgcndhepeaaGreatC10
import Derived.Test.YtefjhgcndhepeaaGreatC7
import Derived.Test.YtefjhgcndhepeaaGreatC6
set_option linter.unusedSimpArgs false
set_option linter.unusedVariables false
open Nat renaming reducePow → Y1, reduceLT → Y2, reduceLeDiff → Y3, reduceEqDiff → Y4, reduceAdd → Y5, reduceMul → Y6, reduceSub → Y7, reduceBEq → Y8, reduceDiv → Y9, reduceMod → YA
namespace Go.Ab.N
open Go Go.RowKit Go.Proofs
noncomputable section
set_option maxRecDepth 10000
set_option maxHeartbeats 4000000
open Classical
theorem oG (L:List V2) (k:Nat) (hs:Q2 L k) (hk:k≤1000) (hp:XM L):Fn Tryz.prog 264 [Xp L] (.tup [kf (BV L),I 0]):=by
 have hl:=(JV L hp).1
 have cv:=Dc L (fun i=>Nat.le_trans (hs i) hk) (by omega)
 rw [decide_eq_true hp] at cv
 have ca:=kH L.length (by omega)
 obtain ⟨T,hT⟩:∃ T,T=BV L:=⟨_,rfl⟩
 rw [← hT]
 have h0:=AD hl.1 (by omega)
 have d0:(List.range L.length).Nodup:=List.nodup_range
 have hlr:(List.range L.length).length=L.length:=List.length_range
 have hTc:T=BA L (List.range L.length).length (List.range L.length):=by rw [hT,hlr]; rfl
 have s0:∀ l,XI 2 (.row 0 1 (Xn [X7 l]))=True:=fun l=>eq_true (XD (by simp [X6]))
 have s1:∀ v n l,XI 2 (.row v n (Xs tC 3 (0,0,0) l))=True:=fun v n l=>eq_true fun j _=>X5 (Xb (FF _) _)
 refine Fq Tryz.call264 Tryz.func264 7 [] [9,10001,10005,10009,11,120000004] [] (by simp [Xc]) (Xl ?_)
 simp only [AS.start,X4,↓X1,wF,seval]
 refine X0 cv rfl ?_
 simp only [X4,↓X1,wF,seval]
 refine X0 ca rfl ?_
 generalize List.range L.length=R0 at *
 simp only [X4,QK,X3,Xj,↓X1,wF,seval]
 refine Xe (fun w:List (Nat×Nat×Nat)×List Nat=>⟨7,[],[Xp L,.any,.any,.any,.ref 0 0 0,.osl 1 w.1.length 3 0 w.1.length,.any],[],[.row 0 1 (Xn [X7 (zs w.2)]),.row w.1.length (w.1.length*3) (Xs tC 3 (0,0,0) w.1)]⟩) (fun w=>Rok L w.2∧w.2.Nodup∧3≤w.2.length∧w.1.length+w.2.length≤L.length∧w.1 ++ BA L w.2.length w.2=T) (fun w=>w.2.length) ([],R0) ⟨h0,d0,by show 3≤R0.length; omega,by simp [hlr],by rw [hTc]; rfl⟩
  (Sub.trans (Q5 5 3 (Xs tC 3 (0,0,0) []) rfl) (Xi rfl (by simp [AS.put,Xf,X4]) (by simp [AS.put,Xq]) (by simp [AS.put,X3,Xj]))) ?_
 rintro ⟨D,R⟩ ⟨h,hd,h3,hDl,hDT⟩ next
 replace h:Rok L R:=h
 replace hd:R.Nodup:=hd
 replace h3:3≤R.length:=h3
 replace hDl:D.length+R.length≤L.length:=hDl
 replace hDT:D ++ BA L R.length R=T:=hDT
 by_cases h4:3<R.length
 rotate_left
 ·have e3:R.length=3:=by omega
  rw [Ra h4] at hDT
  have hap:=XR tC 3 (0,0,0) D (R.getD 0 0,R.getD 1 0,R.getD 2 0) (by omega)
  rw [hDT] at hap
  have hTl:T.length=D.length+1:=by rw [← hDT]; simp
  refine Xl ?_
  simp (disch:=omega) only [X4,X3,Xj,Bj,Kl,wD,↓X1,wF,seval]
  exact ⟨Pl (R.getD 0 0,R.getD 1 0,R.getD 2 0),WW T rfl (by rw [hTl]; rfl) (by rw [hTl,← hap]; rfl) rfl (X9 _)⟩
 have hgo:=W4 h hd h4
 obtain ⟨b1,b2,b3,b4⟩:=Eo h hd h4
 have hn:=h.len
 refine Xl ?_
 simp (disch:=omega) only [X4,X3,Xj,wD,↓X1,wF,seval]
 refine Xe (fun p:Nat=>⟨7,[],[Xp L,.any,.any,.any,.ref 0 0 0,.osl 1 D.length 3 0 D.length,I p],[],[.row 0 1 (Xn [X7 (zs R)]),.row D.length (D.length*3) (Xs tC 3 (0,0,0) D)]⟩) (fun p=>p≤R.length - 1∧∀ j,j<p→B9 L R j=false) (fun p=>R.length - p) 0 ⟨by omega,fun j hj=>absurd hj (Nat.not_lt_zero j)⟩
  (Jm (by simp [Xf,X4,I]) (by simp [X3,Xj])) ?_
 rintro p ⟨hp1,hno⟩ next2
 have ce:=oH L R p k h (by omega) hs (by omega)
 have c1:=ED R p (-1) (p+R.length - 1) h.pos h.len (by have:=h.pos; omega) (by omega) (by omega) (by omega)
 have c2:=ED R p 1 (p+R.length+1) h.pos h.len (by omega) (by omega) (by omega) (by omega)
 have cw:=Ms R p hn (by omega)
 have hre:=Bv h h4 (show p<R.length by omega)
 have hlr:(R.eraseIdx p).length=R.length - 1:=by rw [List.length_eraseIdx,if_pos (by omega)]
 have cc:=Uo L (R.eraseIdx p) k hre hs (by omega)
 rw [hlr] at cc
 rw [QK,X3,Xj] at ce c1 c2 cw
 by_cases hgo2:p<R.length - 1∧B9 L R p=false
 ·refine Xl ?_
  simp (disch:=omega) only [X4,X3,Xj,wD,↓X1,wF,seval]
  refine X0 ce rfl ?_
  simp (disch:=omega) only [hgo2.2,X4,X3,Xj,wD,↓X1,wF,seval]
  exact next2 (p+1) _ ⟨by omega,KJ.2 ⟨hno,hgo2.2⟩⟩ (by omega) (Jm (by simp [Xf,X4,I]) (by simp [X3,Xj]))
 have hep:G0 L R=p:=W9 hp1 hno (by
  by_cases h1:p=R.length - 1
  ·exact .inl h1
  ·right
   cases he:B9 L R p with
   | true=>rfl
   | false=>exact absurd ⟨by omega,he⟩ hgo2)
 have hD:(D ++ [EQ R p]) ++ BA L (BW L R).length (BW L R)=T:=by rw [← hDT,hgo,hep,List.append_assoc]; rfl
 have hap:=XR tC 3 (0,0,0) D (EQ R p) (by omega)
 have hcs:Zi L (R.length - 1) (R.eraseIdx p)=BW L R:=by unfold BW; rw [hep]
 rw [hcs] at cc
 have nx:=next (D ++ [EQ R p],BW L R)
 rw [List.length_append,List.length_singleton] at nx
 have htr:tC (EQ R p)=[I (nr R (p+R.length - 1)),I (R.getD p 0:Nat),I (nr R (p+R.length+1))]:=rfl
 have hone:=Pl (EQ R p)
 rw [htr] at hap hone
 generalize D ++ [EQ R p]=D2 at *
 generalize BW L R=R2 at *
 have v2:=Bj R p
 generalize nr R (p+R.length - 1)=a at *
 generalize nr R (p+R.length+1)=c at *
 generalize R.getD p 0=b at *
 clear hgo hcs htr
 refine Xl ?_
 by_cases hl:p<R.length - 1
 have he:B9 L R p=true:=by
  cases he:B9 L R p with
  | true=>rfl
  | false=>exact absurd ⟨hl,he⟩ hgo2
 simp (disch:=omega) only [X4,X3,Xj,wD,↓X1,wF,seval]
 refine X0 ce rfl ?_
 simp (disch:=omega) only [he,X4,X3,Xj,wD,↓X1,wF,seval]
 rotate_left
 simp (disch:=omega) only [X4,X3,Xj,wD,↓X1,wF,seval]
 all_goals
  refine X0 c1 rfl ?_
  simp (disch:=omega) only [X4,X3,Xj,v2,wD,↓X1,wF,seval]
  refine X0 c2 rfl ?_
  simp (disch:=omega) only [X4,X3,Xj,v2,wD,↓X1,wF,seval]
  refine ⟨hone,?_⟩
  refine X0 cw rfl ?_
  simp (disch:=omega) only [QK,X4,X3,Xj,wD,↓X1,wF,seval]
  refine X0 cc (by simp only [QK,X3,Xj]; rfl) ?_
  simp (disch:=omega) only [QK,X4,X3,Xj,wD,↓X1,wF,seval]
  exact nx _ ⟨b1,b2,b3,by show D.length+1+R2.length≤L.length; omega,hD⟩ (by show R2.length<R.length; omega) (Jm (by simp [Xf,X4,I]) (by rw [← hap]; simp [X3,Xj,I,Pp]))
def dj (L:List V2) (d:Nat×Nat×Nat):List V2:=[L.getD d.1 v0,L.getD d.2.1 v0,L.getD d.2.2 v0]
def JL (L:List V2):List (List V2):=(BV L).map (dj L)
theorem Lg (L:List V2):∀ (f:Nat) (R:List Nat),Rok L R→R.Nodup→3≤R.length→∀ d∈BA L f R,d.1<L.length∧d.2.1<L.length∧d.2.2<L.length
 | 0,R,h,_,_,d,hd=>by
  rw [List.mem_singleton.1 hd]
  exact ⟨h.mem 0,h.mem 1,h.mem 2⟩
 | f+1,R,h,hn,h3,d,hd=>by
  unfold BA at hd
  split at hd
  ·rename_i h4
   obtain ⟨b1,b2,b3,_⟩:=Eo h hn h4
   rcases List.mem_cons.1 hd with rfl | hd
   ·exact ⟨h.mem _,h.mem _,h.mem _⟩
   ·exact Lg L f _ b1 b2 b3 d hd
  ·rw [List.mem_singleton.1 hd]
   exact ⟨h.mem 0,h.mem 1,h.mem 2⟩
theorem FX (L:List V2):∀ (f:Nat) (R:List Nat),Rok L R→R.Nodup→3≤R.length→(BA L f R).length≤R.length
 | 0,R,h,_,_=>h.pos
 | f+1,R,h,hn,h3=>by
  unfold BA
  split
  ·rename_i h4
   obtain ⟨b1,b2,b3,b4⟩:=Eo h hn h4
   have:=FX L f _ b1 b2 b3
   rw [List.length_cons]; omega
  ·exact h.pos
theorem dD (A B C:V2):Weak (Ig A B C).loose (Xp [A,B,C]):=by
 rw [XY,X4]
 show Weak (AV.sl 3 24 _ false) _
 refine Pr (Nat.le_refl _) fun j hj=>?_
 have hj:j<24:=hj
 match j,hj with
 | 0,_=>rfl
 | 1,_=>rfl
 | 2,_=>rfl
 | 3,_=>rfl
 | 4,_=>rfl
 | 5,_=>rfl
 | 6,_=>rfl
 | 7,_=>rfl
 | 8,_=>rfl
 | 9,_=>rfl
 | 10,_=>rfl
 | 11,_=>rfl
 | 12,_=>rfl
 | 13,_=>rfl
 | 14,_=>rfl
 | 15,_=>rfl
 | 16,_=>rfl
 | 17,_=>rfl
 | 18,_=>rfl
 | 19,_=>rfl
 | 20,_=>rfl
 | 21,_=>rfl
 | 22,_=>rfl
 | 23,_=>rfl
 | j+24,h=>omega
theorem ZR (L:List V2):(JL L).length=(BV L).length:=by simp [JL]
theorem Em (L:List V2) (i:Nat) (h:i<(BV L).length):(JL L).getD i []=dj L ((BV L).getD i (0,0,0)):=by
 unfold JL
 rw [List.getD_eq_getElem?_getD,List.getElem?_map,List.getD_eq_getElem?_getD,List.getElem?_eq_getElem h]; rfl
theorem tF (T:List (Nat×Nat×Nat)) (i:Nat):Xs tC 3 (0,0,0) T (i*3)=I (T.getD i (0,0,0)).1∧Xs tC 3 (0,0,0) T (i*3+1)=I (T.getD i (0,0,0)).2.1∧Xs tC 3 (0,0,0) T (i*3+2)=I (T.getD i (0,0,0)).2.2 :=
 ⟨Kv _ _ _ _ _ (by omega),Kg _ _ _ _ _ _ (by omega),Kg _ _ _ _ _ _ (by omega)⟩
theorem I4 {H:List AO} (W:List (List V2)) (A B C:V2) (j:Nat) (hj:j<W.length+1):ZQ H (QR W.length (Q7 Xp [] W) 1 (Xn [(Ig A B C).loose]) j) (Q7 Xp [] (W ++ [[A,B,C]]) j):=by
 unfold QR
 by_cases h:j<W.length
 ·rw [if_pos h,Kl,Kl]
  have:(W ++ [[A,B,C]]).getD j []=W.getD j []:=by rw [List.getD_eq_getElem?_getD,List.getD_eq_getElem?_getD,List.getElem?_append_left h]
  rw [this]; exact QZ _ _
 ·obtain rfl:j=W.length:=by omega
  rw [if_neg (by omega),if_pos (by omega),Kl,Nat.sub_self]
  have:(W ++ [[A,B,C]]).getD W.length []=[A,B,C]:=by rw [List.getD_eq_getElem?_getD,List.getElem?_append_right (Nat.le_refl _),Nat.sub_self]; rfl
  rw [this]
  exact fun c v _ _ hv=>dD A B C c v hv
theorem pD {P:Program} {fn:Func} {str hcs:List Nat} {s:AS} {t u id ver:Nat} {e:AV} (W:List (List V2)) (hr:fn.results=#[.tmp t,.tmp u]) (hs:s.get t=.osl id ver 1 0 W.length) (ho:s.h[id]?=some (.row ver W.length (Q7 Xp [] W))) (hu:s.get u=e) (he:Settled e):RetOk (QJ P fn str hcs (.tup [GU W,e])) s:=by
 refine SJ hr (ZL ⟨?_,QL he hu,trivial⟩)
 rw [hs,XF]
 refine Qx (.inl ho) (by omega) (fun h=>h) fun j hj=>?_
 rw [Nat.zero_add]
 exact (Xc _).sees _
theorem oE (L:List V2) (k:Nat) (hs:Q2 L k) (hk:k≤1000) (hp:XM L):Fn Tryz.prog 246 [Xp L] (.tup [GU (JL L),I 0]):=by
 have hl:=(JV L hp).1
 have cc:=oG L k hs hk hp
 have hTl:(BV L).length≤12:=by have:=FX L L.length _ (AD hl.1 (by omega)) List.nodup_range (by rw [List.length_range]; omega); rw [List.length_range] at this; unfold BV; omega
 have hm:=Lg L L.length _ (AD hl.1 (by omega)) List.nodup_range (by rw [List.length_range]; omega)
 have hcl:=ZR L
 have hca:=Em L
 change ∀ d∈BV L,_ at hm
 generalize BV L=T at *
 generalize JL L=C at *
 have hbL:JO 1 (Xp L)=True:=eq_true (X5 (Xc L))
 have hbT:JO 1 (kf T)=True:=eq_true (X5 (HZ T))
 refine Fq Tryz.call246 Tryz.func246 8 [] [6] [] (by simp [Xc]) (Xl ?_)
 simp only [AS.start,X4,↓X1,wF,seval]
 refine X0 cc rfl ?_
 simp only [X4,Ao,↓X1,wF,seval]
 refine Xe (fun i:Nat=>⟨8,[],[Xp L,.any,.any,.any,kf T,I 0,.osl 0 i 1 0 i,I i],[],[.row i i (Q7 Xp [] (C.take i))]⟩) (fun i=>i≤T.length) (fun i=>T.length - i) 0 (by omega)
  (Sub.trans (Q5 6 1 (Q7 Xp [] []) rfl) (Xi rfl (by simp [AS.put,Xf,X4,Ao,I]) (by simp [AS.put,Xq]) (by simp [AS.put]))) ?_
 intro i hi next
 have w1:=wj i (by omega)
 by_cases hi2:i<T.length
 rotate_left
 ·obtain rfl:i=T.length:=by omega
  refine Xl ?_
  simp only [X4,Ao,Int.lt_irrefl,Nat.lt_irrefl,↓X1,wF,seval]
  rw [List.take_of_length_le (by omega)]
  exact pD C rfl (by rw [hcl]; rfl) (by rw [hcl]; rfl) rfl (X9 _)
 have t1:=tF T i
 obtain ⟨m1,m2,m3⟩:=hm (T.getD i (0,0,0)) (QS hi2)
 have hc1:=hca i hi2
 have htk:C.take (i+1)=C.take i ++ [C.getD i []]:=Q3 C [] i (by omega)
 have hwl:(C.take i).length=i:=by rw [List.length_take]; omega
 have nx:=next (i+1)
 rw [htk,hc1] at nx
 unfold dj at nx
 generalize (T.getD i (0,0,0)).1=a at *
 generalize (T.getD i (0,0,0)).2.1=b at *
 generalize (T.getD i (0,0,0)).2.2=c at *
 have va:=vF L a
 have vb:=vF L b
 have vc:=vF L c
 have hgr:=@I4 [.row (i+1) (i+1) (QR i (Q7 Xp [] (C.take i)) 1 (Xn [(Ig (L.getD a v0) (L.getD b v0) (L.getD c v0)).loose]))] (C.take i) (L.getD a v0) (L.getD b v0) (L.getD c v0)
 rw [hwl] at hgr
 generalize L.getD a v0=A at *
 generalize L.getD b v0=B at *
 generalize L.getD c v0=D at *
 generalize C.take i=W at *
 refine Xl ?_
 simp (disch:=omega) only [X4,Ao,t1,va,vb,vc,wD,Int.reduceToNat,↓X1,wF,seval]
 exact nx _ (by omega) (by omega) (Sub.trans (Xi (s':=⟨8,[],[Xp L,.any,.any,.any,kf T,I 0,.osl 0 (i+1) 1 0 (i+1),I (i+1:Nat)],[],[.row (i+1) (i+1) (QR i (Q7 Xp [] W) 1 (Xn [(Ig A B D).loose]))]⟩) rfl (by simp [Xf,X4,Ao,I]) (by simp [Xq]) (by simp [XY,X3,AV.loose])) (Sub.trans (ZM 0 (Q7 Xp [] (W ++ [[A,B,D]])) rfl (fun j hj=>hgr j hj)) (Jm (by simp [Xf]) rfl)))
theorem uU {P:Program} {fn:Func} {str hcs:List Nat} {b:Nat} {r1 r2:AV} {H:List AO} {s:AS} {t u:Nat} (hr:fn.results=#[.tmp t,.tmp u]) (h1:s.get t=r1) (h2:s.get u=r2) (hH:s.h=H):RetOk (DL P fn str hcs b (.tup [r1,r2]) H) s :=
 ⟨.tup [r1,r2],by show Z9 P fn s=_; simp [Z9,hr,J7,QH,Ag,h1,h2],rfl,hH⟩
theorem rt (o1 o2:AO) (B1:∀ m,2≤m→XI m o1) (B2:∀ m,2≤m→XI m o2) (L:List V2) (k:Nat) (hs:Q2 L k) (hk:k≤1000) (hp:D5 L) :
  HCall Tryz.prog 245 [Xp L] [o1,o2] (.tup [.osl 2 (JL L).length 1 0 (JL L).length,I 0]) [o1,o2,.row (JL L).length (JL L).length (Q7 Xp [] (JL L))]:=by
 have hl:=hp.1
 have cc:=my L k hs hk hp
 have hTl:(BV L).length≤12:=by have:=FX L L.length _ (AD hl.1 (by omega)) List.nodup_range (by rw [List.length_range]; omega); rw [List.length_range] at this; unfold BV; omega
 have hm:=Lg L L.length _ (AD hl.1 (by omega)) List.nodup_range (by rw [List.length_range]; omega)
 have hcl:=ZR L
 have hca:=Em L
 change ∀ d∈BV L,_ at hm
 generalize BV L=T at *
 generalize JL L=C at *
 have hbL:JO 3 (Xp L)=True:=eq_true (X5 (Xc L))
 have hbT:JO 3 (kf T)=True:=eq_true (X5 (HZ T))
 have q1:XI 3 o1=True:=eq_true (B1 3 (by omega))
 have q2:XI 3 o2=True:=eq_true (B2 3 (by omega))
 have s1:∀ v n f A B C,XI 3 (.row v (n+1) (QR n (Q7 Xp [] f) 1 (Xn [(Ig A B C).loose])))=True:=fun v n f A B C=>eq_true fun j hj=>by
  unfold QR
  have hset:Settled (Ig A B C).loose:=by rw [XY]; exact J8 fun j _=>Xb (l:=[_,_,_,_,_,_,_,_,_,_,_,_,_,_,_,_,_,_,_,_,_,_,_,_]) (by simp [X6,X2]) j
  split
  ·exact X5 (Xc _)
  ·rw [show j - n=0 by omega]
   exact X5 hset
 refine HCall.intro (fn:=Tryz.f245) Tryz.call245 Tryz.func245 rfl mixed 9 [14,15,16] [6,70000008] [] (by kernel_rfl) (Nat.le_of_ble_eq_true rfl) (Xl ?_)
 simp only [AS.start,X4,↓X1,wF,seval]
 refine X0 cc rfl ?_
 simp only [X4,Ao,↓X1,wF,seval]
 refine Xe (fun i:Nat=>⟨9,[14,15,16],[Xp L,.any,.any,.any,.any,I 0,.osl 2 i 1 0 i,.any,.any],[(14,kf T),(15,I T.length),(16,I i)],[o1,o2,.row i i (Q7 Xp [] (C.take i))]⟩) (fun i=>i≤T.length) (fun i=>T.length - i) 0 (by omega)
  (Sub.trans (Q5 6 1 (Q7 Xp [] []) rfl) (Xi rfl (by simp [AS.put,Xf,X4,I]) (by simp [AS.put,Xq,Xw,Ao,I]) (by simp [AS.put]))) ?_
 intro i hi next
 have w1:=wj i (by omega)
 by_cases hi2:i<T.length
 rotate_left
 ·obtain rfl:i=T.length:=by omega
  refine Xl ?_
  simp only [X4,Ao,Int.lt_irrefl,Nat.lt_irrefl,↓X1,wF,seval]
  rw [List.take_of_length_le (by omega)]
  exact uU rfl (by rw [hcl]; rfl) rfl (by rw [hcl])
 have t1:=tF T i
 obtain ⟨m1,m2,m3⟩:=hm (T.getD i (0,0,0)) (QS hi2)
 have hc1:=hca i hi2
 have htk:C.take (i+1)=C.take i ++ [C.getD i []]:=Q3 C [] i (by omega)
 have hwl:(C.take i).length=i:=by rw [List.length_take]; omega
 have nx:=next (i+1)
 rw [htk,hc1] at nx
 unfold dj at nx
 generalize (T.getD i (0,0,0)).1=a at *
 generalize (T.getD i (0,0,0)).2.1=b at *
 generalize (T.getD i (0,0,0)).2.2=c at *
 have va:=vF L a
 have vb:=vF L b
 have vc:=vF L c
 have hgr:=@I4 [o1,o2,.row (i+1) (i+1) (QR i (Q7 Xp [] (C.take i)) 1 (Xn [(Ig (L.getD a v0) (L.getD b v0) (L.getD c v0)).loose]))] (C.take i) (L.getD a v0) (L.getD b v0) (L.getD c v0)
 rw [hwl] at hgr
 generalize L.getD a v0=A at *
 generalize L.getD b v0=B at *
 generalize L.getD c v0=D at *
 generalize C.take i=W at *
 refine Xl ?_
 simp (disch:=omega) only [X4,Ao,t1,va,vb,vc,wD,Int.reduceToNat,↓X1,wF,seval]
 exact nx _ (by omega) (by omega) (Sub.trans (XE (m:=3) (s':=⟨9,[14,15,16],[Xp L,.any,.any,.any,.any,I 0,.osl 2 (i+1) 1 0 (i+1),.any,.any],[(14,kf T),(15,I T.length),(16,I (i+1:Nat))],[o1,o2,.row (i+1) (i+1) (QR i (Q7 Xp [] W) 1 (Xn [(Ig A B D).loose]))]⟩) (by simp [DL]) rfl (by simp [Xf,X4,I]) (by simp [Xq,Xw,Ao,I]) (by simp [XY,X3,AV.loose]) (by simp [XA,hbL]) (by simp [XA,hbT]) (by simp [q1,q2,s1])) (Sub.trans (ZM 2 (Q7 Xp [] (W ++ [[A,B,D]])) rfl (fun j hj=>hgr j hj)) (Xi rfl (by simp [Xf]) (by simp [Xq,Xw]) rfl)))
def Ia (f:List V2→List V2) (C:List (List V2)) (i:Nat):List (List V2):=(C.take i).map f ++ C.drop i
theorem sq (f:List V2→List V2) (C:List (List V2)):Ia f C 0=C:=rfl
theorem iQ (f:List V2→List V2) (C:List (List V2)):Ia f C C.length=C.map f:=by unfold Ia; simp
theorem nS (f:List V2→List V2) (C:List (List V2)) (i:Nat) (h:i<C.length):(Ia f C i).getD i []=C.getD i []:=by
 unfold Ia
 rw [List.getD_eq_getElem?_getD,List.getElem?_append_right (by simp; omega),List.getD_eq_getElem?_getD]
 simp [Nat.min_eq_left (Nat.le_of_lt h)]
theorem iR (f:List V2→List V2) (C:List (List V2)) (i:Nat) (h:i≤C.length):(Ia f C i).length=C.length:=by unfold Ia; simp; omega
theorem iS (f:List V2→List V2) (C:List (List V2)) (i:Nat) (h:i<C.length):(Ia f C i).set i (f (C.getD i []))=Ia f C (i+1):=by
 refine List.ext_getElem? fun j=>?_
 unfold Ia
 rw [List.getElem?_set]
 by_cases hj:i=j
 ·subst hj
  rw [if_pos rfl,if_pos (by simp; omega),List.getElem?_append_left (by simp; omega),List.getElem?_map,List.getElem?_take,if_pos (by omega),List.getElem?_eq_getElem h,List.getD_eq_getElem?_getD,List.getElem?_eq_getElem h]; rfl
 ·rw [if_neg hj]
  by_cases hlt:j<i
  ·rw [List.getElem?_append_left (by simp; omega),List.getElem?_append_left (by simp; omega),List.getElem?_map,List.getElem?_map,List.getElem?_take,List.getElem?_take,if_pos hlt,if_pos (by omega)]
  ·rw [List.getElem?_append_right (by simp; omega),List.getElem?_append_right (by simp; omega),List.getElem?_drop,List.getElem?_drop]
   congr 1
   simp; omega
def Jn (p:PV) (t c:V2):List (List V2):=(JL (Xz p.rim)).map (JM t c)
theorem EK {R:List (Int×Int)} (h:QW R):Q2 (Xz R) 3:=fun i=>by rw [GC]; exact KQ h i
theorem CL:vb v0≤3:=by
 have:=KQ (R:=[]) (fun c hc=>absurd hc List.not_mem_nil) 0
 exact this
theorem DG (L:List V2) (k:Nat) (h:Q2 L k) (hk:3≤k) (i:Nat):Q2 ((JL L).getD i []) k:=by
 by_cases hi:i<(BV L).length
 ·rw [Em L i hi]
  intro j
  unfold dj
  match j with
  | 0=>exact h _
  | 1=>exact h _
  | 2=>exact h _
  | j+3=>exact Nat.le_trans CL hk
 ·have e:(JL L).getD i []=[]:=by rw [List.getD_eq_getElem?_getD,List.getElem?_eq_none (by rw [ZR]; omega)]; rfl
  rw [e]
  exact fun j=>Nat.le_trans CL hk
theorem Ff (L:List V2) (i:Nat) (hi:i<(BV L).length):((JL L).getD i []).length=3:=by rw [Em L i hi]; rfl
theorem Im {L:List V2} (hl:3≤L.length∧L.length≤12):(BV L).length≤12:=by
 have:=FX L L.length _ (AD hl.1 (by omega)) List.nodup_range (by rw [List.length_range]; omega)
 rw [List.length_range] at this
 unfold BV; omega
theorem Mo (l:List V2):(Xp l).cells=[Xp l]:=nrfl rfl
theorem Tn (l:List V2):(Xp l).one=true:=nrfl rfl
theorem Mp (l:List V2):(Xp l).loose=Xp l:=nrfl rfl
theorem NL (p:PV) (t c:V2) (hp:D5 (Xz p.rim)) (hn:QW p.rim) (ht:vb t≤1000) (hc:vb c≤1000):Fn Tryz.prog 202 [QP p,Wz t c] (GU (Jn p t c)):=by
 have hl:=hp.1
 have hle:=Im hl
 have hrl:(Xz p.rim).length=p.rim.length:=by simp [Xz]
 have r1:=Vi p (by omega) (AU hn)
 have sm:=EK hn
 have hcs:=DG (Xz p.rim) 3 sm (Nat.le_refl _)
 have h3:=Ff (Xz p.rim)
 have hcl:=ZR (Xz p.rim)
 have B1:∀ m,2≤m→XI m (.row 0 25 (Xn (XG p))):=fun m _=>XD (Xy p)
 have B2:∀ m,2≤m→XI m (.row 0 16 (Xn (Gr t c))):=fun m _=>XD (Zc t c)
 have co:=rt (.row 0 25 (Xn (XG p))) (.row 0 16 (Xn (Gr t c))) B1 B2 (Xz p.rim) 3 sm (by omega) hp
 unfold Jn
 generalize Xz p.rim=L at *
 rw [← hcl] at h3 hle
 generalize JL L=C at *
 refine Fq Tryz.call202 Tryz.func202 9 [15,16,17] [] [] (by simp [Je,A4]) (Xl ?_)
 simp (disch:=omega) only [AS.start,QP,XG,Wz,Gr,wD,↓X1,wF,seval]
 refine X0 r1 rfl ?_
 simp (disch:=omega) only [X4,wD,↓X1,wF,seval]
 refine KP rfl co (QX (fun o h=>?_) (fun o h=>?_)) (fun id=>?_) (XZ _) ?_
 ·simp only [List.mem_cons,List.not_mem_nil,or_false] at h
  rcases h with rfl | rfl <;> simp
 ·simp only [List.mem_cons,List.not_mem_nil,or_false] at h
  rcases h with rfl | rfl | rfl <;> simp
 ·match id with
  | 0=>simp
  | 1=>simp
  | n+2=>simp
 simp (disch:=omega) only [wD,↓X1,wF,seval]
 refine Xe (fun i:Nat=>⟨9,[15,16,17],[.any,.any,.any,.ref 1 0 0,.any,.osl 2 C.length 1 0 C.length,.any,.any,.any],[(15,.osl 2 C.length 1 0 C.length),(16,I C.length),(17,I i)],[.row 0 25 (Xn (XG p)),.row 0 16 (Xn (Gr t c)),.row C.length C.length (Q7 Xp [] (Ia (JM t c) C i))]⟩) (fun i=>i≤C.length) (fun i=>C.length - i) 0 (by omega)
  (Xi rfl (by simp [Xf,I]) (by simp [Xq,Xw,I]) (by simp [XG,Gr,X3,Xd,Xm,sq,I])) ?_
 intro i hi next
 by_cases hi2:i<C.length
 rotate_left
 ·obtain rfl:i=C.length:=by omega
  refine Xl ?_
  simp (disch:=omega) only [wD,↓X1,wF,seval]
  rw [iQ]
  have hml:(C.map (JM t c)).length=C.length:=List.length_map ..
  refine Bm rfl ?_
  rw [XF,hml]
  refine Qx (id:=2) (m:=C.length) (f:=Q7 Xp [] (C.map (JM t c))) (.inl rfl) (by omega) (fun h=>h) fun j hj=>?_
  rw [Nat.zero_add]
  exact (Xc _).sees _
 have v1:=qu (Ia (JM t c) C i) i
 rw [nS _ _ _ hi2] at v1
 have cm:=jq t c (C.getD i []) 3 (hcs i) (by omega) (by rw [h3 i hi2]; omega) (by omega) (by omega)
 refine Xl ?_
 simp (disch:=omega) only [v1,wD,↓X1,wF,seval]
 refine X0 cm rfl ?_
 simp (disch:=omega) only [Mo,Tn,Mp,wD,↓X1,wF,seval]
 exact next (i+1) _ (by omega) (by omega) (Xi rfl (by simp [Xf]) (by simp [Xq,Xw,I]) (by rw [← iS _ _ _ hi2,← WZ _ _ _ _ _ (by rw [iR _ _ _ hi]; exact hi2)]))
theorem HP (p:PV) (t c:V2) (hp:XM (Xz p.rim)) (hn:QW p.rim) (ht:vb t≤1000) (hc:vb c≤1000):Fn Tryz.prog 212 [QP p,Wz t c] (GU (Jn p t c)):=by
 have hl:=(JV _ hp).1
 have hle:=Im hl
 have hrl:(Xz p.rim).length=p.rim.length:=by simp [Xz]
 have r1:=E8 p (by omega) (AU hn)
 have sm:=EK hn
 have hcs:=DG (Xz p.rim) 3 sm (Nat.le_refl _)
 have h3:=Ff (Xz p.rim)
 have hcl:=ZR (Xz p.rim)
 have co:=oE (Xz p.rim) 3 sm (by omega) hp
 unfold Jn
 generalize Xz p.rim=L at *
 rw [← hcl] at h3 hle
 generalize JL L=C at *
 have q1:XI 3 (.row 0 25 (Xn (XG p)))=True:=eq_true (XD (Xy p))
 have q2:XI 3 (.con 0 16 (Xn (Gr t c)))=True:=eq_true (fun j _=>X5 (Xb (Zc t c) j))
 have q3:∀ v n l,XI 3 (.row v n (Q7 Xp [] l))=True:=fun v n l=>eq_true fun j _=>X5 (Xc _)
 have q4:JO 3 (GU C)=True:=eq_true (X5 (Kf C))
 refine Fq Tryz.call212 Tryz.func212 9 [] [6,70000003] [] (by simp [Je,A4]) (Xl ?_)
 simp (disch:=omega) only [AS.start,QP,XG,Wz,Gr,wD,↓X1,wF,seval]
 refine X0 r1 rfl ?_
 simp (disch:=omega) only [X4,wD,↓X1,wF,seval]
 refine X0 co rfl ?_
 simp (disch:=omega) only [XF,wD,↓X1,wF,seval]
 refine Xe (fun i:Nat=>⟨9,[],[.any,.any,.any,.ref 1 0 0,.any,GU C,.any,.osl 2 i 1 0 i,I i],[],[.row 0 25 (Xn (XG p)),.con 0 16 (Xn (Gr t c)),.row i i (Q7 Xp [] ((C.map (JM t c)).take i))]⟩) (fun i=>i≤C.length) (fun i=>C.length - i) 0 (by omega)
  (Sub.trans (XX 1 rfl) (Sub.trans (Q5 7 1 (Q7 Xp [] []) rfl) (Xi rfl (by simp [AS.put,Xf,XF,I]) (by simp [AS.put,Xq]) (by simp [AS.put,XG,Gr,X3,Xd,Xm,I])))) ?_
 have hml:(C.map (JM t c)).length=C.length:=List.length_map ..
 intro i hi next
 by_cases hi2:i<C.length
 rotate_left
 ·obtain rfl:i=C.length:=by omega
  refine Xl ?_
  simp (disch:=omega) only [XF,wD,↓X1,wF,seval]
  rw [List.take_of_length_le (by omega)]
  refine Bm rfl ?_
  rw [XF,hml]
  refine Qx (id:=2) (m:=C.length) (f:=Q7 Xp [] (C.map (JM t c))) (.inl rfl) (by omega) (fun h=>h) fun j hj=>?_
  rw [Nat.zero_add]
  exact (Xc _).sees _
 have v1:=qu C i
 have cm:=SE t c (C.getD i []) 3 (hcs i) (by omega) (by rw [h3 i hi2]; omega) (by omega) (by omega)
 have hat:(C.map (JM t c)).getD i []=JM t c (C.getD i []):=by rw [List.getD_eq_getElem?_getD,List.getElem?_map,List.getD_eq_getElem?_getD,List.getElem?_eq_getElem hi2]; rfl
 have htk:(C.map (JM t c)).take (i+1)=(C.map (JM t c)).take i ++ [JM t c (C.getD i [])]:=by rw [Q3 _ [] i (by omega),hat]
 have hap:=L0 Xp [] ((C.map (JM t c)).take i) (JM t c (C.getD i []))
 rw [← htk,List.length_take,Nat.min_eq_left (by omega),Nat.mul_one] at hap
 refine Xl ?_
 simp (disch:=omega) only [XF,v1,wD,↓X1,wF,seval]
 refine X0 cm rfl ?_
 simp (disch:=omega) only [Mo,Tn,Mp,wD,↓X1,wF,seval]
 exact next (i+1) _ (by omega) (by omega) (Jm (by simp [Xf,XF,I]) (by rw [← hap]))
def DT (f:FV):V2:=(f.lo.add f.hi).scale (Rat.divInt 1 2)
def KT (a b:PV) (f:FV) (e:Rat):Bool:=F9 (Jn a JQ v0) (Jn b f.turn (DT f)) (-e)
structure GP (p:PV) (t:Rat):Prop where
 even:p.even
 poly:XM (Xz p.rim)
 tol:p.tol=RQ.of t
 qt:qb t≤20
structure FV.fine (f:FV):Prop where
 turn:vb f.turn≤60
 lo:vb f.lo≤300
 hi:vb f.hi≤300
theorem Fe (p:PV) (t c:V2):(Jn p t c).length=(BV (Xz p.rim)).length:=by unfold Jn; rw [List.length_map,ZR]
theorem Lc (p:PV) (t c:V2) (hn:QW p.rim) (ht:vb t≤100) (hc:vb c≤700):∀ i,i<(Jn p t c).length→Shp 1000 ((Jn p t c).getD i []):=fun i hi=>by
 rw [Fe] at hi
 have e:(Jn p t c).getD i []=JM t c ((JL (Xz p.rim)).getD i []):=by
  unfold Jn
  rw [List.getD_eq_getElem?_getD,List.getElem?_map,List.getD_eq_getElem?_getD,List.getElem?_eq_getElem (by rw [ZR]; exact hi)]; rfl
 have hs:=DG (Xz p.rim) 3 (EK hn) (Nat.le_refl _) i
 have h3:=Ff (Xz p.rim) i hi
 rw [e]
 generalize (JL (Xz p.rim)).getD i []=W at *
 have hl:(JM t c W).length=3:=by unfold JM; rw [List.length_map,h3]
 refine ⟨fun j=>?_,by omega,by omega⟩
 by_cases hj:j<W.length
 ·have ej:(JM t c W).getD j v0=put t c (W.getD j v0):=by
   unfold JM
   rw [List.getD_eq_getElem?_getD,List.getElem?_map,List.getD_eq_getElem?_getD,List.getElem?_eq_getElem hj]; rfl
  rw [ej]
  have:=tx t c (W.getD j v0)
  have:=hs j
  omega
 ·rw [List.getD_eq_getElem?_getD,List.getElem?_eq_none (by omega)]
  exact Nat.le_trans CL (by omega)
theorem P2:qb (Rat.divInt 1 2)≤10:=by decide +kernel
theorem Vx (f:FV) (h:f.fine):vb (DT f)≤700:=by
 have h1:=Be f.lo f.hi
 have h2:=kr (f.lo.add f.hi) (Rat.divInt 1 2)
 have:=P2
 have:=h.lo; have:=h.hi
 unfold DT; omega
theorem Ei:vb JQ≤10:=by decide +kernel
theorem R6 (a b:PV) (f:FV) {ta tb:Rat} (ha:GP a ta) (hb:GP b tb) (hf:f.fine):(∀ i,i<(Jn a JQ v0).length→Shp 1000 ((Jn a JQ v0).getD i []))∧(∀ i,i<(Jn b f.turn (DT f)).length→Shp 1000 ((Jn b f.turn (DT f)).getD i [])) ∧
  (Jn a JQ v0).length≤1000∧(Jn b f.turn (DT f)).length≤1000:=by
 have h1:=Im (JV _ ha.poly).1
 have h2:=Im (JV _ hb.poly).1
 have:=Ei
 have:=CL
 exact ⟨Lc a JQ v0 ha.even.near (by omega) (by omega),Lc b f.turn (DT f) hb.even.near (by have:=hf.turn; omega) (Vx f hf),by rw [Fe]; omega,by rw [Fe]; omega⟩
theorem Ts:Weak (.agg (vC JQ ++ [.bool false,.sl 0 0 (fun _=>.any) true,.bool false,.sl 0 0 (fun _=>.any) true,.bool false,.sl 0 0 (fun _=>.any) true,.bool false,.sl 0 0 (fun _=>.any) true])) (Wz JQ v0):=by
 refine XO ?_
 have h:=CM true
 exact ⟨Weak.rfl' _,Weak.rfl' _,Weak.rfl' _,Weak.rfl' _,Weak.rfl' _,Weak.rfl' _,Weak.rfl' _,Weak.rfl' _,h⟩
theorem Nh (a b:PV) (f:FV) {ta tb:Rat} (ha:GP a ta) (hb:GP b tb) (hf:f.fine):Fn Tryz.prog 137 [QP a,QP b,Jz f] (.bool (KT a b f (ta+tb))):=by
 have qa:=ha.qt; have q2:=hb.qt
 have f1:=hf.turn; have f2:=hf.lo; have f3:=hf.hi
 have c1:=OX f.lo f.hi (by unfold vm; omega) (by unfold vm; omega)
 have c2:=FC 1 2 (D0 (by omega) (by omega)) (D0 (by omega) (by omega))
 have m1:=Be f.lo f.hi
 have m2:=Vx f hf
 have c3:=NT (f.lo.add f.hi) (Rat.divInt 1 2) (by unfold vm; omega) (by have:=P2; unfold vm; omega)
 have c4:=NL a JQ v0 (JV _ ha.poly) ha.even.near (by have:=Ei; omega) (by have:=CL; omega)
 have c5:=NL b f.turn (DT f) (JV _ hb.poly) hb.even.near (by omega) (by omega)
 have qe:=K2 ta tb
 have c6:Fn Tryz.prog 70 [a.tol.A,b.tol.A] (qA (ta+tb)):=by rw [ha.tol,hb.tol]; exact Bl ta tb (by unfold rm; omega) (by unfold rm; omega)
 have c7:=Cf (ta+tb)
 obtain ⟨k1,k2,k3,k4⟩:=R6 a b f ha hb hf
 have c8:=lj _ _ (-(ta+tb)) 1000 k1 k2 (by omega) (by omega) (by rw [BK]; omega) k3 k4
 change Fn _ _ [vA (f.lo.add f.hi),qA (Rat.divInt 1 2)] (vA (DT f)) at c3
 obtain ⟨V,hV⟩:∃ V,V=KT a b f (ta+tb):=⟨_,rfl⟩
 change Fn _ _ _ (.tup [.any,.bool (KT a b f (ta+tb))]) at c8
 rw [← hV] at c8 ⊢
 generalize DT f=M at *
 refine Fv Tryz.call137 Tryz.func137 10 [] [1,20000005,2,30000003,30000004,30000007] [] ?_
 simp (disch:=omega) only [AS.start,QP,XG,Jz,XJ,↓Xu,wG,seval]
 refine X0 c1 rfl ?_
 simp (disch:=omega) only [↓Xu,wG,seval]
 refine X0 c2 rfl ?_
 simp (disch:=omega) only [↓Xu,wG,seval]
 refine X0 c3 rfl ?_
 simp (disch:=omega) only [↓Xu,wG,seval]
 refine X0 ck rfl ?_
 simp (disch:=omega) only [↓Xu,wG,seval]
 refine XW c4 ⟨Weak.rfl' _,Ts,trivial⟩ ?_
 simp (disch:=omega) only [XF,↓Xu,wG,seval]
 refine X0 c5 rfl ?_
 simp (disch:=omega) only [XF,↓Xu,wG,seval]
 refine X0 c6 rfl ?_
 simp (disch:=omega) only [XF,↓Xu,wG,seval]
 refine X0 c7 rfl ?_
 simp (disch:=omega) only [XF,↓Xu,wG,seval]
 refine X0 c8 rfl ?_
 simp (disch:=omega) only [↓Xu,wG,seval]
 exact Xt rfl rfl (X2 _) rfl
theorem Sz (a b:PV) (f:FV) {ta tb:Rat} (ha:GP a ta) (hb:GP b tb) (hf:f.fine):Fn Tryz.prog 151 [QP a,QP b,Jz f] (.bool (KT a b f (ta+tb))):=by
 have qa:=ha.qt; have q2:=hb.qt
 have f1:=hf.turn; have f2:=hf.lo; have f3:=hf.hi
 have c1:=BM f.lo f.hi (by unfold vm; omega) (by unfold vm; omega)
 have c2:=QV 1 2 (D0 (by omega) (by omega)) (D0 (by omega) (by omega))
 have m1:=Be f.lo f.hi
 have m2:=Vx f hf
 have c3:=P6 (f.lo.add f.hi) (Rat.divInt 1 2) (by unfold vm; omega) (by have:=P2; unfold vm; omega)
 have c4:=HP a JQ v0 ha.poly ha.even.near (by have:=Ei; omega) (by have:=CL; omega)
 have c5:=HP b f.turn (DT f) hb.poly hb.even.near (by omega) (by omega)
 have qe:=K2 ta tb
 have c6:Fn Tryz.prog 76 [a.tol.A,b.tol.A] (qA (ta+tb)):=by rw [ha.tol,hb.tol]; exact JG ta tb (by unfold rm; omega) (by unfold rm; omega)
 have c7:=KE (ta+tb) (by unfold rm; omega)
 obtain ⟨k1,k2,k3,k4⟩:=R6 a b f ha hb hf
 have c8:=oF _ _ (-(ta+tb)) 1000 k1 k2 (by omega) (by omega) (by rw [BK]; omega) k3 k4
 change Fn _ _ [vA (f.lo.add f.hi),qA (Rat.divInt 1 2)] (vA (DT f)) at c3
 obtain ⟨V,hV⟩:∃ V,V=KT a b f (ta+tb):=⟨_,rfl⟩
 change Fn _ _ _ (.tup [.any,.bool (KT a b f (ta+tb))]) at c8
 rw [← hV] at c8 ⊢
 generalize DT f=M at *
 refine Fv Tryz.call151 Tryz.func151 11 [] [1,20000005,2,30000003,3,40000004,40000007] [] ?_
 simp (disch:=omega) only [AS.start,QP,XG,Jz,XJ,↓Xu,wG,seval]
 refine X0 c1 rfl ?_
 simp (disch:=omega) only [↓Xu,wG,seval]
 refine X0 c2 rfl ?_
 simp (disch:=omega) only [↓Xu,wG,seval]
 refine X0 c3 rfl ?_
 simp (disch:=omega) only [↓Xu,wG,seval]
 refine X0 P7 rfl ?_
 simp (disch:=omega) only [↓Xu,wG,seval]
 refine XW c4 ⟨Weak.rfl' _,Ts,trivial⟩ ?_
 simp (disch:=omega) only [XF,↓Xu,wG,seval]
 refine X0 c5 rfl ?_
 simp (disch:=omega) only [XF,↓Xu,wG,seval]
 refine X0 c6 rfl ?_
 simp (disch:=omega) only [XF,↓Xu,wG,seval]
 refine X0 c7 rfl ?_
 simp (disch:=omega) only [XF,↓Xu,wG,seval]
 refine X0 c8 rfl ?_
 simp (disch:=omega) only [↓Xu,wG,seval]
 exact Xt rfl rfl (X2 _) rfl
def Zv (a b:PV) (f:FV) (e:Rat):Int :=
 if Zd a.rim.length b.rim.length f then if Dy a b f then if Ow a b f then
  if (Xv a.rim b.rim f e).2.2=true∧(Xv a.rim b.rim f e).1=f.lo∧(Xv a.rim b.rim f e).2.1=f.hi then if KT a b f e=true then 0 else 13
  else 22 else 21 else 12 else 5
theorem ko (a b:PV) (f:FV) (na:QW a.rim) (nb:QW b.rim) (e:Rat) (ht:vb f.turn≤1000) (qe:qb e≤3000):vb (Xv a.rim b.rim f e).1≤7000∧vb (Xv a.rim b.rim f e).2.1≤7000:=by
 have z:=CL
 have h1:=CB na nb f ht f.M.toNat
 have h2:=Cz na nb f ht f.M.toNat
 have h3:=Km (At a.rim b.rim f f.M.toNat) ⟨e,e⟩
 have h4:=Be (As a.rim b.rim f f.M.toNat) ⟨e,e⟩
 have h5:vb ⟨e,e⟩=qb e:=by unfold vb; simp
 unfold Xv
 split
 ·simp only
  split
  ·exact ⟨by show vb v0≤_; omega,by show vb v0≤_; omega⟩
  ·exact ⟨by simp only; omega,by simp only; omega⟩
 ·exact ⟨by show vb v0≤_; omega,by show vb v0≤_; omega⟩
theorem Es (a b:PV) (f:FV) {ta tb:Rat} (ha:GP a ta) (hb:GP b tb) (hf:f.fine):Fn Tryz.prog 52 [QP a,QP b,Jz f] (I (Zv a b f (ta+tb))):=by
 obtain ⟨V,hV⟩:∃ V,V=Zv a b f (ta+tb):=⟨_,rfl⟩
 rw [← hV]
 unfold Zv at hV
 have qa:=ha.qt; have q2:=hb.qt
 have qe:=K2 ta tb
 have f1:=hf.turn; have f2:=hf.lo; have f3:=hf.hi
 have fin:∀ {s:AS} {n:Int},s.get 6=I n→n=V→RetOk (QJ Tryz.prog Tryz.f52 [] [] (I V)) s:=fun h e=>Xt rfl h (X9 _) (by rw [e])
 have c1:=C7 a b f ha.even.rim hb.even.rim
 have c4:=FN a b f ha.even hb.even (by omega) ha.tol hb.tol (by omega) (by omega)
 have ⟨g1,g2⟩:=ko a b f ha.even.near hb.even.near (ta+tb) (by omega) (by omega)
 have c7:=Nh a b f ha hb hf
 refine Fv Tryz.call52 Tryz.func52 10 [] [] [] ?_
 simp (disch:=omega) only [AS.start,QP,XG,Jz,XJ,↓Xu,wG,seval]
 refine X0 c1 rfl ?_
 by_cases h1:Zd a.rim.length b.rim.length f
 rotate_left
 ·simp (disch:=omega) only [decide_eq_false h1,↓Xu,wG,seval]
  exact fin rfl (by rw [hV,if_neg h1])
 have c2:=HN a b f h1 ha.even hb.even
 have c3:=Ua a b f h1 ha.even hb.even
 have cl:=DD a b f f.M.toNat
 have hM:f.M.toNat<1000000:=by have:=h1.2.2.2.1; have:=ha.even.rim; omega
 have ca:=MW (Qt a b f f.M.toNat) 142 [pZ f] (fun x=>decide (x=f.turn)) (by omega) (fun x hx=>by rw [List.mem_singleton.1 hx]; exact Ch f) (fun x hx=>am x f (by have:=Fd a b f ha.even.near hb.even.near _ x hx; unfold vm; omega) (by unfold vm; omega))
 have hany:(Qt a b f f.M.toNat).any (fun x=>decide (x=f.turn))=decide (Ow a b f):=by
  have:=IY a b f f.turn f.M.toNat
  cases hq:(Qt a b f f.M.toNat).any (fun x=>decide (x=f.turn)) with
  | true=>exact (decide_eq_true (p:=Ow a b f) (this.1 hq)).symm
  | false=>exact (decide_eq_false (p:=Ow a b f) (fun hh=>by rw [this.2 hh] at hq; cases hq)).symm
 rw [hany] at ca
 generalize Qt a b f f.M.toNat=W at *
 have sB:JR [.row 0 25 (Xn (XG a)),.row 0 25 (Xn (XG b)),.row 0 29 (Xn (XJ f))] (.ref 2 0 0) (pZ f):=Za (.inl rfl) (by omega) fun j hj=>(Xb (XN f) j).sees _
 rw [if_pos h1] at hV
 simp (disch:=omega) only [decide_eq_true h1,↓Xu,wG,seval]
 refine X0 c2 rfl ?_
 by_cases h2:Dy a b f
 rotate_left
 ·simp (disch:=omega) only [decide_eq_false h2,↓Xu,wG,seval]
  exact fin rfl (by rw [hV,if_neg h2])
 rw [if_pos h2] at hV
 simp (disch:=omega) only [decide_eq_true h2,↓Xu,wG,seval]
 refine X0 c3 rfl ?_
 simp (disch:=omega) only [X4,↓Xu,wG,seval]
 refine JS ca rfl ⟨(Xc W).sees _,Cg ⟨sB,trivial⟩,trivial⟩ (Ay _) ?_
 by_cases h3:Ow a b f
 rotate_left
 ·simp (disch:=omega) only [decide_eq_false h3,↓Xu,wG,seval]
  exact fin rfl (by rw [hV,if_neg h3])
 rw [if_pos h3] at hV
 simp (disch:=omega) only [decide_eq_true h3,↓Xu,wG,seval]
 refine X0 c4 rfl ?_
 generalize Xv a.rim b.rim f (ta+tb)=G at *
 obtain ⟨lo,hi,ok⟩:=G
 simp only at hV g1 g2
 have c5:=IA lo f.lo (by unfold vm; omega) (by unfold vm; omega)
 have c6:=IA hi f.hi (by unfold vm; omega) (by unfold vm; omega)
 cases ok with
 | false =>
  simp (disch:=omega) only [↓Xu,wG,seval]
  exact fin rfl (by rw [hV,if_neg (fun h=>by cases h.1)])
 | true =>
  simp (disch:=omega) only [↓Xu,wG,seval]
  refine X0 c5 rfl ?_
  by_cases h4:lo=f.lo
  rotate_left
  ·simp (disch:=omega) only [decide_eq_false h4,↓Xu,wG,seval]
   exact fin rfl (by rw [hV,if_neg (fun h=>h4 h.2.1)])
  simp (disch:=omega) only [decide_eq_true h4,↓Xu,wG,seval]
  refine X0 c6 rfl ?_
  by_cases h5:hi=f.hi
  rotate_left
  ·simp (disch:=omega) only [decide_eq_false h5,↓Xu,wG,seval]
   exact fin rfl (by rw [hV,if_neg (fun h=>h5 h.2.2)])
  rw [if_pos ⟨rfl,h4,h5⟩] at hV
  simp (disch:=omega) only [decide_eq_true h5,↓Xu,wG,seval]
  refine X0 c7 rfl ?_
  cases h6:KT a b f (ta+tb) with
  | false =>
   simp (disch:=omega) only [↓Xu,wG,seval]
   exact fin rfl (by rw [hV,h6]; rfl)
  | true =>
   simp (disch:=omega) only [↓Xu,wG,seval]
   exact fin rfl (by rw [hV,h6]; rfl)
def Jx (a b:PV) (f:FV) (e:Rat):FV:={ f with lo:=(Xv a.rim b.rim f e).1,hi:=(Xv a.rim b.rim f e).2.1 }
def fv0:FV:=⟨0,0,0,0,0,v0,v0,v0⟩
def FI:List AV:=[I 0,I 0,I 0,I 0,I 0] ++ (Zt ++ (Zt ++ Zt))
theorem Tq:WeakL FI (XJ fv0):=by
 obtain ⟨w1,w2,w3,w4,w5,w6,w7,w8,_⟩:=Zp
 exact ⟨Weak.rfl' _,Weak.rfl' _,Weak.rfl' _,Weak.rfl' _,Weak.rfl' _,w1,w2,w3,w4,w5,w6,w7,w8,w1,w2,w3,w4,w5,w6,w7,w8,w1,w2,w3,w4,w5,w6,w7,w8,trivial⟩
theorem rB {a b:List (Int×Int)} (ha:QW a) (hb:QW b) (f:FV) (ht:vb f.turn≤60) (k:Nat):vb (K5 a b f k)≤150:=by
 have h1:=KQ ha (xK a.length f k)
 have h2:=KQ hb ((f.EB+1 - k) % b.length).toNat
 unfold K5
 have h3:=Dk f.turn (Jv (b.getD ((f.EB+1 - k) % b.length).toNat (0,0)))
 have h4:=Km (Jv (a.getD (xK a.length f k) (0,0))) (Co f.turn (Jv (b.getD ((f.EB+1 - k) % b.length).toNat (0,0))))
 omega
theorem FO (a b:PV) (f:FV) (na:QW a.rim) (nb:QW b.rim) (e:Rat) (ht:vb f.turn≤60):vb (Xv a.rim b.rim f e).1≤155+qb e∧vb (Xv a.rim b.rim f e).2.1≤155+qb e:=by
 have z:=CL
 have d:=rB na nb f ht
 have h1:vb (At a.rim b.rim f f.M.toNat)≤150:=Nat.max_le.2 ⟨LS _ 150 (fun j=>Nat.le_trans (Qv _) (d j)) _,LS _ 150 (fun j=>Nat.le_trans (Qm _) (d j)) _⟩
 have h2:vb (As a.rim b.rim f f.M.toNat)≤150:=Nat.max_le.2 ⟨LR _ 150 (fun j=>Nat.le_trans (Qv _) (d j)) _,LR _ 150 (fun j=>Nat.le_trans (Qm _) (d j)) _⟩
 have h3:=Km (At a.rim b.rim f f.M.toNat) ⟨e,e⟩
 have h4:=Be (As a.rim b.rim f f.M.toNat) ⟨e,e⟩
 have h5:vb ⟨e,e⟩=qb e:=by unfold vb; simp
 unfold Xv
 split
 ·simp only
  split
  ·exact ⟨by show vb v0≤_; omega,by show vb v0≤_; omega⟩
  ·exact ⟨by simp only; omega,by simp only; omega⟩
 ·exact ⟨by show vb v0≤_; omega,by show vb v0≤_; omega⟩
theorem Vs {a b:PV} {f:FV} {ta tb:Rat} (ha:GP a ta) (hb:GP b tb) (hf:f.fine):(Jx a b f (ta+tb)).fine:=by
 have:=ha.qt; have:=hb.qt
 have qe:=K2 ta tb
 obtain ⟨h1,h2⟩:=FO a b f ha.even.near hb.even.near (ta+tb) hf.turn
 exact ⟨hf.turn,by show vb (Xv a.rim b.rim f (ta+tb)).1≤300; omega,by show vb (Xv a.rim b.rim f (ta+tb)).2.1≤300; omega⟩
theorem io (f g:FV):f=g↔(f.A=g.A∧f.B=g.B∧f.EA=g.EA∧f.EB=g.EB∧f.M=g.M)∧f.turn=g.turn∧f.lo=g.lo∧f.hi=g.hi:=by
 obtain ⟨a,b,c,d,e,t,l,h⟩:=f
 obtain ⟨a',b',c',d',e',t',l',h'⟩:=g
 simp [and_assoc]
theorem LU (f g:FV) (hf:f.fine) (hg:g.fine):Fn Tryz.prog 35 [Jz f,Jz g] (.bool (decide (f=g))):=by
 obtain ⟨V,hV⟩:∃ V,V=decide (f=g):=⟨_,rfl⟩
 rw [← hV]
 rw [decide_eq_decide.2 (io f g)] at hV
 have fin:∀ {s:AS} {v:Bool},s.get 4=.bool v→v=V→RetOk (QJ Tryz.prog Tryz.f35 [] [] (.bool V)) s:=fun h e=>Xt rfl h (X2 _) (by rw [e])
 obtain ⟨f1,f2,f3⟩:=hf
 obtain ⟨g1,g2,g3⟩:=hg
 have c1:=Al f.turn g.turn (by unfold vm; omega) (by unfold vm; omega)
 have c2:=FB f.lo g.lo (by unfold vm; omega) (by unfold vm; omega)
 have c3:=FB f.hi g.hi (by unfold vm; omega) (by unfold vm; omega)
 refine Fv Tryz.call35 Tryz.func35 5 [] [] [] ?_
 by_cases h:f.A=g.A∧f.B=g.B∧f.EA=g.EA∧f.EB=g.EB∧f.M=g.M
 rotate_left
 ·have hv:false=V:=by rw [hV]; exact (decide_eq_false fun hh=>h hh.1).symm
  rcases (show f.A≠g.A∨(f.A=g.A∧f.B≠g.B)∨(f.A=g.A∧f.B=g.B∧f.EA≠g.EA)∨(f.A=g.A∧f.B=g.B∧f.EA=g.EA∧f.EB≠g.EB)∨(f.A=g.A∧f.B=g.B∧f.EA=g.EA∧f.EB=g.EB∧f.M≠g.M) by omega) with q | ⟨q1,q⟩ | ⟨q1,q2,q⟩ | ⟨q1,q2,q3,q⟩ | ⟨q1,q2,q3,q4,q⟩
  ·simp only [AS.start,Jz,XJ,eq_false q,↓X1,wF,seval]
   exact fin rfl hv
  ·simp only [AS.start,Jz,XJ,eq_true q1,eq_false q,↓X1,wF,seval]
   exact fin rfl hv
  ·simp only [AS.start,Jz,XJ,eq_true q1,eq_true q2,eq_false q,↓X1,wF,seval]
   exact fin rfl hv
  ·simp only [AS.start,Jz,XJ,eq_true q1,eq_true q2,eq_true q3,eq_false q,↓X1,wF,seval]
   exact fin rfl hv
  ·simp only [AS.start,Jz,XJ,eq_true q1,eq_true q2,eq_true q3,eq_true q4,eq_false q,↓X1,wF,seval]
   exact fin rfl hv
 have e:V=decide (f.turn=g.turn∧f.lo=g.lo∧f.hi=g.hi):=by rw [hV]; exact decide_eq_decide.2 ⟨fun hh=>hh.2,fun hh=>⟨h,hh⟩⟩
 clear hV
 simp (disch:=omega) only [AS.start,Jz,XJ,↓Xu,wG,seval]
 refine X0 c1 rfl ?_
 by_cases n1:f.turn=g.turn
 rotate_left
 ·simp (disch:=omega) only [decide_eq_false n1,↓Xu,wG,seval]
  exact fin rfl (by rw [e]; exact (decide_eq_false fun hh=>n1 hh.1).symm)
 simp (disch:=omega) only [decide_eq_true n1,↓Xu,wG,seval]
 refine X0 c2 rfl ?_
 by_cases n2:f.lo=g.lo
 rotate_left
 ·simp (disch:=omega) only [decide_eq_false n2,↓Xu,wG,seval]
  exact fin rfl (by rw [e]; exact (decide_eq_false fun hh=>n2 hh.2.1).symm)
 simp (disch:=omega) only [decide_eq_true n2,↓Xu,wG,seval]
 refine X0 c3 rfl ?_
 simp (disch:=omega) only [↓Xu,wG,seval]
 exact fin rfl (by rw [e]; exact decide_eq_decide.2 ⟨fun hh=>⟨n1,n2,hh⟩,fun hh=>hh.2.2⟩)
theorem vT {V:Bool} {P:Prop} (h:V=true↔P) (p:P):true=V:=(h.2 p).symm
theorem vN {V:Bool} {P:Prop} (h:V=true↔P) (p:¬ P):false=V:=by
 cases V with
 | true=>exact absurd (h.1 rfl) p
 | false=>rfl
theorem vI {V:Bool} {P Q:Prop} [Decidable Q] (h:V=true↔P) (e:P↔Q):decide Q=V:=by
 by_cases q:Q
 ·rw [decide_eq_true q]; exact vT h (e.2 q)
 ·rw [decide_eq_false q]; exact vN h fun p=>q (e.1 p)
def Zu (t u:V2):Prop:=t.x<u.x∨(t.x=u.x∧t.y<u.y)
theorem Ss (a b:Rat):Qj a b=0↔a=b:=by
 have h1:=oB a b; have h2:=P3 a b
 exact ⟨fun h=>Rat.le_antisymm (h1.1 (by omega)) (h2.1 (by omega)),fun h=>by subst h; have:=h1.2 Rat.le_refl; have:=h2.2 Rat.le_refl; omega⟩
theorem YV (t u:V2) (ht:vb t≤vm) (hu:vb u≤vm):Fn Tryz.prog 232 [vA t,vA u] (.bool (decide (Zu t u))):=by
 obtain ⟨V,hV⟩:∃ V,V=decide (Zu t u):=⟨_,rfl⟩
 rw [← hV]
 replace hV:=(Bool.eq_iff_iff.1 hV).trans decide_eq_true_iff
 have fin:∀ {s:AS} {v:Bool},s.get 4=.bool v→v=V→RetOk (QJ Tryz.prog Tryz.f232 [] [] (.bool V)) s:=fun h e=>Xt rfl h (X2 _) (by rw [e])
 have:=Qv t; have:=Qv u; have:=Qm t; have:=Qm u
 unfold vm at ht hu
 have c1:=J6 t.x u.x (by unfold rm; omega) (by unfold rm; omega)
 have c2:=J6 t.y u.y (by unfold rm; omega) (by unfold rm; omega)
 have e1:=K7 t.x u.x
 have e2:=Ss t.x u.x
 have e3:=K7 t.y u.y
 unfold Zu at hV
 rw [← e1,← e2,← e3] at hV
 generalize Qj t.x u.x=p at *
 generalize Qj t.y u.y=q at *
 refine Fr Tryz.call232 Tryz.func232 6 [] [] [] ?_
 simp (disch:=omega) only [AS.start,↓Xu,wG,seval]
 refine X0 c1 rfl ?_
 rcases (show p<0∨p=0∨0<p by omega) with h | h | h
 ·simp (disch:=omega) only [↓Xu,wG,seval]
  exact fin rfl (vT hV (.inl h))
 ·simp (disch:=omega) only [↓Xu,wG,seval]
  refine X0 c2 rfl ?_
  simp (disch:=omega) only [↓Xu,wG,seval]
  exact fin rfl (vI hV ⟨fun hh=>by omega,fun hh=>.inr ⟨h,hh⟩⟩)
 ·simp (disch:=omega) only [↓Xu,wG,seval]
  exact fin rfl (vN hV ((by omega)))
def EZ (n m:Nat) (f g:FV):Prop:=f.M<g.M∧(f.EA - g.EA) % n+f.M≤g.M∧(g.EB - (f.EA - g.EA) % n) % m=f.EB∧f.turn=g.turn
structure FV.near (f:FV):Prop where
 ea:-1000000≤f.EA∧f.EA≤1000000
 eb:-1000000≤f.EB∧f.EB≤1000000
 m:-1000000≤f.M∧f.M≤1000000
theorem ol (a b:PV) (f g:FV) (ha:0<a.rim.length∧a.rim.length<1000000) (hb:0<b.rim.length∧b.rim.length<1000000) (nf:f.near) (ng:g.near) (hf:vb f.turn≤vm) (hg:vb g.turn≤vm) :
  Fn Tryz.prog 53 [QP a,QP b,Jz f,Jz g] (.bool (decide (EZ a.rim.length b.rim.length f g))):=by
 obtain ⟨V,hV⟩:∃ V,V=decide (EZ a.rim.length b.rim.length f g):=⟨_,rfl⟩
 rw [← hV]
 replace hV:=(Bool.eq_iff_iff.1 hV).trans decide_eq_true_iff
 have fin:∀ {s:AS} {v:Bool},s.get 8=.bool v→v=V→RetOk (QJ Tryz.prog Tryz.f53 [2,30000005,30000006,30000007] [] (.bool V)) s:=fun h e=>Xt rfl h (X2 _) (by rw [e])
 obtain ⟨f1,f2,f3⟩:=nf
 obtain ⟨g1,g2,g3⟩:=ng
 have d0:=Int.emod_nonneg (f.EA - g.EA) (show (a.rim.length:Int)≠0 by omega)
 have d1:=Int.emod_lt_of_pos (f.EA - g.EA) (show (0:Int)<a.rim.length by omega)
 have c1:=Ql (f.EA - g.EA) a.rim.length ha.1 (by omega) (by omega)
 have c2:=Ql (g.EB - (f.EA - g.EA) % a.rim.length) b.rim.length hb.1 (by omega) (by omega)
 have c3:=Al f.turn g.turn hf hg
 unfold EZ at hV
 generalize (f.EA - g.EA) % (a.rim.length:Int)=d at *
 generalize (g.EB - d) % (b.rim.length:Int)=r at *
 refine Fv Tryz.call53 Tryz.func53 10 [] [2,30000005,30000006,30000007] [] ?_
 simp (disch:=omega) only [AS.start,QP,XG,Jz,XJ,↓Xu,wG,seval]
 refine X0 c1 rfl ?_
 by_cases h1:f.M<g.M
 rotate_left
 ·simp (disch:=omega) only [↓Xu,wG,seval]
  exact fin rfl (vN hV (fun hh=>h1 hh.1))
 by_cases h2:d+f.M≤g.M
 rotate_left
 ·simp (disch:=omega) only [↓Xu,wG,seval]
  exact fin rfl (vN hV (fun hh=>h2 hh.2.1))
 simp (disch:=omega) only [↓Xu,wG,seval]
 refine X0 c2 rfl ?_
 by_cases h3:r=f.EB
 rotate_left
 ·simp (disch:=omega) only [↓Xu,wG,seval]
  exact fin rfl (vN hV (fun hh=>h3 hh.2.2.1))
 simp (disch:=omega) only [↓Xu,wG,seval]
 refine X0 c3 rfl ?_
 simp (disch:=omega) only [↓Xu,wG,seval]
 exact fin rfl (vI hV ⟨fun hh=>hh.2.2.2,fun hh=>⟨h1,h2,h3,hh⟩⟩)
def Bi (t:V2):V2:=⟨-t.y,t.x⟩
def JF:Nat→V2→V2
 | 0,t=>t
 | i+1,t=>Bi (JF i t)
theorem kq (t:V2):vb (Bi t)=vb t:=by unfold vb Bi; simp only [BK]; exact Nat.max_comm _ _
theorem CK (t:V2):∀ i,vb (JF i t)=vb t
 | 0=>rfl
 | i+1=>(kq _).trans (CK t i)
def Tg (m w:Int):V2:=⟨Rat.divInt (m*m - w*w) (m*m+w*w),Rat.divInt (2*m*w) (m*m+w*w)⟩
def Th (n:Int):V2:=JF (J5 n 64 % 4).toNat (Tg (1+J5 n 64 / 4 % 4) (J5 n 64 / 16))
theorem O6 (n:Int) (hn:KM n):Fn Tryz.prog 60 [I n] (vA (Th n))∧vb (Th n)≤3:=by
 have c1:=ZW n 64 hn (by omega)
 have hk:=Kh n 64 (by omega)
 unfold Th
 generalize J5 n 64=k at *
 have b1:k.tdiv 4=k / 4:=Int.tdiv_eq_ediv_of_nonneg hk.1
 have b2:(k / 4).tmod 4=k / 4 % 4:=Int.tmod_eq_emod_of_nonneg (by omega)
 have b3:k.tdiv 16=k / 16:=Int.tdiv_eq_ediv_of_nonneg hk.1
 have b4:k.tmod 4=k % 4:=Int.tmod_eq_emod_of_nonneg hk.1
 have hm:1≤1+k / 4 % 4∧1+k / 4 % 4≤4:=by omega
 have hw:0≤k / 16∧k / 16≤3:=by omega
 generalize hme:1+k / 4 % 4=m at *
 generalize k / 16=w at *
 have q1:1≤m*m∧m*m≤16:=by rcases (show m=1∨m=2∨m=3∨m=4 by omega) with rfl | rfl | rfl | rfl <;> decide
 have q2:0≤w*w∧w*w≤9:=by rcases (show w=0∨w=1∨w=2∨w=3 by omega) with rfl | rfl | rfl | rfl <;> decide
 have q3:0≤2*m*w∧2*m*w≤24:=by rcases (show w=0∨w=1∨w=2∨w=3 by omega) with rfl | rfl | rfl | rfl <;> omega
 have c2:=QV (m*m - w*w) (m*m+w*w) ⟨by omega,by omega⟩ ⟨by omega,by omega⟩
 have c3:=QV (2*m*w) (m*m+w*w) ⟨by omega,by omega⟩ ⟨by omega,by omega⟩
 have v1:=BJ (m*m - w*w) (m*m+w*w) ⟨by omega,by omega⟩ ⟨by omega,by omega⟩
 have v2:=BJ (2*m*w) (m*m+w*w) ⟨by omega,by omega⟩ ⟨by omega,by omega⟩
 have hvb:vb (Tg m w)≤3:=Nat.max_le.2 ⟨v1,v2⟩
 change Fn _ _ _ (qA (Tg m w).x) at c2
 change Fn _ _ _ (qA (Tg m w).y) at c3
 generalize Tg m w=T at *
 obtain ⟨N,hN⟩:∃ N:Nat,k % 4=N:=⟨(k % 4).toNat,by omega⟩
 rw [hN,Int.toNat_natCast]
 refine ⟨?_,by rw [CK]; exact hvb⟩
 obtain ⟨R,hR⟩:∃ R,R=vA (JF N T):=⟨_,rfl⟩
 have sR:Settled R:=hR▸Xk _
 rw [← hR]
 refine Fr Tryz.call60 Tryz.func60 9 [] [] [] ?_
 simp (disch:=omega) only [AS.start,b1,b2,b3,b4,hme,↓Xu,wG,seval]
 refine X0 c1 rfl ?_
 simp (disch:=omega) only [b1,b2,b3,b4,hme,↓Xu,wG,seval]
 refine X0 c2 rfl ?_
 simp (disch:=omega) only [b1,b2,b3,b4,hme,↓Xu,wG,seval]
 refine X0 c3 rfl ?_
 simp (disch:=omega) only [b1,b2,b3,b4,hme,↓Xu,wG,seval]
 have ht:∀ i,vb (JF i T)≤3:=fun i=>by rw [CK]; exact hvb
 refine Xe (fun i:Nat=>⟨9,[],[.any,.any,.ref 0 0 0,I k,.any,.any,.any,.ref 1 0 0,I i],[],[.row 0 8 (Xn XP),.row 0 8 (Xn (vC (JF i T)))]⟩) (fun i=>i≤N) (fun i=>N - i) 0 (by omega)
  (Jm (by simp [Xf,I]) rfl) ?_
 intro i hi next
 have c4:=KE (JF i T).y (by have:=Qm (JF i T); have:=ht i; unfold rm; omega)
 by_cases hi2:i<N
 ·refine Xl ?_
  simp (disch:=omega) only [vC,qC,b4,hN,↓Xu,wG,seval]
  refine X0 c4 rfl ?_
  simp (disch:=omega) only [↓Xu,wG,seval]
  exact next (i+1) _ (by omega) (by omega) (Jm (by simp [Xf,I]) rfl)
 ·obtain rfl:i=N:=by omega
  refine Xl ?_
  simp (disch:=omega) only [vC,qC,XP,b4,hN,↓Xu,wG,seval]
  exact Zm rfl C9 rfl rfl rfl sR (hR.trans rfl)
theorem fE (f:FV) (ht:vb f.turn≤60) (hl:vb f.lo≤250) (hh:vb f.hi≤250) (how n:Int) (ih:KM how) (hn:KM n):∃ g:FV,Fn Tryz.prog 33 [Jz f,I how,I n] (Jz g)∧g.fine∧vb g.lo≤vb f.lo+4∧vb g.hi≤vb f.hi+4:=by
 have c1:=ZW n 9 hn (by omega)
 have c2:=ZW how 8 ih (by omega)
 have k1:=Kh n 9 (by omega)
 have k2:=Kh how 8 (by omega)
 obtain ⟨c3,t3⟩:=O6 n hn
 have c4:=bQ n hn
 have t4:qb (bP n)≤3:=by
  have:=Kh n 100 (by omega)
  unfold bP
  generalize J5 n 100=k at *
  rw [Int.tmod_eq_emod_of_nonneg this.1,Int.tdiv_eq_ediv_of_nonneg this.1]
  exact BJ _ _ ⟨by omega,by omega⟩ ⟨by omega,by omega⟩
 generalize J5 n 9=x at *
 generalize J5 how 8=c at *
 generalize Th n=T at *
 generalize bP n=q at *
 have c5:=KR (x - 4) 0 ⟨by omega,by omega⟩ ⟨by omega,by omega⟩
 have c6:=KR 0 (x - 4) ⟨by omega,by omega⟩ ⟨by omega,by omega⟩
 have s5:vb ⟨((x - 4:Int):Rat),((0:Int):Rat)⟩≤3:=Nat.max_le.2 ⟨Z7 _ 3 (by omega) (Qy ⟨by omega,by omega⟩),Z7 _ 3 (by omega) (Qy ⟨by omega,by omega⟩)⟩
 have s6:vb ⟨((0:Int):Rat),((x - 4:Int):Rat)⟩≤3:=Nat.max_le.2 ⟨Z7 _ 3 (by omega) (Qy ⟨by omega,by omega⟩),Z7 _ 3 (by omega) (Qy ⟨by omega,by omega⟩)⟩
 generalize hv5:(⟨((x - 4:Int):Rat),((0:Int):Rat)⟩:V2)=v5 at *
 generalize hv6:(⟨((0:Int):Rat),((x - 4:Int):Rat)⟩:V2)=v6 at *
 have c7:=BM f.lo v5 (by unfold vm; omega) (by unfold vm; omega)
 have c8:=BM f.hi v6 (by unfold vm; omega) (by unfold vm; omega)
 have m7:=Be f.lo v5
 have m8:=Be f.hi v6
 have ty:=Qm f.turn
 have m9:vb ⟨q,f.turn.y⟩≤60:=Nat.max_le.2 ⟨by show qb q≤60; omega,by show qb f.turn.y≤60; omega⟩
 have go:∀ g:FV,(∀ R,R=Jz g→Fn Tryz.prog 33 [Jz f,I how,I n] R)→(g.fine∧vb g.lo≤vb f.lo+4∧vb g.hi≤vb f.hi+4)→∃ g:FV,Fn Tryz.prog 33 [Jz f,I how,I n] (Jz g)∧g.fine∧vb g.lo≤vb f.lo+4∧vb g.hi≤vb f.hi+4:=fun g h1 h2=>⟨g,h1 _ rfl,h2⟩
 rcases (show c=0∨c=1∨c=2∨c=3∨c=4∨c=5∨c=6∨c=7 by omega) with rfl | rfl | rfl | rfl | rfl | rfl | rfl | rfl
 refine go { f with EA:=x - 1 } ?_ ⟨⟨ht,by show vb f.lo≤300; omega,by show vb f.hi≤300; omega⟩,by simp only; omega,by simp only; omega⟩
 rotate_left
 refine go { f with EB:=x - 1 } ?_ ⟨⟨ht,by show vb f.lo≤300; omega,by show vb f.hi≤300; omega⟩,by simp only; omega,by simp only; omega⟩
 rotate_left
 refine go { f with M:=x - 1 } ?_ ⟨⟨ht,by show vb f.lo≤300; omega,by show vb f.hi≤300; omega⟩,by simp only; omega,by simp only; omega⟩
 rotate_left
 refine go { f with turn:=T } ?_ ⟨⟨by show vb T≤60; omega,by show vb f.lo≤300; omega,by show vb f.hi≤300; omega⟩,by simp only; omega,by simp only; omega⟩
 rotate_left
 refine go { f with lo:=f.lo.add v5 } ?_ ⟨⟨ht,by show vb (f.lo.add v5)≤300; omega,by show vb f.hi≤300; omega⟩,by simp only; omega,by simp only; omega⟩
 rotate_left
 refine go { f with hi:=f.hi.add v6 } ?_ ⟨⟨ht,by show vb f.lo≤300; omega,by show vb (f.hi.add v6)≤300; omega⟩,by simp only; omega,by simp only; omega⟩
 rotate_left
 refine go { f with turn:=⟨q,f.turn.y⟩ } ?_ ⟨⟨m9,by show vb f.lo≤300; omega,by show vb f.hi≤300; omega⟩,by simp only; omega,by simp only; omega⟩
 rotate_left
 refine go { f with EA:=IntKind.i64.wrap (f.EA+1),EB:=IntKind.i64.wrap (f.EB - 1),M:=IntKind.i64.wrap (f.M - 1) } ?_ ⟨⟨ht,by show vb f.lo≤300; omega,by show vb f.hi≤300; omega⟩,by simp only; omega,by simp only; omega⟩
 rotate_left
 all_goals
  intro R hR
  have sR:Settled R:=hR▸Ka _
  refine Fv Tryz.call33 Tryz.func33 8 [11] [] [] ?_
  simp (disch:=omega) only [AS.start,Jz,XJ,↓Xu,wG,seval]
  refine X0 c1 rfl ?_
  simp (disch:=omega) only [↓Xu,wG,seval]
  refine X0 c2 rfl ?_
  simp (disch:=omega) only [↓Xu,wG,seval]
  try (first | refine X0 c3 rfl ?_ | refine X0 c4 rfl ?_ | refine X0 c5 rfl ?_ | refine X0 c6 rfl ?_)
  try simp (disch:=omega) only [↓Xu,wG,seval]
  try (first | refine X0 c7 rfl ?_ | refine X0 c8 rfl ?_)
  try simp (disch:=omega) only [↓Xu,wG,seval]
  exact Zm rfl RU rfl rfl rfl sR (hR.trans rfl)
theorem VW (f:FV) (ht:vb f.turn≤60) (hl:vb f.lo≤250) (hh:vb f.hi≤250) (how n:Int) (ih:KM how) (hn:KM n):∃ g:FV,Fn Tryz.prog 33 [Jz f,I how,I n] (Jz g)∧g.fine :=
 have ⟨g,h1,h2,_⟩:=fE f ht hl hh how n ih hn
 ⟨g,h1,h2⟩
def Dx (t:V2):List V2→List V2
 | []=>[t]
 | x :: l=>if Zu t x then t :: x :: l else x :: Dx t l
def TS (t:V2) (l:List V2):List V2:=if t∈l then l else Dx t l
def J9 (a b:PV) (f:FV):Nat→List V2
 | 0=>[]
 | k+1=>if (GZ a b f k).2=true then TS (GZ a b f k).1 (J9 a b f k) else J9 a b f k
def Au (t:V2) (w:List V2×Bool) (x:V2):List V2×Bool:=if w.2=false∧Zu t x then (w.1 ++ [t] ++ [x],true) else (w.1 ++ [x],w.2)
def KL (t:V2) (w:List V2×Bool) (l:List V2):List V2×Bool:=l.foldl (Au t) w
theorem Lt (t:V2):∀ (l A:List V2),KL t (A,true) l=(A ++ l,true)
 | [],A=>by simp [KL]
 | x :: l,A=>by
  show KL t (Au t (A,true) x) l=_
  have:Au t (A,true) x=(A ++ [x],true):=by unfold Au; rw [if_neg (by simp)]
  rw [this,Lt t l]; simp
theorem Nm (t:V2):∀ (l A:List V2),(if (KL t (A,false) l).2=true then (KL t (A,false) l).1 else (KL t (A,false) l).1 ++ [t])=A ++ Dx t l
 | [],A=>by simp [KL,Dx]
 | x :: l,A=>by
  show (if (KL t (Au t (A,false) x) l).2=true then (KL t (Au t (A,false) x) l).1 else (KL t (Au t (A,false) x) l).1 ++ [t])=A ++ Dx t (x :: l)
  by_cases h:Zu t x
  ·have:Au t (A,false) x=(A ++ [t] ++ [x],true):=by unfold Au; rw [if_pos ⟨rfl,h⟩]
   rw [this,Lt]
   simp [Dx,h]
  ·have:Au t (A,false) x=(A ++ [x],false):=by unfold Au; rw [if_neg (by simp [h])]
   rw [this,Nm t l]
   simp [Dx,h]
theorem LA (t x:V2):∀ l,x∈Dx t l↔x=t∨x∈l
 | []=>by simp [Dx]
 | y :: l=>by
  have ih:=LA t x l
  unfold Dx
  split
  ·simp
  ·rw [List.mem_cons,ih,List.mem_cons]
   constructor
   ·rintro (h | h | h)
    ·exact .inr (.inl h)
    ·exact .inl h
    ·exact .inr (.inr h)
   ·rintro (h | h | h)
    ·exact .inr (.inl h)
    ·exact .inl h
    ·exact .inr (.inr h)
theorem RK (t:V2):∀ l,(Dx t l).length=l.length+1
 | []=>rfl
 | y :: l=>by
  have ih:=RK t l
  unfold Dx
  split
  ·simp
  ·simp [ih]
theorem eQ (t x:V2) (l:List V2):x∈TS t l↔x=t∨x∈l:=by
 unfold TS
 split
 ·rename_i h
  exact ⟨fun hx=>.inr hx,fun hx=>by rcases hx with rfl | hx; exact h; exact hx⟩
 ·exact LA t x l
theorem AJ (a b:PV) (f:FV) (t:V2):∀ n,t∈J9 a b f n↔∃ k,k<n∧(GZ a b f k).2=true∧(GZ a b f k).1=t
 | 0=>by simp [J9]
 | n+1=>by
  have ih:=AJ a b f t n
  unfold J9
  split
  ·rename_i h
   rw [eQ,ih]
   constructor
   ·rintro (h1 | ⟨k,h1,h2⟩)
    ·exact ⟨n,by omega,h,h1.symm⟩
    ·exact ⟨k,by omega,h2⟩
   ·rintro ⟨k,h1,h2,h3⟩
    by_cases hk:k=n
    ·subst hk; exact .inl h3.symm
    ·exact .inr ⟨k,by omega,h2,h3⟩
  ·rename_i h
   rw [ih]
   constructor
   ·rintro ⟨k,h1,h2⟩; exact ⟨k,by omega,h2⟩
   ·rintro ⟨k,h1,h2,h3⟩
    by_cases hk:k=n
    ·subst hk; exact absurd h2 h
    ·exact ⟨k,by omega,h2,h3⟩
theorem BT (a b:PV) (f:FV):∀ n,(J9 a b f n).length≤n
 | 0=>Nat.le_refl _
 | n+1=>by
  have ih:=BT a b f n
  unfold J9 TS
  split
  ·split
   ·omega
   ·rw [RK]; omega
  ·omega
theorem Bo (a b:PV) (f:FV) (ha:QW a.rim) (hb:QW b.rim) (n:Nat):∀ t∈J9 a b f n,vb t≤26:=fun t ht=>by
 obtain ⟨k,_,_,h⟩:=(AJ a b f t n).1 ht
 rw [← h]; exact CP ha hb _ _
theorem Tp {H:List AO} {id ver n:Nat} {L:List V2} (ho:H[id]?=some (.con ver (L.length*8) (Xs vC 8 v0 L))) (hn:n=L.length):ZQ H (.osl id ver 8 0 n) (Xp L):=by
 subst hn
 rw [X4]
 exact Dl ho (Nat.le_refl _) (fun h=>by rw [h]) fun j hj=>QZ _ _
theorem Vr (t:V2) (l:List V2) (i:Nat) (h:i<l.length):KL t ([],false) (l.take (i+1))=Au t (KL t ([],false) (l.take i)) (l.getD i v0):=by
 unfold KL
 rw [Q3 l v0 i h,List.foldl_append]; rfl
def S1 (t:V2) (L:List V2) (i:Nat):Bool:=decide (t∈L.take i)
theorem bE (t:V2) (L:List V2) (i:Nat) (h:i<L.length):S1 t L (i+1)=(S1 t L i || decide (L.getD i v0=t)):=by
 unfold S1
 rw [Q3 L v0 i h,Bool.eq_iff_iff,Bool.or_eq_true,decide_eq_true_iff,decide_eq_true_iff,decide_eq_true_iff,List.mem_append,List.mem_singleton]
 exact ⟨fun h=>h.imp id Eq.symm,fun h=>h.imp id Eq.symm⟩
theorem kl (a b:PV) (f:FV) (hf:Zd a.rim.length b.rim.length f) (ha:a.even) (hb:b.even):Fn Tryz.prog 190 [QP a,QP b,Jz f] (Xp (J9 a b f f.M.toNat)):=by
 obtain ⟨⟨s1,s2⟩,⟨s3,s4⟩,s5,s6,s7⟩:=hf
 obtain ⟨N,hN⟩:∃ N:Nat,f.M=N:=⟨f.M.toNat,by omega⟩
 have la:=ha.rim; have lb:=hb.rim
 rw [hN,Int.toNat_natCast]
 have ba:XI 3 (.con 0 25 (Xn (XG a)))=True:=eq_true (fun j _=>X5 (Xb (Xy a) j))
 have bb:XI 3 (.con 0 25 (Xn (XG b)))=True:=eq_true (fun j _=>X5 (Xb (Xy b) j))
 have bf:XI 3 (.con 0 29 (Xn (XJ f)))=True:=eq_true (fun j _=>X5 (Xb (XN f) j))
 have bvd:∀ l:List V2,JO 3 (.sl l.length (l.length*8) (Xs vC 8 v0 l) false)=True:=fun l=>eq_true (X5 (Xc l))
 have bv:∀ l,JO 3 (Xp l)=True:=fun l=>eq_true (X5 (Xc l))
 refine Fv Tryz.call190 Tryz.func190 15 [] [5,60000003,60000004,60000005,13,140000009,14] [] ?_
 simp (disch:=omega) only [AS.start,QP,XG,Jz,XJ,↓Xu,wG,seval]
 refine Xe (fun k:Nat=>⟨15,[],[.any,.any,.any,.ref 0 0 0,.ref 1 0 0,.ref 2 0 0,.any,Xp (J9 a b f k),I k,.any,.any,.any,.any,.any,.any],[],[.con 0 25 (Xn (XG a)),.con 0 25 (Xn (XG b)),.con 0 29 (Xn (XJ f))]⟩) (fun k=>k≤N) (fun k=>N - k) 0 (by omega)
  (Sub.trans (XX 0 rfl) (Sub.trans (XX 1 rfl) (Sub.trans (XX 2 rfl) (Sub.trans (Mk 7 (Xp []) (by show 7<15; omega) (by rw [X4]; exact Pr (Nat.le_refl _) (fun j hj=>absurd hj (Nat.not_lt_zero j)))) (Jm (by simp [Xf,J9,I]) (by simp [XG,XJ,Xd,Xm,X3,I,sg])))))) ?_
 intro k hk next
 by_cases hk2:k<N
 rotate_left
 ·obtain rfl:k=N:=by omega
  refine Xl ?_
  simp (disch:=omega) only [XG,XJ,X4,↓Xu,wG,seval]
  exact Xt (v:=Xp (J9 a b f k)) rfl rfl (Xc _) rfl
 have c1:=Ql (f.EA+(k:Int)) a.rim.length (by omega) (by omega) (by omega)
 have c2:=Ql (f.EB - (k:Int)) b.rim.length (by omega) (by omega) (by omega)
 rw [Mu _ _ _ (by omega)] at c1
 rw [Ty _ _ _ (by omega)] at c2
 have ca:=Vc a b (xK a.rim.length f k) (yK b.rim.length f k) la lb ha.near hb.near
 have hsm:=CP ha.near hb.near (xK a.rim.length f k) (yK b.rim.length f k)
 rw [show Q9 a.rim b.rim (xK a.rim.length f k) (yK b.rim.length f k)=GZ a b f k from rfl] at ca hsm
 have nx:=next (k+1)
 have htn:J9 a b f (k+1)=if (GZ a b f k).2=true then TS (GZ a b f k).1 (J9 a b f k) else J9 a b f k:=rfl
 rw [htn] at nx
 have hts:=Bo a b f ha.near hb.near k
 have htl:=BT a b f k
 generalize GZ a b f k=X at *
 generalize J9 a b f k=L at *
 obtain ⟨t,ok⟩:=X
 refine Xl ?_
 simp (disch:=omega) only [XG,XJ,Xd,↓Xu,wG,seval]
 refine X0 c1 rfl ?_
 simp (disch:=omega) only [XG,XJ,Xd,↓Xu,wG,seval]
 refine X0 c2 rfl ?_
 simp (disch:=omega) only [XG,XJ,Xd,↓Xu,wG,seval]
 refine X0 ca rfl ?_
 cases ok with
 | false =>
  simp (disch:=omega) only [↓Xu,wG,seval]
  exact nx _ (by omega) (by omega) (dK (m:=3) (by simp [Xf,I]) (by simp [XG,XJ,Xd,Xm,X3,I,sg]) (by simp [XA,bv]) (by simp [ba,bb,bf]))
 | true =>
  simp (disch:=omega) only [↓Xu,wG,seval]
  refine Xe (fun i:Nat=>⟨15,[],[.any,.any,.any,.ref 0 0 0,.ref 1 0 0,.ref 2 0 0,.any,Xp L,I k,.ref 3 0 0,.any,.osl 4 (KL t ([],false) (L.take i)).1.length 8 0 (KL t ([],false) (L.take i)).1.length,.bool (S1 t L i),.bool (KL t ([],false) (L.take i)).2,I i],[],
   [.con 0 25 (Xn (XG a)),.con 0 25 (Xn (XG b)),.con 0 29 (Xn (XJ f)),.con 0 8 (Xn (vC t)),.row (KL t ([],false) (L.take i)).1.length ((KL t ([],false) (L.take i)).1.length*8) (Xs vC 8 v0 (KL t ([],false) (L.take i)).1)]⟩) (fun i=>i≤L.length∧(KL t ([],false) (L.take i)).1.length≤2*i) (fun i=>L.length - i) 0 ⟨by omega,by simp [KL]⟩
   (Sub.trans (XX 3 rfl) (Sub.trans (Q5 11 8 (Xs vC 8 v0 []) rfl) (Xi rfl (by simp [AS.put,Xf,KL,S1,I]) (by simp [AS.put,Xq]) (by simp [AS.put,XG,XJ,vC,qC,Xd,Xm,X3,KL,I,sg])))) ?_
  rintro i ⟨hi,hle⟩ next2
  by_cases hi2:i<L.length
  rotate_left
  ·obtain rfl:i=L.length:=by omega
   have hB:S1 t L L.length=decide (t∈L):=by unfold S1; rw [List.take_length]
   rw [hB]
   rw [List.take_length] at *
   have hins:=Nm t L []
   rw [List.nil_append] at hins
   generalize KL t ([],false) L=W at *
   obtain ⟨A,put⟩:=W
   simp only at hle hins
   simp only [if_true] at nx
   unfold TS at nx
   have hapt:=XR vC 8 v0 A t (by omega)
   have hl1:(A ++ [t]).length=A.length+1:=by simp
   by_cases hm:t∈L
   ·rw [if_pos hm] at nx
    cases put
    all_goals
     refine Xl ?_
     simp (disch:=omega) only [X4,vC,qC,decide_eq_true hm,Bool.not_true,Bool.not_false,↓Xu,wG,seval]
    refine ⟨Zg t,?_⟩
    all_goals
     exact nx _ (by omega) (by omega) (dK (m:=3) (by simp [Xf,X4,I]) (by simp) (by simp [XA,bv,bvd]) (by simp [ba,bb,bf]))
   ·rw [if_neg hm] at nx
    have key:∀ (s:AS) (M:List V2),M=Dx t L→Sub 0 s ⟨15,[],[.any,.any,.any,.ref 0 0 0,.ref 1 0 0,.ref 2 0 0,.any,.osl 4 M.length 8 0 M.length,I (k+1:Nat),.any,.any,.any,.any,.any,.any],[],[.con 0 25 (Xn (XG a)),.con 0 25 (Xn (XG b)),.con 0 29 (Xn (XJ f)),.con 0 8 (Xn (vC t)),.row M.length (M.length*8) (Xs vC 8 v0 M)]⟩→Sub 0 s
      ⟨15,[],[.any,.any,.any,.ref 0 0 0,.ref 1 0 0,.ref 2 0 0,.any,Xp (Dx t L),I (k+1:Nat),.any,.any,.any,.any,.any,.any],[],[.con 0 25 (Xn (XG a)),.con 0 25 (Xn (XG b)),.con 0 29 (Xn (XJ f))]⟩:=fun s M hM h=>by
     subst hM
     exact h.trans <| Sub.trans (XX 4 rfl) (Sub.trans (ZV 7 (Xp (Dx t L)) (by show 7<15; omega) (Tp rfl rfl)) (dK (m:=3) (by simp [Xf]) (by simp) (by simp [XA,bv]) (by simp [ba,bb,bf])))
    cases put
    all_goals
     refine Xl ?_
     simp (disch:=omega) only [X4,vC,qC,decide_eq_false hm,Bool.not_true,Bool.not_false,↓Xu,wG,seval]
    ·exact ⟨Zg t,nx _ (by omega) (by omega) (key _ (A ++ [t]) hins (Jm (by simp [Xf,X4,I,hl1]) (by rw [← hapt,hl1]; rfl)))⟩
    ·exact nx _ (by omega) (by omega) (key _ A hins (Jm (by simp [Xf,X4,I]) rfl))
  have ct:=Al (L.getD i v0) t (by have:=hts (L.getD i v0) (QS hi2); unfold vm; omega) (by simp only at hsm; unfold vm; omega)
  have cb:=YV t (L.getD i v0) (by simp only at hsm; unfold vm; omega) (by have:=hts (L.getD i v0) (QS hi2); unfold vm; omega)
  have nx2:=next2 (i+1)
  rw [Vr t L i hi2,bE t L i hi2] at nx2
  have v1:=vF L i
  generalize L.getD i v0=x at *
  generalize KL t ([],false) (L.take i)=W at *
  obtain ⟨A,put⟩:=W
  simp only at hle
  generalize S1 t L i=tw at *
  have hap1:=XR vC 8 v0 A x (by omega)
  have hap2:=XR vC 8 v0 A t (by omega)
  have hap3:=XR vC 8 v0 (A ++ [t]) x (by omega)
  have hl1:(A ++ [t]).length=A.length+1:=by simp
  rw [hl1] at hap3
  have hl2:(A ++ [t] ++ [x]).length=A.length+1+1:=by simp
  have hl3:(A ++ [x]).length=A.length+1:=by simp
  refine Xl ?_
  cases tw
  simp (disch:=omega) only [X4,vC,qC,v1,↓Xu,wG,seval]
  refine X0 ct rfl ?_
  by_cases hx:x=t
  simp (disch:=omega) only [X4,vC,qC,v1,decide_eq_true hx,↓Xu,wG,seval]
  rotate_left
  simp (disch:=omega) only [X4,vC,qC,v1,decide_eq_false hx,↓Xu,wG,seval]
  rotate_left
  simp (disch:=omega) only [X4,vC,qC,v1,↓Xu,wG,seval]
  all_goals
   cases put
   ·simp (disch:=omega) only [X4,vC,qC,v1,Bool.not_false,↓Xu,wG,seval]
    refine X0 cb rfl ?_
    by_cases hb:Zu t x
    ·have hs:Au t (A,false) x=(A ++ [t] ++ [x],true):=by unfold Au; rw [if_pos ⟨rfl,hb⟩]
     rw [hs,hl2] at nx2
     simp (disch:=omega) only [X4,vC,qC,v1,decide_eq_true hb,↓Xu,wG,seval]
     exact ⟨Zg t,Zg x,nx2 _ ⟨by omega,by omega⟩ (by omega) (Jm (by first | simp [Xf,X4,hx,I] | simp [Xf,X4,I]) (by rw [← hap3,← hap2]; rfl))⟩
    ·have hs:Au t (A,false) x=(A ++ [x],false):=by unfold Au; rw [if_neg (fun h=>hb h.2)]
     rw [hs,hl3] at nx2
     simp (disch:=omega) only [X4,vC,qC,v1,decide_eq_false hb,↓Xu,wG,seval]
     exact ⟨Zg x,nx2 _ ⟨by omega,by omega⟩ (by omega) (Jm (by first | simp [Xf,X4,hx,I] | simp [Xf,X4,I]) (by rw [← hap1]; rfl))⟩
   ·have hs:Au t (A,true) x=(A ++ [x],true):=by unfold Au; rw [if_neg (fun h=>Bool.noConfusion h.1)]
    rw [hs,hl3] at nx2
    simp (disch:=omega) only [X4,vC,qC,v1,Bool.not_true,↓Xu,wG,seval]
    exact ⟨Zg x,nx2 _ ⟨by omega,by omega⟩ (by omega) (Jm (by first | simp [Xf,X4,hx,I] | simp [Xf,X4,I]) (by rw [← hap1]; rfl))⟩
def G8 (l:List FV):AV:=tL XJ 29 fv0 l
theorem XH (l:List FV):G8 l=.sl l.length (l.length*29) (Xs XJ 29 fv0 l) false:=nrfl rfl
theorem Kb (l:List FV):Settled (G8 l):=J8 fun j _=>Xb (XN _) _
def QD (i j k:Nat) (t:V2):FV:=⟨0,1,i,j,k,t,v0,v0⟩
def G6 (a b:PV) (e:Rat) (i j k:Nat) (t:V2):Bool:=(Xv a.rim b.rim (QD i j k t) e).2.2 && KT a b (Jx a b (QD i j k t) e) e
def ZE (a b:PV) (e:Rat) (i j k:Nat) (L:List V2):List FV:=(L.filter (G6 a b e i j k)).map fun t=>Jx a b (QD i j k t) e
def Do (a b:PV) (e:Rat) (i j k:Nat):List FV:=if Dy a b (QD i j k v0) then ZE a b e i j k (J9 a b (QD i j k v0) k) else []
def Kp (a b:PV) (e:Rat) (i j:Nat):Nat→List FV
 | 0=>[]
 | k+1=>Kp a b e i j k ++ Do a b e i j (k+1)
def K0 (a b:PV) (e:Rat) (i:Nat):Nat→List FV
 | 0=>[]
 | j+1=>K0 a b e i j ++ Kp a b e i j (min a.rim.length b.rim.length - 1)
def JK (a b:PV) (e:Rat):Nat→List FV
 | 0=>[]
 | i+1=>JK a b e i ++ K0 a b e i b.rim.length
def BU (a b:PV) (e:Rat):List FV:=JK a b e a.rim.length
theorem Lq (a b:PV) (e:Rat) (i j k:Nat) (L:List V2) (n:Nat) (h:n<L.length):ZE a b e i j k (L.take (n+1))=ZE a b e i j k (L.take n) ++ (if G6 a b e i j k (L.getD n v0)=true then [Jx a b (QD i j k (L.getD n v0)) e] else []):=by
 unfold ZE
 rw [Q3 L v0 n h,List.filter_append,List.map_append]
 congr 1
 by_cases hq:G6 a b e i j k (L.getD n v0)=true
 ·rw [if_pos hq,List.filter_cons_of_pos hq]; rfl
 ·rw [if_neg hq,List.filter_cons_of_neg hq]; rfl
theorem Hb (a b:PV) (e:Rat) (i j k:Nat) (L:List V2):(ZE a b e i j k L).length≤L.length:=by
 unfold ZE; rw [List.length_map]; exact List.length_filter_le _ _
theorem sw {l:List AV} (h:∀ x∈l,x.one=true):∀ j,j<l.length→(l.getD j .any).one=true:=fun j hj=>by
 rw [List.getD_eq_getElem?_getD,List.getElem?_eq_getElem hj]; exact h _ (List.getElem_mem _)
theorem Is (f:FV):∀ j,j<29→((XJ f).getD j .any).one=true:=sw (l:=XJ f) (by simp [XJ,AV.one,X3,I])
theorem OL {P:Program} {fn:Func} {str hcs:List Nat} {s:AS} {t id ver:Nat} (L:List FV) (hr:fn.results=#[.tmp t]) (hs:s.get t=.osl id ver 29 0 L.length) (ho:s.h[id]?=some (.row ver (L.length*29) (Xs XJ 29 fv0 L))):RetOk (QJ P fn str hcs (G8 L)) s:=by
 refine Bm hr ?_
 rw [hs,XH]
 refine Qx (.inl ho) (by omega) (fun h=>by rw [h]) fun j hj=>?_
 rw [Nat.zero_add]
 exact (Xb (XN _) _).sees _
theorem Ef {m:Nat} {s:AS} (id:Nat) {ver n:Nat} {l:List AV} (l':List AV) (ho:s.h[id]?=some (.row ver n (Xn l))) (hn:n=l.length) (h:WeakL l l'):Sub m s { s with h:=s.h.set id (.row ver n (Xn l')) } :=
 ZM id (Xn l') ho fun j hj c v _ _ hv=>(WeakL.spec h).2 j (by omega) v hv
theorem Oa (i j k:Nat):WeakL ([I 0,I 1,I i,I j,I k] ++ (Zt ++ (Zt ++ Zt))) (XJ (QD i j k v0)):=by
 obtain ⟨w1,w2,w3,w4,w5,w6,w7,w8,_⟩:=Zp
 exact ⟨Weak.rfl' _,Weak.rfl' _,Weak.rfl' _,Weak.rfl' _,Weak.rfl' _,w1,w2,w3,w4,w5,w6,w7,w8,w1,w2,w3,w4,w5,w6,w7,w8,w1,w2,w3,w4,w5,w6,w7,w8,trivial⟩
def J4 (a b:PV) (D:List FV) (x6 x7 x8 x9 x10 x11:AV) (r:List AO):AS:=⟨15,[],[.any,.any,.ref 0 0 0,.ref 1 0 0,.any,.osl 2 D.length 29 0 D.length,x6,x7,x8,x9,x10,x11,.any,.any,.any],[],[.row 0 25 (Xn (XG a)),.row 0 25 (Xn (XG b)),.row D.length (D.length*29) (Xs XJ 29 fv0 D)] ++ r⟩
theorem Vb (a b:PV) {ta tb:Rat} (ha:GP a ta) (hb:GP b tb):Fn Tryz.prog 109 [QP a,QP b] (G8 (BU a b (ta+tb))):=by
 have la:=(JV _ ha.poly).1
 have lb:=(JV _ hb.poly).1
 have ea:(Xz a.rim).length=a.rim.length:=by simp [Xz]
 have eb:(Xz b.rim).length=b.rim.length:=by simp [Xz]
 rw [ea] at la
 rw [eb] at lb
 have qa:=ha.qt; have q2:=hb.qt
 have qe:=K2 ta tb
 generalize hT:ta+tb=e at *
 have ba:XI 3 (.row 0 25 (Xn (XG a)))=True:=eq_true (XD (Xy a))
 have bb:XI 3 (.row 0 25 (Xn (XG b)))=True:=eq_true (XD (Xy b))
 have bd:∀ v n l,XI 3 (.row v n (Xs XJ 29 fv0 l))=True:=fun v n l=>eq_true fun j _=>X5 (Xb (XN _) _)
 refine Fr Tryz.call109 Tryz.func109 15 [] [] [] ?_
 simp (disch:=omega) only [AS.start,QP,XG,↓Xu,wG,seval]
 refine Xe (fun i:Nat=>J4 a b (JK a b e i) (I i) .any .any .any .any .any []) (fun i=>i≤a.rim.length∧(JK a b e i).length≤2000*i) (fun i=>a.rim.length - i) 0 ⟨by omega,by simp [JK]⟩
  (Sub.trans (Q5 5 29 (Xs XJ 29 fv0 []) rfl) (Xi rfl (by simp [AS.put,Xf,J4,JK,I]) (by simp [AS.put,Xq,J4]) (by simp [AS.put,J4,XG,Xd,Xm,X3,JK,I]))) ?_
 rintro i ⟨hi,hil⟩ next
 by_cases hi2:i<a.rim.length
 rotate_left
 ·obtain rfl:i=a.rim.length:=by omega
  refine Xl ?_
  simp (disch:=omega) only [J4,XG,Xd,List.cons_append,List.nil_append,↓Xu,wG,seval]
  exact OL _ rfl rfl rfl
 refine Xl ?_
 simp (disch:=omega) only [J4,XG,Xd,List.cons_append,List.nil_append,↓Xu,wG,seval]
 refine Xe (fun j:Nat=>J4 a b (JK a b e i ++ K0 a b e i j) (I i) (I j) .any .any .any .any []) (fun j=>j≤b.rim.length∧(JK a b e i ++ K0 a b e i j).length≤2000*i+150*j) (fun j=>b.rim.length - j) 0 ⟨by omega,by simpa [K0] using hil⟩
  (Xi rfl (by simp [Xf,J4,K0,I]) (by simp [Xq,J4]) (by simp [J4,XG,Xd,Xm,X3,K0,I])) ?_
 rintro j ⟨hj,hjl⟩ nextj
 by_cases hj2:j<b.rim.length
 rotate_left
 ·obtain rfl:j=b.rim.length:=by omega
  refine Xl ?_
  simp (disch:=omega) only [J4,XG,Xd,List.cons_append,List.nil_append,↓Xu,wG,seval]
  exact next (i+1) _ ⟨by omega,by show (JK a b e i ++ K0 a b e i b.rim.length).length≤_; omega⟩ (by omega) (Xi rfl (by simp [Xf,J4,JK,I]) (by simp [Xq,J4]) (by simp [J4,XG,Xd,Xm,X3,JK,I]))
 generalize hA:JK a b e i ++ K0 a b e i j=A at *
 refine Xl ?_
 simp (disch:=omega) only [J4,XG,Xd,List.cons_append,List.nil_append,↓Xu,wG,seval]
 refine Xe (fun k:Nat=>J4 a b (A ++ Kp a b e i j k) (I i) (I j) (I (k+1:Nat)) .any .any .any []) (fun k=>k≤min a.rim.length b.rim.length - 1∧(A ++ Kp a b e i j k).length≤2000*i+150*j+12*k) (fun k=>min a.rim.length b.rim.length - k) 0 ⟨by omega,by simpa [Kp] using hjl⟩
  (Xi rfl (by simp [Xf,J4,Kp,I]) (by simp [Xq,J4]) (by simp [J4,XG,Xd,Xm,X3,Kp,I])) ?_
 rintro k ⟨hk,hkl⟩ nextk
 by_cases hk2:k+1<a.rim.length∧k+1<b.rim.length
 rotate_left
 ·have hke:k=min a.rim.length b.rim.length - 1:=by omega
  by_cases hn:k+1<a.rim.length
  all_goals
   refine Xl ?_
   simp (disch:=omega) only [J4,XG,Xd,List.cons_append,List.nil_append,↓Xu,wG,seval]
   subst hke
   exact nextj (j+1) _ ⟨by omega,by
    have e1:JK a b e i ++ K0 a b e i (j+1)=A ++ Kp a b e i j (min a.rim.length b.rim.length - 1):=by rw [← hA,List.append_assoc]; rfl
    rw [e1]; omega⟩ (by omega) (Xi rfl (by simp [Xf,J4,K0,hA.symm,I]) (by simp [Xq,J4]) (by simp [J4,XG,Xd,Xm,X3,K0,hA.symm,I]))
 have hlk:Kp a b e i j (k+1)=Kp a b e i j k ++ Do a b e i j (k+1):=rfl
 have nx:=nextk (k+1)
 rw [hlk,← List.append_assoc] at nx
 generalize A ++ Kp a b e i j k=A2 at *
 have hst:∀ t lo hi,Zd a.rim.length b.rim.length ⟨0,1,i,j,(k+1:Nat),t,lo,hi⟩:=fun t lo hi=>⟨⟨by show (0:Int)≤i; omega,by show (i:Int)<_; omega⟩,⟨by show (0:Int)≤j; omega,by show (j:Int)<_; omega⟩,by show (1:Int)≤((k+1:Nat):Int); omega,by show ((k+1:Nat):Int)<_; omega,by show ((k+1:Nat):Int)<_; omega⟩
 have cp:=Pc a b (QD i j (k+1) v0) (hst _ _ _) ha.even hb.even
 have ct:=kl a b (QD i j (k+1) v0) (hst _ _ _) ha.even hb.even
 change Fn _ _ _ (Xp (J9 a b (QD i j (k+1) v0) (k+1))) at ct
 have hsm:=Bo a b (QD i j (k+1) v0) ha.even.near hb.even.near (k+1)
 have hlen:=BT a b (QD i j (k+1) v0) (k+1)
 have hfk:Do a b e i j (k+1)=if Dy a b (QD i j (k+1) v0) then ZE a b e i j (k+1) (J9 a b (QD i j (k+1) v0) (k+1)) else []:=rfl
 have hfl:=Hb a b e i j (k+1) (J9 a b (QD i j (k+1) v0) (k+1))
 rw [hfk] at nx
 generalize J9 a b (QD i j (k+1) v0) (k+1)=L at *
 have wf:=Oa i j (k+1)
 refine Xl ?_
 simp (disch:=omega) only [J4,XG,Xd,List.cons_append,List.nil_append,↓Xu,wG,seval]
 refine XW cp ⟨Weak.rfl' _,Weak.rfl' _,XO wf,trivial⟩ ?_
 by_cases hp:Dy a b (QD i j (k+1) v0)
 rotate_left
 ·rw [if_neg hp,List.append_nil] at nx
  simp (disch:=omega) only [decide_eq_false hp,↓Xu,wG,seval]
  exact nx _ ⟨by omega,by omega⟩ (by omega) (XE (m:=3) (Nat.zero_le _) rfl (by simp [Xf,J4,I]) (by simp [Xq,J4]) (by simp [J4,XG,Xd,Xm,X3,I]) (by simp [J4,XA]) (by simp [J4,XA]) (by simp [J4,ba,bb,bd]))
 rw [if_pos hp] at nx
 simp (disch:=omega) only [decide_eq_true hp,↓Xu,wG,seval]
 refine XW ct ⟨Weak.rfl' _,Weak.rfl' _,XO wf,trivial⟩ ?_
 simp (disch:=omega) only [↓Xu,wG,seval]
 refine Xe (fun w:Nat×V2×V2×V2=>J4 a b (A2 ++ ZE a b e i j (k+1) (L.take w.1)) (I i) (I j) (I (k+1:Nat)) (.ref 3 0 0) (Xp L) (I w.1) [.row 0 29 (Xn (XJ ⟨0,1,i,j,(k+1:Nat),w.2.1,w.2.2.1,w.2.2.2⟩))]) (fun w=>w.1≤L.length∧(A2 ++ ZE a b e i j (k+1) (L.take w.1)).length≤2000*i+150*j+12*k+w.1) (fun w=>L.length - w.1) (0,v0,v0,v0) ⟨by simp,by simpa [ZE] using hkl⟩
  (Sub.trans (Ef 3 (XJ (QD i j (k+1) v0)) rfl rfl wf) (Xi rfl (by simp [Xf,J4,ZE,I]) (by simp [Xq,J4]) (by simp [J4,XG,Xd,Xm,X3,ZE,QD,I]))) ?_
 rintro ⟨t,T,lo,hi'⟩ ⟨ht,htl⟩ nextt
 replace ht:t≤L.length:=ht
 replace htl:(A2 ++ ZE a b e i j (k+1) (L.take t)).length≤2000*i+150*j+12*k+t:=htl
 have bL:JO 3 (Xp L)=True:=eq_true (X5 (Xc L))
 by_cases ht2:t<L.length
 rotate_left
 ·obtain rfl:t=L.length:=by omega
  rw [List.take_length] at *
  refine Xl ?_
  simp (disch:=omega) only [J4,X4,XG,Xd,List.cons_append,List.nil_append,↓Xu,wG,seval]
  exact nx _ ⟨by omega,by omega⟩ (by omega) (XE (m:=3) (Nat.zero_le _) rfl (by simp [Xf,J4,I]) (by simp [Xq,J4]) (by simp [J4,XG,Xd,Xm,X3,I]) (by simp [J4,XA]) (by simp [J4,XA]) (by simp [J4,ba,bb,bd]))
 have hx:=hsm (L.getD t v0) (QS ht2)
 have htk:=Lq a b e i j (k+1) L t ht2
 have v1:=vF L t
 generalize L.getD t v0=x at *
 have ca:=NV a b ⟨0,1,i,j,(k+1:Nat),x,lo,hi'⟩ ha.even hb.even (by show vb x≤1000; omega) ha.tol hb.tol (by omega) (by omega)
 rw [hT] at ca
 have hag:Xv a.rim b.rim ⟨0,1,i,j,(k+1:Nat),x,lo,hi'⟩ e=Xv a.rim b.rim (QD i j (k+1) x) e:=rfl
 rw [hag] at ca
 have hfine:(Jx a b (QD i j (k+1) x) e).fine:=by
  obtain ⟨h1,h2⟩:=FO a b (QD i j (k+1) x) ha.even.near hb.even.near e (by show vb x≤60; omega)
  exact ⟨by show vb x≤60; omega,by show vb (Xv a.rim b.rim (QD i j (k+1) x) e).1≤300; omega,by show vb (Xv a.rim b.rim (QD i j (k+1) x) e).2.1≤300; omega⟩
 have cc:=Sz a b _ ha hb hfine
 rw [hT] at cc
 have hok:G6 a b e i j (k+1) x=((Xv a.rim b.rim (QD i j (k+1) x) e).2.2 && KT a b (Jx a b (QD i j (k+1) x) e) e):=rfl
 have hsf:Jx a b (QD i j (k+1) x) e=⟨0,1,i,j,(k+1:Nat),x,(Xv a.rim b.rim (QD i j (k+1) x) e).1,(Xv a.rim b.rim (QD i j (k+1) x) e).2.1⟩:=rfl
 rw [hok,hsf] at htk
 rw [hsf] at cc
 generalize Xv a.rim b.rim (QD i j (k+1) x) e=G at *
 obtain ⟨g1,g2,ok⟩:=G
 simp only at htk cc ca
 have nx2:=nextt (t+1,x,g1,g2)
 rw [htk,← List.append_assoc] at nx2
 generalize A2 ++ ZE a b e i j (k+1) (L.take t)=D at *
 generalize KT a b ⟨0,1,i,j,(k+1:Nat),x,g1,g2⟩ e=q at *
 have bq:∀ f:FV,XI 4 (.row 0 29 (Xn (XJ f)))=True:=fun f=>eq_true (XD (XN f))
 refine Xl ?_
 simp (disch:=omega) only [J4,X4,XJ,v1,XG,Xd,List.cons_append,List.nil_append,↓Xu,wG,seval]
 refine X0 ca rfl ?_
 have ba4:XI 4 (.row 0 25 (Xn (XG a)))=True:=eq_true (XD (Xy a))
 have bb4:XI 4 (.row 0 25 (Xn (XG b)))=True:=eq_true (XD (Xy b))
 have bd4:∀ v n l,XI 4 (.row v n (Xs XJ 29 fv0 l))=True:=fun v n l=>eq_true fun j _=>X5 (Xb (XN _) _)
 have bL4:JO 4 (Xp L)=True:=eq_true (X5 (Xc L))
 cases ok with
 | false =>
  simp only [Bool.false_and,Bool.false_eq_true,if_false,List.append_nil] at nx2
  simp (disch:=omega) only [X4,↓Xu,wG,seval]
  exact nx2 _ ⟨by show t+1≤L.length; omega,by show D.length≤2000*i+150*j+12*k+(t+1); omega⟩ (by show L.length - (t+1)<L.length - t; omega) (XE (m:=4) (Nat.zero_le _) rfl (by simp [Xf,J4,X4,I]) (by simp [Xq,J4]) (by simp [J4,XG,XJ,Xd,Xm,X3,I,sg]) (by simp [J4,XA,bL4]) (by simp [J4,XA]) (by simp [J4,ba4,bb4,bd4,bq]))
 | true =>
  simp (disch:=omega) only [X4,↓Xu,wG,seval]
  refine X0 cc rfl ?_
  cases q with
  | false =>
   simp only [Bool.and_false,Bool.false_eq_true,if_false,List.append_nil] at nx2
   simp (disch:=omega) only [X4,↓Xu,wG,seval]
   exact nx2 _ ⟨by show t+1≤L.length; omega,by show D.length≤2000*i+150*j+12*k+(t+1); omega⟩ (by show L.length - (t+1)<L.length - t; omega) (XE (m:=4) (Nat.zero_le _) rfl (by simp [Xf,J4,X4,I]) (by simp [Xq,J4]) (by simp [J4,XG,XJ,Xd,Xm,X3,I,sg]) (by simp [J4,XA,bL4]) (by simp [J4,XA]) (by simp [J4,ba4,bb4,bd4,bq]))
  | true =>
   simp only [Bool.and_true,if_true] at nx2
   have hap:=XR XJ 29 fv0 D ⟨0,1,i,j,(k+1:Nat),x,g1,g2⟩ (by omega)
   have hDl:(D ++ [(⟨0,1,i,j,(k+1:Nat),x,g1,g2⟩:FV)]).length=D.length+1:=by simp
   simp (disch:=omega) only [X4,↓Xu,wG,seval]
   refine ⟨Is ⟨0,1,i,j,(k+1:Nat),x,g1,g2⟩,?_⟩
   exact nx2 _ ⟨by show t+1≤L.length; omega,by show (D ++ [(⟨0,1,i,j,(k+1:Nat),x,g1,g2⟩:FV)]).length≤2000*i+150*j+12*k+(t+1); omega⟩ (by show L.length - (t+1)<L.length - t; omega) (XE (m:=4) (Nat.zero_le _) rfl (by simp [Xf,J4,X4,I]) (by simp [Xq,J4]) (by simp only [J4,hDl,← hap]; rfl) (by simp [J4,XA,bL4]) (by simp [J4,XA]) (by simp [J4,ba4,bb4,bd4,bq]))
end
end Go.Ab.N
