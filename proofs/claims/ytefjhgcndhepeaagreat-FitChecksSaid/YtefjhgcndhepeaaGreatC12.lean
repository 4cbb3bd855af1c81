/- Contracts of functions, for arguments that fit. -/
import Derived.Test.YtefjhgcndhepeaaGreatC11
import Derived.Test.YtefjhgcndhepeaaGreatC10
import Derived.Test.YtefjhgcndhepeaaGreatC7
import Derived.Test.YtefjhgcndhepeaaGreatC6
set_option linter.unusedSimpArgs false
set_option linter.unusedVariables false
open Nat renaming reducePow → Y1, reduceLT → Y2, reduceLeDiff → Y3, reduceEqDiff → Y4, reduceAdd → Y5, reduceMul → Y6, reduceSub → Y7, reduceBEq → Y8, reduceDiv → Y9, reduceMod → YA
namespace Go.Ab.N
open Go Go.RowKit Go.Proofs
noncomputable section
set_option maxRecDepth 10000
set_option maxHeartbeats 4000000
open Classical
theorem nE (L:List V2) (k:Nat) (hs:Q3 L k) (hk:k≤1000) (hp:XO L):Fn Tryz.prog 264 [Xp L] (.tup [jt (BU L),I 0]):=by
 have hl:=(JN L hp).1
 have cv:=D5 L (fun i=>Nat.le_trans (hs i) hk) (by omega)
 rw [decide_eq_true hp] at cv
 have ca:=jQ L.length (by omega)
 obtain ⟨T,hT⟩:∃ T,T=BU L:=⟨_,rfl⟩
 rw [← hT]
 have h0:=Ay hl.1 (by omega)
 have d0:(List.range L.length).Nodup:=List.nodup_range
 have hlr:(List.range L.length).length=L.length:=List.length_range
 have hTc:T=Bx L (List.range L.length).length (List.range L.length):=by rw [hT,hlr]; rfl
 have s0:∀ l,XK 2 (.row 0 1 (Xo [X8 l]))=True:=fun l=>eq_true (XH (by simp [X7]))
 have s1:∀ v n l,XK 2 (.row v n (Xs tC 3 (0,0,0) l))=True:=fun v n l=>eq_true fun j _=>X6 (Xc (FE _) _)
 refine Fq Tryz.call264 Tryz.func264 7 [] [9,10001,10005,10009,11,120000004] [] (by simp [Xf]) (X0 1000 ?_)
 simp only [AS.start,X5,↓X2,wF,seval]
 refine X1 cv rfl ?_
 simp only [X5,↓X2,wF,seval]
 refine X1 ca rfl ?_
 generalize List.range L.length=R0 at *
 simp only [X5,QK,X4,Xn,↓X2,wF,seval]
 refine Xg (fun w:List (Nat×Nat×Nat)×List Nat=>⟨7,[],[Xp L,.any,.any,.any,.ref 0 0 0,.osl 1 w.1.length 3 0 w.1.length,.any],[],[.row 0 1 (Xo [X8 (zs w.2)]),.row w.1.length (w.1.length*3) (Xs tC 3 (0,0,0) w.1)]⟩) (fun w=>Rok L w.2∧w.2.Nodup∧3≤w.2.length∧w.1.length+w.2.length≤L.length∧w.1 ++ Bx L w.2.length w.2=T) (fun w=>w.2.length) ([],R0) ⟨h0,d0,by show 3≤R0.length; omega,by simp [hlr],by rw [hTc]; rfl⟩
  (Sub.trans (Q7 5 3 (Xs tC 3 (0,0,0) []) rfl) (Xa rfl (by simp [AS.put,Xh,X5]) (by simp [AS.put,Xi]) (by simp [AS.put,X4,Xn]))) ?_
 rintro ⟨D,R⟩ ⟨h,hd,h3,hDl,hDT⟩ next
 replace h:Rok L R:=h
 replace hd:R.Nodup:=hd
 replace h3:3≤R.length:=h3
 replace hDl:D.length+R.length≤L.length:=hDl
 replace hDT:D ++ Bx L R.length R=T:=hDT
 by_cases h4:3<R.length
 rotate_left
 ·have e3:R.length=3:=by omega
  rw [R6 h4] at hDT
  have hap:=XT tC 3 (0,0,0) D (R.getD 0 0,R.getD 1 0,R.getD 2 0) (by omega)
  rw [hDT] at hap
  have hTl:T.length=D.length+1:=by rw [← hDT]; simp
  refine X0 1000 ?_
  simp (disch:=omega) only [X5,X4,Xn,Bg,Kb,wD,↓X2,wF,seval]
  exact ⟨Pe (R.getD 0 0,R.getD 1 0,R.getD 2 0),Wz T rfl (by rw [hTl]; rfl) (by rw [hTl,← hap]; rfl) rfl (X9 _)⟩
 have hgo:=VF h hd h4
 obtain ⟨b1,b2,b3,b4⟩:=Er h hd h4
 have hn:=h.len
 refine X0 1000 ?_
 simp (disch:=omega) only [X5,X4,Xn,wD,↓X2,wF,seval]
 refine Xg (fun p:Nat=>⟨7,[],[Xp L,.any,.any,.any,.ref 0 0 0,.osl 1 D.length 3 0 D.length,I p],[],[.row 0 1 (Xo [X8 (zs R)]),.row D.length (D.length*3) (Xs tC 3 (0,0,0) D)]⟩) (fun p=>p≤R.length - 1∧∀ j,j<p→B6 L R j=false) (fun p=>R.length - p) 0 ⟨by omega,fun j hj=>absurd hj (Nat.not_lt_zero j)⟩
  (Xa rfl (by simp [Xh,X5,I]) (by simp [Xi]) (by simp [X4,Xn])) ?_
 rintro p ⟨hp1,hno⟩ next2
 have ce:=nF L R p k h (by omega) hs (by omega)
 have c1:=ED R p (-1) (p+R.length - 1) h.pos h.len (by have:=h.pos; omega) (by omega) (by omega) (by omega)
 have c2:=ED R p 1 (p+R.length+1) h.pos h.len (by omega) (by omega) (by omega) (by omega)
 have cw:=Ml R p hn (by omega)
 have hre:=Bu h h4 (show p<R.length by omega)
 have hlr:(R.eraseIdx p).length=R.length - 1:=by rw [List.length_eraseIdx,if_pos (by omega)]
 have cc:=U7 L (R.eraseIdx p) k hre hs (by omega)
 rw [hlr] at cc
 rw [QK,X4,Xn] at ce c1 c2 cw
 by_cases hgo2:p<R.length - 1∧B6 L R p=false
 ·refine X0 1000 ?_
  simp (disch:=omega) only [X5,X4,Xn,wD,↓X2,wF,seval]
  refine X1 ce rfl ?_
  simp (disch:=omega) only [hgo2.2,X5,X4,Xn,wD,↓X2,wF,seval]
  exact next2 (p+1) _ ⟨by omega,Kf.2 ⟨hno,hgo2.2⟩⟩ (by omega) (Xa rfl (by simp [Xh,X5,I]) (by simp [Xi]) (by simp [X4,Xn]))
 have hep:FZ L R=p:=VK hp1 hno (by
  by_cases h1:p=R.length - 1
  ·exact .inl h1
  ·right
   cases he:B6 L R p with
   | true=>rfl
   | false=>exact absurd ⟨by omega,he⟩ hgo2)
 have hD:(D ++ [ES R p]) ++ Bx L (BV L R).length (BV L R)=T:=by rw [← hDT,hgo,hep,List.append_assoc]; rfl
 have hap:=XT tC 3 (0,0,0) D (ES R p) (by omega)
 have hcs:Z9 L (R.length - 1) (R.eraseIdx p)=BV L R:=by unfold BV; rw [hep]
 rw [hcs] at cc
 have nx:=next (D ++ [ES R p],BV L R)
 rw [List.length_append,List.length_singleton] at nx
 have htr:tC (ES R p)=[I (nr R (p+R.length - 1)),I (R.getD p 0:Nat),I (nr R (p+R.length+1))]:=rfl
 have hone:=Pe (ES R p)
 rw [htr] at hap hone
 generalize D ++ [ES R p]=D2 at *
 generalize BV L R=R2 at *
 have v2:=Bg R p
 generalize nr R (p+R.length - 1)=a at *
 generalize nr R (p+R.length+1)=c at *
 generalize R.getD p 0=b at *
 clear hgo hcs htr
 refine X0 1000 ?_
 by_cases hl:p<R.length - 1
 have he:B6 L R p=true:=by
  cases he:B6 L R p with
  | true=>rfl
  | false=>exact absurd ⟨hl,he⟩ hgo2
 simp (disch:=omega) only [X5,X4,Xn,wD,↓X2,wF,seval]
 refine X1 ce rfl ?_
 simp (disch:=omega) only [he,X5,X4,Xn,wD,↓X2,wF,seval]
 rotate_left
 simp (disch:=omega) only [X5,X4,Xn,wD,↓X2,wF,seval]
 all_goals
  refine X1 c1 rfl ?_
  simp (disch:=omega) only [X5,X4,Xn,v2,wD,↓X2,wF,seval]
  refine X1 c2 rfl ?_
  simp (disch:=omega) only [X5,X4,Xn,v2,wD,↓X2,wF,seval]
  refine ⟨hone,?_⟩
  refine X1 cw rfl ?_
  simp (disch:=omega) only [QK,X5,X4,Xn,wD,↓X2,wF,seval]
  refine X1 cc (by simp only [QK,X4,Xn]; rfl) ?_
  simp (disch:=omega) only [QK,X5,X4,Xn,wD,↓X2,wF,seval]
  exact nx _ ⟨b1,b2,b3,by show D.length+1+R2.length≤L.length; omega,hD⟩ (by show R2.length<R.length; omega) (Xa rfl (by simp [Xh,X5,I]) (by simp [Xi]) (by rw [← hap]; simp [X4,Xn,I,Pi]))
def bX (L:List V2) (d:Nat×Nat×Nat):List V2:=[L.getD d.1 v0,L.getD d.2.1 v0,L.getD d.2.2 v0]
def K9 (L:List V2):List (List V2):=(BU L).map (bX L)
theorem L8 (L:List V2):∀ (f:Nat) (R:List Nat),Rok L R→R.Nodup→3≤R.length→∀ d∈Bx L f R,d.1<L.length∧d.2.1<L.length∧d.2.2<L.length
 | 0,R,h,_,_,d,hd=>by
  rw [List.mem_singleton.1 hd]
  exact ⟨h.mem 0,h.mem 1,h.mem 2⟩
 | f+1,R,h,hn,h3,d,hd=>by
  unfold Bx at hd
  split at hd
  ·rename_i h4
   obtain ⟨b1,b2,b3,_⟩:=Er h hn h4
   rcases List.mem_cons.1 hd with rfl | hd
   ·exact ⟨h.mem _,h.mem _,h.mem _⟩
   ·exact L8 L f _ b1 b2 b3 d hd
  ·rw [List.mem_singleton.1 hd]
   exact ⟨h.mem 0,h.mem 1,h.mem 2⟩
theorem FW (L:List V2):∀ (f:Nat) (R:List Nat),Rok L R→R.Nodup→3≤R.length→(Bx L f R).length≤R.length
 | 0,R,h,_,_=>h.pos
 | f+1,R,h,hn,h3=>by
  unfold Bx
  split
  ·rename_i h4
   obtain ⟨b1,b2,b3,b4⟩:=Er h hn h4
   have:=FW L f _ b1 b2 b3
   rw [List.length_cons]; omega
  ·exact h.pos
theorem cI (A B C:V2):Weak (Ia A B C).loose (Xp [A,B,C]):=by
 rw [XY,X5]
 show Weak (AV.sl 3 24 _ false) _
 refine Pk (Nat.le_refl _) fun j hj=>?_
 have hj:j<24:=hj
 match j,hj with
 | 0,_=>rfl
 | 1,_=>rfl
 | 2,_=>rfl
 | 3,_=>rfl
 | 4,_=>rfl
 | 5,_=>rfl
 | 6,_=>rfl
 | 7,_=>rfl
 | 8,_=>rfl
 | 9,_=>rfl
 | 10,_=>rfl
 | 11,_=>rfl
 | 12,_=>rfl
 | 13,_=>rfl
 | 14,_=>rfl
 | 15,_=>rfl
 | 16,_=>rfl
 | 17,_=>rfl
 | 18,_=>rfl
 | 19,_=>rfl
 | 20,_=>rfl
 | 21,_=>rfl
 | 22,_=>rfl
 | 23,_=>rfl
 | j+24,h=>omega
theorem ZL (L:List V2):(K9 L).length=(BU L).length:=by simp [K9]
theorem Eo (L:List V2) (i:Nat) (h:i<(BU L).length):(K9 L).getD i []=bX L ((BU L).getD i (0,0,0)):=by
 unfold K9
 rw [List.getD_eq_getElem?_getD,List.getElem?_map,List.getD_eq_getElem?_getD,List.getElem?_eq_getElem h]; rfl
theorem tF (T:List (Nat×Nat×Nat)) (i:Nat):Xs tC 3 (0,0,0) T (i*3)=I (T.getD i (0,0,0)).1∧Xs tC 3 (0,0,0) T (i*3+1)=I (T.getD i (0,0,0)).2.1∧Xs tC 3 (0,0,0) T (i*3+2)=I (T.getD i (0,0,0)).2.2 :=
 ⟨Ko _ _ _ _ _ (by omega),K5 _ _ _ _ _ _ (by omega),K5 _ _ _ _ _ _ (by omega)⟩
theorem I0 {H:List AO} (W:List (List V2)) (A B C:V2) (j:Nat) (hj:j<W.length+1):ZK H (QR W.length (Qa Xp [] W) 1 (Xo [(Ia A B C).loose]) j) (Qa Xp [] (W ++ [[A,B,C]]) j):=by
 unfold QR
 by_cases h:j<W.length
 ·rw [if_pos h,Kb,Kb]
  have:(W ++ [[A,B,C]]).getD j []=W.getD j []:=by rw [List.getD_eq_getElem?_getD,List.getD_eq_getElem?_getD,List.getElem?_append_left h]
  rw [this]; exact J1 _ _
 ·obtain rfl:j=W.length:=by omega
  rw [if_neg (by omega),if_pos (by omega),Kb,Nat.sub_self]
  have:(W ++ [[A,B,C]]).getD W.length []=[A,B,C]:=by rw [List.getD_eq_getElem?_getD,List.getElem?_append_right (Nat.le_refl _),Nat.sub_self]; rfl
  rw [this]
  exact fun c v _ _ hv=>cI A B C c v hv
theorem oD {P:Program} {fn:Func} {str hcs:List Nat} {s:AS} {t u id ver:Nat} {e:AV} (W:List (List V2)) (hr:fn.results=#[.tmp t,.tmp u]) (hs:s.get t=.osl id ver 1 0 W.length) (ho:s.h[id]?=some (.row ver W.length (Qa Xp [] W))) (hu:s.get u=e) (he:Settled e):RetOk (QI P fn str hcs (.tup [GT W,e])) s:=by
 refine SB hr (ZE ⟨?_,QL he hu,trivial⟩)
 rw [hs,XI]
 refine Qx (.inl ho) (by omega) (fun h=>h) fun j hj=>?_
 rw [Nat.zero_add]
 exact (Xf _).sees _
theorem nC (L:List V2) (k:Nat) (hs:Q3 L k) (hk:k≤1000) (hp:XO L):Fn Tryz.prog 246 [Xp L] (.tup [GT (K9 L),I 0]):=by
 have hl:=(JN L hp).1
 have cc:=nE L k hs hk hp
 have hTl:(BU L).length≤12:=by have:=FW L L.length _ (Ay hl.1 (by omega)) List.nodup_range (by rw [List.length_range]; omega); rw [List.length_range] at this; unfold BU; omega
 have hm:=L8 L L.length _ (Ay hl.1 (by omega)) List.nodup_range (by rw [List.length_range]; omega)
 have hcl:=ZL L
 have hca:=Eo L
 change ∀ d∈BU L,_ at hm
 generalize BU L=T at *
 generalize K9 L=C at *
 have hbL:JJ 1 (Xp L)=True:=eq_true (X6 (Xf L))
 have hbT:JJ 1 (jt T)=True:=eq_true (X6 (HV T))
 refine Fq Tryz.call246 Tryz.func246 8 [] [6] [] (by simp [Xf]) (X0 1000 ?_)
 simp only [AS.start,X5,↓X2,wF,seval]
 refine X1 cc rfl ?_
 simp only [X5,Ai,↓X2,wF,seval]
 refine Xg (fun i:Nat=>⟨8,[],[Xp L,.any,.any,.any,jt T,I 0,.osl 0 i 1 0 i,I i],[],[.row i i (Qa Xp [] (C.take i))]⟩) (fun i=>i≤T.length) (fun i=>T.length - i) 0 (by omega)
  (Sub.trans (Q7 6 1 (Qa Xp [] []) rfl) (Xa rfl (by simp [AS.put,Xh,X5,Ai,I]) (by simp [AS.put,Xi]) (by simp [AS.put]))) ?_
 intro i hi next
 have w1:=wj i (by omega)
 by_cases hi2:i<T.length
 rotate_left
 ·obtain rfl:i=T.length:=by omega
  refine X0 1000 ?_
  simp only [X5,Ai,Int.lt_irrefl,Nat.lt_irrefl,↓X2,wF,seval]
  rw [List.take_of_length_le (by omega)]
  exact oD C rfl (by rw [hcl]; rfl) (by rw [hcl]; rfl) rfl (X9 _)
 have t1:=tF T i
 obtain ⟨m1,m2,m3⟩:=hm (T.getD i (0,0,0)) (QN hi2)
 have hc1:=hca i hi2
 have htk:C.take (i+1)=C.take i ++ [C.getD i []]:=Q5 C [] i (by omega)
 have hwl:(C.take i).length=i:=by rw [List.length_take]; omega
 have nx:=next (i+1)
 rw [htk,hc1] at nx
 unfold bX at nx
 generalize (T.getD i (0,0,0)).1=a at *
 generalize (T.getD i (0,0,0)).2.1=b at *
 generalize (T.getD i (0,0,0)).2.2=c at *
 have va:=vF L a
 have vb:=vF L b
 have vc:=vF L c
 have hgr:=@I0 [.row (i+1) (i+1) (QR i (Qa Xp [] (C.take i)) 1 (Xo [(Ia (L.getD a v0) (L.getD b v0) (L.getD c v0)).loose]))] (C.take i) (L.getD a v0) (L.getD b v0) (L.getD c v0)
 rw [hwl] at hgr
 generalize L.getD a v0=A at *
 generalize L.getD b v0=B at *
 generalize L.getD c v0=D at *
 generalize C.take i=W at *
 refine X0 1000 ?_
 simp (disch:=omega) only [X5,Ai,t1,va,vb,vc,wD,Int.reduceToNat,↓X2,wF,seval]
 exact nx _ (by omega) (by omega) (Sub.trans (Xa (s':=⟨8,[],[Xp L,.any,.any,.any,jt T,I 0,.osl 0 (i+1) 1 0 (i+1),I (i+1:Nat)],[],[.row (i+1) (i+1) (QR i (Qa Xp [] W) 1 (Xo [(Ia A B D).loose]))]⟩) rfl (by simp [Xh,X5,Ai,I]) (by simp [Xi]) (by simp [XY,X4,AV.loose])) (Sub.trans (ZF 0 (Qa Xp [] (W ++ [[A,B,D]])) rfl (fun j hj=>hgr j hj)) (Xa rfl (by simp [Xh]) (by simp [Xi]) rfl)))
theorem tY {P:Program} {fn:Func} {str hcs:List Nat} {b:Nat} {r1 r2:AV} {H:List AO} {s:AS} {t u:Nat} (hr:fn.results=#[.tmp t,.tmp u]) (h1:s.get t=r1) (h2:s.get u=r2) (hH:s.h=H):RetOk (DI P fn str hcs b (.tup [r1,r2]) H) s :=
 ⟨.tup [r1,r2],by show Z0 P fn s=_; simp [Z0,hr,J8,QU,A9,h1,h2],rfl,hH⟩
theorem qE (o1 o2:AO) (B1:∀ m,2≤m→XK m o1) (B2:∀ m,2≤m→XK m o2) (L:List V2) (k:Nat) (hs:Q3 L k) (hk:k≤1000) (hp:CW L) :
  HCall Tryz.prog 245 [Xp L] [o1,o2] (.tup [.osl 2 (K9 L).length 1 0 (K9 L).length,I 0]) [o1,o2,.row (K9 L).length (K9 L).length (Qa Xp [] (K9 L))]:=by
 have hl:=hp.1
 have cc:=lE L k hs hk hp
 have hTl:(BU L).length≤12:=by have:=FW L L.length _ (Ay hl.1 (by omega)) List.nodup_range (by rw [List.length_range]; omega); rw [List.length_range] at this; unfold BU; omega
 have hm:=L8 L L.length _ (Ay hl.1 (by omega)) List.nodup_range (by rw [List.length_range]; omega)
 have hcl:=ZL L
 have hca:=Eo L
 change ∀ d∈BU L,_ at hm
 generalize BU L=T at *
 generalize K9 L=C at *
 have hbL:JJ 3 (Xp L)=True:=eq_true (X6 (Xf L))
 have hbT:JJ 3 (jt T)=True:=eq_true (X6 (HV T))
 have q1:XK 3 o1=True:=eq_true (B1 3 (by omega))
 have q2:XK 3 o2=True:=eq_true (B2 3 (by omega))
 have s1:∀ v n f A B C,XK 3 (.row v (n+1) (QR n (Qa Xp [] f) 1 (Xo [(Ia A B C).loose])))=True:=fun v n f A B C=>eq_true fun j hj=>by
  unfold QR
  have hset:Settled (Ia A B C).loose:=by rw [XY]; exact J9 fun j _=>Xc (l:=[_,_,_,_,_,_,_,_,_,_,_,_,_,_,_,_,_,_,_,_,_,_,_,_]) (by simp [X7,X3]) j
  split
  ·exact X6 (Xf _)
  ·rw [show j - n=0 by omega]
   exact X6 hset
 refine HCall.intro (fn:=Tryz.f245) Tryz.call245 Tryz.func245 rfl mixed 9 [14,15,16] [6,70000008] [] (by kernel_rfl) (Nat.le_of_ble_eq_true rfl) (X0 1000 ?_)
 simp only [AS.start,X5,↓X2,wF,seval]
 refine X1 cc rfl ?_
 simp only [X5,Ai,↓X2,wF,seval]
 refine Xg (fun i:Nat=>⟨9,[14,15,16],[Xp L,.any,.any,.any,.any,I 0,.osl 2 i 1 0 i,.any,.any],[(14,jt T),(15,I T.length),(16,I i)],[o1,o2,.row i i (Qa Xp [] (C.take i))]⟩) (fun i=>i≤T.length) (fun i=>T.length - i) 0 (by omega)
  (Sub.trans (Q7 6 1 (Qa Xp [] []) rfl) (Xa rfl (by simp [AS.put,Xh,X5,I]) (by simp [AS.put,Xi,Xz,Ai,I]) (by simp [AS.put]))) ?_
 intro i hi next
 have w1:=wj i (by omega)
 by_cases hi2:i<T.length
 rotate_left
 ·obtain rfl:i=T.length:=by omega
  refine X0 1000 ?_
  simp only [X5,Ai,Int.lt_irrefl,Nat.lt_irrefl,↓X2,wF,seval]
  rw [List.take_of_length_le (by omega)]
  exact tY rfl (by rw [hcl]; rfl) rfl (by rw [hcl])
 have t1:=tF T i
 obtain ⟨m1,m2,m3⟩:=hm (T.getD i (0,0,0)) (QN hi2)
 have hc1:=hca i hi2
 have htk:C.take (i+1)=C.take i ++ [C.getD i []]:=Q5 C [] i (by omega)
 have hwl:(C.take i).length=i:=by rw [List.length_take]; omega
 have nx:=next (i+1)
 rw [htk,hc1] at nx
 unfold bX at nx
 generalize (T.getD i (0,0,0)).1=a at *
 generalize (T.getD i (0,0,0)).2.1=b at *
 generalize (T.getD i (0,0,0)).2.2=c at *
 have va:=vF L a
 have vb:=vF L b
 have vc:=vF L c
 have hgr:=@I0 [o1,o2,.row (i+1) (i+1) (QR i (Qa Xp [] (C.take i)) 1 (Xo [(Ia (L.getD a v0) (L.getD b v0) (L.getD c v0)).loose]))] (C.take i) (L.getD a v0) (L.getD b v0) (L.getD c v0)
 rw [hwl] at hgr
 generalize L.getD a v0=A at *
 generalize L.getD b v0=B at *
 generalize L.getD c v0=D at *
 generalize C.take i=W at *
 refine X0 1000 ?_
 simp (disch:=omega) only [X5,Ai,t1,va,vb,vc,wD,Int.reduceToNat,↓X2,wF,seval]
 exact nx _ (by omega) (by omega) (Sub.trans (Xr (m:=3) (s':=⟨9,[14,15,16],[Xp L,.any,.any,.any,.any,I 0,.osl 2 (i+1) 1 0 (i+1),.any,.any],[(14,jt T),(15,I T.length),(16,I (i+1:Nat))],[o1,o2,.row (i+1) (i+1) (QR i (Qa Xp [] W) 1 (Xo [(Ia A B D).loose]))]⟩) (by simp [DI]) rfl (by simp [Xh,X5,I]) (by simp [Xi,Xz,Ai,I]) (by simp [XY,X4,AV.loose]) (by simp [Xv,hbL]) (by simp [Xv,hbT]) (by simp [q1,q2,s1])) (Sub.trans (ZF 2 (Qa Xp [] (W ++ [[A,B,D]])) rfl (fun j hj=>hgr j hj)) (Xa rfl (by simp [Xh]) (by simp [Xi,Xz]) rfl)))
def I7 (f:List V2→List V2) (C:List (List V2)) (i:Nat):List (List V2):=(C.take i).map f ++ C.drop i
theorem rq (f:List V2→List V2) (C:List (List V2)):I7 f C 0=C:=rfl
theorem ib (f:List V2→List V2) (C:List (List V2)):I7 f C C.length=C.map f:=by unfold I7; simp
theorem mT (f:List V2→List V2) (C:List (List V2)) (i:Nat) (h:i<C.length):(I7 f C i).getD i []=C.getD i []:=by
 unfold I7
 rw [List.getD_eq_getElem?_getD,List.getElem?_append_right (by simp; omega),List.getD_eq_getElem?_getD]
 simp [Nat.min_eq_left (Nat.le_of_lt h)]
theorem ic (f:List V2→List V2) (C:List (List V2)) (i:Nat) (h:i≤C.length):(I7 f C i).length=C.length:=by unfold I7; simp; omega
theorem ie (f:List V2→List V2) (C:List (List V2)) (i:Nat) (h:i<C.length):(I7 f C i).set i (f (C.getD i []))=I7 f C (i+1):=by
 refine List.ext_getElem? fun j=>?_
 unfold I7
 rw [List.getElem?_set]
 by_cases hj:i=j
 ·subst hj
  rw [if_pos rfl,if_pos (by simp; omega),List.getElem?_append_left (by simp; omega),List.getElem?_map,List.getElem?_take,if_pos (by omega),List.getElem?_eq_getElem h,List.getD_eq_getElem?_getD,List.getElem?_eq_getElem h]; rfl
 ·rw [if_neg hj]
  by_cases hlt:j<i
  ·rw [List.getElem?_append_left (by simp; omega),List.getElem?_append_left (by simp; omega),List.getElem?_map,List.getElem?_map,List.getElem?_take,List.getElem?_take,if_pos hlt,if_pos (by omega)]
  ·rw [List.getElem?_append_right (by simp; omega),List.getElem?_append_right (by simp; omega),List.getElem?_drop,List.getElem?_drop]
   congr 1
   simp; omega
def Kh (p:PV) (t c:V2):List (List V2):=(K9 (XC p.rim)).map (Kt t c)
theorem EK {R:List (Int×Int)} (h:QY R):Q3 (XC R) 3:=fun i=>by rw [GA]; exact KH h i
theorem Ej:vb v0≤3:=by
 have:=KH (R:=[]) (fun c hc=>absurd hc List.not_mem_nil) 0
 exact this
theorem DD (L:List V2) (k:Nat) (h:Q3 L k) (hk:3≤k) (i:Nat):Q3 ((K9 L).getD i []) k:=by
 by_cases hi:i<(BU L).length
 ·rw [Eo L i hi]
  intro j
  unfold bX
  match j with
  | 0=>exact h _
  | 1=>exact h _
  | 2=>exact h _
  | j+3=>exact Nat.le_trans Ej hk
 ·have e:(K9 L).getD i []=[]:=by rw [List.getD_eq_getElem?_getD,List.getElem?_eq_none (by rw [ZL]; omega)]; rfl
  rw [e]
  exact fun j=>Nat.le_trans Ej hk
theorem Fh (L:List V2) (i:Nat) (hi:i<(BU L).length):((K9 L).getD i []).length=3:=by rw [Eo L i hi]; rfl
theorem Ih {L:List V2} (hl:3≤L.length∧L.length≤12):(BU L).length≤12:=by
 have:=FW L L.length _ (Ay hl.1 (by omega)) List.nodup_range (by rw [List.length_range]; omega)
 rw [List.length_range] at this
 unfold BU; omega
theorem Mh (l:List V2):(Xp l).cells=[Xp l]:=nrfl rfl
theorem Te (l:List V2):(Xp l).one=true:=nrfl rfl
theorem Mi (l:List V2):(Xp l).loose=Xp l:=nrfl rfl
theorem NI (p:PV) (t c:V2) (hp:CW (XC p.rim)) (hn:QY p.rim) (ht:vb t≤1000) (hc:vb c≤1000):Fn Tryz.prog 202 [QH p,Wc t c] (GT (Kh p t c)):=by
 have hl:=hp.1
 have hle:=Ih hl
 have hrl:(XC p.rim).length=p.rim.length:=by simp [XC]
 have r1:=UV p (by omega) (AN hn)
 have sm:=EK hn
 have hcs:=DD (XC p.rim) 3 sm (Nat.le_refl _)
 have h3:=Fh (XC p.rim)
 have hcl:=ZL (XC p.rim)
 have B1:∀ m,2≤m→XK m (.row 0 25 (Xo (XD p))):=fun m _=>XH (Xy p)
 have B2:∀ m,2≤m→XK m (.row 0 16 (Xo (Gq t c))):=fun m _=>XH (Z4 t c)
 have co:=qE (.row 0 25 (Xo (XD p))) (.row 0 16 (Xo (Gq t c))) B1 B2 (XC p.rim) 3 sm (by omega) hp
 unfold Kh
 generalize XC p.rim=L at *
 rw [← hcl] at h3 hle
 generalize K9 L=C at *
 refine Fq Tryz.call202 Tryz.func202 9 [15,16,17] [] [] (by simp [Xx,ZY]) (X0 1000 ?_)
 simp (disch:=omega) only [AS.start,QH,XD,Wc,Gq,wD,↓X2,wF,seval]
 refine X1 r1 rfl ?_
 simp (disch:=omega) only [X5,wD,↓X2,wF,seval]
 refine KG rfl co (QZ (fun o h=>?_) (fun o h=>?_)) (fun id=>?_) (Q0 _) ?_
 ·simp only [List.mem_cons,List.not_mem_nil,or_false] at h
  rcases h with rfl | rfl <;> simp
 ·simp only [List.mem_cons,List.not_mem_nil,or_false] at h
  rcases h with rfl | rfl | rfl <;> simp
 ·match id with
  | 0=>simp
  | 1=>simp
  | n+2=>simp
 simp (disch:=omega) only [wD,↓X2,wF,seval]
 refine Xg (fun i:Nat=>⟨9,[15,16,17],[.any,.any,.any,.ref 1 0 0,.any,.osl 2 C.length 1 0 C.length,.any,.any,.any],[(15,.osl 2 C.length 1 0 C.length),(16,I C.length),(17,I i)],[.row 0 25 (Xo (XD p)),.row 0 16 (Xo (Gq t c)),.row C.length C.length (Qa Xp [] (I7 (Kt t c) C i))]⟩) (fun i=>i≤C.length) (fun i=>C.length - i) 0 (by omega)
  (Xa rfl (by simp [Xh,I]) (by simp [Xi,Xz,I]) (by simp [XD,Gq,X4,Xe,Xl,rq,I])) ?_
 intro i hi next
 by_cases hi2:i<C.length
 rotate_left
 ·obtain rfl:i=C.length:=by omega
  refine X0 1000 ?_
  simp (disch:=omega) only [wD,↓X2,wF,seval]
  rw [ib]
  have hml:(C.map (Kt t c)).length=C.length:=List.length_map ..
  refine Bl rfl ?_
  rw [XI,hml]
  refine Qx (id:=2) (m:=C.length) (f:=Qa Xp [] (C.map (Kt t c))) (.inl rfl) (by omega) (fun h=>h) fun j hj=>?_
  rw [Nat.zero_add]
  exact (Xf _).sees _
 have v1:=pv (I7 (Kt t c) C i) i
 rw [mT _ _ _ hi2] at v1
 have cm:=iK t c (C.getD i []) 3 (hcs i) (by omega) (by rw [h3 i hi2]; omega) (by omega) (by omega)
 refine X0 1000 ?_
 simp (disch:=omega) only [v1,wD,↓X2,wF,seval]
 refine X1 cm rfl ?_
 simp (disch:=omega) only [Mh,Te,Mi,wD,↓X2,wF,seval]
 exact next (i+1) _ (by omega) (by omega) (Xa rfl (by simp [Xh]) (by simp [Xi,Xz,I]) (by rw [← ie _ _ _ hi2,← WC _ _ _ _ _ (by rw [ic _ _ _ hi]; exact hi2)]))
theorem HL (p:PV) (t c:V2) (hp:XO (XC p.rim)) (hn:QY p.rim) (ht:vb t≤1000) (hc:vb c≤1000):Fn Tryz.prog 212 [QH p,Wc t c] (GT (Kh p t c)):=by
 have hl:=(JN _ hp).1
 have hle:=Ih hl
 have hrl:(XC p.rim).length=p.rim.length:=by simp [XC]
 have r1:=E8 p (by omega) (AN hn)
 have sm:=EK hn
 have hcs:=DD (XC p.rim) 3 sm (Nat.le_refl _)
 have h3:=Fh (XC p.rim)
 have hcl:=ZL (XC p.rim)
 have co:=nC (XC p.rim) 3 sm (by omega) hp
 unfold Kh
 generalize XC p.rim=L at *
 rw [← hcl] at h3 hle
 generalize K9 L=C at *
 have q1:XK 3 (.row 0 25 (Xo (XD p)))=True:=eq_true (XH (Xy p))
 have q2:XK 3 (.con 0 16 (Xo (Gq t c)))=True:=eq_true (fun j _=>X6 (Xc (Z4 t c) j))
 have q3:∀ v n l,XK 3 (.row v n (Qa Xp [] l))=True:=fun v n l=>eq_true fun j _=>X6 (Xf _)
 have q4:JJ 3 (GT C)=True:=eq_true (X6 (K4 C))
 refine Fq Tryz.call212 Tryz.func212 9 [] [6,70000003] [] (by simp [Xx,ZY]) (X0 1000 ?_)
 simp (disch:=omega) only [AS.start,QH,XD,Wc,Gq,wD,↓X2,wF,seval]
 refine X1 r1 rfl ?_
 simp (disch:=omega) only [X5,wD,↓X2,wF,seval]
 refine X1 co rfl ?_
 simp (disch:=omega) only [XI,wD,↓X2,wF,seval]
 refine Xg (fun i:Nat=>⟨9,[],[.any,.any,.any,.ref 1 0 0,.any,GT C,.any,.osl 2 i 1 0 i,I i],[],[.row 0 25 (Xo (XD p)),.con 0 16 (Xo (Gq t c)),.row i i (Qa Xp [] ((C.map (Kt t c)).take i))]⟩) (fun i=>i≤C.length) (fun i=>C.length - i) 0 (by omega)
  (Sub.trans (XR 1 rfl) (Sub.trans (Q7 7 1 (Qa Xp [] []) rfl) (Xa rfl (by simp [AS.put,Xh,XI,I]) (by simp [AS.put,Xi]) (by simp [AS.put,XD,Gq,X4,Xe,Xl,I])))) ?_
 have hml:(C.map (Kt t c)).length=C.length:=List.length_map ..
 intro i hi next
 by_cases hi2:i<C.length
 rotate_left
 ·obtain rfl:i=C.length:=by omega
  refine X0 1000 ?_
  simp (disch:=omega) only [XI,wD,↓X2,wF,seval]
  rw [List.take_of_length_le (by omega)]
  refine Bl rfl ?_
  rw [XI,hml]
  refine Qx (id:=2) (m:=C.length) (f:=Qa Xp [] (C.map (Kt t c))) (.inl rfl) (by omega) (fun h=>h) fun j hj=>?_
  rw [Nat.zero_add]
  exact (Xf _).sees _
 have v1:=pv C i
 have cm:=Sw t c (C.getD i []) 3 (hcs i) (by omega) (by rw [h3 i hi2]; omega) (by omega) (by omega)
 have hat:(C.map (Kt t c)).getD i []=Kt t c (C.getD i []):=by rw [List.getD_eq_getElem?_getD,List.getElem?_map,List.getD_eq_getElem?_getD,List.getElem?_eq_getElem hi2]; rfl
 have htk:(C.map (Kt t c)).take (i+1)=(C.map (Kt t c)).take i ++ [Kt t c (C.getD i [])]:=by rw [Q5 _ [] i (by omega),hat]
 have hap:=IQ Xp [] ((C.map (Kt t c)).take i) (Kt t c (C.getD i []))
 rw [← htk,List.length_take,Nat.min_eq_left (by omega),Nat.mul_one] at hap
 refine X0 1000 ?_
 simp (disch:=omega) only [XI,v1,wD,↓X2,wF,seval]
 refine X1 cm rfl ?_
 simp (disch:=omega) only [Mh,Te,Mi,wD,↓X2,wF,seval]
 exact next (i+1) _ (by omega) (by omega) (Xa rfl (by simp [Xh,XI,I]) (by simp [Xi]) (by rw [← hap]))
def Gf (f:FV):V2:=(f.lo.add f.hi).scale (Rat.divInt 1 2)
def KK (a b:PV) (f:FV) (e:Rat):Bool:=I3 (Kh a KQ v0) (Kh b f.turn (Gf f)) (-e)
structure GP (p:PV) (t:Rat):Prop where
 even:p.even
 poly:XO (XC p.rim)
 tol:p.tol=RQ.of t
 qt:qb t≤20
structure FV.fine (f:FV):Prop where
 turn:vb f.turn≤60
 lo:vb f.lo≤300
 hi:vb f.hi≤300
theorem Fg (p:PV) (t c:V2):(Kh p t c).length=(BU (XC p.rim)).length:=by unfold Kh; rw [List.length_map,ZL]
theorem L4 (p:PV) (t c:V2) (hn:QY p.rim) (ht:vb t≤100) (hc:vb c≤700):∀ i,i<(Kh p t c).length→Shp 1000 ((Kh p t c).getD i []):=fun i hi=>by
 rw [Fg] at hi
 have e:(Kh p t c).getD i []=Kt t c ((K9 (XC p.rim)).getD i []):=by
  unfold Kh
  rw [List.getD_eq_getElem?_getD,List.getElem?_map,List.getD_eq_getElem?_getD,List.getElem?_eq_getElem (by rw [ZL]; exact hi)]; rfl
 have hs:=DD (XC p.rim) 3 (EK hn) (Nat.le_refl _) i
 have h3:=Fh (XC p.rim) i hi
 rw [e]
 generalize (K9 (XC p.rim)).getD i []=W at *
 have hl:(Kt t c W).length=3:=by unfold Kt; rw [List.length_map,h3]
 refine ⟨fun j=>?_,by omega,by omega⟩
 by_cases hj:j<W.length
 ·have ej:(Kt t c W).getD j v0=put t c (W.getD j v0):=by
   unfold Kt
   rw [List.getD_eq_getElem?_getD,List.getElem?_map,List.getD_eq_getElem?_getD,List.getElem?_eq_getElem hj]; rfl
  rw [ej]
  have:=sd t c (W.getD j v0)
  have:=hs j
  omega
 ·rw [List.getD_eq_getElem?_getD,List.getElem?_eq_none (by omega)]
  exact Nat.le_trans Ej (by omega)
theorem OV:qb (Rat.divInt 1 2)≤10:=by decide +kernel
theorem Va (f:FV) (h:f.fine):vb (Gf f)≤700:=by
 have h1:=Bb f.lo f.hi
 have h2:=jB (f.lo.add f.hi) (Rat.divInt 1 2)
 have:=OV
 have:=h.lo; have:=h.hi
 unfold Gf; omega
theorem Ei:vb KQ≤10:=by decide +kernel
theorem R1 (a b:PV) (f:FV) {ta tb:Rat} (ha:GP a ta) (hb:GP b tb) (hf:f.fine):(∀ i,i<(Kh a KQ v0).length→Shp 1000 ((Kh a KQ v0).getD i []))∧(∀ i,i<(Kh b f.turn (Gf f)).length→Shp 1000 ((Kh b f.turn (Gf f)).getD i [])) ∧
  (Kh a KQ v0).length≤1000∧(Kh b f.turn (Gf f)).length≤1000:=by
 have h1:=Ih (JN _ ha.poly).1
 have h2:=Ih (JN _ hb.poly).1
 have:=Ei
 have:=Ej
 exact ⟨L4 a KQ v0 ha.even.near (by omega) (by omega),L4 b f.turn (Gf f) hb.even.near (by have:=hf.turn; omega) (Va f hf),by rw [Fg]; omega,by rw [Fg]; omega⟩
theorem Ti:Weak (.agg (vC KQ ++ [.bool false,.sl 0 0 (fun _=>.any) true,.bool false,.sl 0 0 (fun _=>.any) true,.bool false,.sl 0 0 (fun _=>.any) true,.bool false,.sl 0 0 (fun _=>.any) true])) (Wc KQ v0):=by
 refine XW ?_
 have h:=Ek true
 exact ⟨Weak.rfl' _,Weak.rfl' _,Weak.rfl' _,Weak.rfl' _,Weak.rfl' _,Weak.rfl' _,Weak.rfl' _,Weak.rfl' _,h⟩
theorem Nd (a b:PV) (f:FV) {ta tb:Rat} (ha:GP a ta) (hb:GP b tb) (hf:f.fine):Fn Tryz.prog 137 [QH a,QH b,Jx f] (.bool (KK a b f (ta+tb))):=by
 have qa:=ha.qt; have q2:=hb.qt
 have f1:=hf.turn; have f2:=hf.lo; have f3:=hf.hi
 have c1:=OQ f.lo f.hi (by unfold vm; omega) (by unfold vm; omega)
 have c2:=FC 1 2 (CT (by omega) (by omega)) (CT (by omega) (by omega))
 have m1:=Bb f.lo f.hi
 have m2:=Va f hf
 have c3:=NQ (f.lo.add f.hi) (Rat.divInt 1 2) (by unfold vm; omega) (by have:=OV; unfold vm; omega)
 have c4:=NI a KQ v0 (JN _ ha.poly) ha.even.near (by have:=Ei; omega) (by have:=Ej; omega)
 have c5:=NI b f.turn (Gf f) (JN _ hb.poly) hb.even.near (by omega) (by omega)
 have qe:=JL ta tb
 have c6:Fn Tryz.prog 70 [a.tol.A,b.tol.A] (qA (ta+tb)):=by rw [ha.tol,hb.tol]; exact Bk ta tb (by unfold rm; omega) (by unfold rm; omega)
 have c7:=D8 (ta+tb)
 obtain ⟨k1,k2,k3,k4⟩:=R1 a b f ha hb hf
 have c8:=kA _ _ (-(ta+tb)) 1000 k1 k2 (by omega) (by omega) (by rw [BI]; omega) k3 k4
 change Fn _ _ [vA (f.lo.add f.hi),qA (Rat.divInt 1 2)] (vA (Gf f)) at c3
 obtain ⟨V,hV⟩:∃ V,V=KK a b f (ta+tb):=⟨_,rfl⟩
 change Fn _ _ _ (.tup [.any,.bool (KK a b f (ta+tb))]) at c8
 rw [← hV] at c8 ⊢
 generalize Gf f=M at *
 refine Fq Tryz.call137 Tryz.func137 10 [] [1,20000005,2,30000003,30000004,30000007] [] (by simp [Xx,XP]) (X0 1000 ?_)
 simp (disch:=omega) only [AS.start,QH,XD,Jx,XJ,↓Xw,wG,seval]
 refine X1 c1 rfl ?_
 simp (disch:=omega) only [↓Xw,wG,seval]
 refine X1 c2 rfl ?_
 simp (disch:=omega) only [↓Xw,wG,seval]
 refine X1 c3 rfl ?_
 simp (disch:=omega) only [↓Xw,wG,seval]
 refine X1 aV rfl ?_
 simp (disch:=omega) only [↓Xw,wG,seval]
 refine XZ c4 ⟨Weak.rfl' _,Ti,trivial⟩ ?_
 simp (disch:=omega) only [XI,↓Xw,wG,seval]
 refine X1 c5 rfl ?_
 simp (disch:=omega) only [XI,↓Xw,wG,seval]
 refine X1 c6 rfl ?_
 simp (disch:=omega) only [XI,↓Xw,wG,seval]
 refine X1 c7 rfl ?_
 simp (disch:=omega) only [XI,↓Xw,wG,seval]
 refine X1 c8 rfl ?_
 simp (disch:=omega) only [↓Xw,wG,seval]
 exact Xt rfl rfl (X3 _) rfl
theorem HM (a b:PV) (f:FV) {ta tb:Rat} (ha:GP a ta) (hb:GP b tb) (hf:f.fine):Fn Tryz.prog 151 [QH a,QH b,Jx f] (.bool (KK a b f (ta+tb))):=by
 have qa:=ha.qt; have q2:=hb.qt
 have f1:=hf.turn; have f2:=hf.lo; have f3:=hf.hi
 have c1:=BK f.lo f.hi (by unfold vm; omega) (by unfold vm; omega)
 have c2:=QX 1 2 (CT (by omega) (by omega)) (CT (by omega) (by omega))
 have m1:=Bb f.lo f.hi
 have m2:=Va f hf
 have c3:=P0 (f.lo.add f.hi) (Rat.divInt 1 2) (by unfold vm; omega) (by have:=OV; unfold vm; omega)
 have c4:=HL a KQ v0 ha.poly ha.even.near (by have:=Ei; omega) (by have:=Ej; omega)
 have c5:=HL b f.turn (Gf f) hb.poly hb.even.near (by omega) (by omega)
 have qe:=JL ta tb
 have c6:Fn Tryz.prog 76 [a.tol.A,b.tol.A] (qA (ta+tb)):=by rw [ha.tol,hb.tol]; exact JA ta tb (by unfold rm; omega) (by unfold rm; omega)
 have c7:=KZ (ta+tb) (by unfold rm; omega)
 obtain ⟨k1,k2,k3,k4⟩:=R1 a b f ha hb hf
 have c8:=nD _ _ (-(ta+tb)) 1000 k1 k2 (by omega) (by omega) (by rw [BI]; omega) k3 k4
 change Fn _ _ [vA (f.lo.add f.hi),qA (Rat.divInt 1 2)] (vA (Gf f)) at c3
 obtain ⟨V,hV⟩:∃ V,V=KK a b f (ta+tb):=⟨_,rfl⟩
 change Fn _ _ _ (.tup [.any,.bool (KK a b f (ta+tb))]) at c8
 rw [← hV] at c8 ⊢
 generalize Gf f=M at *
 refine Fq Tryz.call151 Tryz.func151 11 [] [1,20000005,2,30000003,3,40000004,40000007] [] (by simp [Xx,XP]) (X0 1000 ?_)
 simp (disch:=omega) only [AS.start,QH,XD,Jx,XJ,↓Xw,wG,seval]
 refine X1 c1 rfl ?_
 simp (disch:=omega) only [↓Xw,wG,seval]
 refine X1 c2 rfl ?_
 simp (disch:=omega) only [↓Xw,wG,seval]
 refine X1 c3 rfl ?_
 simp (disch:=omega) only [↓Xw,wG,seval]
 refine X1 P1 rfl ?_
 simp (disch:=omega) only [↓Xw,wG,seval]
 refine XZ c4 ⟨Weak.rfl' _,Ti,trivial⟩ ?_
 simp (disch:=omega) only [XI,↓Xw,wG,seval]
 refine X1 c5 rfl ?_
 simp (disch:=omega) only [XI,↓Xw,wG,seval]
 refine X1 c6 rfl ?_
 simp (disch:=omega) only [XI,↓Xw,wG,seval]
 refine X1 c7 rfl ?_
 simp (disch:=omega) only [XI,↓Xw,wG,seval]
 refine X1 c8 rfl ?_
 simp (disch:=omega) only [↓Xw,wG,seval]
 exact Xt rfl rfl (X3 _) rfl
def Ki (a b:PV) (f:FV) (e:Rat):Int :=
 if AB a.rim.length b.rim.length f then if DX a b f then if MB a b f then
  if (XE a.rim b.rim f e).2.2=true∧(XE a.rim b.rim f e).1=f.lo∧(XE a.rim b.rim f e).2.1=f.hi then if KK a b f e=true then 0 else 13
  else 22 else 21 else 12 else 5
theorem Ta (a b:PV) (f:FV) (na:QY a.rim) (nb:QY b.rim) (e:Rat) (ht:vb f.turn≤1000) (qe:qb e≤3000):vb (XE a.rim b.rim f e).1≤7000∧vb (XE a.rim b.rim f e).2.1≤7000:=by
 have z:=Ej
 have h1:=Cx na nb f ht f.M.toNat
 have h2:=Cv na nb f ht f.M.toNat
 have h3:=Kc (Av a.rim b.rim f f.M.toNat) ⟨e,e⟩
 have h4:=Bb (At a.rim b.rim f f.M.toNat) ⟨e,e⟩
 have h5:vb ⟨e,e⟩=qb e:=by unfold vb; simp
 unfold XE
 split
 ·simp only
  split
  ·exact ⟨by show vb v0≤_; omega,by show vb v0≤_; omega⟩
  ·exact ⟨by simp only; omega,by simp only; omega⟩
 ·exact ⟨by show vb v0≤_; omega,by show vb v0≤_; omega⟩
theorem Sq (a b:PV) (f:FV) {ta tb:Rat} (ha:GP a ta) (hb:GP b tb) (hf:f.fine):Fn Tryz.prog 61 [QH a,QH b,Jx f] (I (Ki a b f (ta+tb))):=by
 obtain ⟨V,hV⟩:∃ V,V=Ki a b f (ta+tb):=⟨_,rfl⟩
 rw [← hV]
 unfold Ki at hV
 have qa:=ha.qt; have q2:=hb.qt
 have qe:=JL ta tb
 have f1:=hf.turn; have f2:=hf.lo; have f3:=hf.hi
 have fin:∀ {s:AS} {n:Int},s.get 6=I n→n=V→RetOk (QI Tryz.prog Tryz.f61 [] [] (I V)) s:=fun h e=>Xt rfl h (X9 _) (by rw [e])
 have c1:=E5 a b f ha.even.rim hb.even.rim
 have c4:=Hg a b f ha.even hb.even (by omega) ha.tol hb.tol (by omega) (by omega)
 have ⟨g1,g2⟩:=Ta a b f ha.even.near hb.even.near (ta+tb) (by omega) (by omega)
 have c7:=HM a b f ha hb hf
 refine Fq Tryz.call61 Tryz.func61 10 [] [] [] (by simp [Xx,XP]) (X0 1000 ?_)
 simp (disch:=omega) only [AS.start,QH,XD,Jx,XJ,↓Xw,wG,seval]
 refine X1 c1 rfl ?_
 by_cases h1:AB a.rim.length b.rim.length f
 rotate_left
 ·simp (disch:=omega) only [decide_eq_false h1,↓Xw,wG,seval]
  exact fin rfl (by rw [hV,if_neg h1])
 have c2:=GB a b f h1 ha.even hb.even
 have c3:=PG a b f h1 ha.even hb.even (by unfold vm; omega)
 rw [if_pos h1] at hV
 simp (disch:=omega) only [decide_eq_true h1,↓Xw,wG,seval]
 refine X1 c2 rfl ?_
 by_cases h2:DX a b f
 rotate_left
 ·simp (disch:=omega) only [decide_eq_false h2,↓Xw,wG,seval]
  exact fin rfl (by rw [hV,if_neg h2])
 rw [if_pos h2] at hV
 simp (disch:=omega) only [decide_eq_true h2,↓Xw,wG,seval]
 refine X1 c3 rfl ?_
 by_cases h3:MB a b f
 rotate_left
 ·simp (disch:=omega) only [decide_eq_false h3,↓Xw,wG,seval]
  exact fin rfl (by rw [hV,if_neg h3])
 rw [if_pos h3] at hV
 simp (disch:=omega) only [decide_eq_true h3,↓Xw,wG,seval]
 refine X1 c4 rfl ?_
 generalize XE a.rim b.rim f (ta+tb)=G at *
 obtain ⟨lo,hi,ok⟩:=G
 simp only at hV g1 g2
 have c5:=BL lo f.lo (by unfold vm; omega) (by unfold vm; omega)
 have c6:=BL hi f.hi (by unfold vm; omega) (by unfold vm; omega)
 cases ok with
 | false =>
  simp (disch:=omega) only [↓Xw,wG,seval]
  exact fin rfl (by rw [hV,if_neg (fun h=>by cases h.1)])
 | true =>
  simp (disch:=omega) only [↓Xw,wG,seval]
  refine X1 c5 rfl ?_
  by_cases h4:lo=f.lo
  rotate_left
  ·simp (disch:=omega) only [decide_eq_false h4,↓Xw,wG,seval]
   exact fin rfl (by rw [hV,if_neg (fun h=>h4 h.2.1)])
  simp (disch:=omega) only [decide_eq_true h4,↓Xw,wG,seval]
  refine X1 c6 rfl ?_
  by_cases h5:hi=f.hi
  rotate_left
  ·simp (disch:=omega) only [decide_eq_false h5,↓Xw,wG,seval]
   exact fin rfl (by rw [hV,if_neg (fun h=>h5 h.2.2)])
  rw [if_pos ⟨rfl,h4,h5⟩] at hV
  simp (disch:=omega) only [decide_eq_true h5,↓Xw,wG,seval]
  refine X1 c7 rfl ?_
  cases h6:KK a b f (ta+tb) with
  | false =>
   simp (disch:=omega) only [↓Xw,wG,seval]
   exact fin rfl (by rw [hV,h6]; rfl)
  | true =>
   simp (disch:=omega) only [↓Xw,wG,seval]
   exact fin rfl (by rw [hV,h6]; rfl)
theorem Eu (a b:PV) (f:FV) {ta tb:Rat} (ha:GP a ta) (hb:GP b tb) (hf:f.fine):Fn Tryz.prog 52 [QH a,QH b,Jx f] (I (Ki a b f (ta+tb))):=by
 obtain ⟨V,hV⟩:∃ V,V=Ki a b f (ta+tb):=⟨_,rfl⟩
 rw [← hV]
 unfold Ki at hV
 have qa:=ha.qt; have q2:=hb.qt
 have qe:=JL ta tb
 have f1:=hf.turn; have f2:=hf.lo; have f3:=hf.hi
 have fin:∀ {s:AS} {n:Int},s.get 6=I n→n=V→RetOk (QI Tryz.prog Tryz.f52 [] [] (I V)) s:=fun h e=>Xt rfl h (X9 _) (by rw [e])
 have c1:=DL a b f ha.even.rim hb.even.rim
 have c4:=II a b f ha.even hb.even (by omega) ha.tol hb.tol (by omega) (by omega)
 have ⟨g1,g2⟩:=Ta a b f ha.even.near hb.even.near (ta+tb) (by omega) (by omega)
 have c7:=Nd a b f ha hb hf
 refine Fq Tryz.call52 Tryz.func52 10 [] [] [] (by simp [Xx,XP]) (X0 1000 ?_)
 simp (disch:=omega) only [AS.start,QH,XD,Jx,XJ,↓Xw,wG,seval]
 refine X1 c1 rfl ?_
 by_cases h1:AB a.rim.length b.rim.length f
 rotate_left
 ·simp (disch:=omega) only [decide_eq_false h1,↓Xw,wG,seval]
  exact fin rfl (by rw [hV,if_neg h1])
 have c2:=HJ a b f h1 ha.even hb.even
 have c3:=TV a b f h1 ha.even hb.even
 have cl:=DA a b f f.M.toNat
 have hM:f.M.toNat<1000000:=by have:=h1.2.2.2.1; have:=ha.even.rim; omega
 have ca:=MS (Qt a b f f.M.toNat) 142 [p5 f] (fun x=>decide (x=f.turn)) (by omega) (fun x hx=>by rw [List.mem_singleton.1 hx]; exact Cb f) (fun x hx=>YK x f (by have:=Ff a b f ha.even.near hb.even.near _ x hx; unfold vm; omega) (by unfold vm; omega))
 have hany:(Qt a b f f.M.toNat).any (fun x=>decide (x=f.turn))=decide (MB a b f):=by
  have:=IM a b f f.turn f.M.toNat
  cases hq:(Qt a b f f.M.toNat).any (fun x=>decide (x=f.turn)) with
  | true=>exact (decide_eq_true (p:=MB a b f) (this.1 hq)).symm
  | false=>exact (decide_eq_false (p:=MB a b f) (fun hh=>by rw [this.2 hh] at hq; cases hq)).symm
 rw [hany] at ca
 generalize Qt a b f f.M.toNat=W at *
 have sB:JH [.row 0 25 (Xo (XD a)),.row 0 25 (Xo (XD b)),.row 0 29 (Xo (XJ f))] (.ref 2 0 0) (p5 f):=Z2 (.inl rfl) (by omega) fun j hj=>(Xc (XM f) j).sees _
 rw [if_pos h1] at hV
 simp (disch:=omega) only [decide_eq_true h1,↓Xw,wG,seval]
 refine X1 c2 rfl ?_
 by_cases h2:DX a b f
 rotate_left
 ·simp (disch:=omega) only [decide_eq_false h2,↓Xw,wG,seval]
  exact fin rfl (by rw [hV,if_neg h2])
 rw [if_pos h2] at hV
 simp (disch:=omega) only [decide_eq_true h2,↓Xw,wG,seval]
 refine X1 c3 rfl ?_
 simp (disch:=omega) only [X5,↓Xw,wG,seval]
 refine JI ca rfl ⟨(Xf W).sees _,Ca ⟨sB,trivial⟩,trivial⟩ (As _) ?_
 by_cases h3:MB a b f
 rotate_left
 ·simp (disch:=omega) only [decide_eq_false h3,↓Xw,wG,seval]
  exact fin rfl (by rw [hV,if_neg h3])
 rw [if_pos h3] at hV
 simp (disch:=omega) only [decide_eq_true h3,↓Xw,wG,seval]
 refine X1 c4 rfl ?_
 generalize XE a.rim b.rim f (ta+tb)=G at *
 obtain ⟨lo,hi,ok⟩:=G
 simp only at hV g1 g2
 have c5:=It lo f.lo (by unfold vm; omega) (by unfold vm; omega)
 have c6:=It hi f.hi (by unfold vm; omega) (by unfold vm; omega)
 cases ok with
 | false =>
  simp (disch:=omega) only [↓Xw,wG,seval]
  exact fin rfl (by rw [hV,if_neg (fun h=>by cases h.1)])
 | true =>
  simp (disch:=omega) only [↓Xw,wG,seval]
  refine X1 c5 rfl ?_
  by_cases h4:lo=f.lo
  rotate_left
  ·simp (disch:=omega) only [decide_eq_false h4,↓Xw,wG,seval]
   exact fin rfl (by rw [hV,if_neg (fun h=>h4 h.2.1)])
  simp (disch:=omega) only [decide_eq_true h4,↓Xw,wG,seval]
  refine X1 c6 rfl ?_
  by_cases h5:hi=f.hi
  rotate_left
  ·simp (disch:=omega) only [decide_eq_false h5,↓Xw,wG,seval]
   exact fin rfl (by rw [hV,if_neg (fun h=>h5 h.2.2)])
  rw [if_pos ⟨rfl,h4,h5⟩] at hV
  simp (disch:=omega) only [decide_eq_true h5,↓Xw,wG,seval]
  refine X1 c7 rfl ?_
  cases h6:KK a b f (ta+tb) with
  | false =>
   simp (disch:=omega) only [↓Xw,wG,seval]
   exact fin rfl (by rw [hV,h6]; rfl)
  | true =>
   simp (disch:=omega) only [↓Xw,wG,seval]
   exact fin rfl (by rw [hV,h6]; rfl)
def Ag (a b:PV) (f:FV) (e:Rat):FV:={ f with lo:=(XE a.rim b.rim f e).1,hi:=(XE a.rim b.rim f e).2.1 }
def Zx:FV:=⟨0,0,0,0,0,v0,v0,v0⟩
def Pm:List AV:=[I 0,I 0,I 0,I 0,I 0] ++ (Zj ++ (Zj ++ Zj))
theorem qJ {a b:List (Int×Int)} (ha:QY a) (hb:QY b) (f:FV) (ht:vb f.turn≤60) (k:Nat):vb (Zr a b f k)≤150:=by
 have h1:=KH ha (xK a.length f k)
 have h2:=KH hb ((f.EB+1 - k) % b.length).toNat
 unfold Zr
 have h3:=Dg f.turn (JD (b.getD ((f.EB+1 - k) % b.length).toNat (0,0)))
 have h4:=Kc (JD (a.getD (xK a.length f k) (0,0))) (LY f.turn (JD (b.getD ((f.EB+1 - k) % b.length).toNat (0,0))))
 omega
theorem FM (a b:PV) (f:FV) (na:QY a.rim) (nb:QY b.rim) (e:Rat) (ht:vb f.turn≤60):vb (XE a.rim b.rim f e).1≤155+qb e∧vb (XE a.rim b.rim f e).2.1≤155+qb e:=by
 have z:=Ej
 have d:=qJ na nb f ht
 have h1:vb (Av a.rim b.rim f f.M.toNat)≤150:=Nat.max_le.2 ⟨LJ _ 150 (fun j=>Nat.le_trans (Qv _) (d j)) _,LJ _ 150 (fun j=>Nat.le_trans (Qn _) (d j)) _⟩
 have h2:vb (At a.rim b.rim f f.M.toNat)≤150:=Nat.max_le.2 ⟨LI _ 150 (fun j=>Nat.le_trans (Qv _) (d j)) _,LI _ 150 (fun j=>Nat.le_trans (Qn _) (d j)) _⟩
 have h3:=Kc (Av a.rim b.rim f f.M.toNat) ⟨e,e⟩
 have h4:=Bb (At a.rim b.rim f f.M.toNat) ⟨e,e⟩
 have h5:vb ⟨e,e⟩=qb e:=by unfold vb; simp
 unfold XE
 split
 ·simp only
  split
  ·exact ⟨by show vb v0≤_; omega,by show vb v0≤_; omega⟩
  ·exact ⟨by simp only; omega,by simp only; omega⟩
 ·exact ⟨by show vb v0≤_; omega,by show vb v0≤_; omega⟩
theorem p6 (f g:FV):f=g↔(f.A=g.A∧f.B=g.B∧f.EA=g.EA∧f.EB=g.EB∧f.M=g.M)∧f.turn=g.turn∧f.lo=g.lo∧f.hi=g.hi:=by
 obtain ⟨a,b,c,d,e,t,l,h⟩:=f
 obtain ⟨a',b',c',d',e',t',l',h'⟩:=g
 simp [and_assoc]
theorem FB (f g:FV) (hf:f.fine) (hg:g.fine):Fn Tryz.prog 35 [Jx f,Jx g] (.bool (decide (f=g))):=by
 obtain ⟨V,hV⟩:∃ V,V=decide (f=g):=⟨_,rfl⟩
 rw [← hV]
 rw [decide_eq_decide.2 (p6 f g)] at hV
 have fin:∀ {s:AS} {v:Bool},s.get 4=.bool v→v=V→RetOk (QI Tryz.prog Tryz.f35 [] [] (.bool V)) s:=fun h e=>Xt rfl h (X3 _) (by rw [e])
 obtain ⟨f1,f2,f3⟩:=hf
 obtain ⟨g1,g2,g3⟩:=hg
 have c1:=KY f.turn g.turn (by unfold vm; omega) (by unfold vm; omega)
 have c2:=BL f.lo g.lo (by unfold vm; omega) (by unfold vm; omega)
 have c3:=BL f.hi g.hi (by unfold vm; omega) (by unfold vm; omega)
 refine Fq Tryz.call35 Tryz.func35 5 [] [] [] (by simp [XP]) (X0 1000 ?_)
 by_cases h:f.A=g.A∧f.B=g.B∧f.EA=g.EA∧f.EB=g.EB∧f.M=g.M
 rotate_left
 ·have hv:false=V:=by rw [hV]; exact (decide_eq_false fun hh=>h hh.1).symm
  rcases (show f.A≠g.A∨(f.A=g.A∧f.B≠g.B)∨(f.A=g.A∧f.B=g.B∧f.EA≠g.EA)∨(f.A=g.A∧f.B=g.B∧f.EA=g.EA∧f.EB≠g.EB)∨(f.A=g.A∧f.B=g.B∧f.EA=g.EA∧f.EB=g.EB∧f.M≠g.M) by omega) with q | ⟨q1,q⟩ | ⟨q1,q2,q⟩ | ⟨q1,q2,q3,q⟩ | ⟨q1,q2,q3,q4,q⟩
  ·simp only [AS.start,Jx,XJ,eq_false q,↓X2,wF,seval]
   exact fin rfl hv
  ·simp only [AS.start,Jx,XJ,eq_true q1,eq_false q,↓X2,wF,seval]
   exact fin rfl hv
  ·simp only [AS.start,Jx,XJ,eq_true q1,eq_true q2,eq_false q,↓X2,wF,seval]
   exact fin rfl hv
  ·simp only [AS.start,Jx,XJ,eq_true q1,eq_true q2,eq_true q3,eq_false q,↓X2,wF,seval]
   exact fin rfl hv
  ·simp only [AS.start,Jx,XJ,eq_true q1,eq_true q2,eq_true q3,eq_true q4,eq_false q,↓X2,wF,seval]
   exact fin rfl hv
 have e:V=decide (f.turn=g.turn∧f.lo=g.lo∧f.hi=g.hi):=by rw [hV]; exact decide_eq_decide.2 ⟨fun hh=>hh.2,fun hh=>⟨h,hh⟩⟩
 clear hV
 simp (disch:=omega) only [AS.start,Jx,XJ,↓Xw,wG,seval]
 refine X1 c1 rfl ?_
 by_cases n1:f.turn=g.turn
 rotate_left
 ·simp (disch:=omega) only [decide_eq_false n1,↓Xw,wG,seval]
  exact fin rfl (by rw [e]; exact (decide_eq_false fun hh=>n1 hh.1).symm)
 simp (disch:=omega) only [decide_eq_true n1,↓Xw,wG,seval]
 refine X1 c2 rfl ?_
 by_cases n2:f.lo=g.lo
 rotate_left
 ·simp (disch:=omega) only [decide_eq_false n2,↓Xw,wG,seval]
  exact fin rfl (by rw [e]; exact (decide_eq_false fun hh=>n2 hh.2.1).symm)
 simp (disch:=omega) only [decide_eq_true n2,↓Xw,wG,seval]
 refine X1 c3 rfl ?_
 simp (disch:=omega) only [↓Xw,wG,seval]
 exact fin rfl (by rw [e]; exact decide_eq_decide.2 ⟨fun hh=>⟨n1,n2,hh⟩,fun hh=>hh.2.2⟩)
theorem vT {V:Bool} {P:Prop} (h:V=true↔P) (p:P):true=V:=(h.2 p).symm
theorem vN {V:Bool} {P:Prop} (h:V=true↔P) (p:¬ P):false=V:=by
 cases V with
 | true=>exact absurd (h.1 rfl) p
 | false=>rfl
theorem vI {V:Bool} {P Q:Prop} [Decidable Q] (h:V=true↔P) (e:P↔Q):decide Q=V:=by
 by_cases q:Q
 ·rw [decide_eq_true q]; exact vT h (e.2 q)
 ·rw [decide_eq_false q]; exact vN h fun p=>q (e.1 p)
def Zk (t u:V2):Prop:=t.x<u.x∨(t.x=u.x∧t.y<u.y)
theorem Sm (a b:Rat):QC a b=0↔a=b:=by
 have h1:=ny a b; have h2:=OX a b
 exact ⟨fun h=>Rat.le_antisymm (h1.1 (by omega)) (h2.1 (by omega)),fun h=>by subst h; have:=h1.2 Rat.le_refl; have:=h2.2 Rat.le_refl; omega⟩
theorem Yv (t u:V2) (ht:vb t≤vm) (hu:vb u≤vm):Fn Tryz.prog 232 [vA t,vA u] (.bool (decide (Zk t u))):=by
 obtain ⟨V,hV⟩:∃ V,V=decide (Zk t u):=⟨_,rfl⟩
 rw [← hV]
 replace hV:=(Bool.eq_iff_iff.1 hV).trans decide_eq_true_iff
 have fin:∀ {s:AS} {v:Bool},s.get 4=.bool v→v=V→RetOk (QI Tryz.prog Tryz.f232 [] [] (.bool V)) s:=fun h e=>Xt rfl h (X3 _) (by rw [e])
 have:=Qv t; have:=Qv u; have:=Qn t; have:=Qn u
 unfold vm at ht hu
 have c1:=J7 t.x u.x (by unfold rm; omega) (by unfold rm; omega)
 have c2:=J7 t.y u.y (by unfold rm; omega) (by unfold rm; omega)
 have e1:=Ke t.x u.x
 have e2:=Sm t.x u.x
 have e3:=Ke t.y u.y
 unfold Zk at hV
 rw [← e1,← e2,← e3] at hV
 generalize QC t.x u.x=p at *
 generalize QC t.y u.y=q at *
 refine Fq Tryz.call232 Tryz.func232 6 [] [] [] (by simp [Xm]) (X0 1000 ?_)
 simp (disch:=omega) only [AS.start,↓Xw,wG,seval]
 refine X1 c1 rfl ?_
 rcases (show p<0∨p=0∨0<p by omega) with h | h | h
 ·simp (disch:=omega) only [↓Xw,wG,seval]
  exact fin rfl (vT hV (.inl h))
 ·simp (disch:=omega) only [↓Xw,wG,seval]
  refine X1 c2 rfl ?_
  simp (disch:=omega) only [↓Xw,wG,seval]
  exact fin rfl (vI hV ⟨fun hh=>by omega,fun hh=>.inr ⟨h,hh⟩⟩)
 ·simp (disch:=omega) only [↓Xw,wG,seval]
  exact fin rfl (vN hV ((by omega)))
def ZS (n m:Nat) (f g:FV):Prop:=f.M<g.M∧(f.EA - g.EA) % n+f.M≤g.M∧(g.EB - (f.EA - g.EA) % n) % m=f.EB∧f.turn=g.turn
structure FV.near (f:FV):Prop where
 ea:-1000000≤f.EA∧f.EA≤1000000
 eb:-1000000≤f.EB∧f.EB≤1000000
 m:-1000000≤f.M∧f.M≤1000000
theorem Wb (a b:PV) (f g:FV) (ha:0<a.rim.length∧a.rim.length<1000000) (hb:0<b.rim.length∧b.rim.length<1000000) (nf:f.near) (ng:g.near) (hf:vb f.turn≤vm) (hg:vb g.turn≤vm) :
  Fn Tryz.prog 53 [QH a,QH b,Jx f,Jx g] (.bool (decide (ZS a.rim.length b.rim.length f g))):=by
 obtain ⟨V,hV⟩:∃ V,V=decide (ZS a.rim.length b.rim.length f g):=⟨_,rfl⟩
 rw [← hV]
 replace hV:=(Bool.eq_iff_iff.1 hV).trans decide_eq_true_iff
 have fin:∀ {s:AS} {v:Bool},s.get 8=.bool v→v=V→RetOk (QI Tryz.prog Tryz.f53 [2,30000005,30000006,30000007] [] (.bool V)) s:=fun h e=>Xt rfl h (X3 _) (by rw [e])
 obtain ⟨f1,f2,f3⟩:=nf
 obtain ⟨g1,g2,g3⟩:=ng
 have d0:=Int.emod_nonneg (f.EA - g.EA) (show (a.rim.length:Int)≠0 by omega)
 have d1:=Int.emod_lt_of_pos (f.EA - g.EA) (show (0:Int)<a.rim.length by omega)
 have c1:=Q4 (f.EA - g.EA) a.rim.length ha.1 (by omega) (by omega)
 have c2:=Q4 (g.EB - (f.EA - g.EA) % a.rim.length) b.rim.length hb.1 (by omega) (by omega)
 have c3:=KY f.turn g.turn hf hg
 unfold ZS at hV
 generalize (f.EA - g.EA) % (a.rim.length:Int)=d at *
 generalize (g.EB - d) % (b.rim.length:Int)=r at *
 refine Fq Tryz.call53 Tryz.func53 10 [] [2,30000005,30000006,30000007] [] (by simp [Xx,XP]) (X0 1000 ?_)
 simp (disch:=omega) only [AS.start,QH,XD,Jx,XJ,↓Xw,wG,seval]
 refine X1 c1 rfl ?_
 by_cases h1:f.M<g.M
 rotate_left
 ·simp (disch:=omega) only [↓Xw,wG,seval]
  exact fin rfl (vN hV (fun hh=>h1 hh.1))
 by_cases h2:d+f.M≤g.M
 rotate_left
 ·simp (disch:=omega) only [↓Xw,wG,seval]
  exact fin rfl (vN hV (fun hh=>h2 hh.2.1))
 simp (disch:=omega) only [↓Xw,wG,seval]
 refine X1 c2 rfl ?_
 by_cases h3:r=f.EB
 rotate_left
 ·simp (disch:=omega) only [↓Xw,wG,seval]
  exact fin rfl (vN hV (fun hh=>h3 hh.2.2.1))
 simp (disch:=omega) only [↓Xw,wG,seval]
 refine X1 c3 rfl ?_
 simp (disch:=omega) only [↓Xw,wG,seval]
 exact fin rfl (vI hV ⟨fun hh=>hh.2.2.2,fun hh=>⟨h1,h2,h3,hh⟩⟩)
def Bf (t:V2):V2:=⟨-t.y,t.x⟩
def Jz:Nat→V2→V2
 | 0,t=>t
 | i+1,t=>Bf (Jz i t)
theorem jA (t:V2):vb (Bf t)=vb t:=by unfold vb Bf; simp only [BI]; exact Nat.max_comm _ _
theorem CG (t:V2):∀ i,vb (Jz i t)=vb t
 | 0=>rfl
 | i+1=>(jA _).trans (CG t i)
def T6 (m w:Int):V2:=⟨Rat.divInt (m*m - w*w) (m*m+w*w),Rat.divInt (2*m*w) (m*m+w*w)⟩
def T7 (n:Int):V2:=Jz (QV n 64 % 4).toNat (T6 (1+QV n 64 / 4 % 4) (QV n 64 / 16))
theorem O1 (n:Int) (hn:Ks n):Fn Tryz.prog 60 [I n] (vA (T7 n))∧vb (T7 n)≤3:=by
 have c1:=Kv n 64 hn (by omega)
 have hk:=K6 n 64 (by omega)
 unfold T7
 generalize QV n 64=k at *
 have b1:k.tdiv 4=k / 4:=Int.tdiv_eq_ediv_of_nonneg hk.1
 have b2:(k / 4).tmod 4=k / 4 % 4:=Int.tmod_eq_emod_of_nonneg (by omega)
 have b3:k.tdiv 16=k / 16:=Int.tdiv_eq_ediv_of_nonneg hk.1
 have b4:k.tmod 4=k % 4:=Int.tmod_eq_emod_of_nonneg hk.1
 have hm:1≤1+k / 4 % 4∧1+k / 4 % 4≤4:=by omega
 have hw:0≤k / 16∧k / 16≤3:=by omega
 generalize hme:1+k / 4 % 4=m at *
 generalize k / 16=w at *
 have q1:1≤m*m∧m*m≤16:=by rcases (show m=1∨m=2∨m=3∨m=4 by omega) with rfl | rfl | rfl | rfl <;> decide
 have q2:0≤w*w∧w*w≤9:=by rcases (show w=0∨w=1∨w=2∨w=3 by omega) with rfl | rfl | rfl | rfl <;> decide
 have q3:0≤2*m*w∧2*m*w≤24:=by rcases (show w=0∨w=1∨w=2∨w=3 by omega) with rfl | rfl | rfl | rfl <;> omega
 have c2:=QX (m*m - w*w) (m*m+w*w) ⟨by omega,by omega⟩ ⟨by omega,by omega⟩
 have c3:=QX (2*m*w) (m*m+w*w) ⟨by omega,by omega⟩ ⟨by omega,by omega⟩
 have v1:=BH (m*m - w*w) (m*m+w*w) ⟨by omega,by omega⟩ ⟨by omega,by omega⟩
 have v2:=BH (2*m*w) (m*m+w*w) ⟨by omega,by omega⟩ ⟨by omega,by omega⟩
 have hvb:vb (T6 m w)≤3:=Nat.max_le.2 ⟨v1,v2⟩
 change Fn _ _ _ (qA (T6 m w).x) at c2
 change Fn _ _ _ (qA (T6 m w).y) at c3
 generalize T6 m w=T at *
 obtain ⟨N,hN⟩:∃ N:Nat,k % 4=N:=⟨(k % 4).toNat,by omega⟩
 rw [hN,Int.toNat_natCast]
 refine ⟨?_,by rw [CG]; exact hvb⟩
 obtain ⟨R,hR⟩:∃ R,R=vA (Jz N T):=⟨_,rfl⟩
 have sR:Settled R:=hR▸Xm _
 rw [← hR]
 refine Fq Tryz.call60 Tryz.func60 9 [] [] [] (by simp [X9]) (X0 1000 ?_)
 simp (disch:=omega) only [AS.start,b1,b2,b3,b4,hme,↓Xw,wG,seval]
 refine X1 c1 rfl ?_
 simp (disch:=omega) only [b1,b2,b3,b4,hme,↓Xw,wG,seval]
 refine X1 c2 rfl ?_
 simp (disch:=omega) only [b1,b2,b3,b4,hme,↓Xw,wG,seval]
 refine X1 c3 rfl ?_
 simp (disch:=omega) only [b1,b2,b3,b4,hme,↓Xw,wG,seval]
 have ht:∀ i,vb (Jz i T)≤3:=fun i=>by rw [CG]; exact hvb
 refine Xg (fun i:Nat=>⟨9,[],[.any,.any,.ref 0 0 0,I k,.any,.any,.any,.ref 1 0 0,I i],[],[.row 0 8 (Xo XQ),.row 0 8 (Xo (vC (Jz i T)))]⟩) (fun i=>i≤N) (fun i=>N - i) 0 (by omega)
  (Xa rfl (by simp [Xh,I]) (by simp [Xi]) rfl) ?_
 intro i hi next
 have c4:=KZ (Jz i T).y (by have:=Qn (Jz i T); have:=ht i; unfold rm; omega)
 by_cases hi2:i<N
 ·refine X0 1000 ?_
  simp (disch:=omega) only [vC,qC,b4,hN,↓Xw,wG,seval]
  refine X1 c4 rfl ?_
  simp (disch:=omega) only [↓Xw,wG,seval]
  exact next (i+1) _ (by omega) (by omega) (Xa rfl (by simp [Xh,I]) (by simp [Xi]) rfl)
 ·obtain rfl:i=N:=by omega
  refine X0 1000 ?_
  simp (disch:=omega) only [vC,qC,XQ,b4,hN,↓Xw,wG,seval]
  exact ZB rfl Dl rfl rfl rfl sR (hR.trans rfl)
theorem PQ (f:FV) (ht:vb f.turn≤60) (hl:vb f.lo≤250) (hh:vb f.hi≤250) (how n:Int) (ih:Ks how) (hn:Ks n):∃ g:FV,Fn Tryz.prog 33 [Jx f,I how,I n] (Jx g)∧g.fine∧vb g.lo≤vb f.lo+4∧vb g.hi≤vb f.hi+4:=by
 have c1:=Kv n 9 hn (by omega)
 have c2:=Kv how 8 ih (by omega)
 have k1:=K6 n 9 (by omega)
 have k2:=K6 how 8 (by omega)
 obtain ⟨c3,t3⟩:=O1 n hn
 have c4:=aP n hn
 have t4:qb (aO n)≤3:=by
  have:=K6 n 100 (by omega)
  unfold aO
  generalize QV n 100=k at *
  rw [Int.tmod_eq_emod_of_nonneg this.1,Int.tdiv_eq_ediv_of_nonneg this.1]
  exact BH _ _ ⟨by omega,by omega⟩ ⟨by omega,by omega⟩
 generalize QV n 9=x at *
 generalize QV how 8=c at *
 generalize T7 n=T at *
 generalize aO n=q at *
 have c5:=KI (x - 4) 0 ⟨by omega,by omega⟩ ⟨by omega,by omega⟩
 have c6:=KI 0 (x - 4) ⟨by omega,by omega⟩ ⟨by omega,by omega⟩
 have s5:vb ⟨((x - 4:Int):Rat),((0:Int):Rat)⟩≤3:=Nat.max_le.2 ⟨KW _ 3 (by omega) (Qy ⟨by omega,by omega⟩),KW _ 3 (by omega) (Qy ⟨by omega,by omega⟩)⟩
 have s6:vb ⟨((0:Int):Rat),((x - 4:Int):Rat)⟩≤3:=Nat.max_le.2 ⟨KW _ 3 (by omega) (Qy ⟨by omega,by omega⟩),KW _ 3 (by omega) (Qy ⟨by omega,by omega⟩)⟩
 generalize hv5:(⟨((x - 4:Int):Rat),((0:Int):Rat)⟩:V2)=v5 at *
 generalize hv6:(⟨((0:Int):Rat),((x - 4:Int):Rat)⟩:V2)=v6 at *
 have c7:=BK f.lo v5 (by unfold vm; omega) (by unfold vm; omega)
 have c8:=BK f.hi v6 (by unfold vm; omega) (by unfold vm; omega)
 have m7:=Bb f.lo v5
 have m8:=Bb f.hi v6
 have ty:=Qn f.turn
 have m9:vb ⟨q,f.turn.y⟩≤60:=Nat.max_le.2 ⟨by show qb q≤60; omega,by show qb f.turn.y≤60; omega⟩
 have go:∀ g:FV,(∀ R,R=Jx g→Fn Tryz.prog 33 [Jx f,I how,I n] R)→(g.fine∧vb g.lo≤vb f.lo+4∧vb g.hi≤vb f.hi+4)→∃ g:FV,Fn Tryz.prog 33 [Jx f,I how,I n] (Jx g)∧g.fine∧vb g.lo≤vb f.lo+4∧vb g.hi≤vb f.hi+4:=fun g h1 h2=>⟨g,h1 _ rfl,h2⟩
 rcases (show c=0∨c=1∨c=2∨c=3∨c=4∨c=5∨c=6∨c=7 by omega) with rfl | rfl | rfl | rfl | rfl | rfl | rfl | rfl
 refine go { f with EA:=x - 1 } ?_ ⟨⟨ht,by show vb f.lo≤300; omega,by show vb f.hi≤300; omega⟩,by simp only; omega,by simp only; omega⟩
 rotate_left
 refine go { f with EB:=x - 1 } ?_ ⟨⟨ht,by show vb f.lo≤300; omega,by show vb f.hi≤300; omega⟩,by simp only; omega,by simp only; omega⟩
 rotate_left
 refine go { f with M:=x - 1 } ?_ ⟨⟨ht,by show vb f.lo≤300; omega,by show vb f.hi≤300; omega⟩,by simp only; omega,by simp only; omega⟩
 rotate_left
 refine go { f with turn:=T } ?_ ⟨⟨by show vb T≤60; omega,by show vb f.lo≤300; omega,by show vb f.hi≤300; omega⟩,by simp only; omega,by simp only; omega⟩
 rotate_left
 refine go { f with lo:=f.lo.add v5 } ?_ ⟨⟨ht,by show vb (f.lo.add v5)≤300; omega,by show vb f.hi≤300; omega⟩,by simp only; omega,by simp only; omega⟩
 rotate_left
 refine go { f with hi:=f.hi.add v6 } ?_ ⟨⟨ht,by show vb f.lo≤300; omega,by show vb (f.hi.add v6)≤300; omega⟩,by simp only; omega,by simp only; omega⟩
 rotate_left
 refine go { f with turn:=⟨q,f.turn.y⟩ } ?_ ⟨⟨m9,by show vb f.lo≤300; omega,by show vb f.hi≤300; omega⟩,by simp only; omega,by simp only; omega⟩
 rotate_left
 refine go { f with EA:=IntKind.i64.wrap (f.EA+1),EB:=IntKind.i64.wrap (f.EB - 1),M:=IntKind.i64.wrap (f.M - 1) } ?_ ⟨⟨ht,by show vb f.lo≤300; omega,by show vb f.hi≤300; omega⟩,by simp only; omega,by simp only; omega⟩
 rotate_left
 all_goals
  intro R hR
  have sR:Settled R:=hR▸XP _
  refine Fq Tryz.call33 Tryz.func33 8 [11] [] [] (by simp [XP,X9]) (X0 1000 ?_)
  simp (disch:=omega) only [AS.start,Jx,XJ,↓Xw,wG,seval]
  refine X1 c1 rfl ?_
  simp (disch:=omega) only [↓Xw,wG,seval]
  refine X1 c2 rfl ?_
  simp (disch:=omega) only [↓Xw,wG,seval]
  try (first | refine X1 c3 rfl ?_ | refine X1 c4 rfl ?_ | refine X1 c5 rfl ?_ | refine X1 c6 rfl ?_)
  try simp (disch:=omega) only [↓Xw,wG,seval]
  try (first | refine X1 c7 rfl ?_ | refine X1 c8 rfl ?_)
  try simp (disch:=omega) only [↓Xw,wG,seval]
  exact ZB rfl p8 rfl rfl rfl sR (hR.trans rfl)
theorem kT (f:FV) (ht:vb f.turn≤60) (hl:vb f.lo≤250) (hh:vb f.hi≤250) (how n:Int) (ih:Ks how) (hn:Ks n):∃ g:FV,Fn Tryz.prog 33 [Jx f,I how,I n] (Jx g)∧g.fine :=
 have ⟨g,h1,h2,_⟩:=PQ f ht hl hh how n ih hn
 ⟨g,h1,h2⟩
def Du (t:V2):List V2→List V2
 | []=>[t]
 | x :: l=>if Zk t x then t :: x :: l else x :: Du t l
def TF (t:V2) (l:List V2):List V2:=if t∈l then l else Du t l
def Ja (a b:PV) (f:FV):Nat→List V2
 | 0=>[]
 | k+1=>if (Do a b f k).2=true then TF (Do a b f k).1 (Ja a b f k) else Ja a b f k
def Am (t:V2) (w:List V2×Bool) (x:V2):List V2×Bool:=if w.2=false∧Zk t x then (w.1 ++ [t] ++ [x],true) else (w.1 ++ [x],w.2)
def KE (t:V2) (w:List V2×Bool) (l:List V2):List V2×Bool:=l.foldl (Am t) w
theorem Lm (t:V2):∀ (l A:List V2),KE t (A,true) l=(A ++ l,true)
 | [],A=>by simp [KE]
 | x :: l,A=>by
  show KE t (Am t (A,true) x) l=_
  have:Am t (A,true) x=(A ++ [x],true):=by unfold Am; rw [if_neg (by simp)]
  rw [this,Lm t l]; simp
theorem Ni (t:V2):∀ (l A:List V2),(if (KE t (A,false) l).2=true then (KE t (A,false) l).1 else (KE t (A,false) l).1 ++ [t])=A ++ Du t l
 | [],A=>by simp [KE,Du]
 | x :: l,A=>by
  show (if (KE t (Am t (A,false) x) l).2=true then (KE t (Am t (A,false) x) l).1 else (KE t (Am t (A,false) x) l).1 ++ [t])=A ++ Du t (x :: l)
  by_cases h:Zk t x
  ·have:Am t (A,false) x=(A ++ [t] ++ [x],true):=by unfold Am; rw [if_pos ⟨rfl,h⟩]
   rw [this,Lm]
   simp [Du,h]
  ·have:Am t (A,false) x=(A ++ [x],false):=by unfold Am; rw [if_neg (by simp [h])]
   rw [this,Ni t l]
   simp [Du,h]
theorem Lt (t x:V2):∀ l,x∈Du t l↔x=t∨x∈l
 | []=>by simp [Du]
 | y :: l=>by
  have ih:=Lt t x l
  unfold Du
  split
  ·simp
  ·rw [List.mem_cons,ih,List.mem_cons]
   constructor
   ·rintro (h | h | h)
    ·exact .inr (.inl h)
    ·exact .inl h
    ·exact .inr (.inr h)
   ·rintro (h | h | h)
    ·exact .inr (.inl h)
    ·exact .inl h
    ·exact .inr (.inr h)
theorem RH (t:V2):∀ l,(Du t l).length=l.length+1
 | []=>rfl
 | y :: l=>by
  have ih:=RH t l
  unfold Du
  split
  ·simp
  ·simp [ih]
theorem dU (t x:V2) (l:List V2):x∈TF t l↔x=t∨x∈l:=by
 unfold TF
 split
 ·rename_i h
  exact ⟨fun hx=>.inr hx,fun hx=>by rcases hx with rfl | hx; exact h; exact hx⟩
 ·exact Lt t x l
theorem AE (a b:PV) (f:FV) (t:V2):∀ n,t∈Ja a b f n↔∃ k,k<n∧(Do a b f k).2=true∧(Do a b f k).1=t
 | 0=>by simp [Ja]
 | n+1=>by
  have ih:=AE a b f t n
  unfold Ja
  split
  ·rename_i h
   rw [dU,ih]
   constructor
   ·rintro (h1 | ⟨k,h1,h2⟩)
    ·exact ⟨n,by omega,h,h1.symm⟩
    ·exact ⟨k,by omega,h2⟩
   ·rintro ⟨k,h1,h2,h3⟩
    by_cases hk:k=n
    ·subst hk; exact .inl h3.symm
    ·exact .inr ⟨k,by omega,h2,h3⟩
  ·rename_i h
   rw [ih]
   constructor
   ·rintro ⟨k,h1,h2⟩; exact ⟨k,by omega,h2⟩
   ·rintro ⟨k,h1,h2,h3⟩
    by_cases hk:k=n
    ·subst hk; exact absurd h2 h
    ·exact ⟨k,by omega,h2,h3⟩
theorem BT (a b:PV) (f:FV):∀ n,(Ja a b f n).length≤n
 | 0=>Nat.le_refl _
 | n+1=>by
  have ih:=BT a b f n
  unfold Ja TF
  split
  ·split
   ·omega
   ·rw [RH]; omega
  ·omega
theorem Bn (a b:PV) (f:FV) (ha:QY a.rim) (hb:QY b.rim) (n:Nat):∀ t∈Ja a b f n,vb t≤26:=fun t ht=>by
 obtain ⟨k,_,_,h⟩:=(AE a b f t n).1 ht
 rw [← h]; exact Bi ha hb _ _
theorem Tg {H:List AO} {id ver n:Nat} {L:List V2} (ho:H[id]?=some (.con ver (L.length*8) (Xs vC 8 v0 L))) (hn:n=L.length):ZK H (.osl id ver 8 0 n) (Xp L):=by
 subst hn
 rw [X5]
 exact Dh ho (Nat.le_refl _) (fun h=>by rw [h]) fun j hj=>J1 _ _
theorem V5 (t:V2) (l:List V2) (i:Nat) (h:i<l.length):KE t ([],false) (l.take (i+1))=Am t (KE t ([],false) (l.take i)) (l.getD i v0):=by
 unfold KE
 rw [Q5 l v0 i h,List.foldl_append]; rfl
def RW (t:V2) (L:List V2) (i:Nat):Bool:=decide (t∈L.take i)
theorem aG (t:V2) (L:List V2) (i:Nat) (h:i<L.length):RW t L (i+1)=(RW t L i || decide (L.getD i v0=t)):=by
 unfold RW
 rw [Q5 L v0 i h,Bool.eq_iff_iff,Bool.or_eq_true,decide_eq_true_iff,decide_eq_true_iff,decide_eq_true_iff,List.mem_append,List.mem_singleton]
 exact ⟨fun h=>h.imp id Eq.symm,fun h=>h.imp id Eq.symm⟩
theorem jy (a b:PV) (f:FV) (hf:AB a.rim.length b.rim.length f) (ha:a.even) (hb:b.even):Fn Tryz.prog 190 [QH a,QH b,Jx f] (Xp (Ja a b f f.M.toNat)):=by
 obtain ⟨⟨s1,s2⟩,⟨s3,s4⟩,s5,s6,s7⟩:=hf
 obtain ⟨N,hN⟩:∃ N:Nat,f.M=N:=⟨f.M.toNat,by omega⟩
 have la:=ha.rim; have lb:=hb.rim
 rw [hN,Int.toNat_natCast]
 have ba:XK 3 (.con 0 25 (Xo (XD a)))=True:=eq_true (fun j _=>X6 (Xc (Xy a) j))
 have bb:XK 3 (.con 0 25 (Xo (XD b)))=True:=eq_true (fun j _=>X6 (Xc (Xy b) j))
 have bf:XK 3 (.con 0 29 (Xo (XJ f)))=True:=eq_true (fun j _=>X6 (Xc (XM f) j))
 have bvd:∀ l:List V2,JJ 3 (.sl l.length (l.length*8) (Xs vC 8 v0 l) false)=True:=fun l=>eq_true (X6 (Xf l))
 have bv:∀ l,JJ 3 (Xp l)=True:=fun l=>eq_true (X6 (Xf l))
 refine Fq Tryz.call190 Tryz.func190 15 [] [5,60000003,60000004,60000005,13,140000009,14] [] (by simp [Xx,XP]) (X0 1000 ?_)
 simp (disch:=omega) only [AS.start,QH,XD,Jx,XJ,↓Xw,wG,seval]
 refine Xg (fun k:Nat=>⟨15,[],[.any,.any,.any,.ref 0 0 0,.ref 1 0 0,.ref 2 0 0,.any,Xp (Ja a b f k),I k,.any,.any,.any,.any,.any,.any],[],[.con 0 25 (Xo (XD a)),.con 0 25 (Xo (XD b)),.con 0 29 (Xo (XJ f))]⟩) (fun k=>k≤N) (fun k=>N - k) 0 (by omega)
  (Sub.trans (XR 0 rfl) (Sub.trans (XR 1 rfl) (Sub.trans (XR 2 rfl) (Sub.trans (Mc 7 (Xp []) (by show 7<15; omega) (by rw [X5]; exact Pk (Nat.le_refl _) (fun j hj=>absurd hj (Nat.not_lt_zero j)))) (Xa rfl (by simp [Xh,Ja,I]) (by simp [Xi]) (by simp [XD,XJ,Xe,Xl,X4,I,sg])))))) ?_
 intro k hk next
 by_cases hk2:k<N
 rotate_left
 ·obtain rfl:k=N:=by omega
  refine X0 1000 ?_
  simp (disch:=omega) only [XD,XJ,X5,↓Xw,wG,seval]
  exact Xt (v:=Xp (Ja a b f k)) rfl rfl (Xf _) rfl
 have c1:=Q4 (f.EA+(k:Int)) a.rim.length (by omega) (by omega) (by omega)
 have c2:=Q4 (f.EB - (k:Int)) b.rim.length (by omega) (by omega) (by omega)
 rw [GS _ _ _ (by omega)] at c1
 rw [Mn _ _ _ (by omega)] at c2
 have ca:=LK a b (xK a.rim.length f k) (yK b.rim.length f k) la lb ha.near hb.near
 have hsm:=Bi ha.near hb.near (xK a.rim.length f k) (yK b.rim.length f k)
 rw [show Qc a.rim b.rim (xK a.rim.length f k) (yK b.rim.length f k)=Do a b f k from rfl] at ca hsm
 have nx:=next (k+1)
 have htn:Ja a b f (k+1)=if (Do a b f k).2=true then TF (Do a b f k).1 (Ja a b f k) else Ja a b f k:=rfl
 rw [htn] at nx
 have hts:=Bn a b f ha.near hb.near k
 have htl:=BT a b f k
 generalize Do a b f k=X at *
 generalize Ja a b f k=L at *
 obtain ⟨t,ok⟩:=X
 refine X0 1000 ?_
 simp (disch:=omega) only [XD,XJ,Xe,↓Xw,wG,seval]
 refine X1 c1 rfl ?_
 simp (disch:=omega) only [XD,XJ,Xe,↓Xw,wG,seval]
 refine X1 c2 rfl ?_
 simp (disch:=omega) only [XD,XJ,Xe,↓Xw,wG,seval]
 refine X1 ca rfl ?_
 cases ok with
 | false =>
  simp (disch:=omega) only [↓Xw,wG,seval]
  exact nx _ (by omega) (by omega) (Xr (m:=3) (Nat.zero_le _) rfl (by simp [Xh,I]) (by simp [Xi]) (by simp [XD,XJ,Xe,Xl,X4,I,sg]) (by simp [Xv,bv]) (by simp [Xv]) (by simp [ba,bb,bf]))
 | true =>
  simp (disch:=omega) only [↓Xw,wG,seval]
  refine Xg (fun i:Nat=>⟨15,[],[.any,.any,.any,.ref 0 0 0,.ref 1 0 0,.ref 2 0 0,.any,Xp L,I k,.ref 3 0 0,.any,.osl 4 (KE t ([],false) (L.take i)).1.length 8 0 (KE t ([],false) (L.take i)).1.length,.bool (RW t L i),.bool (KE t ([],false) (L.take i)).2,I i],[],
   [.con 0 25 (Xo (XD a)),.con 0 25 (Xo (XD b)),.con 0 29 (Xo (XJ f)),.con 0 8 (Xo (vC t)),.row (KE t ([],false) (L.take i)).1.length ((KE t ([],false) (L.take i)).1.length*8) (Xs vC 8 v0 (KE t ([],false) (L.take i)).1)]⟩) (fun i=>i≤L.length∧(KE t ([],false) (L.take i)).1.length≤2*i) (fun i=>L.length - i) 0 ⟨by omega,by simp [KE]⟩
   (Sub.trans (XR 3 rfl) (Sub.trans (Q7 11 8 (Xs vC 8 v0 []) rfl) (Xa rfl (by simp [AS.put,Xh,KE,RW,I]) (by simp [AS.put,Xi]) (by simp [AS.put,XD,XJ,vC,qC,Xe,Xl,X4,KE,I,sg])))) ?_
  rintro i ⟨hi,hle⟩ next2
  by_cases hi2:i<L.length
  rotate_left
  ·obtain rfl:i=L.length:=by omega
   have hB:RW t L L.length=decide (t∈L):=by unfold RW; rw [List.take_length]
   rw [hB]
   rw [List.take_length] at *
   have hins:=Ni t L []
   rw [List.nil_append] at hins
   generalize KE t ([],false) L=W at *
   obtain ⟨A,put⟩:=W
   simp only at hle hins
   simp only [if_true] at nx
   unfold TF at nx
   have hapt:=XT vC 8 v0 A t (by omega)
   have hl1:(A ++ [t]).length=A.length+1:=by simp
   by_cases hm:t∈L
   ·rw [if_pos hm] at nx
    cases put
    all_goals
     refine X0 1000 ?_
     simp (disch:=omega) only [X5,vC,qC,decide_eq_true hm,Bool.not_true,Bool.not_false,↓Xw,wG,seval]
    refine ⟨Z7 t,?_⟩
    all_goals
     exact nx _ (by omega) (by omega) (Xr (m:=3) (Nat.zero_le _) rfl (by simp [Xh,X5,I]) (by simp [Xi]) (by simp) (by simp [Xv,bv,bvd]) (by simp [Xv]) (by simp [ba,bb,bf]))
   ·rw [if_neg hm] at nx
    have key:∀ (s:AS) (M:List V2),M=Du t L→Sub 0 s ⟨15,[],[.any,.any,.any,.ref 0 0 0,.ref 1 0 0,.ref 2 0 0,.any,.osl 4 M.length 8 0 M.length,I (k+1:Nat),.any,.any,.any,.any,.any,.any],[],[.con 0 25 (Xo (XD a)),.con 0 25 (Xo (XD b)),.con 0 29 (Xo (XJ f)),.con 0 8 (Xo (vC t)),.row M.length (M.length*8) (Xs vC 8 v0 M)]⟩→Sub 0 s
      ⟨15,[],[.any,.any,.any,.ref 0 0 0,.ref 1 0 0,.ref 2 0 0,.any,Xp (Du t L),I (k+1:Nat),.any,.any,.any,.any,.any,.any],[],[.con 0 25 (Xo (XD a)),.con 0 25 (Xo (XD b)),.con 0 29 (Xo (XJ f))]⟩:=fun s M hM h=>by
     subst hM
     exact h.trans <| Sub.trans (XR 4 rfl) (Sub.trans (ZP 7 (Xp (Du t L)) (by show 7<15; omega) (Tg rfl rfl)) (Xr (m:=3) (Nat.zero_le _) rfl (by simp [Xh]) (by simp [Xi]) (by simp) (by simp [Xv,bv]) (by simp [Xv]) (by simp [ba,bb,bf])))
    cases put
    all_goals
     refine X0 1000 ?_
     simp (disch:=omega) only [X5,vC,qC,decide_eq_false hm,Bool.not_true,Bool.not_false,↓Xw,wG,seval]
    ·exact ⟨Z7 t,nx _ (by omega) (by omega) (key _ (A ++ [t]) hins (Xa rfl (by simp [Xh,X5,I,hl1]) (by simp [Xi]) (by rw [← hapt,hl1]; rfl)))⟩
    ·exact nx _ (by omega) (by omega) (key _ A hins (Xa rfl (by simp [Xh,X5,I]) (by simp [Xi]) rfl))
  have ct:=KY (L.getD i v0) t (by have:=hts (L.getD i v0) (QN hi2); unfold vm; omega) (by simp only at hsm; unfold vm; omega)
  have cb:=Yv t (L.getD i v0) (by simp only at hsm; unfold vm; omega) (by have:=hts (L.getD i v0) (QN hi2); unfold vm; omega)
  have nx2:=next2 (i+1)
  rw [V5 t L i hi2,aG t L i hi2] at nx2
  have v1:=vF L i
  generalize L.getD i v0=x at *
  generalize KE t ([],false) (L.take i)=W at *
  obtain ⟨A,put⟩:=W
  simp only at hle
  generalize RW t L i=tw at *
  have hap1:=XT vC 8 v0 A x (by omega)
  have hap2:=XT vC 8 v0 A t (by omega)
  have hap3:=XT vC 8 v0 (A ++ [t]) x (by omega)
  have hl1:(A ++ [t]).length=A.length+1:=by simp
  rw [hl1] at hap3
  have hl2:(A ++ [t] ++ [x]).length=A.length+1+1:=by simp
  have hl3:(A ++ [x]).length=A.length+1:=by simp
  refine X0 1000 ?_
  cases tw
  simp (disch:=omega) only [X5,vC,qC,v1,↓Xw,wG,seval]
  refine X1 ct rfl ?_
  by_cases hx:x=t
  simp (disch:=omega) only [X5,vC,qC,v1,decide_eq_true hx,↓Xw,wG,seval]
  rotate_left
  simp (disch:=omega) only [X5,vC,qC,v1,decide_eq_false hx,↓Xw,wG,seval]
  rotate_left
  simp (disch:=omega) only [X5,vC,qC,v1,↓Xw,wG,seval]
  all_goals
   cases put
   ·simp (disch:=omega) only [X5,vC,qC,v1,Bool.not_false,↓Xw,wG,seval]
    refine X1 cb rfl ?_
    by_cases hb:Zk t x
    ·have hs:Am t (A,false) x=(A ++ [t] ++ [x],true):=by unfold Am; rw [if_pos ⟨rfl,hb⟩]
     rw [hs,hl2] at nx2
     simp (disch:=omega) only [X5,vC,qC,v1,decide_eq_true hb,↓Xw,wG,seval]
     exact ⟨Z7 t,Z7 x,nx2 _ ⟨by omega,by omega⟩ (by omega) (Xa rfl (by first | simp [Xh,X5,hx,I] | simp [Xh,X5,I]) (by simp [Xi]) (by rw [← hap3,← hap2]; rfl))⟩
    ·have hs:Am t (A,false) x=(A ++ [x],false):=by unfold Am; rw [if_neg (fun h=>hb h.2)]
     rw [hs,hl3] at nx2
     simp (disch:=omega) only [X5,vC,qC,v1,decide_eq_false hb,↓Xw,wG,seval]
     exact ⟨Z7 x,nx2 _ ⟨by omega,by omega⟩ (by omega) (Xa rfl (by first | simp [Xh,X5,hx,I] | simp [Xh,X5,I]) (by simp [Xi]) (by rw [← hap1]; rfl))⟩
   ·have hs:Am t (A,true) x=(A ++ [x],true):=by unfold Am; rw [if_neg (fun h=>Bool.noConfusion h.1)]
    rw [hs,hl3] at nx2
    simp (disch:=omega) only [X5,vC,qC,v1,Bool.not_true,↓Xw,wG,seval]
    exact ⟨Z7 x,nx2 _ ⟨by omega,by omega⟩ (by omega) (Xa rfl (by first | simp [Xh,X5,hx,I] | simp [Xh,X5,I]) (by simp [Xi]) (by rw [← hap1]; rfl))⟩
end
end Go.Ab.N
