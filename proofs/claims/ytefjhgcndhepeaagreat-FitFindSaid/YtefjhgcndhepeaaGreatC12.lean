/- Contracts of functions of these chapters, for every argument that fits, and what they need. -/
import Derived.Test.YtefjhgcndhepeaaGreatC11
import Derived.Test.YtefjhgcndhepeaaGreatC10
import Derived.Test.YtefjhgcndhepeaaGreatC7
import Derived.Test.YtefjhgcndhepeaaGreatC6
set_option linter.unusedSimpArgs false
set_option linter.unusedVariables false
open Nat renaming reducePow → Y1, reduceLT → Y2, reduceLeDiff → Y3, reduceEqDiff → Y4, reduceAdd → Y5, reduceMul → Y6, reduceSub → Y7, reduceBEq → Y8, reduceDiv → Y9, reduceMod → YA
namespace Go.Ab.N
open Go Go.RowKit Go.Proofs
noncomputable section
set_option maxRecDepth 10000
set_option maxHeartbeats 4000000
open Classical
theorem mD (L:List V2) (k:Nat) (hs:XZ L k) (hk:k≤1000) (hp:XM L):Fn Tryz.prog 264 [Xq L] (.tup [iH (BJ L),I 0]):=by
 have hl:=(JI L hp).1
 have cv:=CT L (fun i=>Nat.le_trans (hs i) hk) (by omega)
 rw [decide_eq_true hp] at cv
 have ca:=jd L.length (by omega)
 obtain ⟨T,hT⟩:∃ T,T=BJ L:=⟨_,rfl⟩
 rw [← hT]
 have h0:=Aq hl.1 (by omega)
 have d0:(List.range L.length).Nodup:=List.nodup_range
 have hlr:(List.range L.length).length=L.length:=List.length_range
 have hTc:T=Bo L (List.range L.length).length (List.range L.length):=by rw [hT,hlr]; rfl
 have s0:∀ l,XK 2 (.row 0 1 (Xp [X8 l]))=True:=fun l=>eq_true (XE (by simp [X7]))
 have s1:∀ v n l,XK 2 (.row v n (Xs tC 3 (0,0,0) l))=True:=fun v n l=>eq_true fun j _=>X6 (Xe (Fk _) _)
 refine Fq Tryz.call264 Tryz.func264 7 [] [9,10001,10005,10009,11,120000004] [] (by simp [Xd]) (X0 1000 ?_)
 simp only [AS.start,X5,↓X2,wA,seval,wE]
 refine X1 cv rfl ?_
 simp only [X5,↓X2,wA,seval,wE]
 refine X1 ca rfl ?_
 generalize List.range L.length=R0 at *
 simp only [X5,QH,X4,Xm,↓X2,wA,seval,wE]
 refine Xg (fun w:List (Nat×Nat×Nat)×List Nat=>⟨7,[],[Xq L,.any,.any,.any,.ref 0 0 0,.osl 1 w.1.length 3 0 w.1.length,.any],[],[.row 0 1 (Xp [X8 (zs w.2)]),.row w.1.length (w.1.length*3) (Xs tC 3 (0,0,0) w.1)]⟩) (fun w=>Rok L w.2∧w.2.Nodup∧3≤w.2.length∧w.1.length+w.2.length≤L.length∧w.1 ++ Bo L w.2.length w.2=T) (fun w=>w.2.length) ([],R0) ⟨h0,d0,by show 3≤R0.length; omega,by simp [hlr],by rw [hTc]; rfl⟩
  (Sub.trans (Q4 5 3 (Xs tC 3 (0,0,0) []) rfl) (Xa rfl (by simp [AS.put,Xh,X5]) (by simp [AS.put,Xi]) (by simp [AS.put,X4,Xm]))) ?_
 rintro ⟨D,R⟩ ⟨h,hd,h3,hDl,hDT⟩ next
 replace h:Rok L R:=h
 replace hd:R.Nodup:=hd
 replace h3:3≤R.length:=h3
 replace hDl:D.length+R.length≤L.length:=hDl
 replace hDT:D ++ Bo L R.length R=T:=hDT
 by_cases h4:3<R.length
 rotate_left
 ·have e3:R.length=3:=by omega
  rw [Px h4] at hDT
  have hap:=XO tC 3 (0,0,0) D (R.getD 0 0,R.getD 1 0,R.getD 2 0) (by omega)
  rw [hDT] at hap
  have hTl:T.length=D.length+1:=by rw [← hDT]; simp
  refine X0 1000 ?_
  simp (disch:=omega) only [X5,X4,Xm,B7,K6,wD,↓X2,wA,seval,wE]
  exact ⟨OO (R.getD 0 0,R.getD 1 0,R.getD 2 0),Wc T rfl (by rw [hTl]; rfl) (by rw [hTl,← hap]; rfl) rfl (X9 _)⟩
 have hgo:=Vh h hd h4
 obtain ⟨b1,b2,b3,b4⟩:=Ea h hd h4
 have hn:=h.len
 refine X0 1000 ?_
 simp (disch:=omega) only [X5,X4,Xm,wD,↓X2,wA,seval,wE]
 refine Xg (fun p:Nat=>⟨7,[],[Xq L,.any,.any,.any,.ref 0 0 0,.osl 1 D.length 3 0 D.length,I p],[],[.row 0 1 (Xp [X8 (zs R)]),.row D.length (D.length*3) (Xs tC 3 (0,0,0) D)]⟩) (fun p=>p≤R.length - 1∧∀ j,j<p→AQ L R j=false) (fun p=>R.length - p) 0 ⟨by omega,fun j hj=>absurd hj (Nat.not_lt_zero j)⟩
  (Xa rfl (by simp [Xh,X5,I]) (by simp [Xi]) (by simp [X4,Xm])) ?_
 rintro p ⟨hp1,hno⟩ next2
 have ce:=mE L R p k h (by omega) hs (by omega)
 have c1:=Ek R p (-1) (p+R.length - 1) h.pos h.len (by have:=h.pos; omega) (by omega) (by omega) (by omega)
 have c2:=Ek R p 1 (p+R.length+1) h.pos h.len (by omega) (by omega) (by omega) (by omega)
 have cw:=LZ R p hn (by omega)
 have hre:=Bk h h4 (show p<R.length by omega)
 have hlr:(R.eraseIdx p).length=R.length - 1:=by rw [List.length_eraseIdx,if_pos (by omega)]
 have cc:=TG L (R.eraseIdx p) k hre hs (by omega)
 rw [hlr] at cc
 rw [QH,X4,Xm] at ce c1 c2 cw
 by_cases hgo2:p<R.length - 1∧AQ L R p=false
 ·refine X0 1000 ?_
  simp (disch:=omega) only [X5,X4,Xm,wD,↓X2,wA,seval,wE]
  refine X1 ce rfl ?_
  simp (disch:=omega) only [hgo2.2,X5,X4,Xm,wD,↓X2,wA,seval,wE]
  exact next2 (p+1) _ ⟨by omega,Kw.2 ⟨hno,hgo2.2⟩⟩ (by omega) (Xa rfl (by simp [Xh,X5,I]) (by simp [Xi]) (by simp [X4,Xm]))
 have hep:FB L R=p:=Vm hp1 hno (by
  by_cases h1:p=R.length - 1
  ·exact .inl h1
  ·right
   cases he:AQ L R p with
   | true=>rfl
   | false=>exact absurd ⟨by omega,he⟩ hgo2)
 have hD:(D ++ [Ez R p]) ++ Bo L (BK L R).length (BK L R)=T:=by rw [← hDT,hgo,hep,List.append_assoc]; rfl
 have hap:=XO tC 3 (0,0,0) D (Ez R p) (by omega)
 have hcs:KZ L (R.length - 1) (R.eraseIdx p)=BK L R:=by unfold BK; rw [hep]
 rw [hcs] at cc
 have nx:=next (D ++ [Ez R p],BK L R)
 rw [List.length_append,List.length_singleton] at nx
 have htr:tC (Ez R p)=[I (nr R (p+R.length - 1)),I (R.getD p 0:Nat),I (nr R (p+R.length+1))]:=rfl
 have hone:=OO (Ez R p)
 rw [htr] at hap hone
 generalize D ++ [Ez R p]=D2 at *
 generalize BK L R=R2 at *
 have v2:=B7 R p
 generalize nr R (p+R.length - 1)=a at *
 generalize nr R (p+R.length+1)=c at *
 generalize R.getD p 0=b at *
 clear hgo hcs htr
 refine X0 1000 ?_
 by_cases hl:p<R.length - 1
 have he:AQ L R p=true:=by
  cases he:AQ L R p with
  | true=>rfl
  | false=>exact absurd ⟨hl,he⟩ hgo2
 simp (disch:=omega) only [X5,X4,Xm,wD,↓X2,wA,seval,wE]
 refine X1 ce rfl ?_
 simp (disch:=omega) only [he,X5,X4,Xm,wD,↓X2,wA,seval,wE]
 rotate_left
 simp (disch:=omega) only [X5,X4,Xm,wD,↓X2,wA,seval,wE]
 all_goals
  refine X1 c1 rfl ?_
  simp (disch:=omega) only [X5,X4,Xm,v2,wD,↓X2,wA,seval,wE]
  refine X1 c2 rfl ?_
  simp (disch:=omega) only [X5,X4,Xm,v2,wD,↓X2,wA,seval,wE]
  refine ⟨hone,?_⟩
  refine X1 cw rfl ?_
  simp (disch:=omega) only [QH,X5,X4,Xm,wD,↓X2,wA,seval,wE]
  refine X1 cc (by simp only [QH,X4,Xm]; rfl) ?_
  simp (disch:=omega) only [QH,X5,X4,Xm,wD,↓X2,wA,seval,wE]
  exact nx _ ⟨b1,b2,b3,by show D.length+1+R2.length≤L.length; omega,hD⟩ (by show R2.length<R.length; omega) (Xa rfl (by simp [Xh,X5,I]) (by simp [Xi]) (by rw [← hap]; simp [X4,Xm,I,OS]))
def aW (L:List V2) (d:Nat×Nat×Nat):List V2:=[L.getD d.1 v0,L.getD d.2.1 v0,L.getD d.2.2 v0]
def K3 (L:List V2):List (List V2):=(BJ L).map (aW L)
theorem IH (L:List V2):∀ (f:Nat) (R:List Nat),Rok L R→R.Nodup→3≤R.length→∀ d∈Bo L f R,d.1<L.length∧d.2.1<L.length∧d.2.2<L.length
 | 0,R,h,_,_,d,hd=>by
  rw [List.mem_singleton.1 hd]
  exact ⟨h.mem 0,h.mem 1,h.mem 2⟩
 | f+1,R,h,hn,h3,d,hd=>by
  unfold Bo at hd
  split at hd
  ·rename_i h4
   obtain ⟨b1,b2,b3,_⟩:=Ea h hn h4
   rcases List.mem_cons.1 hd with rfl | hd
   ·exact ⟨h.mem _,h.mem _,h.mem _⟩
   ·exact IH L f _ b1 b2 b3 d hd
  ·rw [List.mem_singleton.1 hd]
   exact ⟨h.mem 0,h.mem 1,h.mem 2⟩
theorem Fy (L:List V2):∀ (f:Nat) (R:List Nat),Rok L R→R.Nodup→3≤R.length→(Bo L f R).length≤R.length
 | 0,R,h,_,_=>h.pos
 | f+1,R,h,hn,h3=>by
  unfold Bo
  split
  ·rename_i h4
   obtain ⟨b1,b2,b3,b4⟩:=Ea h hn h4
   have:=Fy L f _ b1 b2 b3
   rw [List.length_cons]; omega
  ·exact h.pos
theorem bu (A B C:V2):Weak (HN A B C).loose (Xq [A,B,C]):=by
 rw [XT,X5]
 show Weak (AV.sl 3 24 _ false) _
 refine OU (Nat.le_refl _) fun j hj=>?_
 have hj:j<24:=hj
 match j,hj with
 | 0,_=>rfl
 | 1,_=>rfl
 | 2,_=>rfl
 | 3,_=>rfl
 | 4,_=>rfl
 | 5,_=>rfl
 | 6,_=>rfl
 | 7,_=>rfl
 | 8,_=>rfl
 | 9,_=>rfl
 | 10,_=>rfl
 | 11,_=>rfl
 | 12,_=>rfl
 | 13,_=>rfl
 | 14,_=>rfl
 | 15,_=>rfl
 | 16,_=>rfl
 | 17,_=>rfl
 | 18,_=>rfl
 | 19,_=>rfl
 | 20,_=>rfl
 | 21,_=>rfl
 | 22,_=>rfl
 | 23,_=>rfl
 | j+24,h=>omega
theorem Zz (L:List V2):(K3 L).length=(BJ L).length:=by simp [K3]
theorem E8 (L:List V2) (i:Nat) (h:i<(BJ L).length):(K3 L).getD i []=aW L ((BJ L).getD i (0,0,0)):=by
 unfold K3
 rw [List.getD_eq_getElem?_getD,List.getElem?_map,List.getD_eq_getElem?_getD,List.getElem?_eq_getElem h]; rfl
theorem tF (T:List (Nat×Nat×Nat)) (i:Nat):Xs tC 3 (0,0,0) T (i*3)=I (T.getD i (0,0,0)).1∧Xs tC 3 (0,0,0) T (i*3+1)=I (T.getD i (0,0,0)).2.1∧Xs tC 3 (0,0,0) T (i*3+2)=I (T.getD i (0,0,0)).2.2 :=
 ⟨Kh _ _ _ _ _ (by omega),K0 _ _ _ _ _ _ (by omega),K0 _ _ _ _ _ _ (by omega)⟩
theorem HB {H:List AO} (W:List (List V2)) (A B C:V2) (j:Nat) (hj:j<W.length+1):Zy H (QN W.length (Q8 Xq [] W) 1 (Xp [(HN A B C).loose]) j) (Q8 Xq [] (W ++ [[A,B,C]]) j):=by
 unfold QN
 by_cases h:j<W.length
 ·rw [if_pos h,K6,K6]
  have:(W ++ [[A,B,C]]).getD j []=W.getD j []:=by rw [List.getD_eq_getElem?_getD,List.getD_eq_getElem?_getD,List.getElem?_append_left h]
  rw [this]; exact QZ _ _
 ·obtain rfl:j=W.length:=by omega
  rw [if_neg (by omega),if_pos (by omega),K6,Nat.sub_self]
  have:(W ++ [[A,B,C]]).getD W.length []=[A,B,C]:=by rw [List.getD_eq_getElem?_getD,List.getElem?_append_right (Nat.le_refl _),Nat.sub_self]; rfl
  rw [this]
  exact fun c v _ _ hv=>bu A B C c v hv
theorem nA {P:Program} {fn:Func} {str hcs:List Nat} {s:AS} {t u id ver:Nat} {e:AV} (W:List (List V2)) (hr:fn.results=#[.tmp t,.tmp u]) (hs:s.get t=.osl id ver 1 0 W.length) (ho:s.h[id]?=some (.row ver W.length (Q8 Xq [] W))) (hu:s.get u=e) (he:Settled e):RetOk (QR P fn str hcs (.tup [Gv W,e])) s:=by
 refine S7 hr (Zs ⟨?_,QI he hu,trivial⟩)
 rw [hs,XF]
 refine Qw (.inl ho) (by omega) (fun h=>h) fun j hj=>?_
 rw [Nat.zero_add]
 exact (Xd _).sees _
theorem mB (L:List V2) (k:Nat) (hs:XZ L k) (hk:k≤1000) (hp:XM L):Fn Tryz.prog 246 [Xq L] (.tup [Gv (K3 L),I 0]):=by
 have hl:=(JI L hp).1
 have cc:=mD L k hs hk hp
 have hTl:(BJ L).length≤12:=by have:=Fy L L.length _ (Aq hl.1 (by omega)) List.nodup_range (by rw [List.length_range]; omega); rw [List.length_range] at this; unfold BJ; omega
 have hm:=IH L L.length _ (Aq hl.1 (by omega)) List.nodup_range (by rw [List.length_range]; omega)
 have hcl:=Zz L
 have hca:=E8 L
 change ∀ d∈BJ L,_ at hm
 generalize BJ L=T at *
 generalize K3 L=C at *
 have hbL:JM 1 (Xq L)=True:=eq_true (X6 (Xd L))
 have hbT:JM 1 (iH T)=True:=eq_true (X6 (Hw T))
 refine Fq Tryz.call246 Tryz.func246 8 [] [6] [] (by simp [Xd]) (X0 1000 ?_)
 simp only [AS.start,X5,↓X2,wA,seval,wE]
 refine X1 cc rfl ?_
 simp only [X5,Aa,↓X2,wA,seval,wE]
 refine Xg (fun i:Nat=>⟨8,[],[Xq L,.any,.any,.any,iH T,I 0,.osl 0 i 1 0 i,I i],[],[.row i i (Q8 Xq [] (C.take i))]⟩) (fun i=>i≤T.length) (fun i=>T.length - i) 0 (by omega)
  (Sub.trans (Q4 6 1 (Q8 Xq [] []) rfl) (Xa rfl (by simp [AS.put,Xh,X5,Aa,I]) (by simp [AS.put,Xi]) (by simp [AS.put]))) ?_
 intro i hi next
 have w1:=wj i (by omega)
 by_cases hi2:i<T.length
 rotate_left
 ·obtain rfl:i=T.length:=by omega
  refine X0 1000 ?_
  simp only [X5,Aa,Int.lt_irrefl,Nat.lt_irrefl,↓X2,wA,seval,wE]
  rw [List.take_of_length_le (by omega)]
  exact nA C rfl (by rw [hcl]; rfl) (by rw [hcl]; rfl) rfl (X9 _)
 have t1:=tF T i
 obtain ⟨m1,m2,m3⟩:=hm (T.getD i (0,0,0)) (QE hi2)
 have hc1:=hca i hi2
 have htk:C.take (i+1)=C.take i ++ [C.getD i []]:=Q0 C [] i (by omega)
 have hwl:(C.take i).length=i:=by rw [List.length_take]; omega
 have nx:=next (i+1)
 rw [htk,hc1] at nx
 unfold aW at nx
 generalize (T.getD i (0,0,0)).1=a at *
 generalize (T.getD i (0,0,0)).2.1=b at *
 generalize (T.getD i (0,0,0)).2.2=c at *
 have va:=vF L a
 have vb:=vF L b
 have vc:=vF L c
 have hgr:=@HB [.row (i+1) (i+1) (QN i (Q8 Xq [] (C.take i)) 1 (Xp [(HN (L.getD a v0) (L.getD b v0) (L.getD c v0)).loose]))] (C.take i) (L.getD a v0) (L.getD b v0) (L.getD c v0)
 rw [hwl] at hgr
 generalize L.getD a v0=A at *
 generalize L.getD b v0=B at *
 generalize L.getD c v0=D at *
 generalize C.take i=W at *
 refine X0 1000 ?_
 simp (disch:=omega) only [X5,Aa,t1,va,vb,vc,wD,Int.reduceToNat,↓X2,wA,seval,wE]
 exact nx _ (by omega) (by omega) (Sub.trans (Xa (s':=⟨8,[],[Xq L,.any,.any,.any,iH T,I 0,.osl 0 (i+1) 1 0 (i+1),I (i+1:Nat)],[],[.row (i+1) (i+1) (QN i (Q8 Xq [] W) 1 (Xp [(HN A B D).loose]))]⟩) rfl (by simp [Xh,X5,Aa,I]) (by simp [Xi]) (by simp [XT,X4,AV.loose])) (Sub.trans (Zt 0 (Q8 Xq [] (W ++ [[A,B,D]])) rfl (fun j hj=>hgr j hj)) (Xa rfl (by simp [Xh]) (by simp [Xi]) rfl)))
theorem sS {P:Program} {fn:Func} {str hcs:List Nat} {b:Nat} {r1 r2:AV} {H:List AO} {s:AS} {t u:Nat} (hr:fn.results=#[.tmp t,.tmp u]) (h1:s.get t=r1) (h2:s.get u=r2) (hH:s.h=H):RetOk (Dv P fn str hcs b (.tup [r1,r2]) H) s :=
 ⟨.tup [r1,r2],by show KP P fn s=_; simp [KP,hr,J6,QT,A0,h1,h2],rfl,hH⟩
theorem pE (o1 o2:AO) (B1:∀ m,2≤m→XK m o1) (B2:∀ m,2≤m→XK m o2) (L:List V2) (k:Nat) (hs:XZ L k) (hk:k≤1000) (hp:CM L) :
  HCall Tryz.prog 245 [Xq L] [o1,o2] (.tup [.osl 2 (K3 L).length 1 0 (K3 L).length,I 0]) [o1,o2,.row (K3 L).length (K3 L).length (Q8 Xq [] (K3 L))]:=by
 have hl:=hp.1
 have cc:=kI L k hs hk hp
 have hTl:(BJ L).length≤12:=by have:=Fy L L.length _ (Aq hl.1 (by omega)) List.nodup_range (by rw [List.length_range]; omega); rw [List.length_range] at this; unfold BJ; omega
 have hm:=IH L L.length _ (Aq hl.1 (by omega)) List.nodup_range (by rw [List.length_range]; omega)
 have hcl:=Zz L
 have hca:=E8 L
 change ∀ d∈BJ L,_ at hm
 generalize BJ L=T at *
 generalize K3 L=C at *
 have hbL:JM 3 (Xq L)=True:=eq_true (X6 (Xd L))
 have hbT:JM 3 (iH T)=True:=eq_true (X6 (Hw T))
 have q1:XK 3 o1=True:=eq_true (B1 3 (by omega))
 have q2:XK 3 o2=True:=eq_true (B2 3 (by omega))
 have s1:∀ v n f A B C,XK 3 (.row v (n+1) (QN n (Q8 Xq [] f) 1 (Xp [(HN A B C).loose])))=True:=fun v n f A B C=>eq_true fun j hj=>by
  unfold QN
  have hset:Settled (HN A B C).loose:=by rw [XT]; exact J7 fun j _=>Xe (l:=[_,_,_,_,_,_,_,_,_,_,_,_,_,_,_,_,_,_,_,_,_,_,_,_]) (by simp [X7,X3]) j
  split
  ·exact X6 (Xd _)
  ·rw [show j - n=0 by omega]
   exact X6 hset
 refine HCall.intro (fn:=Tryz.f245) Tryz.call245 Tryz.func245 rfl mixed 9 [14,15,16] [6,70000008] [] (by kernel_rfl) (Nat.le_of_ble_eq_true rfl) (X0 1000 ?_)
 simp only [AS.start,X5,↓X2,wA,seval,wE]
 refine X1 cc rfl ?_
 simp only [X5,Aa,↓X2,wA,seval,wE]
 refine Xg (fun i:Nat=>⟨9,[14,15,16],[Xq L,.any,.any,.any,.any,I 0,.osl 2 i 1 0 i,.any,.any],[(14,iH T),(15,I T.length),(16,I i)],[o1,o2,.row i i (Q8 Xq [] (C.take i))]⟩) (fun i=>i≤T.length) (fun i=>T.length - i) 0 (by omega)
  (Sub.trans (Q4 6 1 (Q8 Xq [] []) rfl) (Xa rfl (by simp [AS.put,Xh,X5,I]) (by simp [AS.put,Xi,Xw,Aa,I]) (by simp [AS.put]))) ?_
 intro i hi next
 have w1:=wj i (by omega)
 by_cases hi2:i<T.length
 rotate_left
 ·obtain rfl:i=T.length:=by omega
  refine X0 1000 ?_
  simp only [X5,Aa,Int.lt_irrefl,Nat.lt_irrefl,↓X2,wA,seval,wE]
  rw [List.take_of_length_le (by omega)]
  exact sS rfl (by rw [hcl]; rfl) rfl (by rw [hcl])
 have t1:=tF T i
 obtain ⟨m1,m2,m3⟩:=hm (T.getD i (0,0,0)) (QE hi2)
 have hc1:=hca i hi2
 have htk:C.take (i+1)=C.take i ++ [C.getD i []]:=Q0 C [] i (by omega)
 have hwl:(C.take i).length=i:=by rw [List.length_take]; omega
 have nx:=next (i+1)
 rw [htk,hc1] at nx
 unfold aW at nx
 generalize (T.getD i (0,0,0)).1=a at *
 generalize (T.getD i (0,0,0)).2.1=b at *
 generalize (T.getD i (0,0,0)).2.2=c at *
 have va:=vF L a
 have vb:=vF L b
 have vc:=vF L c
 have hgr:=@HB [o1,o2,.row (i+1) (i+1) (QN i (Q8 Xq [] (C.take i)) 1 (Xp [(HN (L.getD a v0) (L.getD b v0) (L.getD c v0)).loose]))] (C.take i) (L.getD a v0) (L.getD b v0) (L.getD c v0)
 rw [hwl] at hgr
 generalize L.getD a v0=A at *
 generalize L.getD b v0=B at *
 generalize L.getD c v0=D at *
 generalize C.take i=W at *
 refine X0 1000 ?_
 simp (disch:=omega) only [X5,Aa,t1,va,vb,vc,wD,Int.reduceToNat,↓X2,wA,seval,wE]
 exact nx _ (by omega) (by omega) (Sub.trans (Xv (m:=3) (s':=⟨9,[14,15,16],[Xq L,.any,.any,.any,.any,I 0,.osl 2 (i+1) 1 0 (i+1),.any,.any],[(14,iH T),(15,I T.length),(16,I (i+1:Nat))],[o1,o2,.row (i+1) (i+1) (QN i (Q8 Xq [] W) 1 (Xp [(HN A B D).loose]))]⟩) (by simp [Dv]) rfl (by simp [Xh,X5,I]) (by simp [Xi,Xw,Aa,I]) (by simp [XT,X4,AV.loose]) (by simp [Xy,hbL]) (by simp [Xy,hbT]) (by simp [q1,q2,s1])) (Sub.trans (Zt 2 (Q8 Xq [] (W ++ [[A,B,D]])) rfl (fun j hj=>hgr j hj)) (Xa rfl (by simp [Xh]) (by simp [Xi,Xw]) rfl)))
def HK (f:List V2→List V2) (C:List (List V2)) (i:Nat):List (List V2):=(C.take i).map f ++ C.drop i
theorem qv (f:List V2→List V2) (C:List (List V2)):HK f C 0=C:=rfl
theorem gj (f:List V2→List V2) (C:List (List V2)):HK f C C.length=C.map f:=by unfold HK; simp
theorem m8 (f:List V2→List V2) (C:List (List V2)) (i:Nat) (h:i<C.length):(HK f C i).getD i []=C.getD i []:=by
 unfold HK
 rw [List.getD_eq_getElem?_getD,List.getElem?_append_right (by simp; omega),List.getD_eq_getElem?_getD]
 simp [Nat.min_eq_left (Nat.le_of_lt h)]
theorem gk (f:List V2→List V2) (C:List (List V2)) (i:Nat) (h:i≤C.length):(HK f C i).length=C.length:=by unfold HK; simp; omega
theorem gl (f:List V2→List V2) (C:List (List V2)) (i:Nat) (h:i<C.length):(HK f C i).set i (f (C.getD i []))=HK f C (i+1):=by
 refine List.ext_getElem? fun j=>?_
 unfold HK
 rw [List.getElem?_set]
 by_cases hj:i=j
 ·subst hj
  rw [if_pos rfl,if_pos (by simp; omega),List.getElem?_append_left (by simp; omega),List.getElem?_map,List.getElem?_take,if_pos (by omega),List.getElem?_eq_getElem h,List.getD_eq_getElem?_getD,List.getElem?_eq_getElem h]; rfl
 ·rw [if_neg hj]
  by_cases hlt:j<i
  ·rw [List.getElem?_append_left (by simp; omega),List.getElem?_append_left (by simp; omega),List.getElem?_map,List.getElem?_map,List.getElem?_take,List.getElem?_take,if_pos hlt,if_pos (by omega)]
  ·rw [List.getElem?_append_right (by simp; omega),List.getElem?_append_right (by simp; omega),List.getElem?_drop,List.getElem?_drop]
   congr 1
   simp; omega
def Kb (p:PV) (t c:V2):List (List V2):=(K3 (XB p.rim)).map (Kl t c)
theorem Es {R:List (Int×Int)} (h:QV R):XZ (XB R) 3:=fun i=>by rw [Gb]; exact KA h i
theorem EP:vb v0≤3:=by
 have:=KA (R:=[]) (fun c hc=>absurd hc List.not_mem_nil) 0
 exact this
theorem Dq (L:List V2) (k:Nat) (h:XZ L k) (hk:3≤k) (i:Nat):XZ ((K3 L).getD i []) k:=by
 by_cases hi:i<(BJ L).length
 ·rw [E8 L i hi]
  intro j
  unfold aW
  match j with
  | 0=>exact h _
  | 1=>exact h _
  | 2=>exact h _
  | j+3=>exact Nat.le_trans EP hk
 ·have e:(K3 L).getD i []=[]:=by rw [List.getD_eq_getElem?_getD,List.getElem?_eq_none (by rw [Zz]; omega)]; rfl
  rw [e]
  exact fun j=>Nat.le_trans EP hk
theorem EY (L:List V2) (i:Nat) (hi:i<(BJ L).length):((K3 L).getD i []).length=3:=by rw [E8 L i hi]; rfl
theorem HU {L:List V2} (hl:3≤L.length∧L.length≤12):(BJ L).length≤12:=by
 have:=Fy L L.length _ (Aq hl.1 (by omega)) List.nodup_range (by rw [List.length_range]; omega)
 rw [List.length_range] at this
 unfold BJ; omega
theorem LV (l:List V2):(Xq l).cells=[Xq l]:=nrfl rfl
theorem SK (l:List V2):(Xq l).one=true:=nrfl rfl
theorem LW (l:List V2):(Xq l).loose=Xq l:=nrfl rfl
theorem Nl (p:PV) (t c:V2) (hp:CM (XB p.rim)) (hn:QV p.rim) (ht:vb t≤1000) (hc:vb c≤1000):Fn Tryz.prog 202 [QW p,VO t c] (Gv (Kb p t c)):=by
 have hl:=hp.1
 have hle:=HU hl
 have hrl:(XB p.rim).length=p.rim.length:=by simp [XB]
 have r1:=Ux p (by omega) (AE hn)
 have sm:=Es hn
 have hcs:=Dq (XB p.rim) 3 sm (Nat.le_refl _)
 have h3:=EY (XB p.rim)
 have hcl:=Zz (XB p.rim)
 have B1:∀ m,2≤m→XK m (.row 0 25 (Xp (XH p))):=fun m _=>XE (XA p)
 have B2:∀ m,2≤m→XK m (.row 0 16 (Xp (G1 t c))):=fun m _=>XE (KU t c)
 have co:=pE (.row 0 25 (Xp (XH p))) (.row 0 16 (Xp (G1 t c))) B1 B2 (XB p.rim) 3 sm (by omega) hp
 unfold Kb
 generalize XB p.rim=L at *
 rw [← hcl] at h3 hle
 generalize K3 L=C at *
 refine Fq Tryz.call202 Tryz.func202 9 [15,16,17] [] [] (by simp [Xz,ZN]) (X0 1000 ?_)
 simp (disch:=omega) only [AS.start,QW,XH,VO,G1,wD,↓X2,wA,seval,wE]
 refine X1 r1 rfl ?_
 simp (disch:=omega) only [X5,wD,↓X2,wA,seval,wE]
 refine Kz rfl co (QX (fun o h=>?_) (fun o h=>?_)) (fun id=>?_) (Q5 _) ?_
 ·simp only [List.mem_cons,List.not_mem_nil,or_false] at h
  rcases h with rfl | rfl <;> simp
 ·simp only [List.mem_cons,List.not_mem_nil,or_false] at h
  rcases h with rfl | rfl | rfl <;> simp
 ·match id with
  | 0=>simp
  | 1=>simp
  | n+2=>simp
 simp (disch:=omega) only [wD,↓X2,wA,seval,wE]
 refine Xg (fun i:Nat=>⟨9,[15,16,17],[.any,.any,.any,.ref 1 0 0,.any,.osl 2 C.length 1 0 C.length,.any,.any,.any],[(15,.osl 2 C.length 1 0 C.length),(16,I C.length),(17,I i)],[.row 0 25 (Xp (XH p)),.row 0 16 (Xp (G1 t c)),.row C.length C.length (Q8 Xq [] (HK (Kl t c) C i))]⟩) (fun i=>i≤C.length) (fun i=>C.length - i) 0 (by omega)
  (Xa rfl (by simp [Xh,I]) (by simp [Xi,Xw,I]) (by simp [XH,G1,X4,Xf,Xo,qv,I])) ?_
 intro i hi next
 by_cases hi2:i<C.length
 rotate_left
 ·obtain rfl:i=C.length:=by omega
  refine X0 1000 ?_
  simp (disch:=omega) only [wD,↓X2,wA,seval,wE]
  rw [gj]
  have hml:(C.map (Kl t c)).length=C.length:=List.length_map ..
  refine Ba rfl ?_
  rw [XF,hml]
  refine Qw (id:=2) (m:=C.length) (f:=Q8 Xq [] (C.map (Kl t c))) (.inl rfl) (by omega) (fun h=>h) fun j hj=>?_
  rw [Nat.zero_add]
  exact (Xd _).sees _
 have v1:=oz (HK (Kl t c) C i) i
 rw [m8 _ _ _ hi2] at v1
 have cm:=gQ t c (C.getD i []) 3 (hcs i) (by omega) (by rw [h3 i hi2]; omega) (by omega) (by omega)
 refine X0 1000 ?_
 simp (disch:=omega) only [v1,wD,↓X2,wA,seval,wE]
 refine X1 cm rfl ?_
 simp (disch:=omega) only [LV,SK,LW,wD,↓X2,wA,seval,wE]
 exact next (i+1) _ (by omega) (by omega) (Xa rfl (by simp [Xh]) (by simp [Xi,Xw,I]) (by rw [← gl _ _ _ hi2,← Wf _ _ _ _ _ (by rw [gk _ _ _ hi]; exact hi2)]))
theorem Hl (p:PV) (t c:V2) (hp:XM (XB p.rim)) (hn:QV p.rim) (ht:vb t≤1000) (hc:vb c≤1000):Fn Tryz.prog 212 [QW p,VO t c] (Gv (Kb p t c)):=by
 have hl:=(JI _ hp).1
 have hle:=HU hl
 have hrl:(XB p.rim).length=p.rim.length:=by simp [XB]
 have r1:=DR p (by omega) (AE hn)
 have sm:=Es hn
 have hcs:=Dq (XB p.rim) 3 sm (Nat.le_refl _)
 have h3:=EY (XB p.rim)
 have hcl:=Zz (XB p.rim)
 have co:=mB (XB p.rim) 3 sm (by omega) hp
 unfold Kb
 generalize XB p.rim=L at *
 rw [← hcl] at h3 hle
 generalize K3 L=C at *
 have q1:XK 3 (.row 0 25 (Xp (XH p)))=True:=eq_true (XE (XA p))
 have q2:XK 3 (.con 0 16 (Xp (G1 t c)))=True:=eq_true (fun j _=>X6 (Xe (KU t c) j))
 have q3:∀ v n l,XK 3 (.row v n (Q8 Xq [] l))=True:=fun v n l=>eq_true fun j _=>X6 (Xd _)
 have q4:JM 3 (Gv C)=True:=eq_true (X6 (JZ C))
 refine Fq Tryz.call212 Tryz.func212 9 [] [6,70000003] [] (by simp [Xz,ZN]) (X0 1000 ?_)
 simp (disch:=omega) only [AS.start,QW,XH,VO,G1,wD,↓X2,wA,seval,wE]
 refine X1 r1 rfl ?_
 simp (disch:=omega) only [X5,wD,↓X2,wA,seval,wE]
 refine X1 co rfl ?_
 simp (disch:=omega) only [XF,wD,↓X2,wA,seval,wE]
 refine Xg (fun i:Nat=>⟨9,[],[.any,.any,.any,.ref 1 0 0,.any,Gv C,.any,.osl 2 i 1 0 i,I i],[],[.row 0 25 (Xp (XH p)),.con 0 16 (Xp (G1 t c)),.row i i (Q8 Xq [] ((C.map (Kl t c)).take i))]⟩) (fun i=>i≤C.length) (fun i=>C.length - i) 0 (by omega)
  (Sub.trans (Q2 1 rfl) (Sub.trans (Q4 7 1 (Q8 Xq [] []) rfl) (Xa rfl (by simp [AS.put,Xh,XF,I]) (by simp [AS.put,Xi]) (by simp [AS.put,XH,G1,X4,Xf,Xo,I])))) ?_
 have hml:(C.map (Kl t c)).length=C.length:=List.length_map ..
 intro i hi next
 by_cases hi2:i<C.length
 rotate_left
 ·obtain rfl:i=C.length:=by omega
  refine X0 1000 ?_
  simp (disch:=omega) only [XF,wD,↓X2,wA,seval,wE]
  rw [List.take_of_length_le (by omega)]
  refine Ba rfl ?_
  rw [XF,hml]
  refine Qw (id:=2) (m:=C.length) (f:=Q8 Xq [] (C.map (Kl t c))) (.inl rfl) (by omega) (fun h=>h) fun j hj=>?_
  rw [Nat.zero_add]
  exact (Xd _).sees _
 have v1:=oz C i
 have cm:=S1 t c (C.getD i []) 3 (hcs i) (by omega) (by rw [h3 i hi2]; omega) (by omega) (by omega)
 have hat:(C.map (Kl t c)).getD i []=Kl t c (C.getD i []):=by rw [List.getD_eq_getElem?_getD,List.getElem?_map,List.getD_eq_getElem?_getD,List.getElem?_eq_getElem hi2]; rfl
 have htk:(C.map (Kl t c)).take (i+1)=(C.map (Kl t c)).take i ++ [Kl t c (C.getD i [])]:=by rw [Q0 _ [] i (by omega),hat]
 have hap:=It Xq [] ((C.map (Kl t c)).take i) (Kl t c (C.getD i []))
 rw [← htk,List.length_take,Nat.min_eq_left (by omega),Nat.mul_one] at hap
 refine X0 1000 ?_
 simp (disch:=omega) only [XF,v1,wD,↓X2,wA,seval,wE]
 refine X1 cm rfl ?_
 simp (disch:=omega) only [LV,SK,LW,wD,↓X2,wA,seval,wE]
 exact next (i+1) _ (by omega) (by omega) (Xa rfl (by simp [Xh,XF,I]) (by simp [Xi]) (by rw [← hap]))
def FP (f:FV):V2:=(f.lo.add f.hi).scale (Rat.divInt 1 2)
def KK (a b:PV) (f:FV) (e:Rat):Bool:=HE (Kb a KH v0) (Kb b f.turn (FP f)) (-e)
structure GP (p:PV) (t:Rat):Prop where
 even:p.even
 poly:XM (XB p.rim)
 tol:p.tol=RQ.of t
 qt:qb t≤20
structure FV.fine (f:FV):Prop where
 turn:vb f.turn≤60
 lo:vb f.lo≤300
 hi:vb f.hi≤300
theorem EX (p:PV) (t c:V2):(Kb p t c).length=(BJ (XB p.rim)).length:=by unfold Kb; rw [List.length_map,Zz]
theorem ID (p:PV) (t c:V2) (hn:QV p.rim) (ht:vb t≤100) (hc:vb c≤700):∀ i,i<(Kb p t c).length→Shp 1000 ((Kb p t c).getD i []):=fun i hi=>by
 rw [EX] at hi
 have e:(Kb p t c).getD i []=Kl t c ((K3 (XB p.rim)).getD i []):=by
  unfold Kb
  rw [List.getD_eq_getElem?_getD,List.getElem?_map,List.getD_eq_getElem?_getD,List.getElem?_eq_getElem (by rw [Zz]; exact hi)]; rfl
 have hs:=Dq (XB p.rim) 3 (Es hn) (Nat.le_refl _) i
 have h3:=EY (XB p.rim) i hi
 rw [e]
 generalize (K3 (XB p.rim)).getD i []=W at *
 have hl:(Kl t c W).length=3:=by unfold Kl; rw [List.length_map,h3]
 refine ⟨fun j=>?_,by omega,by omega⟩
 by_cases hj:j<W.length
 ·have ej:(Kl t c W).getD j v0=put t c (W.getD j v0):=by
   unfold Kl
   rw [List.getD_eq_getElem?_getD,List.getElem?_map,List.getD_eq_getElem?_getD,List.getElem?_eq_getElem hj]; rfl
  rw [ej]
  have:=rh t c (W.getD j v0)
  have:=hs j
  omega
 ·rw [List.getD_eq_getElem?_getD,List.getElem?_eq_none (by omega)]
  exact Nat.le_trans EP (by omega)
theorem Ot:qb (Rat.divInt 1 2)≤10:=by decide +kernel
theorem UL (f:FV) (h:f.fine):vb (FP f)≤700:=by
 have h1:=Cb f.lo f.hi
 have h2:=iQ (f.lo.add f.hi) (Rat.divInt 1 2)
 have:=Ot
 have:=h.lo; have:=h.hi
 unfold FP; omega
theorem E0:vb KH≤10:=by decide +kernel
theorem Pt (a b:PV) (f:FV) {ta tb:Rat} (ha:GP a ta) (hb:GP b tb) (hf:f.fine):(∀ i,i<(Kb a KH v0).length→Shp 1000 ((Kb a KH v0).getD i []))∧(∀ i,i<(Kb b f.turn (FP f)).length→Shp 1000 ((Kb b f.turn (FP f)).getD i [])) ∧
  (Kb a KH v0).length≤1000∧(Kb b f.turn (FP f)).length≤1000:=by
 have h1:=HU (JI _ ha.poly).1
 have h2:=HU (JI _ hb.poly).1
 have:=E0
 have:=EP
 exact ⟨ID a KH v0 ha.even.near (by omega) (by omega),ID b f.turn (FP f) hb.even.near (by have:=hf.turn; omega) (UL f hf),by rw [EX]; omega,by rw [EX]; omega⟩
theorem SO:Weak (.agg (vC KH ++ [.bool false,.sl 0 0 (fun _=>.any) true,.bool false,.sl 0 0 (fun _=>.any) true,.bool false,.sl 0 0 (fun _=>.any) true,.bool false,.sl 0 0 (fun _=>.any) true])) (VO KH v0):=by
 refine XV ?_
 have h:=Gt true
 exact ⟨Weak.rfl' _,Weak.rfl' _,Weak.rfl' _,Weak.rfl' _,Weak.rfl' _,Weak.rfl' _,Weak.rfl' _,Weak.rfl' _,h⟩
theorem MR (a b:PV) (f:FV) {ta tb:Rat} (ha:GP a ta) (hb:GP b tb) (hf:f.fine):Fn Tryz.prog 137 [QW a,QW b,Zc f] (.bool (KK a b f (ta+tb))):=by
 have qa:=ha.qt; have q2:=hb.qt
 have f1:=hf.turn; have f2:=hf.lo; have f3:=hf.hi
 have c1:=Ol f.lo f.hi (by unfold vm; omega) (by unfold vm; omega)
 have c2:=Fi 1 2 (CJ (by omega) (by omega)) (CJ (by omega) (by omega))
 have m1:=Cb f.lo f.hi
 have m2:=UL f hf
 have c3:=Nu (f.lo.add f.hi) (Rat.divInt 1 2) (by unfold vm; omega) (by have:=Ot; unfold vm; omega)
 have c4:=Nl a KH v0 (JI _ ha.poly) ha.even.near (by have:=E0; omega) (by have:=EP; omega)
 have c5:=Nl b f.turn (FP f) (JI _ hb.poly) hb.even.near (by omega) (by omega)
 have qe:=K5 ta tb
 have c6:Fn Tryz.prog 70 [a.tol.A,b.tol.A] (qA (ta+tb)):=by rw [ha.tol,hb.tol]; exact B9 ta tb (by unfold rm; omega) (by unfold rm; omega)
 have c7:=CW (ta+tb)
 obtain ⟨k1,k2,k3,k4⟩:=Pt a b f ha hb hf
 have c8:=jH _ _ (-(ta+tb)) 1000 k1 k2 (by omega) (by omega) (by rw [Bx]; omega) k3 k4
 change Fn _ _ [vA (f.lo.add f.hi),qA (Rat.divInt 1 2)] (vA (FP f)) at c3
 obtain ⟨V,hV⟩:∃ V,V=KK a b f (ta+tb):=⟨_,rfl⟩
 change Fn _ _ _ (.tup [.any,.bool (KK a b f (ta+tb))]) at c8
 rw [← hV] at c8 ⊢
 generalize FP f=M at *
 refine Fq Tryz.call137 Tryz.func137 10 [] [1,20000005,2,30000003,30000004,30000007] [] (by simp [Xz,Qg]) (X0 1000 ?_)
 simp (disch:=omega) only [AS.start,QW,XH,Zc,XW,↓Xl,wD,↓X2,wA,seval,wE]
 refine X1 c1 rfl ?_
 simp (disch:=omega) only [↓Xl,wD,↓X2,wA,seval,wE]
 refine X1 c2 rfl ?_
 simp (disch:=omega) only [↓Xl,wD,↓X2,wA,seval,wE]
 refine X1 c3 rfl ?_
 simp (disch:=omega) only [↓Xl,wD,↓X2,wA,seval,wE]
 refine X1 au rfl ?_
 simp (disch:=omega) only [↓Xl,wD,↓X2,wA,seval,wE]
 refine Q3 c4 ⟨Weak.rfl' _,SO,trivial⟩ ?_
 simp (disch:=omega) only [XF,↓Xl,wD,↓X2,wA,seval,wE]
 refine X1 c5 rfl ?_
 simp (disch:=omega) only [XF,↓Xl,wD,↓X2,wA,seval,wE]
 refine X1 c6 rfl ?_
 simp (disch:=omega) only [XF,↓Xl,wD,↓X2,wA,seval,wE]
 refine X1 c7 rfl ?_
 simp (disch:=omega) only [XF,↓Xl,wD,↓X2,wA,seval,wE]
 refine X1 c8 rfl ?_
 simp (disch:=omega) only [↓Xl,wD,↓X2,wA,seval,wE]
 exact Xu rfl rfl (X3 _) rfl
theorem RU (a b:PV) (f:FV) {ta tb:Rat} (ha:GP a ta) (hb:GP b tb) (hf:f.fine):Fn Tryz.prog 151 [QW a,QW b,Zc f] (.bool (KK a b f (ta+tb))):=by
 have qa:=ha.qt; have q2:=hb.qt
 have f1:=hf.turn; have f2:=hf.lo; have f3:=hf.hi
 have c1:=Fg f.lo f.hi (by unfold vm; omega) (by unfold vm; omega)
 have c2:=Jg 1 2 (CJ (by omega) (by omega)) (CJ (by omega) (by omega))
 have m1:=Cb f.lo f.hi
 have m2:=UL f hf
 have c3:=Oy (f.lo.add f.hi) (Rat.divInt 1 2) (by unfold vm; omega) (by have:=Ot; unfold vm; omega)
 have c4:=Hl a KH v0 ha.poly ha.even.near (by have:=E0; omega) (by have:=EP; omega)
 have c5:=Hl b f.turn (FP f) hb.poly hb.even.near (by omega) (by omega)
 have qe:=K5 ta tb
 have c6:Fn Tryz.prog 76 [a.tol.A,b.tol.A] (qA (ta+tb)):=by rw [ha.tol,hb.tol]; exact Jx ta tb (by unfold rm; omega) (by unfold rm; omega)
 have c7:=ZB (ta+tb) (by unfold rm; omega)
 obtain ⟨k1,k2,k3,k4⟩:=Pt a b f ha hb hf
 have c8:=mC _ _ (-(ta+tb)) 1000 k1 k2 (by omega) (by omega) (by rw [Bx]; omega) k3 k4
 change Fn _ _ [vA (f.lo.add f.hi),qA (Rat.divInt 1 2)] (vA (FP f)) at c3
 obtain ⟨V,hV⟩:∃ V,V=KK a b f (ta+tb):=⟨_,rfl⟩
 change Fn _ _ _ (.tup [.any,.bool (KK a b f (ta+tb))]) at c8
 rw [← hV] at c8 ⊢
 generalize FP f=M at *
 refine Fq Tryz.call151 Tryz.func151 11 [] [1,20000005,2,30000003,3,40000004,40000007] [] (by simp [Xz,Qg]) (X0 1000 ?_)
 simp (disch:=omega) only [AS.start,QW,XH,Zc,XW,↓Xl,wD,↓X2,wA,seval,wE]
 refine X1 c1 rfl ?_
 simp (disch:=omega) only [↓Xl,wD,↓X2,wA,seval,wE]
 refine X1 c2 rfl ?_
 simp (disch:=omega) only [↓Xl,wD,↓X2,wA,seval,wE]
 refine X1 c3 rfl ?_
 simp (disch:=omega) only [↓Xl,wD,↓X2,wA,seval,wE]
 refine X1 Oz rfl ?_
 simp (disch:=omega) only [↓Xl,wD,↓X2,wA,seval,wE]
 refine Q3 c4 ⟨Weak.rfl' _,SO,trivial⟩ ?_
 simp (disch:=omega) only [XF,↓Xl,wD,↓X2,wA,seval,wE]
 refine X1 c5 rfl ?_
 simp (disch:=omega) only [XF,↓Xl,wD,↓X2,wA,seval,wE]
 refine X1 c6 rfl ?_
 simp (disch:=omega) only [XF,↓Xl,wD,↓X2,wA,seval,wE]
 refine X1 c7 rfl ?_
 simp (disch:=omega) only [XF,↓Xl,wD,↓X2,wA,seval,wE]
 refine X1 c8 rfl ?_
 simp (disch:=omega) only [↓Xl,wD,↓X2,wA,seval,wE]
 exact Xu rfl rfl (X3 _) rfl
def Bm (a b:PV) (f:FV) (e:Rat):Int :=
 if Bc a.rim.length b.rim.length f then if Ey a b f then if Tt a b f then
  if (XG a.rim b.rim f e).2.2=true∧(XG a.rim b.rim f e).1=f.lo∧(XG a.rim b.rim f e).2.1=f.hi then if KK a b f e=true then 0 else 13
  else 22 else 21 else 12 else 5
theorem iN (a b:PV) (f:FV) (na:QV a.rim) (nb:QV b.rim) (e:Rat) (ht:vb f.turn≤1000) (qe:qb e≤3000):vb (XG a.rim b.rim f e).1≤7000∧vb (XG a.rim b.rim f e).2.1≤7000:=by
 have z:=EP
 have h1:=Cn na nb f ht f.M.toNat
 have h2:=Cl na nb f ht f.M.toNat
 have h3:=K7 (Am a.rim b.rim f f.M.toNat) ⟨e,e⟩
 have h4:=Cb (Ak a.rim b.rim f f.M.toNat) ⟨e,e⟩
 have h5:vb ⟨e,e⟩=qb e:=by unfold vb; simp
 unfold XG
 split
 ·simp only
  split
  ·exact ⟨by show vb v0≤_; omega,by show vb v0≤_; omega⟩
  ·exact ⟨by simp only; omega,by simp only; omega⟩
 ·exact ⟨by show vb v0≤_; omega,by show vb v0≤_; omega⟩
theorem Ed (a b:PV) (f:FV) {ta tb:Rat} (ha:GP a ta) (hb:GP b tb) (hf:f.fine):Fn Tryz.prog 52 [QW a,QW b,Zc f] (I (Bm a b f (ta+tb))):=by
 obtain ⟨V,hV⟩:∃ V,V=Bm a b f (ta+tb):=⟨_,rfl⟩
 rw [← hV]
 unfold Bm at hV
 have qa:=ha.qt; have q2:=hb.qt
 have qe:=K5 ta tb
 have f1:=hf.turn; have f2:=hf.lo; have f3:=hf.hi
 have fin:∀ {s:AS} {n:Int},s.get 6=I n→n=V→RetOk (QR Tryz.prog Tryz.f52 [] [] (I V)) s:=fun h e=>Xu rfl h (X9 _) (by rw [e])
 have c1:=Dy a b f ha.even.rim hb.even.rim
 have c4:=Il a b f ha.even hb.even (by omega) ha.tol hb.tol (by omega) (by omega)
 have ⟨g1,g2⟩:=iN a b f ha.even.near hb.even.near (ta+tb) (by omega) (by omega)
 have c7:=MR a b f ha hb hf
 refine Fq Tryz.call52 Tryz.func52 10 [] [] [] (by simp [Xz,Qg]) (X0 1000 ?_)
 simp (disch:=omega) only [AS.start,QW,XH,Zc,XW,↓Xl,wD,↓X2,wA,seval,wE]
 refine X1 c1 rfl ?_
 by_cases h1:Bc a.rim.length b.rim.length f
 rotate_left
 ·simp (disch:=omega) only [decide_eq_false h1,↓Xl,wD,↓X2,wA,seval,wE]
  exact fin rfl (by rw [hV,if_neg h1])
 have c2:=Hj a b f h1 ha.even hb.even
 have c3:=Tu a b f h1 ha.even hb.even
 have cl:=Dn a b f f.M.toNat
 have hM:f.M.toNat<1000000:=by have:=h1.2.2.2.1; have:=ha.even.rim; omega
 have ca:=Mw (Qs a b f f.M.toNat) 142 [nY f] (fun x=>decide (x=f.turn)) (by omega) (fun x hx=>by rw [List.mem_singleton.1 hx]; exact C2 f) (fun x hx=>Yk x f (by have:=EW a b f ha.even.near hb.even.near _ x hx; unfold vm; omega) (by unfold vm; omega))
 have hany:(Qs a b f f.M.toNat).any (fun x=>decide (x=f.turn))=decide (Tt a b f):=by
  have:=Ir a b f f.turn f.M.toNat
  cases hq:(Qs a b f f.M.toNat).any (fun x=>decide (x=f.turn)) with
  | true=>exact (decide_eq_true (p:=Tt a b f) (this.1 hq)).symm
  | false=>exact (decide_eq_false (p:=Tt a b f) (fun hh=>by rw [this.2 hh] at hq; cases hq)).symm
 rw [hany] at ca
 generalize Qs a b f f.M.toNat=W at *
 have sB:JE [.row 0 25 (Xp (XH a)),.row 0 25 (Xp (XH b)),.row 0 29 (Xp (XW f))] (.ref 2 0 0) (nY f):=KR (.inl rfl) (by omega) fun j hj=>(Xe (XU f) j).sees _
 rw [if_pos h1] at hV
 simp (disch:=omega) only [decide_eq_true h1,↓Xl,wD,↓X2,wA,seval,wE]
 refine X1 c2 rfl ?_
 by_cases h2:Ey a b f
 rotate_left
 ·simp (disch:=omega) only [decide_eq_false h2,↓Xl,wD,↓X2,wA,seval,wE]
  exact fin rfl (by rw [hV,if_neg h2])
 rw [if_pos h2] at hV
 simp (disch:=omega) only [decide_eq_true h2,↓Xl,wD,↓X2,wA,seval,wE]
 refine X1 c3 rfl ?_
 simp (disch:=omega) only [X5,↓Xl,wD,↓X2,wA,seval,wE]
 refine JF ca rfl ⟨(Xd W).sees _,C1 ⟨sB,trivial⟩,trivial⟩ (Aj _) ?_
 by_cases h3:Tt a b f
 rotate_left
 ·simp (disch:=omega) only [decide_eq_false h3,↓Xl,wD,↓X2,wA,seval,wE]
  exact fin rfl (by rw [hV,if_neg h3])
 rw [if_pos h3] at hV
 simp (disch:=omega) only [decide_eq_true h3,↓Xl,wD,↓X2,wA,seval,wE]
 refine X1 c4 rfl ?_
 generalize XG a.rim b.rim f (ta+tb)=G at *
 obtain ⟨lo,hi,ok⟩:=G
 simp only at hV g1 g2
 have c5:=VQ lo f.lo (by unfold vm; omega) (by unfold vm; omega)
 have c6:=VQ hi f.hi (by unfold vm; omega) (by unfold vm; omega)
 cases ok with
 | false =>
  simp (disch:=omega) only [↓Xl,wD,↓X2,wA,seval,wE]
  exact fin rfl (by rw [hV,if_neg (fun h=>by cases h.1)])
 | true =>
  simp (disch:=omega) only [↓Xl,wD,↓X2,wA,seval,wE]
  refine X1 c5 rfl ?_
  by_cases h4:lo=f.lo
  rotate_left
  ·simp (disch:=omega) only [decide_eq_false h4,↓Xl,wD,↓X2,wA,seval,wE]
   exact fin rfl (by rw [hV,if_neg (fun h=>h4 h.2.1)])
  simp (disch:=omega) only [decide_eq_true h4,↓Xl,wD,↓X2,wA,seval,wE]
  refine X1 c6 rfl ?_
  by_cases h5:hi=f.hi
  rotate_left
  ·simp (disch:=omega) only [decide_eq_false h5,↓Xl,wD,↓X2,wA,seval,wE]
   exact fin rfl (by rw [hV,if_neg (fun h=>h5 h.2.2)])
  rw [if_pos ⟨rfl,h4,h5⟩] at hV
  simp (disch:=omega) only [decide_eq_true h5,↓Xl,wD,↓X2,wA,seval,wE]
  refine X1 c7 rfl ?_
  cases h6:KK a b f (ta+tb) with
  | false =>
   simp (disch:=omega) only [↓Xl,wD,↓X2,wA,seval,wE]
   exact fin rfl (by rw [hV,h6]; rfl)
  | true =>
   simp (disch:=omega) only [↓Xl,wD,↓X2,wA,seval,wE]
   exact fin rfl (by rw [hV,h6]; rfl)
def A8 (a b:PV) (f:FV) (e:Rat):FV:={ f with lo:=(XG a.rim b.rim f e).1,hi:=(XG a.rim b.rim f e).2.1 }
def ZG:FV:=⟨0,0,0,0,0,v0,v0,v0⟩
def OW:List AV:=[I 0,I 0,I 0,I 0,I 0] ++ (Z8 ++ (Z8 ++ Z8))
theorem pJ {a b:List (Int×Int)} (ha:QV a) (hb:QV b) (f:FV) (ht:vb f.turn≤60) (k:Nat):vb (Zh a b f k)≤150:=by
 have h1:=KA ha (xK a.length f k)
 have h2:=KA hb ((f.EB+1 - k) % b.length).toNat
 unfold Zh
 have h3:=D5 f.turn (Jz (b.getD ((f.EB+1 - k) % b.length).toNat (0,0)))
 have h4:=K7 (Jz (a.getD (xK a.length f k) (0,0))) (LB f.turn (Jz (b.getD ((f.EB+1 - k) % b.length).toNat (0,0))))
 omega
theorem Im (a b:PV) (f:FV) (na:QV a.rim) (nb:QV b.rim) (e:Rat) (ht:vb f.turn≤60):vb (XG a.rim b.rim f e).1≤155+qb e∧vb (XG a.rim b.rim f e).2.1≤155+qb e:=by
 have z:=EP
 have d:=pJ na nb f ht
 have h1:vb (Am a.rim b.rim f f.M.toNat)≤150:=Nat.max_le.2 ⟨Lo _ 150 (fun j=>Nat.le_trans (Qu _) (d j)) _,Lo _ 150 (fun j=>Nat.le_trans (Qp _) (d j)) _⟩
 have h2:vb (Ak a.rim b.rim f f.M.toNat)≤150:=Nat.max_le.2 ⟨Ln _ 150 (fun j=>Nat.le_trans (Qu _) (d j)) _,Ln _ 150 (fun j=>Nat.le_trans (Qp _) (d j)) _⟩
 have h3:=K7 (Am a.rim b.rim f f.M.toNat) ⟨e,e⟩
 have h4:=Cb (Ak a.rim b.rim f f.M.toNat) ⟨e,e⟩
 have h5:vb ⟨e,e⟩=qb e:=by unfold vb; simp
 unfold XG
 split
 ·simp only
  split
  ·exact ⟨by show vb v0≤_; omega,by show vb v0≤_; omega⟩
  ·exact ⟨by simp only; omega,by simp only; omega⟩
 ·exact ⟨by show vb v0≤_; omega,by show vb v0≤_; omega⟩
theorem sk (f g:FV):f=g↔(f.A=g.A∧f.B=g.B∧f.EA=g.EA∧f.EB=g.EB∧f.M=g.M)∧f.turn=g.turn∧f.lo=g.lo∧f.hi=g.hi:=by
 obtain ⟨a,b,c,d,e,t,l,h⟩:=f
 obtain ⟨a',b',c',d',e',t',l',h'⟩:=g
 simp [and_assoc]
theorem Lp (f g:FV) (hf:f.fine) (hg:g.fine):Fn Tryz.prog 35 [Zc f,Zc g] (.bool (decide (f=g))):=by
 obtain ⟨V,hV⟩:∃ V,V=decide (f=g):=⟨_,rfl⟩
 rw [← hV]
 rw [decide_eq_decide.2 (sk f g)] at hV
 have fin:∀ {s:AS} {v:Bool},s.get 4=.bool v→v=V→RetOk (QR Tryz.prog Tryz.f35 [] [] (.bool V)) s:=fun h e=>Xu rfl h (X3 _) (by rw [e])
 obtain ⟨f1,f2,f3⟩:=hf
 obtain ⟨g1,g2,g3⟩:=hg
 have c1:=A6 f.turn g.turn (by unfold vm; omega) (by unfold vm; omega)
 have c2:=Fh f.lo g.lo (by unfold vm; omega) (by unfold vm; omega)
 have c3:=Fh f.hi g.hi (by unfold vm; omega) (by unfold vm; omega)
 refine Fq Tryz.call35 Tryz.func35 5 [] [] [] (by simp [Qg]) (X0 1000 ?_)
 by_cases h:f.A=g.A∧f.B=g.B∧f.EA=g.EA∧f.EB=g.EB∧f.M=g.M
 rotate_left
 ·have hv:false=V:=by rw [hV]; exact (decide_eq_false fun hh=>h hh.1).symm
  rcases (show f.A≠g.A∨(f.A=g.A∧f.B≠g.B)∨(f.A=g.A∧f.B=g.B∧f.EA≠g.EA)∨(f.A=g.A∧f.B=g.B∧f.EA=g.EA∧f.EB≠g.EB)∨(f.A=g.A∧f.B=g.B∧f.EA=g.EA∧f.EB=g.EB∧f.M≠g.M) by omega) with q | ⟨q1,q⟩ | ⟨q1,q2,q⟩ | ⟨q1,q2,q3,q⟩ | ⟨q1,q2,q3,q4,q⟩
  ·simp only [AS.start,Zc,XW,eq_false q,↓X2,wA,seval,wE]
   exact fin rfl hv
  ·simp only [AS.start,Zc,XW,eq_true q1,eq_false q,↓X2,wA,seval,wE]
   exact fin rfl hv
  ·simp only [AS.start,Zc,XW,eq_true q1,eq_true q2,eq_false q,↓X2,wA,seval,wE]
   exact fin rfl hv
  ·simp only [AS.start,Zc,XW,eq_true q1,eq_true q2,eq_true q3,eq_false q,↓X2,wA,seval,wE]
   exact fin rfl hv
  ·simp only [AS.start,Zc,XW,eq_true q1,eq_true q2,eq_true q3,eq_true q4,eq_false q,↓X2,wA,seval,wE]
   exact fin rfl hv
 have e:V=decide (f.turn=g.turn∧f.lo=g.lo∧f.hi=g.hi):=by rw [hV]; exact decide_eq_decide.2 ⟨fun hh=>hh.2,fun hh=>⟨h,hh⟩⟩
 clear hV
 simp (disch:=omega) only [AS.start,Zc,XW,↓Xl,wD,↓X2,wA,seval,wE]
 refine X1 c1 rfl ?_
 by_cases n1:f.turn=g.turn
 rotate_left
 ·simp (disch:=omega) only [decide_eq_false n1,↓Xl,wD,↓X2,wA,seval,wE]
  exact fin rfl (by rw [e]; exact (decide_eq_false fun hh=>n1 hh.1).symm)
 simp (disch:=omega) only [decide_eq_true n1,↓Xl,wD,↓X2,wA,seval,wE]
 refine X1 c2 rfl ?_
 by_cases n2:f.lo=g.lo
 rotate_left
 ·simp (disch:=omega) only [decide_eq_false n2,↓Xl,wD,↓X2,wA,seval,wE]
  exact fin rfl (by rw [e]; exact (decide_eq_false fun hh=>n2 hh.2.1).symm)
 simp (disch:=omega) only [decide_eq_true n2,↓Xl,wD,↓X2,wA,seval,wE]
 refine X1 c3 rfl ?_
 simp (disch:=omega) only [↓Xl,wD,↓X2,wA,seval,wE]
 exact fin rfl (by rw [e]; exact decide_eq_decide.2 ⟨fun hh=>⟨n1,n2,hh⟩,fun hh=>hh.2.2⟩)
theorem vT {V:Bool} {P:Prop} (h:V=true↔P) (p:P):true=V:=(h.2 p).symm
theorem vN {V:Bool} {P:Prop} (h:V=true↔P) (p:¬ P):false=V:=by
 cases V with
 | true=>exact absurd (h.1 rfl) p
 | false=>rfl
theorem vI {V:Bool} {P Q:Prop} [Decidable Q] (h:V=true↔P) (e:P↔Q):decide Q=V:=by
 by_cases q:Q
 ·rw [decide_eq_true q]; exact vT h (e.2 q)
 ·rw [decide_eq_false q]; exact vN h fun p=>q (e.1 p)
def Z9 (t u:V2):Prop:=t.x<u.x∨(t.x=u.x∧t.y<u.y)
theorem RO (a b:Rat):QA a b=0↔a=b:=by
 have h1:=my a b; have h2:=Ov a b
 exact ⟨fun h=>Rat.le_antisymm (h1.1 (by omega)) (h2.1 (by omega)),fun h=>by subst h; have:=h1.2 Rat.le_refl; have:=h2.2 Rat.le_refl; omega⟩
theorem WY (t u:V2) (ht:vb t≤vm) (hu:vb u≤vm):Fn Tryz.prog 232 [vA t,vA u] (.bool (decide (Z9 t u))):=by
 obtain ⟨V,hV⟩:∃ V,V=decide (Z9 t u):=⟨_,rfl⟩
 rw [← hV]
 replace hV:=(Bool.eq_iff_iff.1 hV).trans decide_eq_true_iff
 have fin:∀ {s:AS} {v:Bool},s.get 4=.bool v→v=V→RetOk (QR Tryz.prog Tryz.f232 [] [] (.bool V)) s:=fun h e=>Xu rfl h (X3 _) (by rw [e])
 have:=Qu t; have:=Qu u; have:=Qp t; have:=Qp u
 unfold vm at ht hu
 have c1:=J5 t.x u.x (by unfold rm; omega) (by unfold rm; omega)
 have c2:=J5 t.y u.y (by unfold rm; omega) (by unfold rm; omega)
 have e1:=K9 t.x u.x
 have e2:=RO t.x u.x
 have e3:=K9 t.y u.y
 unfold Z9 at hV
 rw [← e1,← e2,← e3] at hV
 generalize QA t.x u.x=p at *
 generalize QA t.y u.y=q at *
 refine Fq Tryz.call232 Tryz.func232 6 [] [] [] (by simp [Xn]) (X0 1000 ?_)
 simp (disch:=omega) only [AS.start,↓Xl,wD,↓X2,wA,seval,wE]
 refine X1 c1 rfl ?_
 rcases (show p<0∨p=0∨0<p by omega) with h | h | h
 ·simp (disch:=omega) only [↓Xl,wD,↓X2,wA,seval,wE]
  exact fin rfl (vT hV (.inl h))
 ·simp (disch:=omega) only [↓Xl,wD,↓X2,wA,seval,wE]
  refine X1 c2 rfl ?_
  simp (disch:=omega) only [↓Xl,wD,↓X2,wA,seval,wE]
  exact fin rfl (vI hV ⟨fun hh=>by omega,fun hh=>.inr ⟨h,hh⟩⟩)
 ·simp (disch:=omega) only [↓Xl,wD,↓X2,wA,seval,wE]
  exact fin rfl (vN hV ((by omega)))
def Db (n m:Nat) (f g:FV):Prop:=f.M<g.M∧(f.EA - g.EA) % n+f.M≤g.M∧(g.EB - (f.EA - g.EA) % n) % m=f.EB∧f.turn=g.turn
structure FV.near (f:FV):Prop where
 ea:-1000000≤f.EA∧f.EA≤1000000
 eb:-1000000≤f.EB∧f.EB≤1000000
 m:-1000000≤f.M∧f.M≤1000000
theorem VN (a b:PV) (f g:FV) (ha:0<a.rim.length∧a.rim.length<1000000) (hb:0<b.rim.length∧b.rim.length<1000000) (nf:f.near) (ng:g.near) (hf:vb f.turn≤vm) (hg:vb g.turn≤vm) :
  Fn Tryz.prog 53 [QW a,QW b,Zc f,Zc g] (.bool (decide (Db a.rim.length b.rim.length f g))):=by
 obtain ⟨V,hV⟩:∃ V,V=decide (Db a.rim.length b.rim.length f g):=⟨_,rfl⟩
 rw [← hV]
 replace hV:=(Bool.eq_iff_iff.1 hV).trans decide_eq_true_iff
 have fin:∀ {s:AS} {v:Bool},s.get 8=.bool v→v=V→RetOk (QR Tryz.prog Tryz.f53 [2,30000005,30000006,30000007] [] (.bool V)) s:=fun h e=>Xu rfl h (X3 _) (by rw [e])
 obtain ⟨f1,f2,f3⟩:=nf
 obtain ⟨g1,g2,g3⟩:=ng
 have d0:=Int.emod_nonneg (f.EA - g.EA) (show (a.rim.length:Int)≠0 by omega)
 have d1:=Int.emod_lt_of_pos (f.EA - g.EA) (show (0:Int)<a.rim.length by omega)
 have c1:=QM (f.EA - g.EA) a.rim.length ha.1 (by omega) (by omega)
 have c2:=QM (g.EB - (f.EA - g.EA) % a.rim.length) b.rim.length hb.1 (by omega) (by omega)
 have c3:=A6 f.turn g.turn hf hg
 unfold Db at hV
 generalize (f.EA - g.EA) % (a.rim.length:Int)=d at *
 generalize (g.EB - d) % (b.rim.length:Int)=r at *
 refine Fq Tryz.call53 Tryz.func53 10 [] [2,30000005,30000006,30000007] [] (by simp [Xz,Qg]) (X0 1000 ?_)
 simp (disch:=omega) only [AS.start,QW,XH,Zc,XW,↓Xl,wD,↓X2,wA,seval,wE]
 refine X1 c1 rfl ?_
 by_cases h1:f.M<g.M
 rotate_left
 ·simp (disch:=omega) only [↓Xl,wD,↓X2,wA,seval,wE]
  exact fin rfl (vN hV (fun hh=>h1 hh.1))
 by_cases h2:d+f.M≤g.M
 rotate_left
 ·simp (disch:=omega) only [↓Xl,wD,↓X2,wA,seval,wE]
  exact fin rfl (vN hV (fun hh=>h2 hh.2.1))
 simp (disch:=omega) only [↓Xl,wD,↓X2,wA,seval,wE]
 refine X1 c2 rfl ?_
 by_cases h3:r=f.EB
 rotate_left
 ·simp (disch:=omega) only [↓Xl,wD,↓X2,wA,seval,wE]
  exact fin rfl (vN hV (fun hh=>h3 hh.2.2.1))
 simp (disch:=omega) only [↓Xl,wD,↓X2,wA,seval,wE]
 refine X1 c3 rfl ?_
 simp (disch:=omega) only [↓Xl,wD,↓X2,wA,seval,wE]
 exact fin rfl (vI hV ⟨fun hh=>hh.2.2.2,fun hh=>⟨h1,h2,h3,hh⟩⟩)
def B6 (t:V2):V2:=⟨-t.y,t.x⟩
def Kr:Nat→V2→V2
 | 0,t=>t
 | i+1,t=>B6 (Kr i t)
theorem iP (t:V2):vb (B6 t)=vb t:=by unfold vb B6; simp only [Bx]; exact Nat.max_comm _ _
theorem GX (t:V2):∀ i,vb (Kr i t)=vb t
 | 0=>rfl
 | i+1=>(iP _).trans (GX t i)
def Di (t:V2):List V2→List V2
 | []=>[t]
 | x :: l=>if Z9 t x then t :: x :: l else x :: Di t l
def Te (t:V2) (l:List V2):List V2:=if t∈l then l else Di t l
def J8 (a b:PV) (f:FV):Nat→List V2
 | 0=>[]
 | k+1=>if (H3 a b f k).2=true then Te (H3 a b f k).1 (J8 a b f k) else J8 a b f k
def Ae (t:V2) (w:List V2×Bool) (x:V2):List V2×Bool:=if w.2=false∧Z9 t x then (w.1 ++ [t] ++ [x],true) else (w.1 ++ [x],w.2)
def Kx (t:V2) (w:List V2×Bool) (l:List V2):List V2×Bool:=l.foldl (Ae t) w
theorem L0 (t:V2):∀ (l A:List V2),Kx t (A,true) l=(A ++ l,true)
 | [],A=>by simp [Kx]
 | x :: l,A=>by
  show Kx t (Ae t (A,true) x) l=_
  have:Ae t (A,true) x=(A ++ [x],true):=by unfold Ae; rw [if_neg (by simp)]
  rw [this,L0 t l]; simp
theorem MW (t:V2):∀ (l A:List V2),(if (Kx t (A,false) l).2=true then (Kx t (A,false) l).1 else (Kx t (A,false) l).1 ++ [t])=A ++ Di t l
 | [],A=>by simp [Kx,Di]
 | x :: l,A=>by
  show (if (Kx t (Ae t (A,false) x) l).2=true then (Kx t (Ae t (A,false) x) l).1 else (Kx t (Ae t (A,false) x) l).1 ++ [t])=A ++ Di t (x :: l)
  by_cases h:Z9 t x
  ·have:Ae t (A,false) x=(A ++ [t] ++ [x],true):=by unfold Ae; rw [if_pos ⟨rfl,h⟩]
   rw [this,L0]
   simp [Di,h]
  ·have:Ae t (A,false) x=(A ++ [x],false):=by unfold Ae; rw [if_neg (by simp [h])]
   rw [this,MW t l]
   simp [Di,h]
theorem L9 (t x:V2):∀ l,x∈Di t l↔x=t∨x∈l
 | []=>by simp [Di]
 | y :: l=>by
  have ih:=L9 t x l
  unfold Di
  split
  ·simp
  ·rw [List.mem_cons,ih,List.mem_cons]
   constructor
   ·rintro (h | h | h)
    ·exact .inr (.inl h)
    ·exact .inl h
    ·exact .inr (.inr h)
   ·rintro (h | h | h)
    ·exact .inr (.inl h)
    ·exact .inl h
    ·exact .inr (.inr h)
theorem Re (t:V2):∀ l,(Di t l).length=l.length+1
 | []=>rfl
 | y :: l=>by
  have ih:=Re t l
  unfold Di
  split
  ·simp
  ·simp [ih]
theorem dc (t x:V2) (l:List V2):x∈Te t l↔x=t∨x∈l:=by
 unfold Te
 split
 ·rename_i h
  exact ⟨fun hx=>.inr hx,fun hx=>by rcases hx with rfl | hx; exact h; exact hx⟩
 ·exact L9 t x l
theorem Av (a b:PV) (f:FV) (t:V2):∀ n,t∈J8 a b f n↔∃ k,k<n∧(H3 a b f k).2=true∧(H3 a b f k).1=t
 | 0=>by simp [J8]
 | n+1=>by
  have ih:=Av a b f t n
  unfold J8
  split
  ·rename_i h
   rw [dc,ih]
   constructor
   ·rintro (h1 | ⟨k,h1,h2⟩)
    ·exact ⟨n,by omega,h,h1.symm⟩
    ·exact ⟨k,by omega,h2⟩
   ·rintro ⟨k,h1,h2,h3⟩
    by_cases hk:k=n
    ·subst hk; exact .inl h3.symm
    ·exact .inr ⟨k,by omega,h2,h3⟩
  ·rename_i h
   rw [ih]
   constructor
   ·rintro ⟨k,h1,h2⟩; exact ⟨k,by omega,h2⟩
   ·rintro ⟨k,h1,h2,h3⟩
    by_cases hk:k=n
    ·subst hk; exact absurd h2 h
    ·exact ⟨k,by omega,h2,h3⟩
theorem BH (a b:PV) (f:FV):∀ n,(J8 a b f n).length≤n
 | 0=>Nat.le_refl _
 | n+1=>by
  have ih:=BH a b f n
  unfold J8 Te
  split
  ·split
   ·omega
   ·rw [Re]; omega
  ·omega
theorem Bd (a b:PV) (f:FV) (ha:QV a.rim) (hb:QV b.rim) (n:Nat):∀ t∈J8 a b f n,vb t≤26:=fun t ht=>by
 obtain ⟨k,_,_,h⟩:=(Av a b f t n).1 ht
 rw [← h]; exact Cy ha hb _ _
theorem SM {H:List AO} {id ver n:Nat} {L:List V2} (ho:H[id]?=some (.con ver (L.length*8) (Xs vC 8 v0 L))) (hn:n=L.length):Zy H (.osl id ver 8 0 n) (Xq L):=by
 subst hn
 rw [X5]
 exact D6 ho (Nat.le_refl _) (fun h=>by rw [h]) fun j hj=>QZ _ _
theorem UG (t:V2) (l:List V2) (i:Nat) (h:i<l.length):Kx t ([],false) (l.take (i+1))=Ae t (Kx t ([],false) (l.take i)) (l.getD i v0):=by
 unfold Kx
 rw [Q0 l v0 i h,List.foldl_append]; rfl
def Rr (t:V2) (L:List V2) (i:Nat):Bool:=decide (t∈L.take i)
theorem aa (t:V2) (L:List V2) (i:Nat) (h:i<L.length):Rr t L (i+1)=(Rr t L i || decide (L.getD i v0=t)):=by
 unfold Rr
 rw [Q0 L v0 i h,Bool.eq_iff_iff,Bool.or_eq_true,decide_eq_true_iff,decide_eq_true_iff,decide_eq_true_iff,List.mem_append,List.mem_singleton]
 exact ⟨fun h=>h.imp id Eq.symm,fun h=>h.imp id Eq.symm⟩
theorem iM (a b:PV) (f:FV) (hf:Bc a.rim.length b.rim.length f) (ha:a.even) (hb:b.even):Fn Tryz.prog 190 [QW a,QW b,Zc f] (Xq (J8 a b f f.M.toNat)):=by
 obtain ⟨⟨s1,s2⟩,⟨s3,s4⟩,s5,s6,s7⟩:=hf
 obtain ⟨N,hN⟩:∃ N:Nat,f.M=N:=⟨f.M.toNat,by omega⟩
 have la:=ha.rim; have lb:=hb.rim
 rw [hN,Int.toNat_natCast]
 have ba:XK 3 (.con 0 25 (Xp (XH a)))=True:=eq_true (fun j _=>X6 (Xe (XA a) j))
 have bb:XK 3 (.con 0 25 (Xp (XH b)))=True:=eq_true (fun j _=>X6 (Xe (XA b) j))
 have bf:XK 3 (.con 0 29 (Xp (XW f)))=True:=eq_true (fun j _=>X6 (Xe (XU f) j))
 have bvd:∀ l:List V2,JM 3 (.sl l.length (l.length*8) (Xs vC 8 v0 l) false)=True:=fun l=>eq_true (X6 (Xd l))
 have bv:∀ l,JM 3 (Xq l)=True:=fun l=>eq_true (X6 (Xd l))
 refine Fq Tryz.call190 Tryz.func190 15 [] [5,60000003,60000004,60000005,13,140000009,14] [] (by simp [Xz,Qg]) (X0 1000 ?_)
 simp (disch:=omega) only [AS.start,QW,XH,Zc,XW,↓Xl,wD,↓X2,wA,seval,wE]
 refine Xg (fun k:Nat=>⟨15,[],[.any,.any,.any,.ref 0 0 0,.ref 1 0 0,.ref 2 0 0,.any,Xq (J8 a b f k),I k,.any,.any,.any,.any,.any,.any],[],[.con 0 25 (Xp (XH a)),.con 0 25 (Xp (XH b)),.con 0 29 (Xp (XW f))]⟩) (fun k=>k≤N) (fun k=>N - k) 0 (by omega)
  (Sub.trans (Q2 0 rfl) (Sub.trans (Q2 1 rfl) (Sub.trans (Q2 2 rfl) (Sub.trans (LQ 7 (Xq []) (by show 7<15; omega) (by rw [X5]; exact OU (Nat.le_refl _) (fun j hj=>absurd hj (Nat.not_lt_zero j)))) (Xa rfl (by simp [Xh,J8,I]) (by simp [Xi]) (by simp [XH,XW,Xf,Xo,X4,I,sg])))))) ?_
 intro k hk next
 by_cases hk2:k<N
 rotate_left
 ·obtain rfl:k=N:=by omega
  refine X0 1000 ?_
  simp (disch:=omega) only [XH,XW,X5,↓Xl,wD,↓X2,wA,seval,wE]
  exact Xu (v:=Xq (J8 a b f k)) rfl rfl (Xd _) rfl
 have c1:=QM (f.EA+(k:Int)) a.rim.length (by omega) (by omega) (by omega)
 have c2:=QM (f.EB - (k:Int)) b.rim.length (by omega) (by omega) (by omega)
 rw [M1 _ _ _ (by omega)] at c1
 rw [SV _ _ _ (by omega)] at c2
 have ca:=Ur a b (xK a.rim.length f k) (yK b.rim.length f k) la lb ha.near hb.near
 have hsm:=Cy ha.near hb.near (xK a.rim.length f k) (yK b.rim.length f k)
 rw [show Qb a.rim b.rim (xK a.rim.length f k) (yK b.rim.length f k)=H3 a b f k from rfl] at ca hsm
 have nx:=next (k+1)
 have htn:J8 a b f (k+1)=if (H3 a b f k).2=true then Te (H3 a b f k).1 (J8 a b f k) else J8 a b f k:=rfl
 rw [htn] at nx
 have hts:=Bd a b f ha.near hb.near k
 have htl:=BH a b f k
 generalize H3 a b f k=X at *
 generalize J8 a b f k=L at *
 obtain ⟨t,ok⟩:=X
 refine X0 1000 ?_
 simp (disch:=omega) only [XH,XW,Xf,↓Xl,wD,↓X2,wA,seval,wE]
 refine X1 c1 rfl ?_
 simp (disch:=omega) only [XH,XW,Xf,↓Xl,wD,↓X2,wA,seval,wE]
 refine X1 c2 rfl ?_
 simp (disch:=omega) only [XH,XW,Xf,↓Xl,wD,↓X2,wA,seval,wE]
 refine X1 ca rfl ?_
 cases ok with
 | false =>
  simp (disch:=omega) only [↓Xl,wD,↓X2,wA,seval,wE]
  exact nx _ (by omega) (by omega) (Xv (m:=3) (Nat.zero_le _) rfl (by simp [Xh,I]) (by simp [Xi]) (by simp [XH,XW,Xf,Xo,X4,I,sg]) (by simp [Xy,bv]) (by simp [Xy]) (by simp [ba,bb,bf]))
 | true =>
  simp (disch:=omega) only [↓Xl,wD,↓X2,wA,seval,wE]
  refine Xg (fun i:Nat=>⟨15,[],[.any,.any,.any,.ref 0 0 0,.ref 1 0 0,.ref 2 0 0,.any,Xq L,I k,.ref 3 0 0,.any,.osl 4 (Kx t ([],false) (L.take i)).1.length 8 0 (Kx t ([],false) (L.take i)).1.length,.bool (Rr t L i),.bool (Kx t ([],false) (L.take i)).2,I i],[],
   [.con 0 25 (Xp (XH a)),.con 0 25 (Xp (XH b)),.con 0 29 (Xp (XW f)),.con 0 8 (Xp (vC t)),.row (Kx t ([],false) (L.take i)).1.length ((Kx t ([],false) (L.take i)).1.length*8) (Xs vC 8 v0 (Kx t ([],false) (L.take i)).1)]⟩) (fun i=>i≤L.length∧(Kx t ([],false) (L.take i)).1.length≤2*i) (fun i=>L.length - i) 0 ⟨by omega,by simp [Kx]⟩
   (Sub.trans (Q2 3 rfl) (Sub.trans (Q4 11 8 (Xs vC 8 v0 []) rfl) (Xa rfl (by simp [AS.put,Xh,Kx,Rr,I]) (by simp [AS.put,Xi]) (by simp [AS.put,XH,XW,vC,qC,Xf,Xo,X4,Kx,I,sg])))) ?_
  rintro i ⟨hi,hle⟩ next2
  by_cases hi2:i<L.length
  rotate_left
  ·obtain rfl:i=L.length:=by omega
   have hB:Rr t L L.length=decide (t∈L):=by unfold Rr; rw [List.take_length]
   rw [hB]
   rw [List.take_length] at *
   have hins:=MW t L []
   rw [List.nil_append] at hins
   generalize Kx t ([],false) L=W at *
   obtain ⟨A,put⟩:=W
   simp only at hle hins
   simp only [if_true] at nx
   unfold Te at nx
   have hapt:=XO vC 8 v0 A t (by omega)
   have hl1:(A ++ [t]).length=A.length+1:=by simp
   by_cases hm:t∈L
   ·rw [if_pos hm] at nx
    cases put
    all_goals
     refine X0 1000 ?_
     simp (disch:=omega) only [X5,vC,qC,decide_eq_true hm,Bool.not_true,Bool.not_false,↓Xl,wD,↓X2,wA,seval,wE]
    refine ⟨KX t,?_⟩
    all_goals
     exact nx _ (by omega) (by omega) (Xv (m:=3) (Nat.zero_le _) rfl (by simp [Xh,X5,I]) (by simp [Xi]) (by simp) (by simp [Xy,bv,bvd]) (by simp [Xy]) (by simp [ba,bb,bf]))
   ·rw [if_neg hm] at nx
    have key:∀ (s:AS) (M:List V2),M=Di t L→Sub 0 s ⟨15,[],[.any,.any,.any,.ref 0 0 0,.ref 1 0 0,.ref 2 0 0,.any,.osl 4 M.length 8 0 M.length,I (k+1:Nat),.any,.any,.any,.any,.any,.any],[],[.con 0 25 (Xp (XH a)),.con 0 25 (Xp (XH b)),.con 0 29 (Xp (XW f)),.con 0 8 (Xp (vC t)),.row M.length (M.length*8) (Xs vC 8 v0 M)]⟩→Sub 0 s
      ⟨15,[],[.any,.any,.any,.ref 0 0 0,.ref 1 0 0,.ref 2 0 0,.any,Xq (Di t L),I (k+1:Nat),.any,.any,.any,.any,.any,.any],[],[.con 0 25 (Xp (XH a)),.con 0 25 (Xp (XH b)),.con 0 29 (Xp (XW f))]⟩:=fun s M hM h=>by
     subst hM
     exact h.trans <| Sub.trans (Q2 4 rfl) (Sub.trans (BF 7 (Xq (Di t L)) (by show 7<15; omega) (SM rfl rfl)) (Xv (m:=3) (Nat.zero_le _) rfl (by simp [Xh]) (by simp [Xi]) (by simp) (by simp [Xy,bv]) (by simp [Xy]) (by simp [ba,bb,bf])))
    cases put
    all_goals
     refine X0 1000 ?_
     simp (disch:=omega) only [X5,vC,qC,decide_eq_false hm,Bool.not_true,Bool.not_false,↓Xl,wD,↓X2,wA,seval,wE]
    ·exact ⟨KX t,nx _ (by omega) (by omega) (key _ (A ++ [t]) hins (Xa rfl (by simp [Xh,X5,I,hl1]) (by simp [Xi]) (by rw [← hapt,hl1]; rfl)))⟩
    ·exact nx _ (by omega) (by omega) (key _ A hins (Xa rfl (by simp [Xh,X5,I]) (by simp [Xi]) rfl))
  have ct:=A6 (L.getD i v0) t (by have:=hts (L.getD i v0) (QE hi2); unfold vm; omega) (by simp only at hsm; unfold vm; omega)
  have cb:=WY t (L.getD i v0) (by simp only at hsm; unfold vm; omega) (by have:=hts (L.getD i v0) (QE hi2); unfold vm; omega)
  have nx2:=next2 (i+1)
  rw [UG t L i hi2,aa t L i hi2] at nx2
  have v1:=vF L i
  generalize L.getD i v0=x at *
  generalize Kx t ([],false) (L.take i)=W at *
  obtain ⟨A,put⟩:=W
  simp only at hle
  generalize Rr t L i=tw at *
  have hap1:=XO vC 8 v0 A x (by omega)
  have hap2:=XO vC 8 v0 A t (by omega)
  have hap3:=XO vC 8 v0 (A ++ [t]) x (by omega)
  have hl1:(A ++ [t]).length=A.length+1:=by simp
  rw [hl1] at hap3
  have hl2:(A ++ [t] ++ [x]).length=A.length+1+1:=by simp
  have hl3:(A ++ [x]).length=A.length+1:=by simp
  refine X0 1000 ?_
  cases tw
  simp (disch:=omega) only [X5,vC,qC,v1,↓Xl,wD,↓X2,wA,seval,wE]
  refine X1 ct rfl ?_
  by_cases hx:x=t
  simp (disch:=omega) only [X5,vC,qC,v1,decide_eq_true hx,↓Xl,wD,↓X2,wA,seval,wE]
  rotate_left
  simp (disch:=omega) only [X5,vC,qC,v1,decide_eq_false hx,↓Xl,wD,↓X2,wA,seval,wE]
  rotate_left
  simp (disch:=omega) only [X5,vC,qC,v1,↓Xl,wD,↓X2,wA,seval,wE]
  all_goals
   cases put
   ·simp (disch:=omega) only [X5,vC,qC,v1,Bool.not_false,↓Xl,wD,↓X2,wA,seval,wE]
    refine X1 cb rfl ?_
    by_cases hb:Z9 t x
    ·have hs:Ae t (A,false) x=(A ++ [t] ++ [x],true):=by unfold Ae; rw [if_pos ⟨rfl,hb⟩]
     rw [hs,hl2] at nx2
     simp (disch:=omega) only [X5,vC,qC,v1,decide_eq_true hb,↓Xl,wD,↓X2,wA,seval,wE]
     exact ⟨KX t,KX x,nx2 _ ⟨by omega,by omega⟩ (by omega) (Xa rfl (by first | simp [Xh,X5,hx,I] | simp [Xh,X5,I]) (by simp [Xi]) (by rw [← hap3,← hap2]; rfl))⟩
    ·have hs:Ae t (A,false) x=(A ++ [x],false):=by unfold Ae; rw [if_neg (fun h=>hb h.2)]
     rw [hs,hl3] at nx2
     simp (disch:=omega) only [X5,vC,qC,v1,decide_eq_false hb,↓Xl,wD,↓X2,wA,seval,wE]
     exact ⟨KX x,nx2 _ ⟨by omega,by omega⟩ (by omega) (Xa rfl (by first | simp [Xh,X5,hx,I] | simp [Xh,X5,I]) (by simp [Xi]) (by rw [← hap1]; rfl))⟩
   ·have hs:Ae t (A,true) x=(A ++ [x],true):=by unfold Ae; rw [if_neg (fun h=>Bool.noConfusion h.1)]
    rw [hs,hl3] at nx2
    simp (disch:=omega) only [X5,vC,qC,v1,Bool.not_true,↓Xl,wD,↓X2,wA,seval,wE]
    exact ⟨KX x,nx2 _ ⟨by omega,by omega⟩ (by omega) (Xa rfl (by first | simp [Xh,X5,hx,I] | simp [Xh,X5,I]) (by simp [Xi]) (by rw [← hap1]; rfl))⟩
end
end Go.Ab.N
