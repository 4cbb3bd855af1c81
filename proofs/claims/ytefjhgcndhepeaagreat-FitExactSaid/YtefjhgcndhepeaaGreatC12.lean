/- Contracts of functions of these chapters, for every argument that fits, and what they need. -/
import Derived.Test.YtefjhgcndhepeaaGreatC11
import Derived.Test.YtefjhgcndhepeaaGreatC10
import Derived.Test.YtefjhgcndhepeaaGreatC7
import Derived.Test.YtefjhgcndhepeaaGreatC6
set_option linter.unusedSimpArgs false
set_option linter.unusedVariables false
open Nat renaming reducePow → Y1, reduceLT → Y2, reduceLeDiff → Y3, reduceEqDiff → Y4, reduceAdd → Y5, reduceMul → Y6, reduceSub → Y7, reduceBEq → Y8, reduceDiv → Y9, reduceMod → YA
namespace Go.Ab.N
open Go Go.RowKit Go.Proofs
noncomputable section
set_option maxRecDepth 10000
set_option maxHeartbeats 4000000
open Classical
def fR (L:List V2) (d:Nat×Nat×Nat):List V2:=[L.getD d.1 v0,L.getD d.2.1 v0,L.getD d.2.2 v0]
def Ki (L:List V2):List (List V2):=(DB L).map (fR L)
theorem Ov (L:List V2):∀ (f:Nat) (R:List Nat),Rok L R→R.Nodup→3≤R.length→∀ d∈BM L f R,d.1<L.length∧d.2.1<L.length∧d.2.2<L.length
 | 0,R,h,_,_,d,hd=>by
  rw [List.mem_singleton.1 hd]
  exact ⟨h.mem 0,h.mem 1,h.mem 2⟩
 | f+1,R,h,hn,h3,d,hd=>by
  unfold BM at hd
  split at hd
  ·rename_i h4
   obtain ⟨b1,b2,b3,_⟩:=EM h hn h4
   rcases List.mem_cons.1 hd with rfl | hd
   ·exact ⟨h.mem _,h.mem _,h.mem _⟩
   ·exact Ov L f _ b1 b2 b3 d hd
  ·rw [List.mem_singleton.1 hd]
   exact ⟨h.mem 0,h.mem 1,h.mem 2⟩
theorem HQ (L:List V2):∀ (f:Nat) (R:List Nat),Rok L R→R.Nodup→3≤R.length→(BM L f R).length≤R.length
 | 0,R,h,_,_=>h.pos
 | f+1,R,h,hn,h3=>by
  unfold BM
  split
  ·rename_i h4
   obtain ⟨b1,b2,b3,b4⟩:=EM h hn h4
   have:=HQ L f _ b1 b2 b3
   rw [List.length_cons]; omega
  ·exact h.pos
theorem Yr (A B C:V2):Weak (Lv A B C).loose (Xs [A,B,C]):=by
 rw [XN,X7]
 show Weak (AV.sl 3 24 _ false) _
 refine UU (Nat.le_refl _) fun j hj=>?_
 have hj:j<24:=hj
 match j,hj with
 | 0,_=>rfl
 | 1,_=>rfl
 | 2,_=>rfl
 | 3,_=>rfl
 | 4,_=>rfl
 | 5,_=>rfl
 | 6,_=>rfl
 | 7,_=>rfl
 | 8,_=>rfl
 | 9,_=>rfl
 | 10,_=>rfl
 | 11,_=>rfl
 | 12,_=>rfl
 | 13,_=>rfl
 | 14,_=>rfl
 | 15,_=>rfl
 | 16,_=>rfl
 | 17,_=>rfl
 | 18,_=>rfl
 | 19,_=>rfl
 | 20,_=>rfl
 | 21,_=>rfl
 | 22,_=>rfl
 | 23,_=>rfl
 | j+24,h=>omega
theorem Aj (L:List V2):(Ki L).length=(DB L).length:=by simp [Ki]
theorem FJ (L:List V2) (i:Nat) (h:i<(DB L).length):(Ki L).getD i []=fR L ((DB L).getD i (0,0,0)):=by
 unfold Ki
 rw [List.getD_eq_getElem?_getD,List.getElem?_map,List.getD_eq_getElem?_getD,List.getElem?_eq_getElem h]; rfl
theorem tF (T:List (Nat×Nat×Nat)) (i:Nat):Xr tC 3 (0,0,0) T (i*3)=I (T.getD i (0,0,0)).1∧Xr tC 3 (0,0,0) T (i*3+1)=I (T.getD i (0,0,0)).2.1∧Xr tC 3 (0,0,0) T (i*3+2)=I (T.getD i (0,0,0)).2.2 :=
 ⟨Ju _ _ _ _ _ (by omega),Jm _ _ _ _ _ _ (by omega),Jm _ _ _ _ _ _ (by omega)⟩
theorem Rq {H:List AO} (W:List (List V2)) (A B C:V2) (j:Nat) (hj:j<W.length+1):Z9 H (QH W.length (Q3 Xs [] W) 1 (Xn [(Lv A B C).loose]) j) (Q3 Xs [] (W ++ [[A,B,C]]) j):=by
 unfold QH
 by_cases h:j<W.length
 ·rw [if_pos h,JV,JV]
  have:(W ++ [[A,B,C]]).getD j []=W.getD j []:=by rw [List.getD_eq_getElem?_getD,List.getD_eq_getElem?_getD,List.getElem?_append_left h]
  rw [this]; exact QT _ _
 ·obtain rfl:j=W.length:=by omega
  rw [if_neg (by omega),if_pos (by omega),JV,Nat.sub_self]
  have:(W ++ [[A,B,C]]).getD W.length []=[A,B,C]:=by rw [List.getD_eq_getElem?_getD,List.getElem?_append_right (Nat.le_refl _),Nat.sub_self]; rfl
  rw [this]
  exact fun c v _ _ hv=>Yr A B C c v hv
theorem qN {P:Program} {fn:Func} {str hcs:List Nat} {b:Nat} {r1 r2:AV} {H:List AO} {s:AS} {t u:Nat} (hr:fn.results=#[.tmp t,.tmp u]) (h1:s.get t=r1) (h2:s.get u=r2) (hH:s.h=H):RetOk (CD P fn str hcs b (.tup [r1,r2]) H) s :=
 ⟨.tup [r1,r2],by show Ku P fn s=_; simp [Ku,hr,QR,Jb,Zf,h1,h2],rfl,hH⟩
theorem nF (o1 o2:AO) (B1:∀ m,2≤m→XS m o1) (B2:∀ m,2≤m→XS m o2) (L:List V2) (k:Nat) (hs:Qt L k) (hk:k≤1000) (hp:BX L) :
  HCall Tryz.prog 245 [Xs L] [o1,o2] (.tup [.osl 2 (Ki L).length 1 0 (Ki L).length,I 0]) [o1,o2,.row (Ki L).length (Ki L).length (Q3 Xs [] (Ki L))]:=by
 have hl:=hp.1
 have cc:=je L k hs hk hp
 have hTl:(DB L).length≤12:=by have:=HQ L L.length _ (Dy hl.1 (by omega)) List.nodup_range (by rw [List.length_range]; omega); rw [List.length_range] at this; unfold DB; omega
 have hm:=Ov L L.length _ (Dy hl.1 (by omega)) List.nodup_range (by rw [List.length_range]; omega)
 have hcl:=Aj L
 have hca:=FJ L
 change ∀ d∈DB L,_ at hm
 generalize DB L=T at *
 generalize Ki L=C at *
 have hbL:Kd 3 (Xs L)=True:=eq_true (X9 (Xk L))
 have hbT:Kd 3 (p7 T)=True:=eq_true (X9 (R7 T))
 have q1:XS 3 o1=True:=eq_true (B1 3 (by omega))
 have q2:XS 3 o2=True:=eq_true (B2 3 (by omega))
 have s1:∀ v n f A B C,XS 3 (.row v (n+1) (QH n (Q3 Xs [] f) 1 (Xn [(Lv A B C).loose])))=True:=fun v n f A B C=>eq_true fun j hj=>by
  unfold QH
  have hset:Settled (Lv A B C).loose:=by rw [XN]; exact QS fun j _=>Xg (l:=[_,_,_,_,_,_,_,_,_,_,_,_,_,_,_,_,_,_,_,_,_,_,_,_]) (by simp [X4,X3]) j
  split
  ·exact X9 (Xk _)
  ·rw [show j - n=0 by omega]
   exact X9 hset
 refine HCall.intro (fn:=Tryz.f245) Tryz.call245 Tryz.func245 rfl mixed 9 [14,15,16] [6,70000008] [] (by kernel_rfl) (Nat.le_of_ble_eq_true rfl) (X0 1000 ?_)
 simp only [AS.start,X7,↓X2,wA,seval,wE]
 refine X1 cc rfl ?_
 simp only [X7,Dz,↓X2,wA,seval,wE]
 refine Xf (fun i:Nat=>⟨9,[14,15,16],[Xs L,.any,.any,.any,.any,I 0,.osl 2 i 1 0 i,.any,.any],[(14,p7 T),(15,I T.length),(16,I i)],[o1,o2,.row i i (Q3 Xs [] (C.take i))]⟩) (fun i=>i≤T.length) (fun i=>T.length - i) 0 (by omega)
  (Sub.trans (QL 6 1 (Q3 Xs [] []) rfl) (Xb rfl (by simp [AS.put,Xh,X7,I]) (by simp [AS.put,Xi,Xp,Dz,I]) (by simp [AS.put]))) ?_
 intro i hi next
 have w1:=wj i (by omega)
 by_cases hi2:i<T.length
 rotate_left
 ·obtain rfl:i=T.length:=by omega
  refine X0 1000 ?_
  simp only [X7,Dz,Int.lt_irrefl,Nat.lt_irrefl,↓X2,wA,seval,wE]
  rw [List.take_of_length_le (by omega)]
  exact qN rfl (by rw [hcl]; rfl) rfl (by rw [hcl])
 have t1:=tF T i
 obtain ⟨m1,m2,m3⟩:=hm (T.getD i (0,0,0)) (Jr hi2)
 have hc1:=hca i hi2
 have htk:C.take (i+1)=C.take i ++ [C.getD i []]:=QE C [] i (by omega)
 have hwl:(C.take i).length=i:=by rw [List.length_take]; omega
 have nx:=next (i+1)
 rw [htk,hc1] at nx
 unfold fR at nx
 generalize (T.getD i (0,0,0)).1=a at *
 generalize (T.getD i (0,0,0)).2.1=b at *
 generalize (T.getD i (0,0,0)).2.2=c at *
 have va:=vF L a
 have vb:=vF L b
 have vc:=vF L c
 have hgr:=@Rq [o1,o2,.row (i+1) (i+1) (QH i (Q3 Xs [] (C.take i)) 1 (Xn [(Lv (L.getD a v0) (L.getD b v0) (L.getD c v0)).loose]))] (C.take i) (L.getD a v0) (L.getD b v0) (L.getD c v0)
 rw [hwl] at hgr
 generalize L.getD a v0=A at *
 generalize L.getD b v0=B at *
 generalize L.getD c v0=D at *
 generalize C.take i=W at *
 refine X0 1000 ?_
 simp (disch:=omega) only [X7,Dz,t1,va,vb,vc,wD,Int.reduceToNat,↓X2,wA,seval,wE]
 exact nx _ (by omega) (by omega) (Sub.trans (XA (m:=3) (s':=⟨9,[14,15,16],[Xs L,.any,.any,.any,.any,I 0,.osl 2 (i+1) 1 0 (i+1),.any,.any],[(14,p7 T),(15,I T.length),(16,I (i+1:Nat))],[o1,o2,.row (i+1) (i+1) (QH i (Q3 Xs [] W) 1 (Xn [(Lv A B D).loose]))]⟩) (by simp [CD]) rfl (by simp [Xh,X7,I]) (by simp [Xi,Xp,Dz,I]) (by simp [XN,X5,AV.loose]) (by simp [Xz,hbL]) (by simp [Xz,hbT]) (by simp [q1,q2,s1])) (Sub.trans (Zk 2 (Q3 Xs [] (W ++ [[A,B,D]])) rfl (fun j hj=>hgr j hj)) (Xb rfl (by simp [Xh]) (by simp [Xi,Xp]) rfl)))
def GT (f:List V2→List V2) (C:List (List V2)) (i:Nat):List (List V2):=(C.take i).map f ++ C.drop i
theorem oB (f:List V2→List V2) (C:List (List V2)):GT f C 0=C:=rfl
theorem dV (f:List V2→List V2) (C:List (List V2)):GT f C C.length=C.map f:=by unfold GT; simp
theorem ku (f:List V2→List V2) (C:List (List V2)) (i:Nat) (h:i<C.length):(GT f C i).getD i []=C.getD i []:=by
 unfold GT
 rw [List.getD_eq_getElem?_getD,List.getElem?_append_right (by simp; omega),List.getD_eq_getElem?_getD]
 simp [Nat.min_eq_left (Nat.le_of_lt h)]
theorem dW (f:List V2→List V2) (C:List (List V2)) (i:Nat) (h:i≤C.length):(GT f C i).length=C.length:=by unfold GT; simp; omega
theorem dX (f:List V2→List V2) (C:List (List V2)) (i:Nat) (h:i<C.length):(GT f C i).set i (f (C.getD i []))=GT f C (i+1):=by
 refine List.ext_getElem? fun j=>?_
 unfold GT
 rw [List.getElem?_set]
 by_cases hj:i=j
 ·subst hj
  rw [if_pos rfl,if_pos (by simp; omega),List.getElem?_append_left (by simp; omega),List.getElem?_map,List.getElem?_take,if_pos (by omega),List.getElem?_eq_getElem h,List.getD_eq_getElem?_getD,List.getElem?_eq_getElem h]; rfl
 ·rw [if_neg hj]
  by_cases hlt:j<i
  ·rw [List.getElem?_append_left (by simp; omega),List.getElem?_append_left (by simp; omega),List.getElem?_map,List.getElem?_map,List.getElem?_take,List.getElem?_take,if_pos hlt,if_pos (by omega)]
  ·rw [List.getElem?_append_right (by simp; omega),List.getElem?_append_right (by simp; omega),List.getElem?_drop,List.getElem?_drop]
   congr 1
   simp; omega
def Kh (p:PV) (t c:V2):List (List V2):=(Ki (Xx p.rim)).map (As t c)
theorem G4 {R:List (Int×Int)} (h:QV R):Qt (Xx R) 3:=fun i=>by rw [NB]; exact Kf h i
theorem Fy:vb v0≤3:=by
 have:=Kf (R:=[]) (fun c hc=>absurd hc List.not_mem_nil) 0
 exact this
theorem Gj (L:List V2) (k:Nat) (h:Qt L k) (hk:3≤k) (i:Nat):Qt ((Ki L).getD i []) k:=by
 by_cases hi:i<(DB L).length
 ·rw [FJ L i hi]
  intro j
  unfold fR
  match j with
  | 0=>exact h _
  | 1=>exact h _
  | 2=>exact h _
  | j+3=>exact Nat.le_trans Fy hk
 ·have e:(Ki L).getD i []=[]:=by rw [List.getD_eq_getElem?_getD,List.getElem?_eq_none (by rw [Aj]; omega)]; rfl
  rw [e]
  exact fun j=>Nat.le_trans Fy hk
theorem HM (L:List V2) (i:Nat) (hi:i<(DB L).length):((Ki L).getD i []).length=3:=by rw [FJ L i hi]; rfl
theorem Nc {L:List V2} (hl:3≤L.length∧L.length≤12):(DB L).length≤12:=by
 have:=HQ L L.length _ (Dy hl.1 (by omega)) List.nodup_range (by rw [List.length_range]; omega)
 rw [List.length_range] at this
 unfold DB; omega
theorem Tt (l:List V2):(Xs l).cells=[Xs l]:=nrfl rfl
theorem gn (l:List V2):(Xs l).one=true:=nrfl rfl
theorem Tu (l:List V2):(Xs l).loose=Xs l:=nrfl rfl
theorem Mn (p:PV) (t c:V2) (hp:BX (Xx p.rim)) (hn:QV p.rim) (ht:vb t≤1000) (hc:vb c≤1000):Fn Tryz.prog 202 [JM p,gN t c] (Tv (Kh p t c)):=by
 have hl:=hp.1
 have hle:=Nc hl
 have hrl:(Xx p.rim).length=p.rim.length:=by simp [Xx]
 have r1:=Iy p (by omega) (CQ hn)
 have sm:=G4 hn
 have hcs:=Gj (Xx p.rim) 3 sm (Nat.le_refl _)
 have h3:=HM (Xx p.rim)
 have hcl:=Aj (Xx p.rim)
 have B1:∀ m,2≤m→XS m (.row 0 25 (Xn (XW p))):=fun m _=>XM (XE p)
 have B2:∀ m,2≤m→XS m (.row 0 16 (Xn (Lq t c))):=fun m _=>XM (ZU t c)
 have co:=nF (.row 0 25 (Xn (XW p))) (.row 0 16 (Xn (Lq t c))) B1 B2 (Xx p.rim) 3 sm (by omega) hp
 unfold Kh
 generalize Xx p.rim=L at *
 rw [← hcl] at h3 hle
 generalize Ki L=C at *
 refine Fq Tryz.call202 Tryz.func202 9 [15,16,17] [] [] (by simp [XI,B7]) (X0 1000 ?_)
 simp (disch:=omega) only [AS.start,JM,XW,gN,Lq,wD,↓X2,wA,seval,wE]
 refine X1 r1 rfl ?_
 simp (disch:=omega) only [X7,wD,↓X2,wA,seval,wE]
 refine Ke rfl co (QI (fun o h=>?_) (fun o h=>?_)) (fun id=>?_) (Qc _) ?_
 ·simp only [List.mem_cons,List.not_mem_nil,or_false] at h
  rcases h with rfl | rfl <;> simp
 ·simp only [List.mem_cons,List.not_mem_nil,or_false] at h
  rcases h with rfl | rfl | rfl <;> simp
 ·match id with
  | 0=>simp
  | 1=>simp
  | n+2=>simp
 simp (disch:=omega) only [wD,↓X2,wA,seval,wE]
 refine Xf (fun i:Nat=>⟨9,[15,16,17],[.any,.any,.any,.ref 1 0 0,.any,.osl 2 C.length 1 0 C.length,.any,.any,.any],[(15,.osl 2 C.length 1 0 C.length),(16,I C.length),(17,I i)],[.row 0 25 (Xn (XW p)),.row 0 16 (Xn (Lq t c)),.row C.length C.length (Q3 Xs [] (GT (As t c) C i))]⟩) (fun i=>i≤C.length) (fun i=>C.length - i) 0 (by omega)
  (Xb rfl (by simp [Xh,I]) (by simp [Xi,Xp,I]) (by simp [XW,Lq,X5,Xj,Xw,oB,I])) ?_
 intro i hi next
 by_cases hi2:i<C.length
 rotate_left
 ·obtain rfl:i=C.length:=by omega
  refine X0 1000 ?_
  simp (disch:=omega) only [wD,↓X2,wA,seval,wE]
  rw [dV]
  have hml:(C.map (As t c)).length=C.length:=List.length_map ..
  refine AH rfl ?_
  rw [XT,hml]
  refine QD (id:=2) (m:=C.length) (f:=Q3 Xs [] (C.map (As t c))) (.inl rfl) (by omega) (fun h=>h) fun j hj=>?_
  rw [Nat.zero_add]
  exact (Xk _).sees _
 have v1:=qS (GT (As t c) C i) i
 rw [ku _ _ _ hi2] at v1
 have cm:=eU t c (C.getD i []) 3 (hcs i) (by omega) (by rw [h3 i hi2]; omega) (by omega) (by omega)
 refine X0 1000 ?_
 simp (disch:=omega) only [v1,wD,↓X2,wA,seval,wE]
 refine X1 cm rfl ?_
 simp (disch:=omega) only [Tt,gn,Tu,wD,↓X2,wA,seval,wE]
 exact next (i+1) _ (by omega) (by omega) (Xb rfl (by simp [Xh]) (by simp [Xi,Xp,I]) (by rw [← dX _ _ _ hi2,← US _ _ _ _ _ (by rw [dW _ _ _ hi]; exact hi2)]))
def Ig (f:FV):V2:=(f.lo.add f.hi).scale (Rat.divInt 1 2)
def A2 (a b:PV) (f:FV) (e:Rat):Bool:=O4 (Kh a KT v0) (Kh b f.turn (Ig f)) (-e)
structure GP (p:PV) (t:Rat):Prop where
 even:p.even
 poly:XF (Xx p.rim)
 tol:p.tol=RQ.of t
 qt:qb t≤20
structure FV.fine (f:FV):Prop where
 turn:vb f.turn≤60
 lo:vb f.lo≤300
 hi:vb f.hi≤300
theorem E6 (p:PV) (t c:V2):(Kh p t c).length=(DB (Xx p.rim)).length:=by unfold Kh; rw [List.length_map,Aj]
theorem HL (p:PV) (t c:V2) (hn:QV p.rim) (ht:vb t≤100) (hc:vb c≤700):∀ i,i<(Kh p t c).length→Shp 1000 ((Kh p t c).getD i []):=fun i hi=>by
 rw [E6] at hi
 have e:(Kh p t c).getD i []=As t c ((Ki (Xx p.rim)).getD i []):=by
  unfold Kh
  rw [List.getD_eq_getElem?_getD,List.getElem?_map,List.getD_eq_getElem?_getD,List.getElem?_eq_getElem (by rw [Aj]; exact hi)]; rfl
 have hs:=Gj (Xx p.rim) 3 (G4 hn) (Nat.le_refl _) i
 have h3:=HM (Xx p.rim) i hi
 rw [e]
 generalize (Ki (Xx p.rim)).getD i []=W at *
 have hl:(As t c W).length=3:=by unfold As; rw [List.length_map,h3]
 refine ⟨fun j=>?_,by omega,by omega⟩
 by_cases hj:j<W.length
 ·have ej:(As t c W).getD j v0=put t c (W.getD j v0):=by
   unfold As
   rw [List.getD_eq_getElem?_getD,List.getElem?_map,List.getD_eq_getElem?_getD,List.getElem?_eq_getElem hj]; rfl
  rw [ej]
  have:=pj t c (W.getD j v0)
  have:=hs j
  omega
 ·rw [List.getD_eq_getElem?_getD,List.getElem?_eq_none (by omega)]
  exact Nat.le_trans Fy (by omega)
theorem Ut:qb (Rat.divInt 1 2)≤10:=by decide +kernel
theorem g9 (f:FV) (h:f.fine):vb (Ig f)≤700:=by
 have h1:=Dd f.lo f.hi
 have h2:=ge (f.lo.add f.hi) (Rat.divInt 1 2)
 have:=Ut
 have:=h.lo; have:=h.hi
 unfold Ig; omega
theorem Fx:vb KT≤10:=by decide +kernel
theorem bc (a b:PV) (f:FV) {ta tb:Rat} (ha:GP a ta) (hb:GP b tb) (hf:f.fine):(∀ i,i<(Kh a KT v0).length→Shp 1000 ((Kh a KT v0).getD i []))∧(∀ i,i<(Kh b f.turn (Ig f)).length→Shp 1000 ((Kh b f.turn (Ig f)).getD i [])) ∧
  (Kh a KT v0).length≤1000∧(Kh b f.turn (Ig f)).length≤1000:=by
 have h1:=Nc (ZR _ ha.poly).1
 have h2:=Nc (ZR _ hb.poly).1
 have:=Fx
 have:=Fy
 exact ⟨HL a KT v0 ha.even.near (by omega) (by omega),HL b f.turn (Ig f) hb.even.near (by have:=hf.turn; omega) (g9 f hf),by rw [E6]; omega,by rw [E6]; omega⟩
theorem gu:Weak (.agg (vC KT ++ [.bool false,.sl 0 0 (fun _=>.any) true,.bool false,.sl 0 0 (fun _=>.any) true,.bool false,.sl 0 0 (fun _=>.any) true,.bool false,.sl 0 0 (fun _=>.any) true])) (gN KT v0):=by
 refine Qi ?_
 have h:=IW true
 exact ⟨Weak.rfl' _,Weak.rfl' _,Weak.rfl' _,Weak.rfl' _,Weak.rfl' _,Weak.rfl' _,Weak.rfl' _,Weak.rfl' _,h⟩
theorem LS (a b:PV) (f:FV) {ta tb:Rat} (ha:GP a ta) (hb:GP b tb) (hf:f.fine):Fn Tryz.prog 137 [JM a,JM b,Ap f] (.bool (A2 a b f (ta+tb))):=by
 have qa:=ha.qt; have q2:=hb.qt
 have f1:=hf.turn; have f2:=hf.lo; have f3:=hf.hi
 have c1:=Hd f.lo f.hi (by unfold vm; omega) (by unfold vm; omega)
 have c2:=C9 1 2 (I8 (by omega) (by omega)) (I8 (by omega) (by omega))
 have m1:=Dd f.lo f.hi
 have m2:=g9 f hf
 have c3:=G1 (f.lo.add f.hi) (Rat.divInt 1 2) (by unfold vm; omega) (by have:=Ut; unfold vm; omega)
 have c4:=Mn a KT v0 (ZR _ ha.poly) ha.even.near (by have:=Fx; omega) (by have:=Fy; omega)
 have c5:=Mn b f.turn (Ig f) (ZR _ hb.poly) hb.even.near (by omega) (by omega)
 have qe:=Kt ta tb
 have c6:Fn Tryz.prog 70 [a.tol.A,b.tol.A] (qA (ta+tb)):=by rw [ha.tol,hb.tol]; exact Ae ta tb (by unfold rm; omega) (by unfold rm; omega)
 have c7:=C7 (ta+tb)
 obtain ⟨k1,k2,k3,k4⟩:=bc a b f ha hb hf
 have c8:=ie _ _ (-(ta+tb)) 1000 k1 k2 (by omega) (by omega) (by rw [Bg]; omega) k3 k4
 change Fn _ _ [vA (f.lo.add f.hi),qA (Rat.divInt 1 2)] (vA (Ig f)) at c3
 obtain ⟨V,hV⟩:∃ V,V=A2 a b f (ta+tb):=⟨_,rfl⟩
 change Fn _ _ _ (.tup [.any,.bool (A2 a b f (ta+tb))]) at c8
 rw [← hV] at c8 ⊢
 generalize Ig f=M at *
 refine Fq Tryz.call137 Tryz.func137 10 [] [1,20000005,2,30000003,30000004,30000007] [] (by simp [XI,QX]) (X0 1000 ?_)
 simp (disch:=omega) only [AS.start,JM,XW,Ap,Qo,↓Xl,wD,↓X2,wA,seval,wE]
 refine X1 c1 rfl ?_
 simp (disch:=omega) only [↓Xl,wD,↓X2,wA,seval,wE]
 refine X1 c2 rfl ?_
 simp (disch:=omega) only [↓Xl,wD,↓X2,wA,seval,wE]
 refine X1 c3 rfl ?_
 simp (disch:=omega) only [↓Xl,wD,↓X2,wA,seval,wE]
 refine X1 WL rfl ?_
 simp (disch:=omega) only [↓Xl,wD,↓X2,wA,seval,wE]
 refine XV c4 ⟨Weak.rfl' _,gu,trivial⟩ ?_
 simp (disch:=omega) only [XT,↓Xl,wD,↓X2,wA,seval,wE]
 refine X1 c5 rfl ?_
 simp (disch:=omega) only [XT,↓Xl,wD,↓X2,wA,seval,wE]
 refine X1 c6 rfl ?_
 simp (disch:=omega) only [XT,↓Xl,wD,↓X2,wA,seval,wE]
 refine X1 c7 rfl ?_
 simp (disch:=omega) only [XT,↓Xl,wD,↓X2,wA,seval,wE]
 refine X1 c8 rfl ?_
 simp (disch:=omega) only [↓Xl,wD,↓X2,wA,seval,wE]
 exact Xv rfl rfl (X3 _) rfl
def A1 (a b:PV) (f:FV) (e:Rat):Int :=
 if Cr a.rim.length b.rim.length f then if GU a b f then if Sc a b f then
  if (XC a.rim b.rim f e).2.2=true∧(XC a.rim b.rim f e).1=f.lo∧(XC a.rim b.rim f e).2.1=f.hi then if A2 a b f e=true then 0 else 13
  else 22 else 21 else 12 else 5
theorem fV (a b:PV) (f:FV) (na:QV a.rim) (nb:QV b.rim) (e:Rat) (ht:vb f.turn≤1000) (qe:qb e≤3000):vb (XC a.rim b.rim f e).1≤7000∧vb (XC a.rim b.rim f e).2.1≤7000:=by
 have z:=Fy
 have h1:=FW na nb f ht f.M.toNat
 have h2:=FT na nb f ht f.M.toNat
 have h3:=Kk (CM a.rim b.rim f f.M.toNat) ⟨e,e⟩
 have h4:=Dd (CJ a.rim b.rim f f.M.toNat) ⟨e,e⟩
 have h5:vb ⟨e,e⟩=qb e:=by unfold vb; simp
 unfold XC
 split
 ·simp only
  split
  ·exact ⟨by show vb v0≤_; omega,by show vb v0≤_; omega⟩
  ·exact ⟨by simp only; omega,by simp only; omega⟩
 ·exact ⟨by show vb v0≤_; omega,by show vb v0≤_; omega⟩
theorem FR (a b:PV) (f:FV) {ta tb:Rat} (ha:GP a ta) (hb:GP b tb) (hf:f.fine):Fn Tryz.prog 52 [JM a,JM b,Ap f] (I (A1 a b f (ta+tb))):=by
 obtain ⟨V,hV⟩:∃ V,V=A1 a b f (ta+tb):=⟨_,rfl⟩
 rw [← hV]
 unfold A1 at hV
 have qa:=ha.qt; have q2:=hb.qt
 have qe:=Kt ta tb
 have f1:=hf.turn; have f2:=hf.lo; have f3:=hf.hi
 have fin:∀ {s:AS} {n:Int},s.get 6=I n→n=V→RetOk (J4 Tryz.prog Tryz.f52 [] [] (I V)) s:=fun h e=>Xv rfl h (Xa _) (by rw [e])
 have c1:=CF a b f ha.even.rim hb.even.rim
 have c4:=EC a b f ha.even hb.even (by omega) ha.tol hb.tol (by omega) (by omega)
 have ⟨g1,g2⟩:=fV a b f ha.even.near hb.even.near (ta+tb) (by omega) (by omega)
 have c7:=LS a b f ha hb hf
 refine Fq Tryz.call52 Tryz.func52 10 [] [] [] (by simp [XI,QX]) (X0 1000 ?_)
 simp (disch:=omega) only [AS.start,JM,XW,Ap,Qo,↓Xl,wD,↓X2,wA,seval,wE]
 refine X1 c1 rfl ?_
 by_cases h1:Cr a.rim.length b.rim.length f
 rotate_left
 ·simp (disch:=omega) only [decide_eq_false h1,↓Xl,wD,↓X2,wA,seval,wE]
  exact fin rfl (by rw [hV,if_neg h1])
 have c2:=Gy a b f h1 ha.even hb.even
 have c3:=Sd a b f h1 ha.even hb.even
 have cl:=Cv a b f f.M.toNat
 have hM:f.M.toNat<1000000:=by have:=h1.2.2.2.1; have:=ha.even.rim; omega
 have ca:=Lu (Qa a b f f.M.toNat) 142 [me f] (fun x=>decide (x=f.turn)) (by omega) (fun x hx=>by rw [List.mem_singleton.1 hx]; exact B6 f) (fun x hx=>VQ x f (by have:=E0 a b f ha.even.near hb.even.near _ x hx; unfold vm; omega) (by unfold vm; omega))
 have hany:(Qa a b f f.M.toNat).any (fun x=>decide (x=f.turn))=decide (Sc a b f):=by
  have:=Hz a b f f.turn f.M.toNat
  cases hq:(Qa a b f f.M.toNat).any (fun x=>decide (x=f.turn)) with
  | true=>exact (decide_eq_true (p:=Sc a b f) (this.1 hq)).symm
  | false=>exact (decide_eq_false (p:=Sc a b f) (fun hh=>by rw [this.2 hh] at hq; cases hq)).symm
 rw [hany] at ca
 generalize Qa a b f f.M.toNat=W at *
 have sB:Jn [.row 0 25 (Xn (XW a)),.row 0 25 (Xn (XW b)),.row 0 29 (Xn (Qo f))] (.ref 2 0 0) (me f):=Kw (.inl rfl) (by omega) fun j hj=>(Xg (Qe f) j).sees _
 rw [if_pos h1] at hV
 simp (disch:=omega) only [decide_eq_true h1,↓Xl,wD,↓X2,wA,seval,wE]
 refine X1 c2 rfl ?_
 by_cases h2:GU a b f
 rotate_left
 ·simp (disch:=omega) only [decide_eq_false h2,↓Xl,wD,↓X2,wA,seval,wE]
  exact fin rfl (by rw [hV,if_neg h2])
 rw [if_pos h2] at hV
 simp (disch:=omega) only [decide_eq_true h2,↓Xl,wD,↓X2,wA,seval,wE]
 refine X1 c3 rfl ?_
 simp (disch:=omega) only [X7,↓Xl,wD,↓X2,wA,seval,wE]
 refine Jo ca rfl ⟨(Xk W).sees _,AZ ⟨sB,trivial⟩,trivial⟩ (Zv _) ?_
 by_cases h3:Sc a b f
 rotate_left
 ·simp (disch:=omega) only [decide_eq_false h3,↓Xl,wD,↓X2,wA,seval,wE]
  exact fin rfl (by rw [hV,if_neg h3])
 rw [if_pos h3] at hV
 simp (disch:=omega) only [decide_eq_true h3,↓Xl,wD,↓X2,wA,seval,wE]
 refine X1 c4 rfl ?_
 generalize XC a.rim b.rim f (ta+tb)=G at *
 obtain ⟨lo,hi,ok⟩:=G
 simp only at hV g1 g2
 have c5:=Hh lo f.lo (by unfold vm; omega) (by unfold vm; omega)
 have c6:=Hh hi f.hi (by unfold vm; omega) (by unfold vm; omega)
 cases ok with
 | false =>
  simp (disch:=omega) only [↓Xl,wD,↓X2,wA,seval,wE]
  exact fin rfl (by rw [hV,if_neg (fun h=>by cases h.1)])
 | true =>
  simp (disch:=omega) only [↓Xl,wD,↓X2,wA,seval,wE]
  refine X1 c5 rfl ?_
  by_cases h4:lo=f.lo
  rotate_left
  ·simp (disch:=omega) only [decide_eq_false h4,↓Xl,wD,↓X2,wA,seval,wE]
   exact fin rfl (by rw [hV,if_neg (fun h=>h4 h.2.1)])
  simp (disch:=omega) only [decide_eq_true h4,↓Xl,wD,↓X2,wA,seval,wE]
  refine X1 c6 rfl ?_
  by_cases h5:hi=f.hi
  rotate_left
  ·simp (disch:=omega) only [decide_eq_false h5,↓Xl,wD,↓X2,wA,seval,wE]
   exact fin rfl (by rw [hV,if_neg (fun h=>h5 h.2.2)])
  rw [if_pos ⟨rfl,h4,h5⟩] at hV
  simp (disch:=omega) only [decide_eq_true h5,↓Xl,wD,↓X2,wA,seval,wE]
  refine X1 c7 rfl ?_
  cases h6:A2 a b f (ta+tb) with
  | false =>
   simp (disch:=omega) only [↓Xl,wD,↓X2,wA,seval,wE]
   exact fin rfl (by rw [hV,h6]; rfl)
  | true =>
   simp (disch:=omega) only [↓Xl,wD,↓X2,wA,seval,wE]
   exact fin rfl (by rw [hV,h6]; rfl)
def AC (a b:PV) (f:FV) (e:Rat):FV:={ f with lo:=(XC a.rim b.rim f e).1,hi:=(XC a.rim b.rim f e).2.1 }
def BT:FV:=⟨0,0,0,0,0,v0,v0,v0⟩
def NP:List AV:=[I 0,I 0,I 0,I 0,I 0] ++ (Zq ++ (Zq ++ Zq))
theorem nK {a b:List (Int×Int)} (ha:QV a) (hb:QV b) (f:FV) (ht:vb f.turn≤60) (k:Nat):vb (AE a b f k)≤150:=by
 have h1:=Kf ha (xK a.length f k)
 have h2:=Kf hb ((f.EB+1 - k) % b.length).toNat
 unfold AE
 have h3:=Eu f.turn (JB (b.getD ((f.EB+1 - k) % b.length).toNat (0,0)))
 have h4:=Kk (JB (a.getD (xK a.length f k) (0,0))) (L4 f.turn (JB (b.getD ((f.EB+1 - k) % b.length).toNat (0,0))))
 omega
theorem O0 (a b:PV) (f:FV) (na:QV a.rim) (nb:QV b.rim) (e:Rat) (ht:vb f.turn≤60):vb (XC a.rim b.rim f e).1≤155+qb e∧vb (XC a.rim b.rim f e).2.1≤155+qb e:=by
 have z:=Fy
 have d:=nK na nb f ht
 have h1:vb (CM a.rim b.rim f f.M.toNat)≤150:=Nat.max_le.2 ⟨Ir _ 150 (fun j=>Nat.le_trans (QO _) (d j)) _,Ir _ 150 (fun j=>Nat.le_trans (QJ _) (d j)) _⟩
 have h2:vb (CJ a.rim b.rim f f.M.toNat)≤150:=Nat.max_le.2 ⟨Iq _ 150 (fun j=>Nat.le_trans (QO _) (d j)) _,Iq _ 150 (fun j=>Nat.le_trans (QJ _) (d j)) _⟩
 have h3:=Kk (CM a.rim b.rim f f.M.toNat) ⟨e,e⟩
 have h4:=Dd (CJ a.rim b.rim f f.M.toNat) ⟨e,e⟩
 have h5:vb ⟨e,e⟩=qb e:=by unfold vb; simp
 unfold XC
 split
 ·simp only
  split
  ·exact ⟨by show vb v0≤_; omega,by show vb v0≤_; omega⟩
  ·exact ⟨by simp only; omega,by simp only; omega⟩
 ·exact ⟨by show vb v0≤_; omega,by show vb v0≤_; omega⟩
theorem qp (f g:FV):f=g↔(f.A=g.A∧f.B=g.B∧f.EA=g.EA∧f.EB=g.EB∧f.M=g.M)∧f.turn=g.turn∧f.lo=g.lo∧f.hi=g.hi:=by
 obtain ⟨a,b,c,d,e,t,l,h⟩:=f
 obtain ⟨a',b',c',d',e',t',l',h'⟩:=g
 simp [and_assoc]
theorem T9 (f g:FV) (hf:f.fine) (hg:g.fine):Fn Tryz.prog 35 [Ap f,Ap g] (.bool (decide (f=g))):=by
 obtain ⟨V,hV⟩:∃ V,V=decide (f=g):=⟨_,rfl⟩
 rw [← hV]
 rw [decide_eq_decide.2 (qp f g)] at hV
 have fin:∀ {s:AS} {v:Bool},s.get 4=.bool v→v=V→RetOk (J4 Tryz.prog Tryz.f35 [] [] (.bool V)) s:=fun h e=>Xv rfl h (X3 _) (by rw [e])
 obtain ⟨f1,f2,f3⟩:=hf
 obtain ⟨g1,g2,g3⟩:=hg
 have c1:=CZ f.turn g.turn (by unfold vm; omega) (by unfold vm; omega)
 have c2:=Em f.lo g.lo (by unfold vm; omega) (by unfold vm; omega)
 have c3:=Em f.hi g.hi (by unfold vm; omega) (by unfold vm; omega)
 refine Fq Tryz.call35 Tryz.func35 5 [] [] [] (by simp [QX]) (X0 1000 ?_)
 by_cases h:f.A=g.A∧f.B=g.B∧f.EA=g.EA∧f.EB=g.EB∧f.M=g.M
 rotate_left
 ·have hv:false=V:=by rw [hV]; exact (decide_eq_false fun hh=>h hh.1).symm
  rcases (show f.A≠g.A∨(f.A=g.A∧f.B≠g.B)∨(f.A=g.A∧f.B=g.B∧f.EA≠g.EA)∨(f.A=g.A∧f.B=g.B∧f.EA=g.EA∧f.EB≠g.EB)∨(f.A=g.A∧f.B=g.B∧f.EA=g.EA∧f.EB=g.EB∧f.M≠g.M) by omega) with q | ⟨q1,q⟩ | ⟨q1,q2,q⟩ | ⟨q1,q2,q3,q⟩ | ⟨q1,q2,q3,q4,q⟩
  ·simp only [AS.start,Ap,Qo,eq_false q,↓X2,wA,seval,wE]
   exact fin rfl hv
  ·simp only [AS.start,Ap,Qo,eq_true q1,eq_false q,↓X2,wA,seval,wE]
   exact fin rfl hv
  ·simp only [AS.start,Ap,Qo,eq_true q1,eq_true q2,eq_false q,↓X2,wA,seval,wE]
   exact fin rfl hv
  ·simp only [AS.start,Ap,Qo,eq_true q1,eq_true q2,eq_true q3,eq_false q,↓X2,wA,seval,wE]
   exact fin rfl hv
  ·simp only [AS.start,Ap,Qo,eq_true q1,eq_true q2,eq_true q3,eq_true q4,eq_false q,↓X2,wA,seval,wE]
   exact fin rfl hv
 have e:V=decide (f.turn=g.turn∧f.lo=g.lo∧f.hi=g.hi):=by rw [hV]; exact decide_eq_decide.2 ⟨fun hh=>hh.2,fun hh=>⟨h,hh⟩⟩
 clear hV
 simp (disch:=omega) only [AS.start,Ap,Qo,↓Xl,wD,↓X2,wA,seval,wE]
 refine X1 c1 rfl ?_
 by_cases n1:f.turn=g.turn
 rotate_left
 ·simp (disch:=omega) only [decide_eq_false n1,↓Xl,wD,↓X2,wA,seval,wE]
  exact fin rfl (by rw [e]; exact (decide_eq_false fun hh=>n1 hh.1).symm)
 simp (disch:=omega) only [decide_eq_true n1,↓Xl,wD,↓X2,wA,seval,wE]
 refine X1 c2 rfl ?_
 by_cases n2:f.lo=g.lo
 rotate_left
 ·simp (disch:=omega) only [decide_eq_false n2,↓Xl,wD,↓X2,wA,seval,wE]
  exact fin rfl (by rw [e]; exact (decide_eq_false fun hh=>n2 hh.2.1).symm)
 simp (disch:=omega) only [decide_eq_true n2,↓Xl,wD,↓X2,wA,seval,wE]
 refine X1 c3 rfl ?_
 simp (disch:=omega) only [↓Xl,wD,↓X2,wA,seval,wE]
 exact fin rfl (by rw [e]; exact decide_eq_decide.2 ⟨fun hh=>⟨n1,n2,hh⟩,fun hh=>hh.2.2⟩)
theorem vT {V:Bool} {P:Prop} (h:V=true↔P) (p:P):true=V:=(h.2 p).symm
theorem vN {V:Bool} {P:Prop} (h:V=true↔P) (p:¬ P):false=V:=by
 cases V with
 | true=>exact absurd (h.1 rfl) p
 | false=>rfl
theorem vI {V:Bool} {P Q:Prop} [Decidable Q] (h:V=true↔P) (e:P↔Q):decide Q=V:=by
 by_cases q:Q
 ·rw [decide_eq_true q]; exact vT h (e.2 q)
 ·rw [decide_eq_false q]; exact vN h fun p=>q (e.1 p)
def Zt (t u:V2):Prop:=t.x<u.x∨(t.x=u.x∧t.y<u.y)
theorem fg (a b:Rat):Js a b=0↔a=b:=by
 have h1:=kO a b; have h2:=Uv a b
 exact ⟨fun h=>Rat.le_antisymm (h1.1 (by omega)) (h2.1 (by omega)),fun h=>by subst h; have:=h1.2 Rat.le_refl; have:=h2.2 Rat.le_refl; omega⟩
def Ml (n m:Nat) (f g:FV):Prop:=f.M<g.M∧(f.EA - g.EA) % n+f.M≤g.M∧(g.EB - (f.EA - g.EA) % n) % m=f.EB∧f.turn=g.turn
structure FV.near (f:FV):Prop where
 ea:-1000000≤f.EA∧f.EA≤1000000
 eb:-1000000≤f.EB∧f.EB≤1000000
 m:-1000000≤f.M∧f.M≤1000000
def Aa (t:V2):V2:=⟨-t.y,t.x⟩
def K7:Nat→V2→V2
 | 0,t=>t
 | i+1,t=>Aa (K7 i t)
theorem gc (t:V2):vb (Aa t)=vb t:=by unfold vb Aa; simp only [Bg]; exact Nat.max_comm _ _
theorem Gb (t:V2):∀ i,vb (K7 i t)=vb t
 | 0=>rfl
 | i+1=>(gc _).trans (Gb t i)
def Lo (t:V2):List V2→List V2
 | []=>[t]
 | x :: l=>if Zt t x then t :: x :: l else x :: Lo t l
def an (t:V2) (l:List V2):List V2:=if t∈l then l else Lo t l
def Ky (a b:PV) (f:FV):Nat→List V2
 | 0=>[]
 | k+1=>if (L3 a b f k).2=true then an (L3 a b f k).1 (Ky a b f k) else Ky a b f k
theorem Ia (t x:V2):∀ l,x∈Lo t l↔x=t∨x∈l
 | []=>by simp [Lo]
 | y :: l=>by
  have ih:=Ia t x l
  unfold Lo
  split
  ·simp
  ·rw [List.mem_cons,ih,List.mem_cons]
   constructor
   ·rintro (h | h | h)
    ·exact .inr (.inl h)
    ·exact .inl h
    ·exact .inr (.inr h)
   ·rintro (h | h | h)
    ·exact .inr (.inl h)
    ·exact .inl h
    ·exact .inr (.inr h)
theorem P2 (t:V2):∀ l,(Lo t l).length=l.length+1
 | []=>rfl
 | y :: l=>by
  have ih:=P2 t l
  unfold Lo
  split
  ·simp
  ·simp [ih]
theorem ap (t x:V2) (l:List V2):x∈an t l↔x=t∨x∈l:=by
 unfold an
 split
 ·rename_i h
  exact ⟨fun hx=>.inr hx,fun hx=>by rcases hx with rfl | hx; exact h; exact hx⟩
 ·exact Ia t x l
theorem ZH (a b:PV) (f:FV) (t:V2):∀ n,t∈Ky a b f n↔∃ k,k<n∧(L3 a b f k).2=true∧(L3 a b f k).1=t
 | 0=>by simp [Ky]
 | n+1=>by
  have ih:=ZH a b f t n
  unfold Ky
  split
  ·rename_i h
   rw [ap,ih]
   constructor
   ·rintro (h1 | ⟨k,h1,h2⟩)
    ·exact ⟨n,by omega,h,h1.symm⟩
    ·exact ⟨k,by omega,h2⟩
   ·rintro ⟨k,h1,h2,h3⟩
    by_cases hk:k=n
    ·subst hk; exact .inl h3.symm
    ·exact .inr ⟨k,by omega,h2,h3⟩
  ·rename_i h
   rw [ih]
   constructor
   ·rintro ⟨k,h1,h2⟩; exact ⟨k,by omega,h2⟩
   ·rintro ⟨k,h1,h2,h3⟩
    by_cases hk:k=n
    ·subst hk; exact absurd h2 h
    ·exact ⟨k,by omega,h2,h3⟩
theorem Es (a b:PV) (f:FV):∀ n,(Ky a b f n).length≤n
 | 0=>Nat.le_refl _
 | n+1=>by
  have ih:=Es a b f n
  unfold Ky an
  split
  ·split
   ·omega
   ·rw [P2]; omega
  ·omega
theorem Ft (a b:PV) (f:FV) (ha:QV a.rim) (hb:QV b.rim) (n:Nat):∀ t∈Ky a b f n,vb t≤26:=fun t ht=>by
 obtain ⟨k,_,_,h⟩:=(ZH a b f t n).1 ht
 rw [← h]; exact EG ha hb _ _
end
end Go.Ab.N
