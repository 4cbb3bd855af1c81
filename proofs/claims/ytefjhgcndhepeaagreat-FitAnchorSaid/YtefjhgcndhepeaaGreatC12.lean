/- Contracts of functions of these chapters, for every argument that fits, and what they need. -/
import Derived.Test.YtefjhgcndhepeaaGreatC11
import Derived.Test.YtefjhgcndhepeaaGreatC10
import Derived.Test.YtefjhgcndhepeaaGreatC7
import Derived.Test.YtefjhgcndhepeaaGreatC6
set_option linter.unusedSimpArgs false
set_option linter.unusedVariables false
open Nat renaming reducePow → Y1, reduceLT → Y2, reduceLeDiff → Y3, reduceEqDiff → Y4, reduceAdd → Y5, reduceMul → Y6, reduceSub → Y7, reduceBEq → Y8, reduceDiv → Y9, reduceMod → YA
namespace Go.Ab.N
open Go Go.RowKit Go.Proofs
noncomputable section
set_option maxRecDepth 10000
set_option maxHeartbeats 4000000
open Classical
def gC (L:List V2) (d:Nat×Nat×Nat):List V2:=[L.getD d.1 v0,L.getD d.2.1 v0,L.getD d.2.2 v0]
def Kt (L:List V2):List (List V2):=(DR L).map (gC L)
theorem OH (L:List V2):∀ (f:Nat) (R:List Nat),Rok L R→R.Nodup→3≤R.length→∀ d∈Ch L f R,d.1<L.length∧d.2.1<L.length∧d.2.2<L.length
 | 0,R,h,_,_,d,hd=>by
  rw [List.mem_singleton.1 hd]
  exact ⟨h.mem 0,h.mem 1,h.mem 2⟩
 | f+1,R,h,hn,h3,d,hd=>by
  unfold Ch at hd
  split at hd
  ·rename_i h4
   obtain ⟨b1,b2,b3,_⟩:=EZ h hn h4
   rcases List.mem_cons.1 hd with rfl | hd
   ·exact ⟨h.mem _,h.mem _,h.mem _⟩
   ·exact OH L f _ b1 b2 b3 d hd
  ·rw [List.mem_singleton.1 hd]
   exact ⟨h.mem 0,h.mem 1,h.mem 2⟩
theorem I2 (L:List V2):∀ (f:Nat) (R:List Nat),Rok L R→R.Nodup→3≤R.length→(Ch L f R).length≤R.length
 | 0,R,h,_,_=>h.pos
 | f+1,R,h,hn,h3=>by
  unfold Ch
  split
  ·rename_i h4
   obtain ⟨b1,b2,b3,b4⟩:=EZ h hn h4
   have:=I2 L f _ b1 b2 b3
   rw [List.length_cons]; omega
  ·exact h.pos
theorem YQ (A B C:V2):Weak (LF A B C).loose (Xw [A,B,C]):=by
 rw [XP,X7]
 show Weak (AV.sl 3 24 _ false) _
 refine Vf (Nat.le_refl _) fun j hj=>?_
 have hj:j<24:=hj
 match j,hj with
 | 0,_=>rfl
 | 1,_=>rfl
 | 2,_=>rfl
 | 3,_=>rfl
 | 4,_=>rfl
 | 5,_=>rfl
 | 6,_=>rfl
 | 7,_=>rfl
 | 8,_=>rfl
 | 9,_=>rfl
 | 10,_=>rfl
 | 11,_=>rfl
 | 12,_=>rfl
 | 13,_=>rfl
 | 14,_=>rfl
 | 15,_=>rfl
 | 16,_=>rfl
 | 17,_=>rfl
 | 18,_=>rfl
 | 19,_=>rfl
 | 20,_=>rfl
 | 21,_=>rfl
 | 22,_=>rfl
 | 23,_=>rfl
 | j+24,h=>omega
theorem AA (L:List V2):(Kt L).length=(DR L).length:=by simp [Kt]
theorem G4 (L:List V2) (i:Nat) (h:i<(DR L).length):(Kt L).getD i []=gC L ((DR L).getD i (0,0,0)):=by
 unfold Kt
 rw [List.getD_eq_getElem?_getD,List.getElem?_map,List.getD_eq_getElem?_getD,List.getElem?_eq_getElem h]; rfl
theorem tF (T:List (Nat×Nat×Nat)) (i:Nat):Xs tC 3 (0,0,0) T (i*3)=I (T.getD i (0,0,0)).1∧Xs tC 3 (0,0,0) T (i*3+1)=I (T.getD i (0,0,0)).2.1∧Xs tC 3 (0,0,0) T (i*3+2)=I (T.getD i (0,0,0)).2.2 :=
 ⟨K6 _ _ _ _ _ (by omega),JP _ _ _ _ _ _ (by omega),JP _ _ _ _ _ _ (by omega)⟩
theorem RD {H:List AO} (W:List (List V2)) (A B C:V2) (j:Nat) (hj:j<W.length+1):Zr H (QM W.length (Q7 Xw [] W) 1 (Xo [(LF A B C).loose]) j) (Q7 Xw [] (W ++ [[A,B,C]]) j):=by
 unfold QM
 by_cases h:j<W.length
 ·rw [if_pos h,JX,JX]
  have:(W ++ [[A,B,C]]).getD j []=W.getD j []:=by rw [List.getD_eq_getElem?_getD,List.getD_eq_getElem?_getD,List.getElem?_append_left h]
  rw [this]; exact J1 _ _
 ·obtain rfl:j=W.length:=by omega
  rw [if_neg (by omega),if_pos (by omega),JX,Nat.sub_self]
  have:(W ++ [[A,B,C]]).getD W.length []=[A,B,C]:=by rw [List.getD_eq_getElem?_getD,List.getElem?_append_right (Nat.le_refl _),Nat.sub_self]; rfl
  rw [this]
  exact fun c v _ _ hv=>YQ A B C c v hv
theorem rF {P:Program} {fn:Func} {str hcs:List Nat} {b:Nat} {r1 r2:AV} {H:List AO} {s:AS} {t u:Nat} (hr:fn.results=#[.tmp t,.tmp u]) (h1:s.get t=r1) (h2:s.get u=r2) (hH:s.h=H):RetOk (D0 P fn str hcs b (.tup [r1,r2]) H) s :=
 ⟨.tup [r1,r2],by show KD P fn s=_; simp [KD,hr,QZ,QR,Zy,h1,h2],rfl,hH⟩
theorem oz (o1 o2:AO) (B1:∀ m,2≤m→XQ m o1) (B2:∀ m,2≤m→XQ m o2) (L:List V2) (k:Nat) (hs:Qx L k) (hk:k≤1000) (hp:Cp L) :
  HCall Tryz.prog 245 [Xw L] [o1,o2] (.tup [.osl 2 (Kt L).length 1 0 (Kt L).length,I 0]) [o1,o2,.row (Kt L).length (Kt L).length (Q7 Xw [] (Kt L))]:=by
 have hl:=hp.1
 have cc:=jG L k hs hk hp
 have hTl:(DR L).length≤12:=by have:=I2 L L.length _ (DO hl.1 (by omega)) List.nodup_range (by rw [List.length_range]; omega); rw [List.length_range] at this; unfold DR; omega
 have hm:=OH L L.length _ (DO hl.1 (by omega)) List.nodup_range (by rw [List.length_range]; omega)
 have hcl:=AA L
 have hca:=G4 L
 change ∀ d∈DR L,_ at hm
 generalize DR L=T at *
 generalize Kt L=C at *
 have hbL:Kl 3 (Xw L)=True:=eq_true (X8 (Xl L))
 have hbT:Kl 3 (pX T)=True:=eq_true (X8 (Rj T))
 have q1:XQ 3 o1=True:=eq_true (B1 3 (by omega))
 have q2:XQ 3 o2=True:=eq_true (B2 3 (by omega))
 have s1:∀ v n f A B C,XQ 3 (.row v (n+1) (QM n (Q7 Xw [] f) 1 (Xo [(LF A B C).loose])))=True:=fun v n f A B C=>eq_true fun j hj=>by
  unfold QM
  have hset:Settled (LF A B C).loose:=by rw [XP]; exact J0 fun j _=>Xg (l:=[_,_,_,_,_,_,_,_,_,_,_,_,_,_,_,_,_,_,_,_,_,_,_,_]) (by simp [X5,X3]) j
  split
  ·exact X8 (Xl _)
  ·rw [show j - n=0 by omega]
   exact X8 hset
 refine HCall.intro (fn:=Tryz.f245) Tryz.call245 Tryz.func245 rfl mixed 9 [14,15,16] [6,70000008] [] (by kernel_rfl) (Nat.le_of_ble_eq_true rfl) (X1 1000 ?_)
 simp only [AS.start,X7,↓X2,wA,seval,wE]
 refine X0 cc rfl ?_
 simp only [X7,DP,↓X2,wA,seval,wE]
 refine Xf (fun i:Nat=>⟨9,[14,15,16],[Xw L,.any,.any,.any,.any,I 0,.osl 2 i 1 0 i,.any,.any],[(14,pX T),(15,I T.length),(16,I i)],[o1,o2,.row i i (Q7 Xw [] (C.take i))]⟩) (fun i=>i≤T.length) (fun i=>T.length - i) 0 (by omega)
  (Sub.trans (QT 6 1 (Q7 Xw [] []) rfl) (Xb rfl (by simp [AS.put,Xi,X7,I]) (by simp [AS.put,Xj,Xp,DP,I]) (by simp [AS.put]))) ?_
 intro i hi next
 have w1:=wj i (by omega)
 by_cases hi2:i<T.length
 rotate_left
 ·obtain rfl:i=T.length:=by omega
  refine X1 1000 ?_
  simp only [X7,DP,Int.lt_irrefl,Nat.lt_irrefl,↓X2,wA,seval,wE]
  rw [List.take_of_length_le (by omega)]
  exact rF rfl (by rw [hcl]; rfl) rfl (by rw [hcl])
 have t1:=tF T i
 obtain ⟨m1,m2,m3⟩:=hm (T.getD i (0,0,0)) (JI hi2)
 have hc1:=hca i hi2
 have htk:C.take (i+1)=C.take i ++ [C.getD i []]:=QJ C [] i (by omega)
 have hwl:(C.take i).length=i:=by rw [List.length_take]; omega
 have nx:=next (i+1)
 rw [htk,hc1] at nx
 unfold gC at nx
 generalize (T.getD i (0,0,0)).1=a at *
 generalize (T.getD i (0,0,0)).2.1=b at *
 generalize (T.getD i (0,0,0)).2.2=c at *
 have va:=vF L a
 have vb:=vF L b
 have vc:=vF L c
 have hgr:=@RD [o1,o2,.row (i+1) (i+1) (QM i (Q7 Xw [] (C.take i)) 1 (Xo [(LF (L.getD a v0) (L.getD b v0) (L.getD c v0)).loose]))] (C.take i) (L.getD a v0) (L.getD b v0) (L.getD c v0)
 rw [hwl] at hgr
 generalize L.getD a v0=A at *
 generalize L.getD b v0=B at *
 generalize L.getD c v0=D at *
 generalize C.take i=W at *
 refine X1 1000 ?_
 simp (disch:=omega) only [X7,DP,t1,va,vb,vc,wD,Int.reduceToNat,↓X2,wA,seval,wE]
 exact nx _ (by omega) (by omega) (Sub.trans (Xz (m:=3) (s':=⟨9,[14,15,16],[Xw L,.any,.any,.any,.any,I 0,.osl 2 (i+1) 1 0 (i+1),.any,.any],[(14,pX T),(15,I T.length),(16,I (i+1:Nat))],[o1,o2,.row (i+1) (i+1) (QM i (Q7 Xw [] W) 1 (Xo [(LF A B D).loose]))]⟩) (by simp [D0]) rfl (by simp [Xi,X7,I]) (by simp [Xj,Xp,DP,I]) (by simp [XP,X4,AV.loose]) (by simp [XA,hbL]) (by simp [XA,hbT]) (by simp [q1,q2,s1])) (Sub.trans (ZF 2 (Q7 Xw [] (W ++ [[A,B,D]])) rfl (fun j hj=>hgr j hj)) (Xb rfl (by simp [Xi]) (by simp [Xj,Xp]) rfl)))
def H7 (f:List V2→List V2) (C:List (List V2)) (i:Nat):List (List V2):=(C.take i).map f ++ C.drop i
theorem pm (f:List V2→List V2) (C:List (List V2)):H7 f C 0=C:=rfl
theorem eQ (f:List V2→List V2) (C:List (List V2)):H7 f C C.length=C.map f:=by unfold H7; simp
theorem kW (f:List V2→List V2) (C:List (List V2)) (i:Nat) (h:i<C.length):(H7 f C i).getD i []=C.getD i []:=by
 unfold H7
 rw [List.getD_eq_getElem?_getD,List.getElem?_append_right (by simp; omega),List.getD_eq_getElem?_getD]
 simp [Nat.min_eq_left (Nat.le_of_lt h)]
theorem eU (f:List V2→List V2) (C:List (List V2)) (i:Nat) (h:i≤C.length):(H7 f C i).length=C.length:=by unfold H7; simp; omega
theorem eW (f:List V2→List V2) (C:List (List V2)) (i:Nat) (h:i<C.length):(H7 f C i).set i (f (C.getD i []))=H7 f C (i+1):=by
 refine List.ext_getElem? fun j=>?_
 unfold H7
 rw [List.getElem?_set]
 by_cases hj:i=j
 ·subst hj
  rw [if_pos rfl,if_pos (by simp; omega),List.getElem?_append_left (by simp; omega),List.getElem?_map,List.getElem?_take,if_pos (by omega),List.getElem?_eq_getElem h,List.getD_eq_getElem?_getD,List.getElem?_eq_getElem h]; rfl
 ·rw [if_neg hj]
  by_cases hlt:j<i
  ·rw [List.getElem?_append_left (by simp; omega),List.getElem?_append_left (by simp; omega),List.getElem?_map,List.getElem?_map,List.getElem?_take,List.getElem?_take,if_pos hlt,if_pos (by omega)]
  ·rw [List.getElem?_append_right (by simp; omega),List.getElem?_append_right (by simp; omega),List.getElem?_drop,List.getElem?_drop]
   congr 1
   simp; omega
def Ks (p:PV) (t c:V2):List (List V2):=(Kt (Xy p.rim)).map (AK t c)
theorem Gj {R:List (Int×Int)} (h:QP R):Qx (Xy R) 3:=fun i=>by rw [FB]; exact Kp h i
theorem Dv:vb v0≤3:=by
 have:=Kp (R:=[]) (fun c hc=>absurd hc List.not_mem_nil) 0
 exact this
theorem Gw (L:List V2) (k:Nat) (h:Qx L k) (hk:3≤k) (i:Nat):Qx ((Kt L).getD i []) k:=by
 by_cases hi:i<(DR L).length
 ·rw [G4 L i hi]
  intro j
  unfold gC
  match j with
  | 0=>exact h _
  | 1=>exact h _
  | 2=>exact h _
  | j+3=>exact Nat.le_trans Dv hk
 ·have e:(Kt L).getD i []=[]:=by rw [List.getD_eq_getElem?_getD,List.getElem?_eq_none (by rw [AA]; omega)]; rfl
  rw [e]
  exact fun j=>Nat.le_trans Dv hk
theorem HY (L:List V2) (i:Nat) (hi:i<(DR L).length):((Kt L).getD i []).length=3:=by rw [G4 L i hi]; rfl
theorem Nk {L:List V2} (hl:3≤L.length∧L.length≤12):(DR L).length≤12:=by
 have:=I2 L L.length _ (DO hl.1 (by omega)) List.nodup_range (by rw [List.length_range]; omega)
 rw [List.length_range] at this
 unfold DR; omega
theorem TI (l:List V2):(Xw l).cells=[Xw l]:=nrfl rfl
theorem gU (l:List V2):(Xw l).one=true:=nrfl rfl
theorem TJ (l:List V2):(Xw l).loose=Xw l:=nrfl rfl
theorem Mt (p:PV) (t c:V2) (hp:Cp (Xy p.rim)) (hn:QP p.rim) (ht:vb t≤1000) (hc:vb c≤1000):Fn Tryz.prog 202 [Jg p,iv t c] (TK (Ks p t c)):=by
 have hl:=hp.1
 have hle:=Nk hl
 have hrl:(Xy p.rim).length=p.rim.length:=by simp [Xy]
 have r1:=Ts p (by omega) (AL hn)
 have sm:=Gj hn
 have hcs:=Gw (Xy p.rim) 3 sm (Nat.le_refl _)
 have h3:=HY (Xy p.rim)
 have hcl:=AA (Xy p.rim)
 have B1:∀ m,2≤m→XQ m (.row 0 25 (Xo (XO p))):=fun m _=>XE (XG p)
 have B2:∀ m,2≤m→XQ m (.row 0 16 (Xo (O1 t c))):=fun m _=>XE (Ad t c)
 have co:=oz (.row 0 25 (Xo (XO p))) (.row 0 16 (Xo (O1 t c))) B1 B2 (Xy p.rim) 3 sm (by omega) hp
 unfold Ks
 generalize Xy p.rim=L at *
 rw [← hcl] at h3 hle
 generalize Kt L=C at *
 refine Fq Tryz.call202 Tryz.func202 9 [15,16,17] [] [] (by simp [XC,Bu]) (X1 1000 ?_)
 simp (disch:=omega) only [AS.start,Jg,XO,iv,O1,wD,↓X2,wA,seval,wE]
 refine X0 r1 rfl ?_
 simp (disch:=omega) only [X7,wD,↓X2,wA,seval,wE]
 refine Ko rfl co (QN (fun o h=>?_) (fun o h=>?_)) (fun id=>?_) (XY _) ?_
 ·simp only [List.mem_cons,List.not_mem_nil,or_false] at h
  rcases h with rfl | rfl <;> simp
 ·simp only [List.mem_cons,List.not_mem_nil,or_false] at h
  rcases h with rfl | rfl | rfl <;> simp
 ·match id with
  | 0=>simp
  | 1=>simp
  | n+2=>simp
 simp (disch:=omega) only [wD,↓X2,wA,seval,wE]
 refine Xf (fun i:Nat=>⟨9,[15,16,17],[.any,.any,.any,.ref 1 0 0,.any,.osl 2 C.length 1 0 C.length,.any,.any,.any],[(15,.osl 2 C.length 1 0 C.length),(16,I C.length),(17,I i)],[.row 0 25 (Xo (XO p)),.row 0 16 (Xo (O1 t c)),.row C.length C.length (Q7 Xw [] (H7 (AK t c) C i))]⟩) (fun i=>i≤C.length) (fun i=>C.length - i) 0 (by omega)
  (Xb rfl (by simp [Xi,I]) (by simp [Xj,Xp,I]) (by simp [XO,O1,X4,Xh,Xr,pm,I])) ?_
 intro i hi next
 by_cases hi2:i<C.length
 rotate_left
 ·obtain rfl:i=C.length:=by omega
  refine X1 1000 ?_
  simp (disch:=omega) only [wD,↓X2,wA,seval,wE]
  rw [eQ]
  have hml:(C.map (AK t c)).length=C.length:=List.length_map ..
  refine Bd rfl ?_
  rw [Q0,hml]
  refine QI (id:=2) (m:=C.length) (f:=Q7 Xw [] (C.map (AK t c))) (.inl rfl) (by omega) (fun h=>h) fun j hj=>?_
  rw [Nat.zero_add]
  exact (Xl _).sees _
 have v1:=rK (H7 (AK t c) C i) i
 rw [kW _ _ _ hi2] at v1
 have cm:=fI t c (C.getD i []) 3 (hcs i) (by omega) (by rw [h3 i hi2]; omega) (by omega) (by omega)
 refine X1 1000 ?_
 simp (disch:=omega) only [v1,wD,↓X2,wA,seval,wE]
 refine X0 cm rfl ?_
 simp (disch:=omega) only [TI,gU,TJ,wD,↓X2,wA,seval,wE]
 exact next (i+1) _ (by omega) (by omega) (Xb rfl (by simp [Xi]) (by simp [Xj,Xp,I]) (by rw [← eW _ _ _ hi2,← Vd _ _ _ _ _ (by rw [eU _ _ _ hi]; exact hi2)]))
def Ir (f:FV):V2:=(f.lo.add f.hi).scale (Rat.divInt 1 2)
def Ai (a b:PV) (f:FV) (e:Rat):Bool:=Oe (Ks a Z6 v0) (Ks b f.turn (Ir f)) (-e)
structure GP (p:PV) (t:Rat):Prop where
 even:p.even
 poly:XI (Xy p.rim)
 tol:p.tol=RQ.of t
 qt:qb t≤20
structure FV.fine (f:FV):Prop where
 turn:vb f.turn≤60
 lo:vb f.lo≤300
 hi:vb f.hi≤300
theorem Em (p:PV) (t c:V2):(Ks p t c).length=(DR (Xy p.rim)).length:=by unfold Ks; rw [List.length_map,AA]
theorem HX (p:PV) (t c:V2) (hn:QP p.rim) (ht:vb t≤100) (hc:vb c≤700):∀ i,i<(Ks p t c).length→Shp 1000 ((Ks p t c).getD i []):=fun i hi=>by
 rw [Em] at hi
 have e:(Ks p t c).getD i []=AK t c ((Kt (Xy p.rim)).getD i []):=by
  unfold Ks
  rw [List.getD_eq_getElem?_getD,List.getElem?_map,List.getD_eq_getElem?_getD,List.getElem?_eq_getElem (by rw [AA]; exact hi)]; rfl
 have hs:=Gw (Xy p.rim) 3 (Gj hn) (Nat.le_refl _) i
 have h3:=HY (Xy p.rim) i hi
 rw [e]
 generalize (Kt (Xy p.rim)).getD i []=W at *
 have hl:(AK t c W).length=3:=by unfold AK; rw [List.length_map,h3]
 refine ⟨fun j=>?_,by omega,by omega⟩
 by_cases hj:j<W.length
 ·have ej:(AK t c W).getD j v0=put t c (W.getD j v0):=by
   unfold AK
   rw [List.getD_eq_getElem?_getD,List.getElem?_map,List.getD_eq_getElem?_getD,List.getElem?_eq_getElem hj]; rfl
  rw [ej]
  have:=qi t c (W.getD j v0)
  have:=hs j
  omega
 ·rw [List.getD_eq_getElem?_getD,List.getElem?_eq_none (by omega)]
  exact Nat.le_trans Dv (by omega)
theorem UN:qb (Rat.divInt 1 2)≤10:=by decide +kernel
theorem gJ (f:FV) (h:f.fine):vb (Ir f)≤700:=by
 have h1:=Ba f.lo f.hi
 have h2:=gM (f.lo.add f.hi) (Rat.divInt 1 2)
 have:=UN
 have:=h.lo; have:=h.hi
 unfold Ir; omega
theorem FP:vb Z6≤10:=by decide +kernel
theorem cD (a b:PV) (f:FV) {ta tb:Rat} (ha:GP a ta) (hb:GP b tb) (hf:f.fine):(∀ i,i<(Ks a Z6 v0).length→Shp 1000 ((Ks a Z6 v0).getD i []))∧(∀ i,i<(Ks b f.turn (Ir f)).length→Shp 1000 ((Ks b f.turn (Ir f)).getD i [])) ∧
  (Ks a Z6 v0).length≤1000∧(Ks b f.turn (Ir f)).length≤1000:=by
 have h1:=Nk (Aa _ ha.poly).1
 have h2:=Nk (Aa _ hb.poly).1
 have:=FP
 have:=Dv
 exact ⟨HX a Z6 v0 ha.even.near (by omega) (by omega),HX b f.turn (Ir f) hb.even.near (by have:=hf.turn; omega) (gJ f hf),by rw [Em]; omega,by rw [Em]; omega⟩
theorem gZ:Weak (.agg (vC Z6 ++ [.bool false,.sl 0 0 (fun _=>.any) true,.bool false,.sl 0 0 (fun _=>.any) true,.bool false,.sl 0 0 (fun _=>.any) true,.bool false,.sl 0 0 (fun _=>.any) true])) (iv Z6 v0):=by
 refine XT ?_
 have h:=Ca true
 exact ⟨Weak.rfl' _,Weak.rfl' _,Weak.rfl' _,Weak.rfl' _,Weak.rfl' _,Weak.rfl' _,Weak.rfl' _,Weak.rfl' _,h⟩
theorem M2 (a b:PV) (f:FV) {ta tb:Rat} (ha:GP a ta) (hb:GP b tb) (hf:f.fine):Fn Tryz.prog 137 [Jg a,Jg b,KP f] (.bool (Ai a b f (ta+tb))):=by
 have qa:=ha.qt; have q2:=hb.qt
 have f1:=hf.turn; have f2:=hf.lo; have f3:=hf.hi
 have c1:=NA f.lo f.hi (by unfold vm; omega) (by unfold vm; omega)
 have c2:=EH 1 2 (Ik (by omega) (by omega)) (Ik (by omega) (by omega))
 have m1:=Ba f.lo f.hi
 have m2:=gJ f hf
 have c3:=MB (f.lo.add f.hi) (Rat.divInt 1 2) (by unfold vm; omega) (by have:=UN; unfold vm; omega)
 have c4:=Mt a Z6 v0 (Aa _ ha.poly) ha.even.near (by have:=FP; omega) (by have:=Dv; omega)
 have c5:=Mt b f.turn (Ir f) (Aa _ hb.poly) hb.even.near (by omega) (by omega)
 have qe:=K2 ta tb
 have c6:Fn Tryz.prog 70 [a.tol.A,b.tol.A] (qA (ta+tb)):=by rw [ha.tol,hb.tol]; exact As ta tb (by unfold rm; omega) (by unfold rm; omega)
 have c7:=Cx (ta+tb)
 obtain ⟨k1,k2,k3,k4⟩:=cD a b f ha hb hf
 have c8:=iN _ _ (-(ta+tb)) 1000 k1 k2 (by omega) (by omega) (by rw [BD]; omega) k3 k4
 change Fn _ _ [vA (f.lo.add f.hi),qA (Rat.divInt 1 2)] (vA (Ir f)) at c3
 obtain ⟨V,hV⟩:∃ V,V=Ai a b f (ta+tb):=⟨_,rfl⟩
 change Fn _ _ _ (.tup [.any,.bool (Ai a b f (ta+tb))]) at c8
 rw [← hV] at c8 ⊢
 generalize Ir f=M at *
 refine Fq Tryz.call137 Tryz.func137 10 [] [1,20000005,2,30000003,30000004,30000007] [] (by simp [XC,Qk]) (X1 1000 ?_)
 simp (disch:=omega) only [AS.start,Jg,XO,KP,Qa,↓Xk,wD,↓X2,wA,seval,wE]
 refine X0 c1 rfl ?_
 simp (disch:=omega) only [↓Xk,wD,↓X2,wA,seval,wE]
 refine X0 c2 rfl ?_
 simp (disch:=omega) only [↓Xk,wD,↓X2,wA,seval,wE]
 refine X0 c3 rfl ?_
 simp (disch:=omega) only [↓Xk,wD,↓X2,wA,seval,wE]
 refine X0 Ye rfl ?_
 simp (disch:=omega) only [↓Xk,wD,↓X2,wA,seval,wE]
 refine XW c4 ⟨Weak.rfl' _,gZ,trivial⟩ ?_
 simp (disch:=omega) only [Q0,↓Xk,wD,↓X2,wA,seval,wE]
 refine X0 c5 rfl ?_
 simp (disch:=omega) only [Q0,↓Xk,wD,↓X2,wA,seval,wE]
 refine X0 c6 rfl ?_
 simp (disch:=omega) only [Q0,↓Xk,wD,↓X2,wA,seval,wE]
 refine X0 c7 rfl ?_
 simp (disch:=omega) only [Q0,↓Xk,wD,↓X2,wA,seval,wE]
 refine X0 c8 rfl ?_
 simp (disch:=omega) only [↓Xk,wD,↓X2,wA,seval,wE]
 exact Xt rfl rfl (X3 _) rfl
def AB (a b:PV) (f:FV) (e:Rat):Int :=
 if BF a.rim.length b.rim.length f then if H8 a b f then if Sp a b f then
  if (XD a.rim b.rim f e).2.2=true∧(XD a.rim b.rim f e).1=f.lo∧(XD a.rim b.rim f e).2.1=f.hi then if Ai a b f e=true then 0 else 13
  else 22 else 21 else 12 else 5
theorem gH (a b:PV) (f:FV) (na:QP a.rim) (nb:QP b.rim) (e:Rat) (ht:vb f.turn≤1000) (qe:qb e≤3000):vb (XD a.rim b.rim f e).1≤7000∧vb (XD a.rim b.rim f e).2.1≤7000:=by
 have z:=Dv
 have h1:=BX na nb f ht f.M.toNat
 have h2:=BU na nb f ht f.M.toNat
 have h3:=K9 (ZT a.rim b.rim f f.M.toNat) ⟨e,e⟩
 have h4:=Ba (ZR a.rim b.rim f f.M.toNat) ⟨e,e⟩
 have h5:vb ⟨e,e⟩=qb e:=by unfold vb; simp
 unfold XD
 split
 ·simp only
  split
  ·exact ⟨by show vb v0≤_; omega,by show vb v0≤_; omega⟩
  ·exact ⟨by simp only; omega,by simp only; omega⟩
 ·exact ⟨by show vb v0≤_; omega,by show vb v0≤_; omega⟩
theorem Ga (a b:PV) (f:FV) {ta tb:Rat} (ha:GP a ta) (hb:GP b tb) (hf:f.fine):Fn Tryz.prog 52 [Jg a,Jg b,KP f] (I (AB a b f (ta+tb))):=by
 obtain ⟨V,hV⟩:∃ V,V=AB a b f (ta+tb):=⟨_,rfl⟩
 rw [← hV]
 unfold AB at hV
 have qa:=ha.qt; have q2:=hb.qt
 have qe:=K2 ta tb
 have f1:=hf.turn; have f2:=hf.lo; have f3:=hf.hi
 have fin:∀ {s:AS} {n:Int},s.get 6=I n→n=V→RetOk (QX Tryz.prog Tryz.f52 [] [] (I V)) s:=fun h e=>Xt rfl h (Xa _) (by rw [e])
 have c1:=D4 a b f ha.even.rim hb.even.rim
 have c4:=ES a b f ha.even hb.even (by omega) ha.tol hb.tol (by omega) (by omega)
 have ⟨g1,g2⟩:=gH a b f ha.even.near hb.even.near (ta+tb) (by omega) (by omega)
 have c7:=M2 a b f ha hb hf
 refine Fq Tryz.call52 Tryz.func52 10 [] [] [] (by simp [XC,Qk]) (X1 1000 ?_)
 simp (disch:=omega) only [AS.start,Jg,XO,KP,Qa,↓Xk,wD,↓X2,wA,seval,wE]
 refine X0 c1 rfl ?_
 by_cases h1:BF a.rim.length b.rim.length f
 rotate_left
 ·simp (disch:=omega) only [decide_eq_false h1,↓Xk,wD,↓X2,wA,seval,wE]
  exact fin rfl (by rw [hV,if_neg h1])
 have c2:=GK a b f h1 ha.even hb.even
 have c3:=Sq a b f h1 ha.even hb.even
 have cl:=CS a b f f.M.toNat
 have hM:f.M.toNat<1000000:=by have:=h1.2.2.2.1; have:=ha.even.rim; omega
 have ca:=LD (Qh a b f f.M.toNat) 142 [mQ f] (fun x=>decide (x=f.turn)) (by omega) (fun x hx=>by rw [List.mem_singleton.1 hx]; exact Bt f) (fun x hx=>Wa x f (by have:=Ek a b f ha.even.near hb.even.near _ x hx; unfold vm; omega) (by unfold vm; omega))
 have hany:(Qh a b f f.M.toNat).any (fun x=>decide (x=f.turn))=decide (Sp a b f):=by
  have:=HM a b f f.turn f.M.toNat
  cases hq:(Qh a b f f.M.toNat).any (fun x=>decide (x=f.turn)) with
  | true=>exact (decide_eq_true (p:=Sp a b f) (this.1 hq)).symm
  | false=>exact (decide_eq_false (p:=Sp a b f) (fun hh=>by rw [this.2 hh] at hq; cases hq)).symm
 rw [hany] at ca
 generalize Qh a b f f.M.toNat=W at *
 have sB:Jt [.row 0 25 (Xo (XO a)),.row 0 25 (Xo (XO b)),.row 0 29 (Xo (Qa f))] (.ref 2 0 0) (mQ f):=KF (.inl rfl) (by omega) fun j hj=>(Xg (Qd f) j).sees _
 rw [if_pos h1] at hV
 simp (disch:=omega) only [decide_eq_true h1,↓Xk,wD,↓X2,wA,seval,wE]
 refine X0 c2 rfl ?_
 by_cases h2:H8 a b f
 rotate_left
 ·simp (disch:=omega) only [decide_eq_false h2,↓Xk,wD,↓X2,wA,seval,wE]
  exact fin rfl (by rw [hV,if_neg h2])
 rw [if_pos h2] at hV
 simp (disch:=omega) only [decide_eq_true h2,↓Xk,wD,↓X2,wA,seval,wE]
 refine X0 c3 rfl ?_
 simp (disch:=omega) only [X7,↓Xk,wD,↓X2,wA,seval,wE]
 refine Ju ca rfl ⟨(Xl W).sees _,Br ⟨sB,trivial⟩,trivial⟩ (ZQ _) ?_
 by_cases h3:Sp a b f
 rotate_left
 ·simp (disch:=omega) only [decide_eq_false h3,↓Xk,wD,↓X2,wA,seval,wE]
  exact fin rfl (by rw [hV,if_neg h3])
 rw [if_pos h3] at hV
 simp (disch:=omega) only [decide_eq_true h3,↓Xk,wD,↓X2,wA,seval,wE]
 refine X0 c4 rfl ?_
 generalize XD a.rim b.rim f (ta+tb)=G at *
 obtain ⟨lo,hi,ok⟩:=G
 simp only at hV g1 g2
 have c5:=NC lo f.lo (by unfold vm; omega) (by unfold vm; omega)
 have c6:=NC hi f.hi (by unfold vm; omega) (by unfold vm; omega)
 cases ok with
 | false =>
  simp (disch:=omega) only [↓Xk,wD,↓X2,wA,seval,wE]
  exact fin rfl (by rw [hV,if_neg (fun h=>by cases h.1)])
 | true =>
  simp (disch:=omega) only [↓Xk,wD,↓X2,wA,seval,wE]
  refine X0 c5 rfl ?_
  by_cases h4:lo=f.lo
  rotate_left
  ·simp (disch:=omega) only [decide_eq_false h4,↓Xk,wD,↓X2,wA,seval,wE]
   exact fin rfl (by rw [hV,if_neg (fun h=>h4 h.2.1)])
  simp (disch:=omega) only [decide_eq_true h4,↓Xk,wD,↓X2,wA,seval,wE]
  refine X0 c6 rfl ?_
  by_cases h5:hi=f.hi
  rotate_left
  ·simp (disch:=omega) only [decide_eq_false h5,↓Xk,wD,↓X2,wA,seval,wE]
   exact fin rfl (by rw [hV,if_neg (fun h=>h5 h.2.2)])
  rw [if_pos ⟨rfl,h4,h5⟩] at hV
  simp (disch:=omega) only [decide_eq_true h5,↓Xk,wD,↓X2,wA,seval,wE]
  refine X0 c7 rfl ?_
  cases h6:Ai a b f (ta+tb) with
  | false =>
   simp (disch:=omega) only [↓Xk,wD,↓X2,wA,seval,wE]
   exact fin rfl (by rw [hV,h6]; rfl)
  | true =>
   simp (disch:=omega) only [↓Xk,wD,↓X2,wA,seval,wE]
   exact fin rfl (by rw [hV,h6]; rfl)
def B8 (a b:PV) (f:FV) (e:Rat):FV:={ f with lo:=(XD a.rim b.rim f e).1,hi:=(XD a.rim b.rim f e).2.1 }
def Cb:FV:=⟨0,0,0,0,0,v0,v0,v0⟩
def NZ:List AV:=[I 0,I 0,I 0,I 0,I 0] ++ (KR ++ (KR ++ KR))
theorem oE {a b:List (Int×Int)} (ha:QP a) (hb:QP b) (f:FV) (ht:vb f.turn≤60) (k:Nat):vb (KX a b f k)≤150:=by
 have h1:=Kp ha (xK a.length f k)
 have h2:=Kp hb ((f.EB+1 - k) % b.length).toNat
 unfold KX
 have h3:=Du f.turn (JY (b.getD ((f.EB+1 - k) % b.length).toNat (0,0)))
 have h4:=K9 (JY (a.getD (xK a.length f k) (0,0))) (Ha f.turn (JY (b.getD ((f.EB+1 - k) % b.length).toNat (0,0))))
 omega
theorem HK (a b:PV) (f:FV) (na:QP a.rim) (nb:QP b.rim) (e:Rat) (ht:vb f.turn≤60):vb (XD a.rim b.rim f e).1≤155+qb e∧vb (XD a.rim b.rim f e).2.1≤155+qb e:=by
 have z:=Dv
 have d:=oE na nb f ht
 have h1:vb (ZT a.rim b.rim f f.M.toNat)≤150:=Nat.max_le.2 ⟨IB _ 150 (fun j=>Nat.le_trans (Qy _) (d j)) _,IB _ 150 (fun j=>Nat.le_trans (Qo _) (d j)) _⟩
 have h2:vb (ZR a.rim b.rim f f.M.toNat)≤150:=Nat.max_le.2 ⟨IA _ 150 (fun j=>Nat.le_trans (Qy _) (d j)) _,IA _ 150 (fun j=>Nat.le_trans (Qo _) (d j)) _⟩
 have h3:=K9 (ZT a.rim b.rim f f.M.toNat) ⟨e,e⟩
 have h4:=Ba (ZR a.rim b.rim f f.M.toNat) ⟨e,e⟩
 have h5:vb ⟨e,e⟩=qb e:=by unfold vb; simp
 unfold XD
 split
 ·simp only
  split
  ·exact ⟨by show vb v0≤_; omega,by show vb v0≤_; omega⟩
  ·exact ⟨by simp only; omega,by simp only; omega⟩
 ·exact ⟨by show vb v0≤_; omega,by show vb v0≤_; omega⟩
theorem rh (f g:FV):f=g↔(f.A=g.A∧f.B=g.B∧f.EA=g.EA∧f.EB=g.EB∧f.M=g.M)∧f.turn=g.turn∧f.lo=g.lo∧f.hi=g.hi:=by
 obtain ⟨a,b,c,d,e,t,l,h⟩:=f
 obtain ⟨a',b',c',d',e',t',l',h'⟩:=g
 simp [and_assoc]
theorem Tm (f g:FV) (hf:f.fine) (hg:g.fine):Fn Tryz.prog 35 [KP f,KP g] (.bool (decide (f=g))):=by
 obtain ⟨V,hV⟩:∃ V,V=decide (f=g):=⟨_,rfl⟩
 rw [← hV]
 rw [decide_eq_decide.2 (rh f g)] at hV
 have fin:∀ {s:AS} {v:Bool},s.get 4=.bool v→v=V→RetOk (QX Tryz.prog Tryz.f35 [] [] (.bool V)) s:=fun h e=>Xt rfl h (X3 _) (by rw [e])
 obtain ⟨f1,f2,f3⟩:=hf
 obtain ⟨g1,g2,g3⟩:=hg
 have c1:=AW f.turn g.turn (by unfold vm; omega) (by unfold vm; omega)
 have c2:=AU f.lo g.lo (by unfold vm; omega) (by unfold vm; omega)
 have c3:=AU f.hi g.hi (by unfold vm; omega) (by unfold vm; omega)
 refine Fq Tryz.call35 Tryz.func35 5 [] [] [] (by simp [Qk]) (X1 1000 ?_)
 by_cases h:f.A=g.A∧f.B=g.B∧f.EA=g.EA∧f.EB=g.EB∧f.M=g.M
 rotate_left
 ·have hv:false=V:=by rw [hV]; exact (decide_eq_false fun hh=>h hh.1).symm
  rcases (show f.A≠g.A∨(f.A=g.A∧f.B≠g.B)∨(f.A=g.A∧f.B=g.B∧f.EA≠g.EA)∨(f.A=g.A∧f.B=g.B∧f.EA=g.EA∧f.EB≠g.EB)∨(f.A=g.A∧f.B=g.B∧f.EA=g.EA∧f.EB=g.EB∧f.M≠g.M) by omega) with q | ⟨q1,q⟩ | ⟨q1,q2,q⟩ | ⟨q1,q2,q3,q⟩ | ⟨q1,q2,q3,q4,q⟩
  ·simp only [AS.start,KP,Qa,eq_false q,↓X2,wA,seval,wE]
   exact fin rfl hv
  ·simp only [AS.start,KP,Qa,eq_true q1,eq_false q,↓X2,wA,seval,wE]
   exact fin rfl hv
  ·simp only [AS.start,KP,Qa,eq_true q1,eq_true q2,eq_false q,↓X2,wA,seval,wE]
   exact fin rfl hv
  ·simp only [AS.start,KP,Qa,eq_true q1,eq_true q2,eq_true q3,eq_false q,↓X2,wA,seval,wE]
   exact fin rfl hv
  ·simp only [AS.start,KP,Qa,eq_true q1,eq_true q2,eq_true q3,eq_true q4,eq_false q,↓X2,wA,seval,wE]
   exact fin rfl hv
 have e:V=decide (f.turn=g.turn∧f.lo=g.lo∧f.hi=g.hi):=by rw [hV]; exact decide_eq_decide.2 ⟨fun hh=>hh.2,fun hh=>⟨h,hh⟩⟩
 clear hV
 simp (disch:=omega) only [AS.start,KP,Qa,↓Xk,wD,↓X2,wA,seval,wE]
 refine X0 c1 rfl ?_
 by_cases n1:f.turn=g.turn
 rotate_left
 ·simp (disch:=omega) only [decide_eq_false n1,↓Xk,wD,↓X2,wA,seval,wE]
  exact fin rfl (by rw [e]; exact (decide_eq_false fun hh=>n1 hh.1).symm)
 simp (disch:=omega) only [decide_eq_true n1,↓Xk,wD,↓X2,wA,seval,wE]
 refine X0 c2 rfl ?_
 by_cases n2:f.lo=g.lo
 rotate_left
 ·simp (disch:=omega) only [decide_eq_false n2,↓Xk,wD,↓X2,wA,seval,wE]
  exact fin rfl (by rw [e]; exact (decide_eq_false fun hh=>n2 hh.2.1).symm)
 simp (disch:=omega) only [decide_eq_true n2,↓Xk,wD,↓X2,wA,seval,wE]
 refine X0 c3 rfl ?_
 simp (disch:=omega) only [↓Xk,wD,↓X2,wA,seval,wE]
 exact fin rfl (by rw [e]; exact decide_eq_decide.2 ⟨fun hh=>⟨n1,n2,hh⟩,fun hh=>hh.2.2⟩)
theorem vT {V:Bool} {P:Prop} (h:V=true↔P) (p:P):true=V:=(h.2 p).symm
theorem vN {V:Bool} {P:Prop} (h:V=true↔P) (p:¬ P):false=V:=by
 cases V with
 | true=>exact absurd (h.1 rfl) p
 | false=>rfl
theorem vI {V:Bool} {P Q:Prop} [Decidable Q] (h:V=true↔P) (e:P↔Q):decide Q=V:=by
 by_cases q:Q
 ·rw [decide_eq_true q]; exact vT h (e.2 q)
 ·rw [decide_eq_false q]; exact vN h fun p=>q (e.1 p)
def ZO (t u:V2):Prop:=t.x<u.x∨(t.x=u.x∧t.y<u.y)
theorem fP (a b:Rat):QO a b=0↔a=b:=by
 have h1:=lx a b; have h2:=UP a b
 exact ⟨fun h=>Rat.le_antisymm (h1.1 (by omega)) (h2.1 (by omega)),fun h=>by subst h; have:=h1.2 Rat.le_refl; have:=h2.2 Rat.le_refl; omega⟩
def Mr (n m:Nat) (f g:FV):Prop:=f.M<g.M∧(f.EA - g.EA) % n+f.M≤g.M∧(g.EB - (f.EA - g.EA) % n) % m=f.EB∧f.turn=g.turn
structure FV.near (f:FV):Prop where
 ea:-1000000≤f.EA∧f.EA≤1000000
 eb:-1000000≤f.EB∧f.EB≤1000000
 m:-1000000≤f.M∧f.M≤1000000
def Ap (t:V2):V2:=⟨-t.y,t.x⟩
def Jn:Nat→V2→V2
 | 0,t=>t
 | i+1,t=>Ap (Jn i t)
theorem gL (t:V2):vb (Ap t)=vb t:=by unfold vb Ap; simp only [BD]; exact Nat.max_comm _ _
theorem C9 (t:V2):∀ i,vb (Jn i t)=vb t
 | 0=>rfl
 | i+1=>(gL _).trans (C9 t i)
def Rw (m w:Int):V2:=⟨Rat.divInt (m*m - w*w) (m*m+w*w),Rat.divInt (2*m*w) (m*m+w*w)⟩
def V9 (n:Int):V2:=Jn (QB n 64 % 4).toNat (Rw (1+QB n 64 / 4 % 4) (QB n 64 / 16))
theorem YI (n:Int) (hn:Kg n):Fn Tryz.prog 60 [I n] (vA (V9 n))∧vb (V9 n)≤3:=by
 have c1:=Kc n 64 hn (by omega)
 have hk:=JQ n 64 (by omega)
 unfold V9
 generalize QB n 64=k at *
 have b1:k.tdiv 4=k / 4:=Int.tdiv_eq_ediv_of_nonneg hk.1
 have b2:(k / 4).tmod 4=k / 4 % 4:=Int.tmod_eq_emod_of_nonneg (by omega)
 have b3:k.tdiv 16=k / 16:=Int.tdiv_eq_ediv_of_nonneg hk.1
 have b4:k.tmod 4=k % 4:=Int.tmod_eq_emod_of_nonneg hk.1
 have hm:1≤1+k / 4 % 4∧1+k / 4 % 4≤4:=by omega
 have hw:0≤k / 16∧k / 16≤3:=by omega
 generalize hme:1+k / 4 % 4=m at *
 generalize k / 16=w at *
 have q1:1≤m*m∧m*m≤16:=by rcases (show m=1∨m=2∨m=3∨m=4 by omega) with rfl | rfl | rfl | rfl <;> decide
 have q2:0≤w*w∧w*w≤9:=by rcases (show w=0∨w=1∨w=2∨w=3 by omega) with rfl | rfl | rfl | rfl <;> decide
 have q3:0≤2*m*w∧2*m*w≤24:=by rcases (show w=0∨w=1∨w=2∨w=3 by omega) with rfl | rfl | rfl | rfl <;> omega
 have c2:=QY (m*m - w*w) (m*m+w*w) ⟨by omega,by omega⟩ ⟨by omega,by omega⟩
 have c3:=QY (2*m*w) (m*m+w*w) ⟨by omega,by omega⟩ ⟨by omega,by omega⟩
 have v1:=AQ (m*m - w*w) (m*m+w*w) ⟨by omega,by omega⟩ ⟨by omega,by omega⟩
 have v2:=AQ (2*m*w) (m*m+w*w) ⟨by omega,by omega⟩ ⟨by omega,by omega⟩
 have hvb:vb (Rw m w)≤3:=Nat.max_le.2 ⟨v1,v2⟩
 change Fn _ _ _ (qA (Rw m w).x) at c2
 change Fn _ _ _ (qA (Rw m w).y) at c3
 generalize Rw m w=T at *
 obtain ⟨N,hN⟩:∃ N:Nat,k % 4=N:=⟨(k % 4).toNat,by omega⟩
 rw [hN,Int.toNat_natCast]
 refine ⟨?_,by rw [C9]; exact hvb⟩
 obtain ⟨R,hR⟩:∃ R,R=vA (Jn N T):=⟨_,rfl⟩
 have sR:Settled R:=hR▸Xm _
 rw [← hR]
 refine Fq Tryz.call60 Tryz.func60 9 [] [] [] (by simp [Xa]) (X1 1000 ?_)
 simp (disch:=omega) only [AS.start,b1,b2,b3,b4,hme,↓Xk,wD,↓X2,wA,seval,wE]
 refine X0 c1 rfl ?_
 simp (disch:=omega) only [b1,b2,b3,b4,hme,↓Xk,wD,↓X2,wA,seval,wE]
 refine X0 c2 rfl ?_
 simp (disch:=omega) only [b1,b2,b3,b4,hme,↓Xk,wD,↓X2,wA,seval,wE]
 refine X0 c3 rfl ?_
 simp (disch:=omega) only [b1,b2,b3,b4,hme,↓Xk,wD,↓X2,wA,seval,wE]
 have ht:∀ i,vb (Jn i T)≤3:=fun i=>by rw [C9]; exact hvb
 refine Xf (fun i:Nat=>⟨9,[],[.any,.any,.ref 0 0 0,I k,.any,.any,.any,.ref 1 0 0,I i],[],[.row 0 8 (Xo XN),.row 0 8 (Xo (vC (Jn i T)))]⟩) (fun i=>i≤N) (fun i=>N - i) 0 (by omega)
  (Xb rfl (by simp [Xi,I]) (by simp [Xj]) rfl) ?_
 intro i hi next
 have c4:=Cu (Jn i T).y (by have:=Qo (Jn i T); have:=ht i; unfold rm; omega)
 by_cases hi2:i<N
 ·refine X1 1000 ?_
  simp (disch:=omega) only [vC,qC,b4,hN,↓Xk,wD,↓X2,wA,seval,wE]
  refine X0 c4 rfl ?_
  simp (disch:=omega) only [↓Xk,wD,↓X2,wA,seval,wE]
  exact next (i+1) _ (by omega) (by omega) (Xb rfl (by simp [Xi,I]) (by simp [Xj]) rfl)
 ·obtain rfl:i=N:=by omega
  refine X1 1000 ?_
  simp (disch:=omega) only [vC,qC,XN,b4,hN,↓Xk,wD,↓X2,wA,seval,wE]
  exact ZD rfl D9 rfl rfl rfl sR (hR.trans rfl)
theorem bO (f:FV) (ht:vb f.turn≤60) (hl:vb f.lo≤250) (hh:vb f.hi≤250) (how n:Int) (ih:Kg how) (hn:Kg n):∃ g:FV,Fn Tryz.prog 33 [KP f,I how,I n] (KP g)∧g.fine∧vb g.lo≤vb f.lo+4∧vb g.hi≤vb f.hi+4:=by
 have c1:=Kc n 9 hn (by omega)
 have c2:=Kc how 8 ih (by omega)
 have k1:=JQ n 9 (by omega)
 have k2:=JQ how 8 (by omega)
 obtain ⟨c3,t3⟩:=YI n hn
 have c4:=WZ n hn
 have t4:qb (WY n)≤3:=by
  have:=JQ n 100 (by omega)
  unfold WY
  generalize QB n 100=k at *
  rw [Int.tmod_eq_emod_of_nonneg this.1,Int.tdiv_eq_ediv_of_nonneg this.1]
  exact AQ _ _ ⟨by omega,by omega⟩ ⟨by omega,by omega⟩
 generalize QB n 9=x at *
 generalize QB how 8=c at *
 generalize V9 n=T at *
 generalize WY n=q at *
 have c5:=Ax (x - 4) 0 ⟨by omega,by omega⟩ ⟨by omega,by omega⟩
 have c6:=Ax 0 (x - 4) ⟨by omega,by omega⟩ ⟨by omega,by omega⟩
 have s5:vb ⟨((x - 4:Int):Rat),((0:Int):Rat)⟩≤3:=Nat.max_le.2 ⟨KC _ 3 (by omega) (Qm ⟨by omega,by omega⟩),KC _ 3 (by omega) (Qm ⟨by omega,by omega⟩)⟩
 have s6:vb ⟨((0:Int):Rat),((x - 4:Int):Rat)⟩≤3:=Nat.max_le.2 ⟨KC _ 3 (by omega) (Qm ⟨by omega,by omega⟩),KC _ 3 (by omega) (Qm ⟨by omega,by omega⟩)⟩
 generalize hv5:(⟨((x - 4:Int):Rat),((0:Int):Rat)⟩:V2)=v5 at *
 generalize hv6:(⟨((0:Int):Rat),((x - 4:Int):Rat)⟩:V2)=v6 at *
 have c7:=EG f.lo v5 (by unfold vm; omega) (by unfold vm; omega)
 have c8:=EG f.hi v6 (by unfold vm; omega) (by unfold vm; omega)
 have m7:=Ba f.lo v5
 have m8:=Ba f.hi v6
 have ty:=Qo f.turn
 have m9:vb ⟨q,f.turn.y⟩≤60:=Nat.max_le.2 ⟨by show qb q≤60; omega,by show qb f.turn.y≤60; omega⟩
 have go:∀ g:FV,(∀ R,R=KP g→Fn Tryz.prog 33 [KP f,I how,I n] R)→(g.fine∧vb g.lo≤vb f.lo+4∧vb g.hi≤vb f.hi+4)→∃ g:FV,Fn Tryz.prog 33 [KP f,I how,I n] (KP g)∧g.fine∧vb g.lo≤vb f.lo+4∧vb g.hi≤vb f.hi+4:=fun g h1 h2=>⟨g,h1 _ rfl,h2⟩
 rcases (show c=0∨c=1∨c=2∨c=3∨c=4∨c=5∨c=6∨c=7 by omega) with rfl | rfl | rfl | rfl | rfl | rfl | rfl | rfl
 refine go { f with EA:=x - 1 } ?_ ⟨⟨ht,by show vb f.lo≤300; omega,by show vb f.hi≤300; omega⟩,by simp only; omega,by simp only; omega⟩
 rotate_left
 refine go { f with EB:=x - 1 } ?_ ⟨⟨ht,by show vb f.lo≤300; omega,by show vb f.hi≤300; omega⟩,by simp only; omega,by simp only; omega⟩
 rotate_left
 refine go { f with M:=x - 1 } ?_ ⟨⟨ht,by show vb f.lo≤300; omega,by show vb f.hi≤300; omega⟩,by simp only; omega,by simp only; omega⟩
 rotate_left
 refine go { f with turn:=T } ?_ ⟨⟨by show vb T≤60; omega,by show vb f.lo≤300; omega,by show vb f.hi≤300; omega⟩,by simp only; omega,by simp only; omega⟩
 rotate_left
 refine go { f with lo:=f.lo.add v5 } ?_ ⟨⟨ht,by show vb (f.lo.add v5)≤300; omega,by show vb f.hi≤300; omega⟩,by simp only; omega,by simp only; omega⟩
 rotate_left
 refine go { f with hi:=f.hi.add v6 } ?_ ⟨⟨ht,by show vb f.lo≤300; omega,by show vb (f.hi.add v6)≤300; omega⟩,by simp only; omega,by simp only; omega⟩
 rotate_left
 refine go { f with turn:=⟨q,f.turn.y⟩ } ?_ ⟨⟨m9,by show vb f.lo≤300; omega,by show vb f.hi≤300; omega⟩,by simp only; omega,by simp only; omega⟩
 rotate_left
 refine go { f with EA:=IntKind.i64.wrap (f.EA+1),EB:=IntKind.i64.wrap (f.EB - 1),M:=IntKind.i64.wrap (f.M - 1) } ?_ ⟨⟨ht,by show vb f.lo≤300; omega,by show vb f.hi≤300; omega⟩,by simp only; omega,by simp only; omega⟩
 rotate_left
 all_goals
  intro R hR
  have sR:Settled R:=hR▸Qk _
  refine Fq Tryz.call33 Tryz.func33 8 [11] [] [] (by simp [Qk,Xa]) (X1 1000 ?_)
  simp (disch:=omega) only [AS.start,KP,Qa,↓Xk,wD,↓X2,wA,seval,wE]
  refine X0 c1 rfl ?_
  simp (disch:=omega) only [↓Xk,wD,↓X2,wA,seval,wE]
  refine X0 c2 rfl ?_
  simp (disch:=omega) only [↓Xk,wD,↓X2,wA,seval,wE]
  try (first | refine X0 c3 rfl ?_ | refine X0 c4 rfl ?_ | refine X0 c5 rfl ?_ | refine X0 c6 rfl ?_)
  try simp (disch:=omega) only [↓Xk,wD,↓X2,wA,seval,wE]
  try (first | refine X0 c7 rfl ?_ | refine X0 c8 rfl ?_)
  try simp (disch:=omega) only [↓Xk,wD,↓X2,wA,seval,wE]
  exact ZD rfl mS rfl rfl rfl sR (hR.trans rfl)
theorem U4 (f:FV) (ht:vb f.turn≤60) (hl:vb f.lo≤250) (hh:vb f.hi≤250) (how n:Int) (ih:Kg how) (hn:Kg n):∃ g:FV,Fn Tryz.prog 33 [KP f,I how,I n] (KP g)∧g.fine :=
 have ⟨g,h1,h2,_⟩:=bO f ht hl hh how n ih hn
 ⟨g,h1,h2⟩
def Lz (t:V2):List V2→List V2
 | []=>[t]
 | x :: l=>if ZO t x then t :: x :: l else x :: Lz t l
def aQ (t:V2) (l:List V2):List V2:=if t∈l then l else Lz t l
def KH (a b:PV) (f:FV):Nat→List V2
 | 0=>[]
 | k+1=>if (Lf a b f k).2=true then aQ (Lf a b f k).1 (KH a b f k) else KH a b f k
theorem Im (t x:V2):∀ l,x∈Lz t l↔x=t∨x∈l
 | []=>by simp [Lz]
 | y :: l=>by
  have ih:=Im t x l
  unfold Lz
  split
  ·simp
  ·rw [List.mem_cons,ih,List.mem_cons]
   constructor
   ·rintro (h | h | h)
    ·exact .inr (.inl h)
    ·exact .inl h
    ·exact .inr (.inr h)
   ·rintro (h | h | h)
    ·exact .inr (.inl h)
    ·exact .inl h
    ·exact .inr (.inr h)
theorem Pc (t:V2):∀ l,(Lz t l).length=l.length+1
 | []=>rfl
 | y :: l=>by
  have ih:=Pc t l
  unfold Lz
  split
  ·simp
  ·simp [ih]
theorem aR (t x:V2) (l:List V2):x∈aQ t l↔x=t∨x∈l:=by
 unfold aQ
 split
 ·rename_i h
  exact ⟨fun hx=>.inr hx,fun hx=>by rcases hx with rfl | hx; exact h; exact hx⟩
 ·exact Im t x l
theorem A2 (a b:PV) (f:FV) (t:V2):∀ n,t∈KH a b f n↔∃ k,k<n∧(Lf a b f k).2=true∧(Lf a b f k).1=t
 | 0=>by simp [KH]
 | n+1=>by
  have ih:=A2 a b f t n
  unfold KH
  split
  ·rename_i h
   rw [aR,ih]
   constructor
   ·rintro (h1 | ⟨k,h1,h2⟩)
    ·exact ⟨n,by omega,h,h1.symm⟩
    ·exact ⟨k,by omega,h2⟩
   ·rintro ⟨k,h1,h2,h3⟩
    by_cases hk:k=n
    ·subst hk; exact .inl h3.symm
    ·exact .inr ⟨k,by omega,h2,h3⟩
  ·rename_i h
   rw [ih]
   constructor
   ·rintro ⟨k,h1,h2⟩; exact ⟨k,by omega,h2⟩
   ·rintro ⟨k,h1,h2,h3⟩
    by_cases hk:k=n
    ·subst hk; exact absurd h2 h
    ·exact ⟨k,by omega,h2,h3⟩
theorem EL (a b:PV) (f:FV):∀ n,(KH a b f n).length≤n
 | 0=>Nat.le_refl _
 | n+1=>by
  have ih:=EL a b f n
  unfold KH aQ
  split
  ·split
   ·omega
   ·rw [Pc]; omega
  ·omega
theorem FK (a b:PV) (f:FV) (ha:QP a.rim) (hb:QP b.rim) (n:Nat):∀ t∈KH a b f n,vb t≤26:=fun t ht=>by
 obtain ⟨k,_,_,h⟩:=(A2 a b f t n).1 ht
 rw [← h]; exact Aq ha hb _ _
end
end Go.Ab.N
