/- Contracts of functions of these chapters, for every argument that fits, and what they need. -/
import Derived.Test.YtefjhgcndhepeaaGreatC11
import Derived.Test.YtefjhgcndhepeaaGreatC10
import Derived.Test.YtefjhgcndhepeaaGreatC7
import Derived.Test.YtefjhgcndhepeaaGreatC6
set_option linter.unusedSimpArgs false
set_option linter.unusedVariables false
open Nat renaming reducePow → Y1, reduceLT → Y2, reduceLeDiff → Y3, reduceEqDiff → Y4, reduceAdd → Y5, reduceMul → Y6, reduceSub → Y7, reduceBEq → Y8, reduceDiv → Y9, reduceMod → YA
namespace Go.Ab.N
open Go Go.RowKit Go.Proofs
noncomputable section
set_option maxRecDepth 10000
set_option maxHeartbeats 4000000
open Classical
def V0 (L:List V2) (d:Nat×Nat×Nat):List V2:=[L.getD d.1 v0,L.getD d.2.1 v0,L.getD d.2.2 v0]
def Qg (L:List V2):List (List V2):=(CK L).map (V0 L)
theorem PJ (L:List V2):∀ (f:Nat) (R:List Nat),Rok L R→R.Nodup→3≤R.length→∀ d∈AH L f R,d.1<L.length∧d.2.1<L.length∧d.2.2<L.length
 | 0,R,h,_,_,d,hd=>by
  rw [List.mem_singleton.1 hd]
  exact ⟨h.mem 0,h.mem 1,h.mem 2⟩
 | f+1,R,h,hn,h3,d,hd=>by
  unfold AH at hd
  split at hd
  ·rename_i h4
   obtain ⟨b1,b2,b3,_⟩:=Fj h hn h4
   rcases List.mem_cons.1 hd with rfl | hd
   ·exact ⟨h.mem _,h.mem _,h.mem _⟩
   ·exact PJ L f _ b1 b2 b3 d hd
  ·rw [List.mem_singleton.1 hd]
   exact ⟨h.mem 0,h.mem 1,h.mem 2⟩
theorem IC (L:List V2):∀ (f:Nat) (R:List Nat),Rok L R→R.Nodup→3≤R.length→(AH L f R).length≤R.length
 | 0,R,h,_,_=>h.pos
 | f+1,R,h,hn,h3=>by
  unfold AH
  split
  ·rename_i h4
   obtain ⟨b1,b2,b3,b4⟩:=Fj h hn h4
   have:=IC L f _ b1 b2 b3
   rw [List.length_cons]; omega
  ·exact h.pos
theorem df (A B C:V2):Weak (Mq A B C).loose (Xx [A,B,C]):=by
 rw [XQ,X5]
 show Weak (AV.sl 3 24 _ false) _
 refine OZ (Nat.le_refl _) fun j hj=>?_
 have hj:j<24:=hj
 match j,hj with
 | 0,_=>rfl
 | 1,_=>rfl
 | 2,_=>rfl
 | 3,_=>rfl
 | 4,_=>rfl
 | 5,_=>rfl
 | 6,_=>rfl
 | 7,_=>rfl
 | 8,_=>rfl
 | 9,_=>rfl
 | 10,_=>rfl
 | 11,_=>rfl
 | 12,_=>rfl
 | 13,_=>rfl
 | 14,_=>rfl
 | 15,_=>rfl
 | 16,_=>rfl
 | 17,_=>rfl
 | 18,_=>rfl
 | 19,_=>rfl
 | 20,_=>rfl
 | 21,_=>rfl
 | 22,_=>rfl
 | 23,_=>rfl
 | j+24,h=>omega
theorem AF (L:List V2):(Qg L).length=(CK L).length:=by simp [Qg]
theorem Gg (L:List V2) (i:Nat) (h:i<(CK L).length):(Qg L).getD i []=V0 L ((CK L).getD i (0,0,0)):=by
 unfold Qg
 rw [List.getD_eq_getElem?_getD,List.getElem?_map,List.getD_eq_getElem?_getD,List.getElem?_eq_getElem h]; rfl
theorem tF (T:List (Nat×Nat×Nat)) (i:Nat):Xt tC 3 (0,0,0) T (i*3)=I (T.getD i (0,0,0)).1∧Xt tC 3 (0,0,0) T (i*3+1)=I (T.getD i (0,0,0)).2.1∧Xt tC 3 (0,0,0) T (i*3+2)=I (T.getD i (0,0,0)).2.2 :=
 ⟨JT _ _ _ _ _ (by omega),JD _ _ _ _ _ _ (by omega),JD _ _ _ _ _ _ (by omega)⟩
theorem SV {H:List AO} (W:List (List V2)) (A B C:V2) (j:Nat) (hj:j<W.length+1):Kt H (QK W.length (Qb Xx [] W) 1 (Xk [(Mq A B C).loose]) j) (Qb Xx [] (W ++ [[A,B,C]]) j):=by
 unfold QK
 by_cases h:j<W.length
 ·rw [if_pos h,K7,K7]
  have:(W ++ [[A,B,C]]).getD j []=W.getD j []:=by rw [List.getD_eq_getElem?_getD,List.getD_eq_getElem?_getD,List.getElem?_append_left h]
  rw [this]; exact Qc _ _
 ·obtain rfl:j=W.length:=by omega
  rw [if_neg (by omega),if_pos (by omega),K7,Nat.sub_self]
  have:(W ++ [[A,B,C]]).getD W.length []=[A,B,C]:=by rw [List.getD_eq_getElem?_getD,List.getElem?_append_right (Nat.le_refl _),Nat.sub_self]; rfl
  rw [this]
  exact fun c v _ _ hv=>df A B C c v hv
theorem w9 {P:Program} {fn:Func} {str hcs:List Nat} {b:Nat} {r1 r2:AV} {H:List AO} {s:AS} {t u:Nat} (hr:fn.results=#[.tmp t,.tmp u]) (h1:s.get t=r1) (h2:s.get u=r2) (hH:s.h=H):RetOk (Gn P fn str hcs b (.tup [r1,r2]) H) s :=
 ⟨.tup [r1,r2],by show KQ P fn s=_; simp [KQ,hr,J6,Jj,ZD,h1,h2],rfl,hH⟩
theorem rh (o1 o2:AO) (B1:∀ m,2≤m→XT m o1) (B2:∀ m,2≤m→XT m o2) (L:List V2) (k:Nat) (hs:Qs L k) (hk:k≤1000) (hp:Cl L) :
  HCall Tryz.prog 245 [Xx L] [o1,o2] (.tup [.osl 2 (Qg L).length 1 0 (Qg L).length,I 0]) [o1,o2,.row (Qg L).length (Qg L).length (Qb Xx [] (Qg L))]:=by
 have hl:=hp.1
 have cc:=mi L k hs hk hp
 have hTl:(CK L).length≤12:=by have:=IC L L.length _ (E9 hl.1 (by omega)) List.nodup_range (by rw [List.length_range]; omega); rw [List.length_range] at this; unfold CK; omega
 have hm:=PJ L L.length _ (E9 hl.1 (by omega)) List.nodup_range (by rw [List.length_range]; omega)
 have hcl:=AF L
 have hca:=Gg L
 change ∀ d∈CK L,_ at hm
 generalize CK L=T at *
 generalize Qg L=C at *
 have hbL:Ko 3 (Xx L)=True:=eq_true (X7 (Xh L))
 have hbT:Ko 3 (ua T)=True:=eq_true (X7 (SB T))
 have q1:XT 3 o1=True:=eq_true (B1 3 (by omega))
 have q2:XT 3 o2=True:=eq_true (B2 3 (by omega))
 have s1:∀ v n f A B C,XT 3 (.row v (n+1) (QK n (Qb Xx [] f) 1 (Xk [(Mq A B C).loose])))=True:=fun v n f A B C=>eq_true fun j hj=>by
  unfold QK
  have hset:Settled (Mq A B C).loose:=by rw [XQ]; exact QX fun j _=>Xe (l:=[_,_,_,_,_,_,_,_,_,_,_,_,_,_,_,_,_,_,_,_,_,_,_,_]) (by simp [X6,X2]) j
  split
  ·exact X7 (Xh _)
  ·rw [show j - n=0 by omega]
   exact X7 hset
 refine HCall.intro (fn:=Tryz.f245) Tryz.call245 Tryz.func245 rfl mixed 9 [14,15,16] [6,70000008] [] (by kernel_rfl) (Nat.le_of_ble_eq_true rfl) (Xj ?_)
 simp only [AS.start,X5,↓X1,wF,seval]
 refine X0 cc rfl ?_
 simp only [X5,Ea,↓X1,wF,seval]
 refine Xd (fun i:Nat=>⟨9,[14,15,16],[Xx L,.any,.any,.any,.any,I 0,.osl 2 i 1 0 i,.any,.any],[(14,ua T),(15,I T.length),(16,I i)],[o1,o2,.row i i (Qb Xx [] (C.take i))]⟩) (fun i=>i≤T.length) (fun i=>T.length - i) 0 (by omega)
  (Sub.trans (Jd 6 1 (Qb Xx [] []) rfl) (Xg rfl (by simp [AS.put,Xf,X5,I]) (by simp [AS.put,Xm,Xq,Ea,I]) (by simp [AS.put]))) ?_
 intro i hi next
 have w1:=wj i (by omega)
 by_cases hi2:i<T.length
 rotate_left
 ·obtain rfl:i=T.length:=by omega
  refine Xj ?_
  simp only [X5,Ea,Int.lt_irrefl,Nat.lt_irrefl,↓X1,wF,seval]
  rw [List.take_of_length_le (by omega)]
  exact w9 rfl (by rw [hcl]; rfl) rfl (by rw [hcl])
 have t1:=tF T i
 obtain ⟨m1,m2,m3⟩:=hm (T.getD i (0,0,0)) (Ju hi2)
 have hc1:=hca i hi2
 have htk:C.take (i+1)=C.take i ++ [C.getD i []]:=QJ C [] i (by omega)
 have hwl:(C.take i).length=i:=by rw [List.length_take]; omega
 have nx:=next (i+1)
 rw [htk,hc1] at nx
 unfold V0 at nx
 generalize (T.getD i (0,0,0)).1=a at *
 generalize (T.getD i (0,0,0)).2.1=b at *
 generalize (T.getD i (0,0,0)).2.2=c at *
 have va:=vF L a
 have vb:=vF L b
 have vc:=vF L c
 have hgr:=@SV [o1,o2,.row (i+1) (i+1) (QK i (Qb Xx [] (C.take i)) 1 (Xk [(Mq (L.getD a v0) (L.getD b v0) (L.getD c v0)).loose]))] (C.take i) (L.getD a v0) (L.getD b v0) (L.getD c v0)
 rw [hwl] at hgr
 generalize L.getD a v0=A at *
 generalize L.getD b v0=B at *
 generalize L.getD c v0=D at *
 generalize C.take i=W at *
 refine Xj ?_
 simp (disch:=omega) only [X5,Ea,t1,va,vb,vc,wD,Int.reduceToNat,↓X1,wF,seval]
 exact nx _ (by omega) (by omega) (Sub.trans (XD (m:=3) (s':=⟨9,[14,15,16],[Xx L,.any,.any,.any,.any,I 0,.osl 2 (i+1) 1 0 (i+1),.any,.any],[(14,ua T),(15,I T.length),(16,I (i+1:Nat))],[o1,o2,.row (i+1) (i+1) (QK i (Qb Xx [] W) 1 (Xk [(Mq A B D).loose]))]⟩) (by simp [Gn]) rfl (by simp [Xf,X5,I]) (by simp [Xm,Xq,Ea,I]) (by simp [XQ,X3,AV.loose]) (by simp [XA,hbL]) (by simp [XA,hbT]) (by simp [q1,q2,s1])) (Sub.trans (Z4 2 (Qb Xx [] (W ++ [[A,B,D]])) rfl (fun j hj=>hgr j hj)) (Xg rfl (by simp [Xf]) (by simp [Xm,Xq]) rfl)))
def HD (f:List V2→List V2) (C:List (List V2)) (i:Nat):List (List V2):=(C.take i).map f ++ C.drop i
theorem sc (f:List V2→List V2) (C:List (List V2)):HD f C 0=C:=rfl
theorem iA (f:List V2→List V2) (C:List (List V2)):HD f C C.length=C.map f:=by unfold HD; simp
theorem nJ (f:List V2→List V2) (C:List (List V2)) (i:Nat) (h:i<C.length):(HD f C i).getD i []=C.getD i []:=by
 unfold HD
 rw [List.getD_eq_getElem?_getD,List.getElem?_append_right (by simp; omega),List.getD_eq_getElem?_getD]
 simp [Nat.min_eq_left (Nat.le_of_lt h)]
theorem iB (f:List V2→List V2) (C:List (List V2)) (i:Nat) (h:i≤C.length):(HD f C i).length=C.length:=by unfold HD; simp; omega
theorem iC (f:List V2→List V2) (C:List (List V2)) (i:Nat) (h:i<C.length):(HD f C i).set i (f (C.getD i []))=HD f C (i+1):=by
 refine List.ext_getElem? fun j=>?_
 unfold HD
 rw [List.getElem?_set]
 by_cases hj:i=j
 ·subst hj
  rw [if_pos rfl,if_pos (by simp; omega),List.getElem?_append_left (by simp; omega),List.getElem?_map,List.getElem?_take,if_pos (by omega),List.getElem?_eq_getElem h,List.getD_eq_getElem?_getD,List.getElem?_eq_getElem h]; rfl
 ·rw [if_neg hj]
  by_cases hlt:j<i
  ·rw [List.getElem?_append_left (by simp; omega),List.getElem?_append_left (by simp; omega),List.getElem?_map,List.getElem?_map,List.getElem?_take,List.getElem?_take,if_pos hlt,if_pos (by omega)]
  ·rw [List.getElem?_append_right (by simp; omega),List.getElem?_append_right (by simp; omega),List.getElem?_drop,List.getElem?_drop]
   congr 1
   simp; omega
def Jw (p:PV) (t c:V2):List (List V2):=(Qg (Xr p.rim)).map (Zs t c)
theorem GF {R:List (Int×Int)} (h:QV R):Qs (Xr R) 3:=fun i=>by rw [Z7]; exact Zh h i
theorem G6:vb v0≤3:=by
 have:=Zh (R:=[]) (fun c hc=>absurd hc List.not_mem_nil) 0
 exact this
theorem GY (L:List V2) (k:Nat) (h:Qs L k) (hk:3≤k) (i:Nat):Qs ((Qg L).getD i []) k:=by
 by_cases hi:i<(CK L).length
 ·rw [Gg L i hi]
  intro j
  unfold V0
  match j with
  | 0=>exact h _
  | 1=>exact h _
  | 2=>exact h _
  | j+3=>exact Nat.le_trans G6 hk
 ·have e:(Qg L).getD i []=[]:=by rw [List.getD_eq_getElem?_getD,List.getElem?_eq_none (by rw [AF]; omega)]; rfl
  rw [e]
  exact fun j=>Nat.le_trans G6 hk
theorem Iw (L:List V2) (i:Nat) (hi:i<(CK L).length):((Qg L).getD i []).length=3:=by rw [Gg L i hi]; rfl
theorem Oh {L:List V2} (hl:3≤L.length∧L.length≤12):(CK L).length≤12:=by
 have:=IC L L.length _ (E9 hl.1 (by omega)) List.nodup_range (by rw [List.length_range]; omega)
 rw [List.length_range] at this
 unfold CK; omega
theorem V5 (l:List V2):(Xx l).cells=[Xx l]:=nrfl rfl
theorem ko (l:List V2):(Xx l).one=true:=nrfl rfl
theorem V6 (l:List V2):(Xx l).loose=Xx l:=nrfl rfl
theorem Nr (p:PV) (t c:V2) (hp:Cl (Xr p.rim)) (hn:QV p.rim) (ht:vb t≤1000) (hc:vb c≤1000):Fn Tryz.prog 202 [Kh p,kK t c] (V7 (Jw p t c)):=by
 have hl:=hp.1
 have hle:=Oh hl
 have hrl:(Xr p.rim).length=p.rim.length:=by simp [Xr]
 have r1:=Lm p (by omega) (Zt hn)
 have sm:=GF hn
 have hcs:=GY (Xr p.rim) 3 sm (Nat.le_refl _)
 have h3:=Iw (Xr p.rim)
 have hcl:=AF (Xr p.rim)
 have B1:∀ m,2≤m→XT m (.row 0 25 (Xk (Q0 p))):=fun m _=>XL (XI p)
 have B2:∀ m,2≤m→XT m (.row 0 16 (Xk (P5 t c))):=fun m _=>XL (Ag t c)
 have co:=rh (.row 0 25 (Xk (Q0 p))) (.row 0 16 (Xk (P5 t c))) B1 B2 (Xr p.rim) 3 sm (by omega) hp
 unfold Jw
 generalize Xr p.rim=L at *
 rw [← hcl] at h3 hle
 generalize Qg L=C at *
 refine Fq Tryz.call202 Tryz.func202 9 [15,16,17] [] [] (by simp [Ah,Bq]) (Xj ?_)
 simp (disch:=omega) only [AS.start,Kh,Q0,kK,P5,wD,↓X1,wF,seval]
 refine X0 r1 rfl ?_
 simp (disch:=omega) only [X5,wD,↓X1,wF,seval]
 refine KK rfl co (QU (fun o h=>?_) (fun o h=>?_)) (fun id=>?_) (Qj _) ?_
 ·simp only [List.mem_cons,List.not_mem_nil,or_false] at h
  rcases h with rfl | rfl <;> simp
 ·simp only [List.mem_cons,List.not_mem_nil,or_false] at h
  rcases h with rfl | rfl | rfl <;> simp
 ·match id with
  | 0=>simp
  | 1=>simp
  | n+2=>simp
 simp (disch:=omega) only [wD,↓X1,wF,seval]
 refine Xd (fun i:Nat=>⟨9,[15,16,17],[.any,.any,.any,.ref 1 0 0,.any,.osl 2 C.length 1 0 C.length,.any,.any,.any],[(15,.osl 2 C.length 1 0 C.length),(16,I C.length),(17,I i)],[.row 0 25 (Xk (Q0 p)),.row 0 16 (Xk (P5 t c)),.row C.length C.length (Qb Xx [] (HD (Zs t c) C i))]⟩) (fun i=>i≤C.length) (fun i=>C.length - i) 0 (by omega)
  (Xg rfl (by simp [Xf,I]) (by simp [Xm,Xq,I]) (by simp [Q0,P5,X3,Xi,Xz,sc,I])) ?_
 intro i hi next
 by_cases hi2:i<C.length
 rotate_left
 ·obtain rfl:i=C.length:=by omega
  refine Xj ?_
  simp (disch:=omega) only [wD,↓X1,wF,seval]
  rw [iA]
  have hml:(C.map (Zs t c)).length=C.length:=List.length_map ..
  refine BU rfl ?_
  rw [XX,hml]
  refine Jk (id:=2) (m:=C.length) (f:=Qb Xx [] (C.map (Zs t c))) (.inl rfl) (by omega) (fun h=>h) fun j hj=>?_
  rw [Nat.zero_add]
  exact (Xh _).sees _
 have v1:=we (HD (Zs t c) C i) i
 rw [nJ _ _ _ hi2] at v1
 have cm:=Sa t c (C.getD i []) 3 (hcs i) (by omega) (by rw [h3 i hi2]; omega) (by omega) (by omega)
 refine Xj ?_
 simp (disch:=omega) only [v1,wD,↓X1,wF,seval]
 refine X0 cm rfl ?_
 simp (disch:=omega) only [V5,ko,V6,wD,↓X1,wF,seval]
 exact next (i+1) _ (by omega) (by omega) (Xg rfl (by simp [Xf]) (by simp [Xm,Xq,I]) (by rw [← iC _ _ _ hi2,← WJ _ _ _ _ _ (by rw [iB _ _ _ hi]; exact hi2)]))
def Gx (f:FV):V2:=(f.lo.add f.hi).scale (Rat.divInt 1 2)
def ZL (a b:PV) (f:FV) (e:Rat):Bool:=CG (Jw a Qq v0) (Jw b f.turn (Gx f)) (-e)
structure GP (p:PV) (t:Rat):Prop where
 even:p.even
 poly:XP (Xr p.rim)
 tol:p.tol=RQ.of t
 qt:qb t≤20
structure FV.fine (f:FV):Prop where
 turn:vb f.turn≤60
 lo:vb f.lo≤300
 hi:vb f.hi≤300
theorem EE (p:PV) (t c:V2):(Jw p t c).length=(CK (Xr p.rim)).length:=by unfold Jw; rw [List.length_map,AF]
theorem Iu (p:PV) (t c:V2) (hn:QV p.rim) (ht:vb t≤100) (hc:vb c≤700):∀ i,i<(Jw p t c).length→Shp 1000 ((Jw p t c).getD i []):=fun i hi=>by
 rw [EE] at hi
 have e:(Jw p t c).getD i []=Zs t c ((Qg (Xr p.rim)).getD i []):=by
  unfold Jw
  rw [List.getD_eq_getElem?_getD,List.getElem?_map,List.getD_eq_getElem?_getD,List.getElem?_eq_getElem (by rw [AF]; exact hi)]; rfl
 have hs:=GY (Xr p.rim) 3 (GF hn) (Nat.le_refl _) i
 have h3:=Iw (Xr p.rim) i hi
 rw [e]
 generalize (Qg (Xr p.rim)).getD i []=W at *
 have hl:(Zs t c W).length=3:=by unfold Zs; rw [List.length_map,h3]
 refine ⟨fun j=>?_,by omega,by omega⟩
 by_cases hj:j<W.length
 ·have ej:(Zs t c W).getD j v0=put t c (W.getD j v0):=by
   unfold Zs
   rw [List.getD_eq_getElem?_getD,List.getElem?_map,List.getD_eq_getElem?_getD,List.getElem?_eq_getElem hj]; rfl
  rw [ej]
  have:=ul t c (W.getD j v0)
  have:=hs j
  omega
 ·rw [List.getD_eq_getElem?_getD,List.getElem?_eq_none (by omega)]
  exact Nat.le_trans G6 (by omega)
theorem Wk:qb (Rat.divInt 1 2)≤10:=by decide +kernel
theorem jX (f:FV) (h:f.fine):vb (Gx f)≤700:=by
 have h1:=GN f.lo f.hi
 have h2:=kc (f.lo.add f.hi) (Rat.divInt 1 2)
 have:=Wk
 have:=h.lo; have:=h.hi
 unfold Gx; omega
theorem G5:vb Qq≤10:=by decide +kernel
theorem fG (a b:PV) (f:FV) {ta tb:Rat} (ha:GP a ta) (hb:GP b tb) (hf:f.fine):(∀ i,i<(Jw a Qq v0).length→Shp 1000 ((Jw a Qq v0).getD i []))∧(∀ i,i<(Jw b f.turn (Gx f)).length→Shp 1000 ((Jw b f.turn (Gx f)).getD i [])) ∧
  (Jw a Qq v0).length≤1000∧(Jw b f.turn (Gx f)).length≤1000:=by
 have h1:=Oh (Ad _ ha.poly).1
 have h2:=Oh (Ad _ hb.poly).1
 have:=G5
 have:=G6
 exact ⟨Iu a Qq v0 ha.even.near (by omega) (by omega),Iu b f.turn (Gx f) hb.even.near (by have:=hf.turn; omega) (jX f hf),by rw [EE]; omega,by rw [EE]; omega⟩
theorem ku:Weak (.agg (vC Qq ++ [.bool false,.sl 0 0 (fun _=>.any) true,.bool false,.sl 0 0 (fun _=>.any) true,.bool false,.sl 0 0 (fun _=>.any) true,.bool false,.sl 0 0 (fun _=>.any) true])) (kK Qq v0):=by
 refine QY ?_
 have h:=LI true
 exact ⟨Weak.rfl' _,Weak.rfl' _,Weak.rfl' _,Weak.rfl' _,Weak.rfl' _,Weak.rfl' _,Weak.rfl' _,Weak.rfl' _,h⟩
theorem MU (a b:PV) (f:FV) {ta tb:Rat} (ha:GP a ta) (hb:GP b tb) (hf:f.fine):Fn Tryz.prog 137 [Kh a,Kh b,Aw f] (.bool (ZL a b f (ta+tb))):=by
 have qa:=ha.qt; have q2:=hb.qt
 have f1:=hf.turn; have f2:=hf.lo; have f3:=hf.hi
 have c1:=Oz f.lo f.hi (by unfold vm; omega) (by unfold vm; omega)
 have c2:=EX 1 2 (IU (by omega) (by omega)) (IU (by omega) (by omega))
 have m1:=GN f.lo f.hi
 have m2:=jX f hf
 have c3:=Nx (f.lo.add f.hi) (Rat.divInt 1 2) (by unfold vm; omega) (by have:=Wk; unfold vm; omega)
 have c4:=Nr a Qq v0 (Ad _ ha.poly) ha.even.near (by have:=G5; omega) (by have:=G6; omega)
 have c5:=Nr b f.turn (Gx f) (Ad _ hb.poly) hb.even.near (by omega) (by omega)
 have qe:=KW ta tb
 have c6:Fn Tryz.prog 70 [a.tol.A,b.tol.A] (qA (ta+tb)):=by rw [ha.tol,hb.tol]; exact A2 ta tb (by unfold rm; omega) (by unfold rm; omega)
 have c7:=Cu (ta+tb)
 obtain ⟨k1,k2,k3,k4⟩:=fG a b f ha hb hf
 have c8:=l6 _ _ (-(ta+tb)) 1000 k1 k2 (by omega) (by omega) (by rw [Bz]; omega) k3 k4
 change Fn _ _ [vA (f.lo.add f.hi),qA (Rat.divInt 1 2)] (vA (Gx f)) at c3
 obtain ⟨V,hV⟩:∃ V,V=ZL a b f (ta+tb):=⟨_,rfl⟩
 change Fn _ _ _ (.tup [.any,.bool (ZL a b f (ta+tb))]) at c8
 rw [← hV] at c8 ⊢
 generalize Gx f=M at *
 refine Fv Tryz.call137 Tryz.func137 10 [] [1,20000005,2,30000003,30000004,30000007] [] ?_
 simp (disch:=omega) only [AS.start,Kh,Q0,Aw,Qr,↓Xy,wG,seval]
 refine X0 c1 rfl ?_
 simp (disch:=omega) only [↓Xy,wG,seval]
 refine X0 c2 rfl ?_
 simp (disch:=omega) only [↓Xy,wG,seval]
 refine X0 c3 rfl ?_
 simp (disch:=omega) only [↓Xy,wG,seval]
 refine X0 bN rfl ?_
 simp (disch:=omega) only [↓Xy,wG,seval]
 refine Qm c4 ⟨Weak.rfl' _,ku,trivial⟩ ?_
 simp (disch:=omega) only [XX,↓Xy,wG,seval]
 refine X0 c5 rfl ?_
 simp (disch:=omega) only [XX,↓Xy,wG,seval]
 refine X0 c6 rfl ?_
 simp (disch:=omega) only [XX,↓Xy,wG,seval]
 refine X0 c7 rfl ?_
 simp (disch:=omega) only [XX,↓Xy,wG,seval]
 refine X0 c8 rfl ?_
 simp (disch:=omega) only [↓Xy,wG,seval]
 exact Xv rfl rfl (X2 _) rfl
def Ap (a b:PV) (f:FV) (e:Rat):Int :=
 if BZ a.rim.length b.rim.length f then if HE a b f then if Tz a b f then
  if (XH a.rim b.rim f e).2.2=true∧(XH a.rim b.rim f e).1=f.lo∧(XH a.rim b.rim f e).2.1=f.hi then if ZL a b f e=true then 0 else 13
  else 22 else 21 else 12 else 5
theorem jV (a b:PV) (f:FV) (na:QV a.rim) (nb:QV b.rim) (e:Rat) (ht:vb f.turn≤1000) (qe:qb e≤3000):vb (XH a.rim b.rim f e).1≤7000∧vb (XH a.rim b.rim f e).2.1≤7000:=by
 have z:=G6
 have h1:=Gv na nb f ht f.M.toNat
 have h2:=Gs na nb f ht f.M.toNat
 have h3:=KZ (DT a.rim b.rim f f.M.toNat) ⟨e,e⟩
 have h4:=GN (DQ a.rim b.rim f f.M.toNat) ⟨e,e⟩
 have h5:vb ⟨e,e⟩=qb e:=by unfold vb; simp
 unfold XH
 split
 ·simp only
  split
  ·exact ⟨by show vb v0≤_; omega,by show vb v0≤_; omega⟩
  ·exact ⟨by simp only; omega,by simp only; omega⟩
 ·exact ⟨by show vb v0≤_; omega,by show vb v0≤_; omega⟩
theorem Gq (a b:PV) (f:FV) {ta tb:Rat} (ha:GP a ta) (hb:GP b tb) (hf:f.fine):Fn Tryz.prog 52 [Kh a,Kh b,Aw f] (I (Ap a b f (ta+tb))):=by
 obtain ⟨V,hV⟩:∃ V,V=Ap a b f (ta+tb):=⟨_,rfl⟩
 rw [← hV]
 unfold Ap at hV
 have qa:=ha.qt; have q2:=hb.qt
 have qe:=KW ta tb
 have f1:=hf.turn; have f2:=hf.lo; have f3:=hf.hi
 have fin:∀ {s:AS} {n:Int},s.get 6=I n→n=V→RetOk (QS Tryz.prog Tryz.f52 [] [] (I V)) s:=fun h e=>Xv rfl h (X9 _) (by rw [e])
 have c1:=D9 a b f ha.even.rim hb.even.rim
 have c4:=Ig a b f ha.even hb.even (by omega) ha.tol hb.tol (by omega) (by omega)
 have ⟨g1,g2⟩:=jV a b f ha.even.near hb.even.near (ta+tb) (by omega) (by omega)
 have c7:=MU a b f ha hb hf
 refine Fv Tryz.call52 Tryz.func52 10 [] [] [] ?_
 simp (disch:=omega) only [AS.start,Kh,Q0,Aw,Qr,↓Xy,wG,seval]
 refine X0 c1 rfl ?_
 by_cases h1:BZ a.rim.length b.rim.length f
 rotate_left
 ·simp (disch:=omega) only [decide_eq_false h1,↓Xy,wG,seval]
  exact fin rfl (by rw [hV,if_neg h1])
 have c2:=Hi a b f h1 ha.even hb.even
 have c3:=TA a b f h1 ha.even hb.even
 have cl:=CT a b f f.M.toNat
 have hM:f.M.toNat<1000000:=by have:=h1.2.2.2.1; have:=ha.even.rim; omega
 have ca:=Mp (Ql a b f f.M.toNat) 142 [pN f] (fun x=>decide (x=f.turn)) (by omega) (fun x hx=>by rw [List.mem_singleton.1 hx]; exact Bp f) (fun x hx=>YS x f (by have:=EC a b f ha.even.near hb.even.near _ x hx; unfold vm; omega) (by unfold vm; omega))
 have hany:(Ql a b f f.M.toNat).any (fun x=>decide (x=f.turn))=decide (Tz a b f):=by
  have:=Ij a b f f.turn f.M.toNat
  cases hq:(Ql a b f f.M.toNat).any (fun x=>decide (x=f.turn)) with
  | true=>exact (decide_eq_true (p:=Tz a b f) (this.1 hq)).symm
  | false=>exact (decide_eq_false (p:=Tz a b f) (fun hh=>by rw [this.2 hh] at hq; cases hq)).symm
 rw [hany] at ca
 generalize Ql a b f f.M.toNat=W at *
 have sB:JH [.row 0 25 (Xk (Q0 a)),.row 0 25 (Xk (Q0 b)),.row 0 29 (Xk (Qr f))] (.ref 2 0 0) (pN f):=KE (.inl rfl) (by omega) fun j hj=>(Xe (Q8 f) j).sees _
 rw [if_pos h1] at hV
 simp (disch:=omega) only [decide_eq_true h1,↓Xy,wG,seval]
 refine X0 c2 rfl ?_
 by_cases h2:HE a b f
 rotate_left
 ·simp (disch:=omega) only [decide_eq_false h2,↓Xy,wG,seval]
  exact fin rfl (by rw [hV,if_neg h2])
 rw [if_pos h2] at hV
 simp (disch:=omega) only [decide_eq_true h2,↓Xy,wG,seval]
 refine X0 c3 rfl ?_
 simp (disch:=omega) only [X5,↓Xy,wG,seval]
 refine Jz ca rfl ⟨(Xh W).sees _,Bm ⟨sB,trivial⟩,trivial⟩ (ZN _) ?_
 by_cases h3:Tz a b f
 rotate_left
 ·simp (disch:=omega) only [decide_eq_false h3,↓Xy,wG,seval]
  exact fin rfl (by rw [hV,if_neg h3])
 rw [if_pos h3] at hV
 simp (disch:=omega) only [decide_eq_true h3,↓Xy,wG,seval]
 refine X0 c4 rfl ?_
 generalize XH a.rim b.rim f (ta+tb)=G at *
 obtain ⟨lo,hi,ok⟩:=G
 simp only at hV g1 g2
 have c5:=Wf lo f.lo (by unfold vm; omega) (by unfold vm; omega)
 have c6:=Wf hi f.hi (by unfold vm; omega) (by unfold vm; omega)
 cases ok with
 | false =>
  simp (disch:=omega) only [↓Xy,wG,seval]
  exact fin rfl (by rw [hV,if_neg (fun h=>by cases h.1)])
 | true =>
  simp (disch:=omega) only [↓Xy,wG,seval]
  refine X0 c5 rfl ?_
  by_cases h4:lo=f.lo
  rotate_left
  ·simp (disch:=omega) only [decide_eq_false h4,↓Xy,wG,seval]
   exact fin rfl (by rw [hV,if_neg (fun h=>h4 h.2.1)])
  simp (disch:=omega) only [decide_eq_true h4,↓Xy,wG,seval]
  refine X0 c6 rfl ?_
  by_cases h5:hi=f.hi
  rotate_left
  ·simp (disch:=omega) only [decide_eq_false h5,↓Xy,wG,seval]
   exact fin rfl (by rw [hV,if_neg (fun h=>h5 h.2.2)])
  rw [if_pos ⟨rfl,h4,h5⟩] at hV
  simp (disch:=omega) only [decide_eq_true h5,↓Xy,wG,seval]
  refine X0 c7 rfl ?_
  cases h6:ZL a b f (ta+tb) with
  | false =>
   simp (disch:=omega) only [↓Xy,wG,seval]
   exact fin rfl (by rw [hV,h6]; rfl)
  | true =>
   simp (disch:=omega) only [↓Xy,wG,seval]
   exact fin rfl (by rw [hV,h6]; rfl)
def Jc (a b:PV) (f:FV) (e:Rat):FV:={ f with lo:=(XH a.rim b.rim f e).1,hi:=(XH a.rim b.rim f e).2.1 }
def BO:FV:=⟨0,0,0,0,0,v0,v0,v0⟩
def P2:List AV:=[I 0,I 0,I 0,I 0,I 0] ++ (ZG ++ (ZG ++ ZG))
theorem rn {a b:List (Int×Int)} (ha:QV a) (hb:QV b) (f:FV) (ht:vb f.turn≤60) (k:Nat):vb (ZZ a b f k)≤150:=by
 have h1:=Zh ha (xK a.length f k)
 have h2:=Zh hb ((f.EB+1 - k) % b.length).toNat
 unfold ZZ
 have h3:=F5 f.turn (Qe (b.getD ((f.EB+1 - k) % b.length).toNat (0,0)))
 have h4:=KZ (Qe (a.getD (xK a.length f k) (0,0))) (ZE f.turn (Qe (b.getD ((f.EB+1 - k) % b.length).toNat (0,0))))
 omega
theorem Pi (a b:PV) (f:FV) (na:QV a.rim) (nb:QV b.rim) (e:Rat) (ht:vb f.turn≤60):vb (XH a.rim b.rim f e).1≤155+qb e∧vb (XH a.rim b.rim f e).2.1≤155+qb e:=by
 have z:=G6
 have d:=rn na nb f ht
 have h1:vb (DT a.rim b.rim f f.M.toNat)≤150:=Nat.max_le.2 ⟨Le _ 150 (fun j=>Nat.le_trans (QM _) (d j)) _,Le _ 150 (fun j=>Nat.le_trans (QG _) (d j)) _⟩
 have h2:vb (DQ a.rim b.rim f f.M.toNat)≤150:=Nat.max_le.2 ⟨Ld _ 150 (fun j=>Nat.le_trans (QM _) (d j)) _,Ld _ 150 (fun j=>Nat.le_trans (QG _) (d j)) _⟩
 have h3:=KZ (DT a.rim b.rim f f.M.toNat) ⟨e,e⟩
 have h4:=GN (DQ a.rim b.rim f f.M.toNat) ⟨e,e⟩
 have h5:vb ⟨e,e⟩=qb e:=by unfold vb; simp
 unfold XH
 split
 ·simp only
  split
  ·exact ⟨by show vb v0≤_; omega,by show vb v0≤_; omega⟩
  ·exact ⟨by simp only; omega,by simp only; omega⟩
 ·exact ⟨by show vb v0≤_; omega,by show vb v0≤_; omega⟩
theorem vv (f g:FV):f=g↔(f.A=g.A∧f.B=g.B∧f.EA=g.EA∧f.EB=g.EB∧f.M=g.M)∧f.turn=g.turn∧f.lo=g.lo∧f.hi=g.hi:=by
 obtain ⟨a,b,c,d,e,t,l,h⟩:=f
 obtain ⟨a',b',c',d',e',t',l',h'⟩:=g
 simp [and_assoc]
theorem UH (f g:FV) (hf:f.fine) (hg:g.fine):Fn Tryz.prog 35 [Aw f,Aw g] (.bool (decide (f=g))):=by
 obtain ⟨V,hV⟩:∃ V,V=decide (f=g):=⟨_,rfl⟩
 rw [← hV]
 rw [decide_eq_decide.2 (vv f g)] at hV
 have fin:∀ {s:AS} {v:Bool},s.get 4=.bool v→v=V→RetOk (QS Tryz.prog Tryz.f35 [] [] (.bool V)) s:=fun h e=>Xv rfl h (X2 _) (by rw [e])
 obtain ⟨f1,f2,f3⟩:=hf
 obtain ⟨g1,g2,g3⟩:=hg
 have c1:=AW f.turn g.turn (by unfold vm; omega) (by unfold vm; omega)
 have c2:=EV f.lo g.lo (by unfold vm; omega) (by unfold vm; omega)
 have c3:=EV f.hi g.hi (by unfold vm; omega) (by unfold vm; omega)
 refine Fv Tryz.call35 Tryz.func35 5 [] [] [] ?_
 by_cases h:f.A=g.A∧f.B=g.B∧f.EA=g.EA∧f.EB=g.EB∧f.M=g.M
 rotate_left
 ·have hv:false=V:=by rw [hV]; exact (decide_eq_false fun hh=>h hh.1).symm
  rcases (show f.A≠g.A∨(f.A=g.A∧f.B≠g.B)∨(f.A=g.A∧f.B=g.B∧f.EA≠g.EA)∨(f.A=g.A∧f.B=g.B∧f.EA=g.EA∧f.EB≠g.EB)∨(f.A=g.A∧f.B=g.B∧f.EA=g.EA∧f.EB=g.EB∧f.M≠g.M) by omega) with q | ⟨q1,q⟩ | ⟨q1,q2,q⟩ | ⟨q1,q2,q3,q⟩ | ⟨q1,q2,q3,q4,q⟩
  ·simp only [AS.start,Aw,Qr,eq_false q,↓X1,wF,seval]
   exact fin rfl hv
  ·simp only [AS.start,Aw,Qr,eq_true q1,eq_false q,↓X1,wF,seval]
   exact fin rfl hv
  ·simp only [AS.start,Aw,Qr,eq_true q1,eq_true q2,eq_false q,↓X1,wF,seval]
   exact fin rfl hv
  ·simp only [AS.start,Aw,Qr,eq_true q1,eq_true q2,eq_true q3,eq_false q,↓X1,wF,seval]
   exact fin rfl hv
  ·simp only [AS.start,Aw,Qr,eq_true q1,eq_true q2,eq_true q3,eq_true q4,eq_false q,↓X1,wF,seval]
   exact fin rfl hv
 have e:V=decide (f.turn=g.turn∧f.lo=g.lo∧f.hi=g.hi):=by rw [hV]; exact decide_eq_decide.2 ⟨fun hh=>hh.2,fun hh=>⟨h,hh⟩⟩
 clear hV
 simp (disch:=omega) only [AS.start,Aw,Qr,↓Xy,wG,seval]
 refine X0 c1 rfl ?_
 by_cases n1:f.turn=g.turn
 rotate_left
 ·simp (disch:=omega) only [decide_eq_false n1,↓Xy,wG,seval]
  exact fin rfl (by rw [e]; exact (decide_eq_false fun hh=>n1 hh.1).symm)
 simp (disch:=omega) only [decide_eq_true n1,↓Xy,wG,seval]
 refine X0 c2 rfl ?_
 by_cases n2:f.lo=g.lo
 rotate_left
 ·simp (disch:=omega) only [decide_eq_false n2,↓Xy,wG,seval]
  exact fin rfl (by rw [e]; exact (decide_eq_false fun hh=>n2 hh.2.1).symm)
 simp (disch:=omega) only [decide_eq_true n2,↓Xy,wG,seval]
 refine X0 c3 rfl ?_
 simp (disch:=omega) only [↓Xy,wG,seval]
 exact fin rfl (by rw [e]; exact decide_eq_decide.2 ⟨fun hh=>⟨n1,n2,hh⟩,fun hh=>hh.2.2⟩)
theorem vT {V:Bool} {P:Prop} (h:V=true↔P) (p:P):true=V:=(h.2 p).symm
theorem vN {V:Bool} {P:Prop} (h:V=true↔P) (p:¬ P):false=V:=by
 cases V with
 | true=>exact absurd (h.1 rfl) p
 | false=>rfl
theorem vI {V:Bool} {P Q:Prop} [Decidable Q] (h:V=true↔P) (e:P↔Q):decide Q=V:=by
 by_cases q:Q
 ·rw [decide_eq_true q]; exact vT h (e.2 q)
 ·rw [decide_eq_false q]; exact vN h fun p=>q (e.1 p)
def ZK (t u:V2):Prop:=t.x<u.x∨(t.x=u.x∧t.y<u.y)
theorem jm (a b:Rat):J3 a b=0↔a=b:=by
 have h1:=FN a b; have h2:=Wm a b
 exact ⟨fun h=>Rat.le_antisymm (h1.1 (by omega)) (h2.1 (by omega)),fun h=>by subst h; have:=h1.2 Rat.le_refl; have:=h2.2 Rat.le_refl; omega⟩
def Em (n m:Nat) (f g:FV):Prop:=f.M<g.M∧(f.EA - g.EA) % n+f.M≤g.M∧(g.EB - (f.EA - g.EA) % n) % m=f.EB∧f.turn=g.turn
structure FV.near (f:FV):Prop where
 ea:-1000000≤f.EA∧f.EA≤1000000
 eb:-1000000≤f.EB∧f.EB≤1000000
 m:-1000000≤f.M∧f.M≤1000000
theorem o9 (a b:PV) (f g:FV) (ha:0<a.rim.length∧a.rim.length<1000000) (hb:0<b.rim.length∧b.rim.length<1000000) (nf:f.near) (ng:g.near) (hf:vb f.turn≤vm) (hg:vb g.turn≤vm) :
  Fn Tryz.prog 53 [Kh a,Kh b,Aw f,Aw g] (.bool (decide (Em a.rim.length b.rim.length f g))):=by
 obtain ⟨V,hV⟩:∃ V,V=decide (Em a.rim.length b.rim.length f g):=⟨_,rfl⟩
 rw [← hV]
 replace hV:=(Bool.eq_iff_iff.1 hV).trans decide_eq_true_iff
 have fin:∀ {s:AS} {v:Bool},s.get 8=.bool v→v=V→RetOk (QS Tryz.prog Tryz.f53 [2,30000005,30000006,30000007] [] (.bool V)) s:=fun h e=>Xv rfl h (X2 _) (by rw [e])
 obtain ⟨f1,f2,f3⟩:=nf
 obtain ⟨g1,g2,g3⟩:=ng
 have d0:=Int.emod_nonneg (f.EA - g.EA) (show (a.rim.length:Int)≠0 by omega)
 have d1:=Int.emod_lt_of_pos (f.EA - g.EA) (show (0:Int)<a.rim.length by omega)
 have c1:=Br (f.EA - g.EA) a.rim.length ha.1 (by omega) (by omega)
 have c2:=Br (g.EB - (f.EA - g.EA) % a.rim.length) b.rim.length hb.1 (by omega) (by omega)
 have c3:=AW f.turn g.turn hf hg
 unfold Em at hV
 generalize (f.EA - g.EA) % (a.rim.length:Int)=d at *
 generalize (g.EB - d) % (b.rim.length:Int)=r at *
 refine Fv Tryz.call53 Tryz.func53 10 [] [2,30000005,30000006,30000007] [] ?_
 simp (disch:=omega) only [AS.start,Kh,Q0,Aw,Qr,↓Xy,wG,seval]
 refine X0 c1 rfl ?_
 by_cases h1:f.M<g.M
 rotate_left
 ·simp (disch:=omega) only [↓Xy,wG,seval]
  exact fin rfl (vN hV (fun hh=>h1 hh.1))
 by_cases h2:d+f.M≤g.M
 rotate_left
 ·simp (disch:=omega) only [↓Xy,wG,seval]
  exact fin rfl (vN hV (fun hh=>h2 hh.2.1))
 simp (disch:=omega) only [↓Xy,wG,seval]
 refine X0 c2 rfl ?_
 by_cases h3:r=f.EB
 rotate_left
 ·simp (disch:=omega) only [↓Xy,wG,seval]
  exact fin rfl (vN hV (fun hh=>h3 hh.2.2.1))
 simp (disch:=omega) only [↓Xy,wG,seval]
 refine X0 c3 rfl ?_
 simp (disch:=omega) only [↓Xy,wG,seval]
 exact fin rfl (vI hV ⟨fun hh=>hh.2.2.2,fun hh=>⟨h1,h2,h3,hh⟩⟩)
def QW (t:V2):V2:=⟨-t.y,t.x⟩
def XZ:Nat→V2→V2
 | 0,t=>t
 | i+1,t=>QW (XZ i t)
theorem ka (t:V2):vb (QW t)=vb t:=by unfold vb QW; simp only [Bz]; exact Nat.max_comm _ _
theorem GO (t:V2):∀ i,vb (XZ i t)=vb t
 | 0=>rfl
 | i+1=>(ka _).trans (GO t i)
def Mg (t:V2):List V2→List V2
 | []=>[t]
 | x :: l=>if ZK t x then t :: x :: l else x :: Mg t l
def eu (t:V2) (l:List V2):List V2:=if t∈l then l else Mg t l
def KH (a b:PV) (f:FV):Nat→List V2
 | 0=>[]
 | k+1=>if (HL a b f k).2=true then eu (HL a b f k).1 (KH a b f k) else KH a b f k
theorem IW (t x:V2):∀ l,x∈Mg t l↔x=t∨x∈l
 | []=>by simp [Mg]
 | y :: l=>by
  have ih:=IW t x l
  unfold Mg
  split
  ·simp
  ·rw [List.mem_cons,ih,List.mem_cons]
   constructor
   ·rintro (h | h | h)
    ·exact .inr (.inl h)
    ·exact .inl h
    ·exact .inr (.inr h)
   ·rintro (h | h | h)
    ·exact .inr (.inl h)
    ·exact .inl h
    ·exact .inr (.inr h)
theorem Rr (t:V2):∀ l,(Mg t l).length=l.length+1
 | []=>rfl
 | y :: l=>by
  have ih:=Rr t l
  unfold Mg
  split
  ·simp
  ·simp [ih]
theorem ez (t x:V2) (l:List V2):x∈eu t l↔x=t∨x∈l:=by
 unfold eu
 split
 ·rename_i h
  exact ⟨fun hx=>.inr hx,fun hx=>by rcases hx with rfl | hx; exact h; exact hx⟩
 ·exact IW t x l
theorem ZX (a b:PV) (f:FV) (t:V2):∀ n,t∈KH a b f n↔∃ k,k<n∧(HL a b f k).2=true∧(HL a b f k).1=t
 | 0=>by simp [KH]
 | n+1=>by
  have ih:=ZX a b f t n
  unfold KH
  split
  ·rename_i h
   rw [ez,ih]
   constructor
   ·rintro (h1 | ⟨k,h1,h2⟩)
    ·exact ⟨n,by omega,h,h1.symm⟩
    ·exact ⟨k,by omega,h2⟩
   ·rintro ⟨k,h1,h2,h3⟩
    by_cases hk:k=n
    ·subst hk; exact .inl h3.symm
    ·exact .inr ⟨k,by omega,h2,h3⟩
  ·rename_i h
   rw [ih]
   constructor
   ·rintro ⟨k,h1,h2⟩; exact ⟨k,by omega,h2⟩
   ·rintro ⟨k,h1,h2,h3⟩
    by_cases hk:k=n
    ·subst hk; exact absurd h2 h
    ·exact ⟨k,by omega,h2,h3⟩
theorem F3 (a b:PV) (f:FV):∀ n,(KH a b f n).length≤n
 | 0=>Nat.le_refl _
 | n+1=>by
  have ih:=F3 a b f n
  unfold KH eu
  split
  ·split
   ·omega
   ·rw [Rr]; omega
  ·omega
theorem G1 (a b:PV) (f:FV) (ha:QV a.rim) (hb:QV b.rim) (n:Nat):∀ t∈KH a b f n,vb t≤26:=fun t ht=>by
 obtain ⟨k,_,_,h⟩:=(ZX a b f t n).1 ht
 rw [← h]; exact Fd ha hb _ _
def N1 (l:List FV):AV:=uB Qr 29 BO l
theorem XB (l:List FV):N1 l=.sl l.length (l.length*29) (Xt Qr 29 BO l) false:=nrfl rfl
theorem Zj (l:List FV):Settled (N1 l):=QX fun j _=>Xe (Q8 _) _
def Jx (i j k:Nat) (t:V2):FV:=⟨0,1,i,j,k,t,v0,v0⟩
def H6 (a b:PV) (e:Rat) (i j k:Nat) (t:V2):Bool:=(XH a.rim b.rim (Jx i j k t) e).2.2 && ZL a b (Jc a b (Jx i j k t) e) e
def BM (a b:PV) (e:Rat) (i j k:Nat) (L:List V2):List FV:=(L.filter (H6 a b e i j k)).map fun t=>Jc a b (Jx i j k t) e
def Ei (a b:PV) (e:Rat) (i j k:Nat):List FV:=if HE a b (Jx i j k v0) then BM a b e i j k (KH a b (Jx i j k v0) k) else []
def ZC (a b:PV) (e:Rat) (i j:Nat):Nat→List FV
 | 0=>[]
 | k+1=>ZC a b e i j k ++ Ei a b e i j (k+1)
def Ze (a b:PV) (e:Rat) (i:Nat):Nat→List FV
 | 0=>[]
 | j+1=>Ze a b e i j ++ ZC a b e i j (min a.rim.length b.rim.length - 1)
def Z1 (a b:PV) (e:Rat):Nat→List FV
 | 0=>[]
 | i+1=>Z1 a b e i ++ Ze a b e i b.rim.length
def BF (a b:PV) (e:Rat):List FV:=Z1 a b e a.rim.length
theorem Ub (a b:PV) (e:Rat) (i j k:Nat) (L:List V2) (n:Nat) (h:n<L.length):BM a b e i j k (L.take (n+1))=BM a b e i j k (L.take n) ++ (if H6 a b e i j k (L.getD n v0)=true then [Jc a b (Jx i j k (L.getD n v0)) e] else []):=by
 unfold BM
 rw [QJ L v0 n h,List.filter_append,List.map_append]
 congr 1
 by_cases hq:H6 a b e i j k (L.getD n v0)=true
 ·rw [if_pos hq,List.filter_cons_of_pos hq]; rfl
 ·rw [if_neg hq,List.filter_cons_of_neg hq]; rfl
theorem MX (a b:PV) (e:Rat) (i j k:Nat) (L:List V2):(BM a b e i j k L).length≤L.length:=by
 unfold BM; rw [List.length_map]; exact List.length_filter_le _ _
theorem tG {l:List AV} (h:∀ x∈l,x.one=true):∀ j,j<l.length→(l.getD j .any).one=true:=fun j hj=>by
 rw [List.getD_eq_getElem?_getD,List.getElem?_eq_getElem hj]; exact h _ (List.getElem_mem _)
theorem VS (f:FV):∀ j,j<29→((Qr f).getD j .any).one=true:=tG (l:=Qr f) (by simp [Qr,AV.one,X3,I])
theorem nC {P:Program} {fn:Func} {str hcs:List Nat} {s:AS} {t id ver:Nat} (L:List FV) (hr:fn.results=#[.tmp t]) (hs:s.get t=.osl id ver 29 0 L.length) (ho:s.h[id]?=some (.row ver (L.length*29) (Xt Qr 29 BO L))):RetOk (QS P fn str hcs (N1 L)) s:=by
 refine BU hr ?_
 rw [hs,XB]
 refine Jk (.inl ho) (by omega) (fun h=>by rw [h]) fun j hj=>?_
 rw [Nat.zero_add]
 exact (Xe (Q8 _) _).sees _
theorem LB {m:Nat} {s:AS} (id:Nat) {ver n:Nat} {l:List AV} (l':List AV) (ho:s.h[id]?=some (.row ver n (Xk l))) (hn:n=l.length) (h:WeakL l l'):Sub m s { s with h:=s.h.set id (.row ver n (Xk l')) } :=
 Z4 id (Xk l') ho fun j hj c v _ _ hv=>(WeakL.spec h).2 j (by omega) v hv
theorem dh (i j k:Nat):WeakL ([I 0,I 1,I i,I j,I k] ++ (ZG ++ (ZG ++ ZG))) (Qr (Jx i j k v0)):=by
 obtain ⟨w1,w2,w3,w4,w5,w6,w7,w8,_⟩:=CC
 exact ⟨Weak.rfl' _,Weak.rfl' _,Weak.rfl' _,Weak.rfl' _,Weak.rfl' _,w1,w2,w3,w4,w5,w6,w7,w8,w1,w2,w3,w4,w5,w6,w7,w8,w1,w2,w3,w4,w5,w6,w7,w8,trivial⟩
end
end Go.Ab.N
