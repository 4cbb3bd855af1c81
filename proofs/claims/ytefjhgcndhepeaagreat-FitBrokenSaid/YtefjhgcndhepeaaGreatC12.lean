/- Contracts of functions of these chapters, for every argument that fits, and what they need. -/
import Derived.Test.YtefjhgcndhepeaaGreatC11
import Derived.Test.YtefjhgcndhepeaaGreatC10
import Derived.Test.YtefjhgcndhepeaaGreatC7
import Derived.Test.YtefjhgcndhepeaaGreatC6
set_option linter.unusedSimpArgs false
set_option linter.unusedVariables false
open Nat renaming reducePow → Y1, reduceLT → Y2, reduceLeDiff → Y3, reduceEqDiff → Y4, reduceAdd → Y5, reduceMul → Y6, reduceSub → Y7, reduceBEq → Y8, reduceDiv → Y9, reduceMod → YA
namespace Go.Ab.N
open Go Go.RowKit Go.Proofs
noncomputable section
set_option maxRecDepth 10000
set_option maxHeartbeats 4000000
open Classical
def aG (L:List V2) (d:Nat×Nat×Nat):List V2:=[L.getD d.1 v0,L.getD d.2.1 v0,L.getD d.2.2 v0]
def Qf (L:List V2):List (List V2):=(CJ L).map (aG L)
theorem P1 (L:List V2):∀ (f:Nat) (R:List Nat),Rok L R→R.Nodup→3≤R.length→∀ d∈Ay L f R,d.1<L.length∧d.2.1<L.length∧d.2.2<L.length
 | 0,R,h,_,_,d,hd=>by
  rw [List.mem_singleton.1 hd]
  exact ⟨h.mem 0,h.mem 1,h.mem 2⟩
 | f+1,R,h,hn,h3,d,hd=>by
  unfold Ay at hd
  split at hd
  ·rename_i h4
   obtain ⟨b1,b2,b3,_⟩:=ER h hn h4
   rcases List.mem_cons.1 hd with rfl | hd
   ·exact ⟨h.mem _,h.mem _,h.mem _⟩
   ·exact P1 L f _ b1 b2 b3 d hd
  ·rw [List.mem_singleton.1 hd]
   exact ⟨h.mem 0,h.mem 1,h.mem 2⟩
theorem I5 (L:List V2):∀ (f:Nat) (R:List Nat),Rok L R→R.Nodup→3≤R.length→(Ay L f R).length≤R.length
 | 0,R,h,_,_=>h.pos
 | f+1,R,h,hn,h3=>by
  unfold Ay
  split
  ·rename_i h4
   obtain ⟨b1,b2,b3,b4⟩:=ER h hn h4
   have:=I5 L f _ b1 b2 b3
   rw [List.length_cons]; omega
  ·exact h.pos
theorem aQ (A B C:V2):Weak (LJ A B C).loose (Xw [A,B,C]):=by
 rw [XL,X5]
 show Weak (AV.sl 3 24 _ false) _
 refine VR (Nat.le_refl _) fun j hj=>?_
 have hj:j<24:=hj
 match j,hj with
 | 0,_=>rfl
 | 1,_=>rfl
 | 2,_=>rfl
 | 3,_=>rfl
 | 4,_=>rfl
 | 5,_=>rfl
 | 6,_=>rfl
 | 7,_=>rfl
 | 8,_=>rfl
 | 9,_=>rfl
 | 10,_=>rfl
 | 11,_=>rfl
 | 12,_=>rfl
 | 13,_=>rfl
 | 14,_=>rfl
 | 15,_=>rfl
 | 16,_=>rfl
 | 17,_=>rfl
 | 18,_=>rfl
 | 19,_=>rfl
 | 20,_=>rfl
 | 21,_=>rfl
 | 22,_=>rfl
 | 23,_=>rfl
 | j+24,h=>omega
theorem Aw (L:List V2):(Qf L).length=(CJ L).length:=by simp [Qf]
theorem FK (L:List V2) (i:Nat) (h:i<(CJ L).length):(Qf L).getD i []=aG L ((CJ L).getD i (0,0,0)):=by
 unfold Qf
 rw [List.getD_eq_getElem?_getD,List.getElem?_map,List.getD_eq_getElem?_getD,List.getElem?_eq_getElem h]; rfl
theorem tF (T:List (Nat×Nat×Nat)) (i:Nat):Xt tC 3 (0,0,0) T (i*3)=I (T.getD i (0,0,0)).1∧Xt tC 3 (0,0,0) T (i*3+1)=I (T.getD i (0,0,0)).2.1∧Xt tC 3 (0,0,0) T (i*3+2)=I (T.getD i (0,0,0)).2.2 :=
 ⟨JQ _ _ _ _ _ (by omega),Jy _ _ _ _ _ _ (by omega),Jy _ _ _ _ _ _ (by omega)⟩
theorem Sa {H:List AO} (W:List (List V2)) (A B C:V2) (j:Nat) (hj:j<W.length+1):Ko H (QD W.length (Q9 Xw [] W) 1 (Xk [(LJ A B C).loose]) j) (Q9 Xw [] (W ++ [[A,B,C]]) j):=by
 unfold QD
 by_cases h:j<W.length
 ·rw [if_pos h,Kq,Kq]
  have:(W ++ [[A,B,C]]).getD j []=W.getD j []:=by rw [List.getD_eq_getElem?_getD,List.getD_eq_getElem?_getD,List.getElem?_append_left h]
  rw [this]; exact Qa _ _
 ·obtain rfl:j=W.length:=by omega
  rw [if_neg (by omega),if_pos (by omega),Kq,Nat.sub_self]
  have:(W ++ [[A,B,C]]).getD W.length []=[A,B,C]:=by rw [List.getD_eq_getElem?_getD,List.getElem?_append_right (Nat.le_refl _),Nat.sub_self]; rfl
  rw [this]
  exact fun c v _ _ hv=>aQ A B C c v hv
theorem ub {P:Program} {fn:Func} {str hcs:List Nat} {b:Nat} {r1 r2:AV} {H:List AO} {s:AS} {t u:Nat} (hr:fn.results=#[.tmp t,.tmp u]) (h1:s.get t=r1) (h2:s.get u=r2) (hH:s.h=H):RetOk (FU P fn str hcs b (.tup [r1,r2]) H) s :=
 ⟨.tup [r1,r2],by show KO P fn s=_; simp [KO,hr,J2,Je,ZA,h1,h2],rfl,hH⟩
theorem pH (o1 o2:AO) (B1:∀ m,2≤m→XW m o1) (B2:∀ m,2≤m→XW m o2) (L:List V2) (k:Nat) (hs:Qk L k) (hk:k≤1000) (hp:C6 L) :
  HCall Tryz.prog 245 [Xw L] [o1,o2] (.tup [.osl 2 (Qf L).length 1 0 (Qf L).length,I 0]) [o1,o2,.row (Qf L).length (Qf L).length (Q9 Xw [] (Qf L))]:=by
 have hl:=hp.1
 have cc:=kB L k hs hk hp
 have hTl:(CJ L).length≤12:=by have:=I5 L L.length _ (DH hl.1 (by omega)) List.nodup_range (by rw [List.length_range]; omega); rw [List.length_range] at this; unfold CJ; omega
 have hm:=P1 L L.length _ (DH hl.1 (by omega)) List.nodup_range (by rw [List.length_range]; omega)
 have hcl:=Aw L
 have hca:=FK L
 change ∀ d∈CJ L,_ at hm
 generalize CJ L=T at *
 generalize Qf L=C at *
 have hbL:Kn 3 (Xw L)=True:=eq_true (X7 (Xh L))
 have hbT:Kn 3 (sb T)=True:=eq_true (X7 (RL T))
 have q1:XW 3 o1=True:=eq_true (B1 3 (by omega))
 have q2:XW 3 o2=True:=eq_true (B2 3 (by omega))
 have s1:∀ v n f A B C,XW 3 (.row v (n+1) (QD n (Q9 Xw [] f) 1 (Xk [(LJ A B C).loose])))=True:=fun v n f A B C=>eq_true fun j hj=>by
  unfold QD
  have hset:Settled (LJ A B C).loose:=by rw [XL]; exact QP fun j _=>Xe (l:=[_,_,_,_,_,_,_,_,_,_,_,_,_,_,_,_,_,_,_,_,_,_,_,_]) (by simp [X8,X2]) j
  split
  ·exact X7 (Xh _)
  ·rw [show j - n=0 by omega]
   exact X7 hset
 refine HCall.intro (fn:=Tryz.f245) Tryz.call245 Tryz.func245 rfl mixed 9 [14,15,16] [6,70000008] [] (by kernel_rfl) (Nat.le_of_ble_eq_true rfl) (Xi ?_)
 simp only [AS.start,X5,↓X1,wF,seval]
 refine X0 cc rfl ?_
 simp only [X5,DI,↓X1,wF,seval]
 refine Xd (fun i:Nat=>⟨9,[14,15,16],[Xw L,.any,.any,.any,.any,I 0,.osl 2 i 1 0 i,.any,.any],[(14,sb T),(15,I T.length),(16,I i)],[o1,o2,.row i i (Q9 Xw [] (C.take i))]⟩) (fun i=>i≤T.length) (fun i=>T.length - i) 0 (by omega)
  (Sub.trans (Jk 6 1 (Q9 Xw [] []) rfl) (Xf rfl (by simp [AS.put,Xg,X5,I]) (by simp [AS.put,Xn,Xr,DI,I]) (by simp [AS.put]))) ?_
 intro i hi next
 have w1:=wj i (by omega)
 by_cases hi2:i<T.length
 rotate_left
 ·obtain rfl:i=T.length:=by omega
  refine Xi ?_
  simp only [X5,DI,Int.lt_irrefl,Nat.lt_irrefl,↓X1,wF,seval]
  rw [List.take_of_length_le (by omega)]
  exact ub rfl (by rw [hcl]; rfl) rfl (by rw [hcl])
 have t1:=tF T i
 obtain ⟨m1,m2,m3⟩:=hm (T.getD i (0,0,0)) (Js hi2)
 have hc1:=hca i hi2
 have htk:C.take (i+1)=C.take i ++ [C.getD i []]:=QB C [] i (by omega)
 have hwl:(C.take i).length=i:=by rw [List.length_take]; omega
 have nx:=next (i+1)
 rw [htk,hc1] at nx
 unfold aG at nx
 generalize (T.getD i (0,0,0)).1=a at *
 generalize (T.getD i (0,0,0)).2.1=b at *
 generalize (T.getD i (0,0,0)).2.2=c at *
 have va:=vF L a
 have vb:=vF L b
 have vc:=vF L c
 have hgr:=@Sa [o1,o2,.row (i+1) (i+1) (QD i (Q9 Xw [] (C.take i)) 1 (Xk [(LJ (L.getD a v0) (L.getD b v0) (L.getD c v0)).loose]))] (C.take i) (L.getD a v0) (L.getD b v0) (L.getD c v0)
 rw [hwl] at hgr
 generalize L.getD a v0=A at *
 generalize L.getD b v0=B at *
 generalize L.getD c v0=D at *
 generalize C.take i=W at *
 refine Xi ?_
 simp (disch:=omega) only [X5,DI,t1,va,vb,vc,wD,Int.reduceToNat,↓X1,wF,seval]
 exact nx _ (by omega) (by omega) (Sub.trans (XD (m:=3) (s':=⟨9,[14,15,16],[Xw L,.any,.any,.any,.any,I 0,.osl 2 (i+1) 1 0 (i+1),.any,.any],[(14,sb T),(15,I T.length),(16,I (i+1:Nat))],[o1,o2,.row (i+1) (i+1) (QD i (Q9 Xw [] W) 1 (Xk [(LJ A B D).loose]))]⟩) (by simp [FU]) rfl (by simp [Xg,X5,I]) (by simp [Xn,Xr,DI,I]) (by simp [XL,X4,AV.loose]) (by simp [XA,hbL]) (by simp [XA,hbT]) (by simp [q1,q2,s1])) (Sub.trans (Z1 2 (Q9 Xw [] (W ++ [[A,B,D]])) rfl (fun j hj=>hgr j hj)) (Xf rfl (by simp [Xg]) (by simp [Xn,Xr]) rfl)))
def H4 (f:List V2→List V2) (C:List (List V2)) (i:Nat):List (List V2):=(C.take i).map f ++ C.drop i
theorem qy (f:List V2→List V2) (C:List (List V2)):H4 f C 0=C:=rfl
theorem gb (f:List V2→List V2) (C:List (List V2)):H4 f C C.length=C.map f:=by unfold H4; simp
theorem lW (f:List V2→List V2) (C:List (List V2)) (i:Nat) (h:i<C.length):(H4 f C i).getD i []=C.getD i []:=by
 unfold H4
 rw [List.getD_eq_getElem?_getD,List.getElem?_append_right (by simp; omega),List.getD_eq_getElem?_getD]
 simp [Nat.min_eq_left (Nat.le_of_lt h)]
theorem gc (f:List V2→List V2) (C:List (List V2)) (i:Nat) (h:i≤C.length):(H4 f C i).length=C.length:=by unfold H4; simp; omega
theorem ge (f:List V2→List V2) (C:List (List V2)) (i:Nat) (h:i<C.length):(H4 f C i).set i (f (C.getD i []))=H4 f C (i+1):=by
 refine List.ext_getElem? fun j=>?_
 unfold H4
 rw [List.getElem?_set]
 by_cases hj:i=j
 ·subst hj
  rw [if_pos rfl,if_pos (by simp; omega),List.getElem?_append_left (by simp; omega),List.getElem?_map,List.getElem?_take,if_pos (by omega),List.getElem?_eq_getElem h,List.getD_eq_getElem?_getD,List.getElem?_eq_getElem h]; rfl
 ·rw [if_neg hj]
  by_cases hlt:j<i
  ·rw [List.getElem?_append_left (by simp; omega),List.getElem?_append_left (by simp; omega),List.getElem?_map,List.getElem?_map,List.getElem?_take,List.getElem?_take,if_pos hlt,if_pos (by omega)]
  ·rw [List.getElem?_append_right (by simp; omega),List.getElem?_append_right (by simp; omega),List.getElem?_drop,List.getElem?_drop]
   congr 1
   simp; omega
def JD (p:PV) (t c:V2):List (List V2):=(Qf (Xp p.rim)).map (Zw t c)
theorem G6 {R:List (Int×Int)} (h:Jc R):Qk (Xp R) 3:=fun i=>by rw [Z4]; exact Zg h i
theorem GQ:vb v0≤3:=by
 have:=Zg (R:=[]) (fun c hc=>absurd hc List.not_mem_nil) 0
 exact this
theorem Gl (L:List V2) (k:Nat) (h:Qk L k) (hk:3≤k) (i:Nat):Qk ((Qf L).getD i []) k:=by
 by_cases hi:i<(CJ L).length
 ·rw [FK L i hi]
  intro j
  unfold aG
  match j with
  | 0=>exact h _
  | 1=>exact h _
  | 2=>exact h _
  | j+3=>exact Nat.le_trans GQ hk
 ·have e:(Qf L).getD i []=[]:=by rw [List.getD_eq_getElem?_getD,List.getElem?_eq_none (by rw [Aw]; omega)]; rfl
  rw [e]
  exact fun j=>Nat.le_trans GQ hk
theorem HY (L:List V2) (i:Nat) (hi:i<(CJ L).length):((Qf L).getD i []).length=3:=by rw [FK L i hi]; rfl
theorem ND {L:List V2} (hl:3≤L.length∧L.length≤12):(CJ L).length≤12:=by
 have:=I5 L L.length _ (DH hl.1 (by omega)) List.nodup_range (by rw [List.length_range]; omega)
 rw [List.length_range] at this
 unfold CJ; omega
theorem Uf (l:List V2):(Xw l).cells=[Xw l]:=nrfl rfl
theorem iU (l:List V2):(Xw l).one=true:=nrfl rfl
theorem Ug (l:List V2):(Xw l).loose=Xw l:=nrfl rfl
theorem MM (p:PV) (t c:V2) (hp:C6 (Xp p.rim)) (hn:Jc p.rim) (ht:vb t≤1000) (hc:vb c≤1000):Fn Tryz.prog 202 [Zl p,jj t c] (Uh (JD p t c)):=by
 have hl:=hp.1
 have hle:=ND hl
 have hrl:(Xp p.rim).length=p.rim.length:=by simp [Xp]
 have r1:=IK p (by omega) (Zr hn)
 have sm:=G6 hn
 have hcs:=Gl (Xp p.rim) 3 sm (Nat.le_refl _)
 have h3:=HY (Xp p.rim)
 have hcl:=Aw (Xp p.rim)
 have B1:∀ m,2≤m→XW m (.row 0 25 (Xk (QC p))):=fun m _=>XX (XP p)
 have B2:∀ m,2≤m→XW m (.row 0 16 (Xk (Om t c))):=fun m _=>XX (A8 t c)
 have co:=pH (.row 0 25 (Xk (QC p))) (.row 0 16 (Xk (Om t c))) B1 B2 (Xp p.rim) 3 sm (by omega) hp
 unfold JD
 generalize Xp p.rim=L at *
 rw [← hcl] at h3 hle
 generalize Qf L=C at *
 refine Fq Tryz.call202 Tryz.func202 9 [15,16,17] [] [] (by simp [Bg,Bf]) (Xi ?_)
 simp (disch:=omega) only [AS.start,Zl,QC,jj,Om,wD,↓X1,wF,seval]
 refine X0 r1 rfl ?_
 simp (disch:=omega) only [X5,wD,↓X1,wF,seval]
 refine KI rfl co (QM (fun o h=>?_) (fun o h=>?_)) (fun id=>?_) (Qn _) ?_
 ·simp only [List.mem_cons,List.not_mem_nil,or_false] at h
  rcases h with rfl | rfl <;> simp
 ·simp only [List.mem_cons,List.not_mem_nil,or_false] at h
  rcases h with rfl | rfl | rfl <;> simp
 ·match id with
  | 0=>simp
  | 1=>simp
  | n+2=>simp
 simp (disch:=omega) only [wD,↓X1,wF,seval]
 refine Xd (fun i:Nat=>⟨9,[15,16,17],[.any,.any,.any,.ref 1 0 0,.any,.osl 2 C.length 1 0 C.length,.any,.any,.any],[(15,.osl 2 C.length 1 0 C.length),(16,I C.length),(17,I i)],[.row 0 25 (Xk (QC p)),.row 0 16 (Xk (Om t c)),.row C.length C.length (Q9 Xw [] (H4 (Zw t c) C i))]⟩) (fun i=>i≤C.length) (fun i=>C.length - i) 0 (by omega)
  (Xf rfl (by simp [Xg,I]) (by simp [Xn,Xr,I]) (by simp [QC,Om,X4,Xu,XR,qy,I])) ?_
 intro i hi next
 by_cases hi2:i<C.length
 rotate_left
 ·obtain rfl:i=C.length:=by omega
  refine Xi ?_
  simp (disch:=omega) only [wD,↓X1,wF,seval]
  rw [gb]
  have hml:(C.map (Zw t c)).length=C.length:=List.length_map ..
  refine BI rfl ?_
  rw [XT,hml]
  refine Jv (id:=2) (m:=C.length) (f:=Q9 Xw [] (C.map (Zw t c))) (.inl rfl) (by omega) (fun h=>h) fun j hj=>?_
  rw [Nat.zero_add]
  exact (Xh _).sees _
 have v1:=ue (H4 (Zw t c) C i) i
 rw [lW _ _ _ hi2] at v1
 have cm:=Rk t c (C.getD i []) 3 (hcs i) (by omega) (by rw [h3 i hi2]; omega) (by omega) (by omega)
 refine Xi ?_
 simp (disch:=omega) only [v1,wD,↓X1,wF,seval]
 refine X0 cm rfl ?_
 simp (disch:=omega) only [Uf,iU,Ug,wD,↓X1,wF,seval]
 exact next (i+1) _ (by omega) (by omega) (Xf rfl (by simp [Xg]) (by simp [Xn,Xr,I]) (by rw [← ge _ _ _ hi2,← VQ _ _ _ _ _ (by rw [gc _ _ _ hi]; exact hi2)]))
def H3 (f:FV):V2:=(f.lo.add f.hi).scale (Rat.divInt 1 2)
def Bk (a b:PV) (f:FV) (e:Rat):Bool:=Cu (JD a Qm v0) (JD b f.turn (H3 f)) (-e)
structure GP (p:PV) (t:Rat):Prop where
 even:p.even
 poly:XJ (Xp p.rim)
 tol:p.tol=RQ.of t
 qt:qb t≤20
structure FV.fine (f:FV):Prop where
 turn:vb f.turn≤60
 lo:vb f.lo≤300
 hi:vb f.hi≤300
theorem E8 (p:PV) (t c:V2):(JD p t c).length=(CJ (Xp p.rim)).length:=by unfold JD; rw [List.length_map,Aw]
theorem HW (p:PV) (t c:V2) (hn:Jc p.rim) (ht:vb t≤100) (hc:vb c≤700):∀ i,i<(JD p t c).length→Shp 1000 ((JD p t c).getD i []):=fun i hi=>by
 rw [E8] at hi
 have e:(JD p t c).getD i []=Zw t c ((Qf (Xp p.rim)).getD i []):=by
  unfold JD
  rw [List.getD_eq_getElem?_getD,List.getElem?_map,List.getD_eq_getElem?_getD,List.getElem?_eq_getElem (by rw [Aw]; exact hi)]; rfl
 have hs:=Gl (Xp p.rim) 3 (G6 hn) (Nat.le_refl _) i
 have h3:=HY (Xp p.rim) i hi
 rw [e]
 generalize (Qf (Xp p.rim)).getD i []=W at *
 have hl:(Zw t c W).length=3:=by unfold Zw; rw [List.length_map,h3]
 refine ⟨fun j=>?_,by omega,by omega⟩
 by_cases hj:j<W.length
 ·have ej:(Zw t c W).getD j v0=put t c (W.getD j v0):=by
   unfold Zw
   rw [List.getD_eq_getElem?_getD,List.getElem?_map,List.getD_eq_getElem?_getD,List.getElem?_eq_getElem hj]; rfl
  rw [ej]
  have:=sr t c (W.getD j v0)
  have:=hs j
  omega
 ·rw [List.getD_eq_getElem?_getD,List.getElem?_eq_none (by omega)]
  exact Nat.le_trans GQ (by omega)
theorem Vr:qb (Rat.divInt 1 2)≤10:=by decide +kernel
theorem iI (f:FV) (h:f.fine):vb (H3 f)≤700:=by
 have h1:=L8 f.lo f.hi
 have h2:=iM (f.lo.add f.hi) (Rat.divInt 1 2)
 have:=Vr
 have:=h.lo; have:=h.hi
 unfold H3; omega
theorem FB:vb Qm≤10:=by decide +kernel
theorem dP (a b:PV) (f:FV) {ta tb:Rat} (ha:GP a ta) (hb:GP b tb) (hf:f.fine):(∀ i,i<(JD a Qm v0).length→Shp 1000 ((JD a Qm v0).getD i []))∧(∀ i,i<(JD b f.turn (H3 f)).length→Shp 1000 ((JD b f.turn (H3 f)).getD i [])) ∧
  (JD a Qm v0).length≤1000∧(JD b f.turn (H3 f)).length≤1000:=by
 have h1:=ND (A5 _ ha.poly).1
 have h2:=ND (A5 _ hb.poly).1
 have:=FB
 have:=GQ
 exact ⟨HW a Qm v0 ha.even.near (by omega) (by omega),HW b f.turn (H3 f) hb.even.near (by have:=hf.turn; omega) (iI f hf),by rw [E8]; omega,by rw [E8]; omega⟩
theorem iW:Weak (.agg (vC Qm ++ [.bool false,.sl 0 0 (fun _=>.any) true,.bool false,.sl 0 0 (fun _=>.any) true,.bool false,.sl 0 0 (fun _=>.any) true,.bool false,.sl 0 0 (fun _=>.any) true])) (jj Qm v0):=by
 refine Ji ?_
 have h:=Sf true
 exact ⟨Weak.rfl' _,Weak.rfl' _,Weak.rfl' _,Weak.rfl' _,Weak.rfl' _,Weak.rfl' _,Weak.rfl' _,Weak.rfl' _,h⟩
theorem Yj (a b:PV) (f:FV) {ta tb:Rat} (ha:GP a ta) (hb:GP b tb) (hf:f.fine):Fn Tryz.prog 137 [Zl a,Zl b,CS f] (.bool (Bk a b f (ta+tb))):=by
 have qa:=ha.qt; have q2:=hb.qt
 have f1:=hf.turn; have f2:=hf.lo; have f3:=hf.hi
 have c1:=NT f.lo f.hi (by unfold vm; omega) (by unfold vm; omega)
 have c2:=Er 1 2 (Ik (by omega) (by omega)) (Ik (by omega) (by omega))
 have m1:=L8 f.lo f.hi
 have m2:=iI f hf
 have c3:=MS (f.lo.add f.hi) (Rat.divInt 1 2) (by unfold vm; omega) (by have:=Vr; unfold vm; omega)
 have c4:=MM a Qm v0 (A5 _ ha.poly) ha.even.near (by have:=FB; omega) (by have:=GQ; omega)
 have c5:=MM b f.turn (H3 f) (A5 _ hb.poly) hb.even.near (by omega) (by omega)
 have qe:=Z7 ta tb
 have c6:Fn Tryz.prog 70 [a.tol.A,b.tol.A] (qA (ta+tb)):=by rw [ha.tol,hb.tol]; exact ZW ta tb (by unfold rm; omega) (by unfold rm; omega)
 have c7:=Cf (ta+tb)
 obtain ⟨k1,k2,k3,k4⟩:=dP a b f ha hb hf
 have c8:=jA _ _ (-(ta+tb)) 1000 k1 k2 (by omega) (by omega) (by rw [Bn]; omega) k3 k4
 change Fn _ _ [vA (f.lo.add f.hi),qA (Rat.divInt 1 2)] (vA (H3 f)) at c3
 obtain ⟨V,hV⟩:∃ V,V=Bk a b f (ta+tb):=⟨_,rfl⟩
 change Fn _ _ _ (.tup [.any,.bool (Bk a b f (ta+tb))]) at c8
 rw [← hV] at c8 ⊢
 generalize H3 f=M at *
 refine Fv Tryz.call137 Tryz.func137 10 [] [1,20000005,2,30000003,30000004,30000007] [] ?_
 simp (disch:=omega) only [AS.start,Zl,QC,CS,Jp,↓XK,wG,seval]
 refine X0 c1 rfl ?_
 simp (disch:=omega) only [↓XK,wG,seval]
 refine X0 c2 rfl ?_
 simp (disch:=omega) only [↓XK,wG,seval]
 refine X0 c3 rfl ?_
 simp (disch:=omega) only [↓XK,wG,seval]
 refine X0 YW rfl ?_
 simp (disch:=omega) only [↓XK,wG,seval]
 refine QS c4 ⟨Weak.rfl' _,iW,trivial⟩ ?_
 simp (disch:=omega) only [XT,↓XK,wG,seval]
 refine X0 c5 rfl ?_
 simp (disch:=omega) only [XT,↓XK,wG,seval]
 refine X0 c6 rfl ?_
 simp (disch:=omega) only [XT,↓XK,wG,seval]
 refine X0 c7 rfl ?_
 simp (disch:=omega) only [XT,↓XK,wG,seval]
 refine X0 c8 rfl ?_
 simp (disch:=omega) only [↓XK,wG,seval]
 exact Xx rfl rfl (X2 _) rfl
def FM (a b:PV) (f:FV) (e:Rat):Int :=
 if Ev a.rim.length b.rim.length f then if LC a b f then if pj a b f then
  if (XU a.rim b.rim f e).2.2=true∧(XU a.rim b.rim f e).1=f.lo∧(XU a.rim b.rim f e).2.1=f.hi then if Bk a b f e=true then 0 else 13
  else 22 else 21 else 12 else 5
def J7 (a b:PV) (f:FV) (e:Rat):FV:={ f with lo:=(XU a.rim b.rim f e).1,hi:=(XU a.rim b.rim f e).2.1 }
def Cs:FV:=⟨0,0,0,0,0,v0,v0,v0⟩
def Ok:List AV:=[I 0,I 0,I 0,I 0,I 0] ++ (ZD ++ (ZD ++ ZD))
theorem pM {a b:List (Int×Int)} (ha:Jc a) (hb:Jc b) (f:FV) (ht:vb f.turn≤60) (k:Nat):vb (AX a b f k)≤150:=by
 have h1:=Zg ha (xK a.length f k)
 have h2:=Zg hb ((f.EB+1 - k) % b.length).toNat
 unfold AX
 have h3:=Ez f.turn (Qc (b.getD ((f.EB+1 - k) % b.length).toNat (0,0)))
 have h4:=Za (Qc (a.getD (xK a.length f k) (0,0))) (ZB f.turn (Qc (b.getD ((f.EB+1 - k) % b.length).toNat (0,0))))
 omega
theorem OA (a b:PV) (f:FV) (na:Jc a.rim) (nb:Jc b.rim) (e:Rat) (ht:vb f.turn≤60):vb (XU a.rim b.rim f e).1≤155+qb e∧vb (XU a.rim b.rim f e).2.1≤155+qb e:=by
 have z:=GQ
 have d:=pM na nb f ht
 have h1:vb (EG a.rim b.rim f f.M.toNat)≤150:=Nat.max_le.2 ⟨IC _ 150 (fun j=>Nat.le_trans (QL _) (d j)) _,IC _ 150 (fun j=>Nat.le_trans (QG _) (d j)) _⟩
 have h2:vb (EF a.rim b.rim f f.M.toNat)≤150:=Nat.max_le.2 ⟨IB _ 150 (fun j=>Nat.le_trans (QL _) (d j)) _,IB _ 150 (fun j=>Nat.le_trans (QG _) (d j)) _⟩
 have h3:=Za (EG a.rim b.rim f f.M.toNat) ⟨e,e⟩
 have h4:=L8 (EF a.rim b.rim f f.M.toNat) ⟨e,e⟩
 have h5:vb ⟨e,e⟩=qb e:=by unfold vb; simp
 unfold XU
 split
 ·simp only
  split
  ·exact ⟨by show vb v0≤_; omega,by show vb v0≤_; omega⟩
  ·exact ⟨by simp only; omega,by simp only; omega⟩
 ·exact ⟨by show vb v0≤_; omega,by show vb v0≤_; omega⟩
theorem vT {V:Bool} {P:Prop} (h:V=true↔P) (p:P):true=V:=(h.2 p).symm
theorem vN {V:Bool} {P:Prop} (h:V=true↔P) (p:¬ P):false=V:=by
 cases V with
 | true=>exact absurd (h.1 rfl) p
 | false=>rfl
theorem vI {V:Bool} {P Q:Prop} [Decidable Q] (h:V=true↔P) (e:P↔Q):decide Q=V:=by
 by_cases q:Q
 ·rw [decide_eq_true q]; exact vT h (e.2 q)
 ·rw [decide_eq_false q]; exact vN h fun p=>q (e.1 p)
def ZH (t u:V2):Prop:=t.x<u.x∨(t.x=u.x∧t.y<u.y)
theorem gR (a b:Rat):QZ a b=0↔a=b:=by
 have h1:=Fg a b; have h2:=Vt a b
 exact ⟨fun h=>Rat.le_antisymm (h1.1 (by omega)) (h2.1 (by omega)),fun h=>by subst h; have:=h1.2 Rat.le_refl; have:=h2.2 Rat.le_refl; omega⟩
def Fc (n m:Nat) (f g:FV):Prop:=f.M<g.M∧(f.EA - g.EA) % n+f.M≤g.M∧(g.EB - (f.EA - g.EA) % n) % m=f.EB∧f.turn=g.turn
structure FV.near (f:FV):Prop where
 ea:-1000000≤f.EA∧f.EA≤1000000
 eb:-1000000≤f.EB∧f.EB≤1000000
 m:-1000000≤f.M∧f.M≤1000000
theorem mj (a b:PV) (f g:FV) (ha:0<a.rim.length∧a.rim.length<1000000) (hb:0<b.rim.length∧b.rim.length<1000000) (nf:f.near) (ng:g.near) (hf:vb f.turn≤vm) (hg:vb g.turn≤vm) :
  Fn Tryz.prog 53 [Zl a,Zl b,CS f,CS g] (.bool (decide (Fc a.rim.length b.rim.length f g))):=by
 obtain ⟨V,hV⟩:∃ V,V=decide (Fc a.rim.length b.rim.length f g):=⟨_,rfl⟩
 rw [← hV]
 replace hV:=(Bool.eq_iff_iff.1 hV).trans decide_eq_true_iff
 have fin:∀ {s:AS} {v:Bool},s.get 8=.bool v→v=V→RetOk (QV Tryz.prog Tryz.f53 [2,30000005,30000006,30000007] [] (.bool V)) s:=fun h e=>Xx rfl h (X2 _) (by rw [e])
 obtain ⟨f1,f2,f3⟩:=nf
 obtain ⟨g1,g2,g3⟩:=ng
 have d0:=Int.emod_nonneg (f.EA - g.EA) (show (a.rim.length:Int)≠0 by omega)
 have d1:=Int.emod_lt_of_pos (f.EA - g.EA) (show (0:Int)<a.rim.length by omega)
 have c1:=Bh (f.EA - g.EA) a.rim.length ha.1 (by omega) (by omega)
 have c2:=Bh (g.EB - (f.EA - g.EA) % a.rim.length) b.rim.length hb.1 (by omega) (by omega)
 have c3:=IF f.turn g.turn hf hg
 unfold Fc at hV
 generalize (f.EA - g.EA) % (a.rim.length:Int)=d at *
 generalize (g.EB - d) % (b.rim.length:Int)=r at *
 refine Fv Tryz.call53 Tryz.func53 10 [] [2,30000005,30000006,30000007] [] ?_
 simp (disch:=omega) only [AS.start,Zl,QC,CS,Jp,↓XK,wG,seval]
 refine X0 c1 rfl ?_
 by_cases h1:f.M<g.M
 rotate_left
 ·simp (disch:=omega) only [↓XK,wG,seval]
  exact fin rfl (vN hV (fun hh=>h1 hh.1))
 by_cases h2:d+f.M≤g.M
 rotate_left
 ·simp (disch:=omega) only [↓XK,wG,seval]
  exact fin rfl (vN hV (fun hh=>h2 hh.2.1))
 simp (disch:=omega) only [↓XK,wG,seval]
 refine X0 c2 rfl ?_
 by_cases h3:r=f.EB
 rotate_left
 ·simp (disch:=omega) only [↓XK,wG,seval]
  exact fin rfl (vN hV (fun hh=>h3 hh.2.2.1))
 simp (disch:=omega) only [↓XK,wG,seval]
 refine X0 c3 rfl ?_
 simp (disch:=omega) only [↓XK,wG,seval]
 exact fin rfl (vI hV ⟨fun hh=>hh.2.2.2,fun hh=>⟨h1,h2,h3,hh⟩⟩)
def QO (t:V2):V2:=⟨-t.y,t.x⟩
def XY:Nat→V2→V2
 | 0,t=>t
 | i+1,t=>QO (XY i t)
theorem iL (t:V2):vb (QO t)=vb t:=by unfold vb QO; simp only [Bn]; exact Nat.max_comm _ _
theorem Gd (t:V2):∀ i,vb (XY i t)=vb t
 | 0=>rfl
 | i+1=>(iL _).trans (Gd t i)
def LA (t:V2):List V2→List V2
 | []=>[t]
 | x :: l=>if ZH t x then t :: x :: l else x :: LA t l
def cI (t:V2) (l:List V2):List V2:=if t∈l then l else LA t l
def KF (a b:PV) (f:FV):Nat→List V2
 | 0=>[]
 | k+1=>if (LR a b f k).2=true then cI (LR a b f k).1 (KF a b f k) else KF a b f k
theorem Im (t x:V2):∀ l,x∈LA t l↔x=t∨x∈l
 | []=>by simp [LA]
 | y :: l=>by
  have ih:=Im t x l
  unfold LA
  split
  ·simp
  ·rw [List.mem_cons,ih,List.mem_cons]
   constructor
   ·rintro (h | h | h)
    ·exact .inr (.inl h)
    ·exact .inl h
    ·exact .inr (.inr h)
   ·rintro (h | h | h)
    ·exact .inr (.inl h)
    ·exact .inl h
    ·exact .inr (.inr h)
theorem PE (t:V2):∀ l,(LA t l).length=l.length+1
 | []=>rfl
 | y :: l=>by
  have ih:=PE t l
  unfold LA
  split
  ·simp
  ·simp [ih]
theorem cJ (t x:V2) (l:List V2):x∈cI t l↔x=t∨x∈l:=by
 unfold cI
 split
 ·rename_i h
  exact ⟨fun hx=>.inr hx,fun hx=>by rcases hx with rfl | hx; exact h; exact hx⟩
 ·exact Im t x l
theorem ZS (a b:PV) (f:FV) (t:V2):∀ n,t∈KF a b f n↔∃ k,k<n∧(LR a b f k).2=true∧(LR a b f k).1=t
 | 0=>by simp [KF]
 | n+1=>by
  have ih:=ZS a b f t n
  unfold KF
  split
  ·rename_i h
   rw [cJ,ih]
   constructor
   ·rintro (h1 | ⟨k,h1,h2⟩)
    ·exact ⟨n,by omega,h,h1.symm⟩
    ·exact ⟨k,by omega,h2⟩
   ·rintro ⟨k,h1,h2,h3⟩
    by_cases hk:k=n
    ·subst hk; exact .inl h3.symm
    ·exact .inr ⟨k,by omega,h2,h3⟩
  ·rename_i h
   rw [ih]
   constructor
   ·rintro ⟨k,h1,h2⟩; exact ⟨k,by omega,h2⟩
   ·rintro ⟨k,h1,h2,h3⟩
    by_cases hk:k=n
    ·subst hk; exact absurd h2 h
    ·exact ⟨k,by omega,h2,h3⟩
theorem Ey (a b:PV) (f:FV):∀ n,(KF a b f n).length≤n
 | 0=>Nat.le_refl _
 | n+1=>by
  have ih:=Ey a b f n
  unfold KF cI
  split
  ·split
   ·omega
   ·rw [PE]; omega
  ·omega
theorem Fx (a b:PV) (f:FV) (ha:Jc a.rim) (hb:Jc b.rim) (n:Nat):∀ t∈KF a b f n,vb t≤26:=fun t ht=>by
 obtain ⟨k,_,_,h⟩:=(ZS a b f t n).1 ht
 rw [← h]; exact EL ha hb _ _
def NL (l:List FV):AV:=sK Jp 29 Cs l
theorem XF (l:List FV):NL l=.sl l.length (l.length*29) (Xt Jp 29 Cs l) false:=nrfl rfl
theorem Zi (l:List FV):Settled (NL l):=QP fun j _=>Xe (Qq _) _
def Jr (i j k:Nat) (t:V2):FV:=⟨0,1,i,j,k,t,v0,v0⟩
def Gs (a b:PV) (e:Rat) (i j k:Nat) (t:V2):Bool:=(XU a.rim b.rim (Jr i j k t) e).2.2 && Bk a b (J7 a b (Jr i j k t) e) e
def BA (a b:PV) (e:Rat) (i j k:Nat) (L:List V2):List FV:=(L.filter (Gs a b e i j k)).map fun t=>J7 a b (Jr i j k t) e
def DP (a b:PV) (e:Rat) (i j k:Nat):List FV:=if LC a b (Jr i j k v0) then BA a b e i j k (KF a b (Jr i j k v0) k) else []
def Zz (a b:PV) (e:Rat) (i j:Nat):Nat→List FV
 | 0=>[]
 | k+1=>Zz a b e i j k ++ DP a b e i j (k+1)
def Zd (a b:PV) (e:Rat) (i:Nat):Nat→List FV
 | 0=>[]
 | j+1=>Zd a b e i j ++ Zz a b e i j (min a.rim.length b.rim.length - 1)
def KX (a b:PV) (e:Rat):Nat→List FV
 | 0=>[]
 | i+1=>KX a b e i ++ Zd a b e i b.rim.length
def Bt (a b:PV) (e:Rat):List FV:=KX a b e a.rim.length
theorem Ts (a b:PV) (e:Rat) (i j k:Nat) (L:List V2) (n:Nat) (h:n<L.length):BA a b e i j k (L.take (n+1))=BA a b e i j k (L.take n) ++ (if Gs a b e i j k (L.getD n v0)=true then [J7 a b (Jr i j k (L.getD n v0)) e] else []):=by
 unfold BA
 rw [QB L v0 n h,List.filter_append,List.map_append]
 congr 1
 by_cases hq:Gs a b e i j k (L.getD n v0)=true
 ·rw [if_pos hq,List.filter_cons_of_pos hq]; rfl
 ·rw [if_neg hq,List.filter_cons_of_neg hq]; rfl
theorem Mh (a b:PV) (e:Rat) (i j k:Nat) (L:List V2):(BA a b e i j k L).length≤L.length:=by
 unfold BA; rw [List.length_map]; exact List.length_filter_le _ _
theorem rI {l:List AV} (h:∀ x∈l,x.one=true):∀ j,j<l.length→(l.getD j .any).one=true:=fun j hj=>by
 rw [List.getD_eq_getElem?_getD,List.getElem?_eq_getElem hj]; exact h _ (List.getElem_mem _)
theorem V1 (f:FV):∀ j,j<29→((Jp f).getD j .any).one=true:=rI (l:=Jp f) (by simp [Jp,AV.one,X4,I])
theorem lN {P:Program} {fn:Func} {str hcs:List Nat} {s:AS} {t id ver:Nat} (L:List FV) (hr:fn.results=#[.tmp t]) (hs:s.get t=.osl id ver 29 0 L.length) (ho:s.h[id]?=some (.row ver (L.length*29) (Xt Jp 29 Cs L))):RetOk (QV P fn str hcs (NL L)) s:=by
 refine BI hr ?_
 rw [hs,XF]
 refine Jv (.inl ho) (by omega) (fun h=>by rw [h]) fun j hj=>?_
 rw [Nat.zero_add]
 exact (Xe (Qq _) _).sees _
theorem RX {m:Nat} {s:AS} (id:Nat) {ver n:Nat} {l:List AV} (l':List AV) (ho:s.h[id]?=some (.row ver n (Xk l))) (hn:n=l.length) (h:WeakL l l'):Sub m s { s with h:=s.h.set id (.row ver n (Xk l')) } :=
 Z1 id (Xk l') ho fun j hj c v _ _ hv=>(WeakL.spec h).2 j (by omega) v hv
theorem aR (i j k:Nat):WeakL ([I 0,I 1,I i,I j,I k] ++ (ZD ++ (ZD ++ ZD))) (Jp (Jr i j k v0)):=by
 obtain ⟨w1,w2,w3,w4,w5,w6,w7,w8,_⟩:=Co
 exact ⟨Weak.rfl' _,Weak.rfl' _,Weak.rfl' _,Weak.rfl' _,Weak.rfl' _,w1,w2,w3,w4,w5,w6,w7,w8,w1,w2,w3,w4,w5,w6,w7,w8,w1,w2,w3,w4,w5,w6,w7,w8,trivial⟩
end
end Go.Ab.N
