/- Contracts of functions of these chapters, for every argument that fits, and what they need. -/
import Derived.Test.YtefjhgcndhepeaaGreatC12
import Derived.Test.YtefjhgcndhepeaaGreatC6
import Derived.Test.YtefjhgcndhepeaaGreatC7
set_option linter.unusedSimpArgs false
set_option linter.unusedVariables false
open Nat renaming reducePow → Y1, reduceLT → Y2, reduceLeDiff → Y3, reduceEqDiff → Y4, reduceAdd → Y5, reduceMul → Y6, reduceSub → Y7, reduceBEq → Y8, reduceDiv → Y9, reduceMod → YA
namespace Go.Ab.N
open Go Go.RowKit Go.Proofs
noncomputable section
set_option maxRecDepth 10000
set_option maxHeartbeats 4000000
open Classical
def OQ (l:List FV):AV:=pz Qo 29 BT l
theorem Q4 (l:List FV):OQ l=.sl l.length (l.length*29) (Xr Qo 29 BT l) false:=nrfl rfl
theorem Z6 (l:List FV):Settled (OQ l):=QS fun j _=>Xg (Qe _) _
def Jp (i j k:Nat) (t:V2):FV:=⟨0,1,i,j,k,t,v0,v0⟩
def Gn (a b:PV) (e:Rat) (i j k:Nat) (t:V2):Bool:=(XC a.rim b.rim (Jp i j k t) e).2.2 && A2 a b (AC a b (Jp i j k t) e) e
def Bt (a b:PV) (e:Rat) (i j k:Nat) (L:List V2):List FV:=(L.filter (Gn a b e i j k)).map fun t=>AC a b (Jp i j k t) e
def DK (a b:PV) (e:Rat) (i j k:Nat):List FV:=if GU a b (Jp i j k v0) then Bt a b e i j k (Ky a b (Jp i j k v0) k) else []
def Zo (a b:PV) (e:Rat) (i j:Nat):Nat→List FV
 | 0=>[]
 | k+1=>Zo a b e i j k ++ DK a b e i j (k+1)
def Z2 (a b:PV) (e:Rat) (i:Nat):Nat→List FV
 | 0=>[]
 | j+1=>Z2 a b e i j ++ Zo a b e i j (min a.rim.length b.rim.length - 1)
def KP (a b:PV) (e:Rat):Nat→List FV
 | 0=>[]
 | i+1=>KP a b e i ++ Z2 a b e i b.rim.length
def Bm (a b:PV) (e:Rat):List FV:=KP a b e a.rim.length
theorem SH (a b:PV) (e:Rat) (i j k:Nat) (L:List V2) (n:Nat) (h:n<L.length):Bt a b e i j k (L.take (n+1))=Bt a b e i j k (L.take n) ++ (if Gn a b e i j k (L.getD n v0)=true then [AC a b (Jp i j k (L.getD n v0)) e] else []):=by
 unfold Bt
 rw [QE L v0 n h,List.filter_append,List.map_append]
 congr 1
 by_cases hq:Gn a b e i j k (L.getD n v0)=true
 ·rw [if_pos hq,List.filter_cons_of_pos hq]; rfl
 ·rw [if_neg hq,List.filter_cons_of_neg hq]; rfl
theorem LW (a b:PV) (e:Rat) (i j k:Nat) (L:List V2):(Bt a b e i j k L).length≤L.length:=by
 unfold Bt; rw [List.length_map]; exact List.length_filter_le _ _
theorem oG {l:List AV} (h:∀ x∈l,x.one=true):∀ j,j<l.length→(l.getD j .any).one=true:=fun j hj=>by
 rw [List.getD_eq_getElem?_getD,List.getElem?_eq_getElem hj]; exact h _ (List.getElem_mem _)
theorem U5 (f:FV):∀ j,j<29→((Qo f).getD j .any).one=true:=oG (l:=Qo f) (by simp [Qo,AV.one,X5,I])
theorem kp {P:Program} {fn:Func} {str hcs:List Nat} {s:AS} {t id ver:Nat} (L:List FV) (hr:fn.results=#[.tmp t]) (hs:s.get t=.osl id ver 29 0 L.length) (ho:s.h[id]?=some (.row ver (L.length*29) (Xr Qo 29 BT L))):RetOk (J4 P fn str hcs (OQ L)) s:=by
 refine AH hr ?_
 rw [hs,Q4]
 refine QD (.inl ho) (by omega) (fun h=>by rw [h]) fun j hj=>?_
 rw [Nat.zero_add]
 exact (Xg (Qe _) _).sees _
theorem Da {m:Nat} {s:AS} (id:Nat) {ver n:Nat} {l:List AV} (l':List AV) (ho:s.h[id]?=some (.row ver n (Xn l))) (hn:n=l.length) (h:WeakL l l'):Sub m s { s with h:=s.h.set id (.row ver n (Xn l')) } :=
 Zk id (Xn l') ho fun j hj c v _ _ hv=>(WeakL.spec h).2 j (by omega) v hv
theorem Ys (i j k:Nat):WeakL ([I 0,I 1,I i,I j,I k] ++ (Zq ++ (Zq ++ Zq))) (Qo (Jp i j k v0)):=by
 obtain ⟨w1,w2,w3,w4,w5,w6,w7,w8,_⟩:=Cf
 exact ⟨Weak.rfl' _,Weak.rfl' _,Weak.rfl' _,Weak.rfl' _,Weak.rfl' _,w1,w2,w3,w4,w5,w6,w7,w8,w1,w2,w3,w4,w5,w6,w7,w8,w1,w2,w3,w4,w5,w6,w7,w8,trivial⟩
def LV (a b:PV) (e:Rat) (f:FV) (i j k:Nat) (t:V2):Prop:=k≠0∧k<a.rim.length∧k<b.rim.length∧GU a b (Jp i j k v0)∧t∈Ky a b (Jp i j k v0) k∧Gn a b e i j k t=true∧f=AC a b (Jp i j k t) e
theorem Wd (a b:PV) (e:Rat) (i j k:Nat) (L:List V2) (f:FV):f∈Bt a b e i j k L↔∃ t,t∈L∧Gn a b e i j k t=true∧f=AC a b (Jp i j k t) e:=by
 unfold Bt
 rw [List.mem_map]
 constructor
 ·rintro ⟨t,h,rfl⟩
  rw [List.mem_filter] at h
  exact ⟨t,h.1,h.2,rfl⟩
 ·rintro ⟨t,h1,h2,rfl⟩
  exact ⟨t,List.mem_filter.2 ⟨h1,h2⟩,rfl⟩
theorem M9 (a b:PV) (e:Rat) (i j:Nat) (f:FV):∀ n,n<a.rim.length→n<b.rim.length→(f∈Zo a b e i j n↔∃ k t,k≤n∧LV a b e f i j k t)
 | 0,_,_=>by simp [Zo,LV]
 | n+1,h1,h2=>by
  have ih:=M9 a b e i j f n (by omega) (by omega)
  unfold Zo
  rw [List.mem_append,ih]
  have hk:f∈DK a b e i j (n+1)↔∃ t,LV a b e f i j (n+1) t:=by
   unfold DK
   by_cases hp:GU a b (Jp i j (n+1) v0)
   ·rw [if_pos hp,Wd]
    exact ⟨fun ⟨t,q1,q2,q3⟩=>⟨t,by omega,h1,h2,hp,q1,q2,q3⟩,fun ⟨t,_,_,_,_,q1,q2,q3⟩=>⟨t,q1,q2,q3⟩⟩
   ·rw [if_neg hp]
    exact ⟨fun h=>absurd h List.not_mem_nil,fun ⟨t,_,_,_,q,_⟩=>absurd q hp⟩
  rw [hk]
  constructor
  ·rintro (⟨k,t,q1,q2⟩ | ⟨t,q⟩)
   ·exact ⟨k,t,by omega,q2⟩
   ·exact ⟨n+1,t,Nat.le_refl _,q⟩
  ·rintro ⟨k,t,q1,q2⟩
   by_cases hk:k=n+1
   ·subst hk; exact .inr ⟨t,q2⟩
   ·exact .inl ⟨k,t,by omega,q2⟩
theorem M8 (a b:PV) (e:Rat) (i:Nat) (f:FV) (ha:0<a.rim.length) (hb:0<b.rim.length):∀ n,f∈Z2 a b e i n↔∃ j k t,j<n∧LV a b e f i j k t
 | 0=>by simp [Z2]
 | n+1=>by
  have ih:=M8 a b e i f ha hb n
  unfold Z2
  rw [List.mem_append,ih,M9 a b e i n f _ (by omega) (by omega)]
  constructor
  ·rintro (⟨j,k,t,q1,q2⟩ | ⟨k,t,q1,q2⟩)
   ·exact ⟨j,k,t,by omega,q2⟩
   ·exact ⟨n,k,t,by omega,q2⟩
  ·rintro ⟨j,k,t,q1,q2⟩
   by_cases hj:j=n
   ·subst hj; exact .inr ⟨k,t,by have:=q2.2.1; have:=q2.2.2.1; omega,q2⟩
   ·exact .inl ⟨j,k,t,by omega,q2⟩
theorem M7 (a b:PV) (e:Rat) (f:FV) (ha:0<a.rim.length) (hb:0<b.rim.length):∀ n,f∈KP a b e n↔∃ i j k t,i<n∧j<b.rim.length∧LV a b e f i j k t
 | 0=>by simp [KP]
 | n+1=>by
  have ih:=M7 a b e f ha hb n
  unfold KP
  rw [List.mem_append,ih,M8 a b e n f ha hb]
  constructor
  ·rintro (⟨i,j,k,t,q1,q2⟩ | ⟨j,k,t,q1,q2⟩)
   ·exact ⟨i,j,k,t,by omega,q2⟩
   ·exact ⟨n,j,k,t,by omega,q1,q2⟩
  ·rintro ⟨i,j,k,t,q1,q2,q3⟩
   by_cases hi:i=n
   ·subst hi; exact .inr ⟨j,k,t,q2,q3⟩
   ·exact .inl ⟨i,j,k,t,by omega,q2,q3⟩
theorem Ct (a b:PV) (e:Rat) (f:FV) (ha:0<a.rim.length) (hb:0<b.rim.length):f∈Bm a b e↔∃ i j k t,i<a.rim.length∧j<b.rim.length∧LV a b e f i j k t:=M7 a b e f ha hb _
def NQ (n m:Nat) (W:List FV) (f:FV):Bool:=W.any fun g=>decide (Ml n m f g)
def I1 (a b:PV) (e:Rat):List FV:=(Bm a b e).filter fun f=>!NQ a.rim.length b.rim.length (Bm a b e) f
theorem fF (l:List FV) (i:Nat):∀ j,j<29→Xr Qo 29 BT l (i*29+j)=(Qo (l.getD i BT)).getD j .any:=fun j hj=>Jm _ _ _ _ _ _ hj
theorem r7 (l:List FV) (i:Nat):Xr Qo 29 BT l (i*29)=(Qo (l.getD i BT)).getD 0 .any:=Ju _ _ _ _ _ (by omega)
theorem Wb (n m:Nat) (W:List FV) (i:Nat) (h:i<W.length):(W.take (i+1)).filter (fun f=>!NQ n m W f)=(W.take i).filter (fun f=>!NQ n m W f) ++ (if NQ n m W (W.getD i BT)=true then [] else [W.getD i BT]):=by
 rw [QE W BT i h,List.filter_append]
 congr 1
 cases hq:NQ n m W (W.getD i BT) with
 | true=>rw [if_pos rfl,List.filter_cons_of_neg (by rw [hq]; decide)]; rfl
 | false=>rw [if_neg (by decide),List.filter_cons_of_pos (by rw [hq]; rfl)]; rfl
theorem O5 (a b:PV) (e:Rat) (ha:a.rim.length≤12) (hb:b.rim.length≤12) (h1:0<a.rim.length) (h2:0<b.rim.length):(Bm a b e).length≤24000:=by
 have hk:∀ i j n,n≤12→(Zo a b e i j n).length≤12*n:=fun i j n=>by
  induction n with
  | zero=>intro _; simp [Zo]
  | succ n ih =>
   intro hn
   have h3:=ih (by omega)
   unfold Zo
   rw [List.length_append]
   have:(DK a b e i j (n+1)).length≤n+1:=by
    unfold DK
    split
    ·exact Nat.le_trans (LW ..) (Es ..)
    ·simp
   omega
 have hj:∀ i n,(Z2 a b e i n).length≤144*n:=fun i n=>by
  induction n with
  | zero=>simp [Z2]
  | succ n ih =>
   unfold Z2
   rw [List.length_append]
   have:=hk i n (min a.rim.length b.rim.length - 1) (by omega)
   omega
 have hi:∀ n,(KP a b e n).length≤1728*n:=fun n=>by
  induction n with
  | zero=>simp [KP]
  | succ n ih =>
   unfold KP
   rw [List.length_append]
   have:=hj n b.rim.length
   omega
 have:=hi a.rim.length
 unfold Bm; omega
theorem OM {a b:PV} {ta tb:Rat} (ha:GP a ta) (hb:GP b tb) {f:FV} (h:f∈Bm a b (ta+tb)):f.near∧vb f.turn≤26∧vb f.lo≤200∧vb f.hi≤200:=by
 have la:=(ZR _ ha.poly).1
 have lb:=(ZR _ hb.poly).1
 have ea:(Xx a.rim).length=a.rim.length:=by simp [Xx]
 have eb:(Xx b.rim).length=b.rim.length:=by simp [Xx]
 rw [ea] at la
 rw [eb] at lb
 have qa:=ha.qt; have q2:=hb.qt
 have qe:=Kt ta tb
 obtain ⟨i,j,k,t,h1,h2,_,h3,h4,_,h5,_,rfl⟩:=(Ct a b (ta+tb) f (by omega) (by omega)).1 h
 have ht:=Ft a b (Jp i j k v0) ha.even.near hb.even.near k t h5
 obtain ⟨m1,m2⟩:=O0 a b (Jp i j k t) ha.even.near hb.even.near (ta+tb) (by show vb t≤60; omega)
 exact ⟨⟨⟨by show (-1000000:Int)≤(i:Int); omega,by show (i:Int)≤1000000; omega⟩,⟨by show (-1000000:Int)≤(j:Int); omega,by show (j:Int)≤1000000; omega⟩,by show (-1000000:Int)≤(k:Int); omega,by show (k:Int)≤1000000; omega⟩,ht,by show vb (XC a.rim b.rim (Jp i j k t) (ta+tb)).1≤200; omega,by show vb (XC a.rim b.rim (Jp i j k t) (ta+tb)).2.1≤200; omega⟩
def Kx:Nat→Int×Int→Int×Int
 | 0,p=>p
 | i+1,p=>(-(Kx i p).2,(Kx i p).1)
theorem Fs (p:Int×Int) (c:Int) (h1:-c≤p.1∧p.1≤c) (h2:-c≤p.2∧p.2≤c):∀ i,(-c≤(Kx i p).1∧(Kx i p).1≤c)∧(-c≤(Kx i p).2∧(Kx i p).2≤c)
 | 0=>⟨h1,h2⟩
 | i+1=>by
  have ih:=Fs p c h1 h2 i
  unfold Kx
  simp only
  omega
theorem Yk (p:Int×Int) (q:Nat) (h1:-1000≤p.1∧p.1≤1000) (h2:-1000≤p.2∧p.2≤1000) (hq:q≤4):Fn Tryz.prog 101 [.agg (JQ p),I q] (.agg (JQ (Kx q p))):=by
 obtain ⟨R,hR⟩:∃ R,R=AV.agg (JQ (Kx q p)):=⟨_,rfl⟩
 have sR:Settled R:=hR▸Qd (K1 _)
 rw [← hR]
 refine Fq Tryz.call101 Tryz.func101 6 [] [] [] (by simp [Xa,Qd (K1 p)]) (X0 1000 ?_)
 simp (disch:=omega) only [AS.start,JQ,↓Xl,wD,↓X2,wA,seval,wE]
 refine Xf (fun i:Nat=>⟨6,[],[.any,I q,.ref 0 0 0,.any,.ref 1 0 0,I i],[],[.row 0 2 (Xn (JQ (Kx i p))),.row 0 2 (Xn [I 0,I 0])]⟩) (fun i=>i≤q) (fun i=>q - i) 0 (by omega)
  (Xb rfl (by simp [Xh,I]) (by simp [Xi]) rfl) ?_
 intro i hi next
 have hb:=Fs p 1000 h1 h2 i
 by_cases hi2:i<q
 ·refine X0 1000 ?_
  simp (disch:=omega) only [JQ,↓Xl,wD,↓X2,wA,seval,wE]
  exact next (i+1) _ (by omega) (by omega) (Xb rfl (by simp [Xh,I]) (by simp [Xi]) (by simp [JQ,Kx,I]))
 ·obtain rfl:i=q:=by omega
  refine X0 1000 ?_
  simp (disch:=omega) only [JQ,↓Xl,wD,↓X2,wA,seval,wE]
  exact A4 rfl dK rfl rfl rfl sR (hR.trans rfl)
theorem IU (l:List (Int×Int)) (hn:QV l) (hl:l.length<1000000):Fn Tryz.prog 100 [Ck l] (.bool (decide (XF (Xx l)))):=by
 have hrl:(Xx l).length=l.length:=by simp [Xx]
 have cv:=Fe (Xx l) (fun i=>Nat.le_trans (G4 hn i) (by omega)) (by omega)
 refine Fq Tryz.call100 Tryz.func100 5 [] [5] [] (by simp [Qn]) (X0 1000 ?_)
 simp (disch:=omega) only [AS.start,Xj,↓Xl,wD,↓X2,wA,seval,wE]
 refine Xf (fun k:Nat=>⟨5,[],[Ck l,.any,.any,.osl 0 k 8 0 k,I k],[],[.row k (k*8) (Xr vC 8 v0 (Xx (l.take k)))]⟩) (fun k=>k≤l.length) (fun k=>l.length - k) 0 (by omega)
  (Sub.trans (QL 3 8 (Xr vC 8 v0 []) rfl) (Xb rfl (by simp [AS.put,Xh,Xj,I]) (by simp [AS.put,Xi]) (by simp [AS.put,Xx]))) ?_
 intro k hk next
 by_cases hk2:k<l.length
 rotate_left
 ·obtain rfl:k=l.length:=by omega
  rw [List.take_length]
  refine X0 1000 ?_
  simp (disch:=omega) only [Xj,↓Xl,wD,↓X2,wA,seval,wE]
  refine Jo cv rfl ⟨?_,trivial⟩ (Zv _) ?_
  ·show Jn _ (.osl 0 l.length 8 0 l.length) (Xs (Xx l))
   rw [X7,hrl]
   refine QD (.inl rfl) (by omega) (fun h=>by rw [h]) fun j hj=>?_
   rw [Nat.zero_add]
   exact (Xg (l:=vC ((Xx l).getD (j / 8) v0)) (by simp [vC,X4,X3]) _).sees _
  simp (disch:=omega) only [↓Xl,wD,↓X2,wA,seval,wE]
  exact Xv rfl rfl (X3 _) rfl
 have hc:=CP hn k
 have c1:=Dt (l.getD k (0,0)).1 (l.getD k (0,0)).2 ⟨by omega,by omega⟩ ⟨by omega,by omega⟩
 have p1:Xr JQ 2 (0,0) l (k*2)=I (l.getD k (0,0)).1:=Ju _ _ _ _ _ (by omega)
 have p2:Xr JQ 2 (0,0) l (k*2+1)=I (l.getD k (0,0)).2:=Jm _ _ _ _ _ _ (by omega)
 have hap:=Qq vC 8 v0 (Xx (l.take k)) (JB (l.getD k (0,0))) (by omega)
 have htk:Xx (l.take k) ++ [JB (l.getD k (0,0))]=Xx (l.take (k+1)):=by unfold Xx; rw [QE l (0,0) k hk2,List.map_append]; rfl
 have hkl:(Xx (l.take k)).length=k:=by simp [Xx]; omega
 rw [htk,hkl] at hap
 have hpv:(⟨((l.getD k (0,0)).1:Rat),((l.getD k (0,0)).2:Rat)⟩:V2)=JB (l.getD k (0,0)):=rfl
 rw [hpv] at c1
 refine X0 1000 ?_
 simp (disch:=omega) only [Xj,p1,p2,↓Xl,wD,↓X2,wA,seval,wE]
 refine X1 c1 rfl ?_
 simp (disch:=omega) only [↓Xl,wD,↓X2,wA,seval,wE]
 exact ⟨Et _,next (k+1) _ (by omega) (by omega) (Xb rfl (by simp [Xh,Xj,I]) (by simp [Xi]) (by rw [← hap]; rfl))⟩
def IX (l:List Int) (at' k:Nat):Bool:=decide (Ab.atF l (at'+2+k:Nat) 16=15)
def Ee (l:List Int) (at' k:Nat):Int:=if 11<Ab.atF l (at'+2+k:Nat) 16 then Ab.atF l (at'+2+k:Nat) 16 - 11 else 0
def KQ (rim:List (Int×Int)) (l:List Int) (at':Nat):PV:=⟨Ab.atF l at' 900,Ab.atF l at' 5,rim,(List.range rim.length).map (IX l at'),(List.range rim.length).map (Ee l at'),
 RQ.of (Rat.divInt (Ab.atF l (at'+1:Nat) 3) 4),RQ.of (Rat.divInt 1 1),RQ.of (Rat.divInt (1+Ab.atF l at' 3) 1),RQ.of (Rat.divInt 100 1),RQ.of (Rat.divInt 1 2)⟩
theorem Rf {m:Nat} {s:AS} (id i:Nat) (b:AV) {ver n:Nat} {f:Nat→AV} (ho:s.h[id]?=some (.row ver n f)) (h:Z9 s.h (f i) b):Sub m s { s with h:=s.h.set id (.row ver n (AJ f i b)) } :=
 Zk id (AJ f i b) ho fun j hj=>by
  unfold AJ
  by_cases e:j=i
  ·rw [if_pos e,e]; exact h
  ·rw [if_neg e]; exact QT _ _
def J3:List AV:=[I 0,I 0,.sl 0 0 (fun _=>.any) true,.sl 0 0 (fun _=>.any) true,.sl 0 0 (fun _=>.any) true,.bool false,.sl 0 0 (fun _=>.any) true,.bool false,.sl 0 0 (fun _=>.any) true,.bool false,.sl 0 0 (fun _=>.any) true,.bool false,.sl 0 0 (fun _=>.any) true,
 .bool false,.sl 0 0 (fun _=>.any) true,.bool false,.sl 0 0 (fun _=>.any) true,.bool false,.sl 0 0 (fun _=>.any) true,.bool false,.sl 0 0 (fun _=>.any) true,.bool false,.sl 0 0 (fun _=>.any) true,.bool false,.sl 0 0 (fun _=>.any) true]
def EZ (id home:Int) (rim:List (Int×Int)) (k:Nat) (t u h s r:Rat):List AV:=[I id,I home,Ck rim,.osl 2 k 1 0 k,.osl 3 k 1 0 k] ++ (qC t ++ (qC u ++ (qC h ++ (qC s ++ qC r))))
theorem Ie {α:Type} (f:Nat→α) (k:Nat):(List.range (k+1)).map f=(List.range k).map f ++ [f k]:=by rw [List.range_succ,List.map_append]; rfl
theorem Ua (rim:List (Int×Int)) (l:List Int) (at':Nat) (hr:rim.length<1000) (hl:AL l) (ha:at'<1000):Fn Tryz.prog 102 [Ck rim,X6 l,I at'] (JM (KQ rim l at')):=by
 obtain ⟨V,hV⟩:∃ V,V=JM (KQ rim l at'):=⟨_,rfl⟩
 rw [← hV]
 have c1:=Q9 l at' 900 hl (by omega)
 have c2:=Q9 l at' 5 hl (by omega)
 have c3:=Q9 l (at'+1:Nat) 3 hl (by omega)
 have c4:=Q9 l at' 3 hl (by omega)
 have b3:=Xt l (at'+1:Nat) 3 (by omega)
 have b4:=Xt l at' 3 (by omega)
 have q1:=Je (Ab.atF l (at'+1:Nat) 3) 4 ⟨by omega,by omega⟩ ⟨by omega,by omega⟩
 have q2:=Je 1 1 ⟨by omega,by omega⟩ ⟨by omega,by omega⟩
 have q3:=Je (1+Ab.atF l at' 3) 1 ⟨by omega,by omega⟩ ⟨by omega,by omega⟩
 have q4:=Je 100 1 ⟨by omega,by omega⟩ ⟨by omega,by omega⟩
 have q5:=Je 1 2 ⟨by omega,by omega⟩ ⟨by omega,by omega⟩
 unfold KQ at hV
 generalize Rat.divInt (Ab.atF l (at'+1:Nat) 3) 4=t at *
 generalize Rat.divInt 1 1=u at *
 generalize Rat.divInt (1+Ab.atF l at' 3) 1=h at *
 generalize Rat.divInt 100 1=s at *
 generalize Rat.divInt 1 2=r at *
 generalize Ab.atF l at' 900=id at *
 generalize Ab.atF l at' 5=home at *
 rw [Int.natCast_add] at c3
 refine Fq Tryz.call102 Tryz.func102 11 [] [1] [] (by simp [Xa,Qn,X4]) (X0 1000 ?_)
 simp (disch:=omega) only [AS.start,Xj,↓Xl,wD,↓X2,wA,seval,wE]
 refine X1 c1 rfl ?_
 simp (disch:=omega) only [↓Xl,wD,↓X2,wA,seval,wE]
 refine X1 c2 rfl ?_
 simp (disch:=omega) only [↓Xl,wD,↓X2,wA,seval,wE]
 refine X1 c3 rfl ?_
 simp (disch:=omega) only [↓Xl,wD,↓X2,wA,seval,wE]
 refine X1 q1 rfl ?_
 simp (disch:=omega) only [↓Xl,wD,↓X2,wA,seval,wE]
 refine X1 q2 rfl ?_
 simp (disch:=omega) only [↓Xl,wD,↓X2,wA,seval,wE]
 refine X1 c4 rfl ?_
 simp (disch:=omega) only [↓Xl,wD,↓X2,wA,seval,wE]
 refine X1 q3 rfl ?_
 simp (disch:=omega) only [↓Xl,wD,↓X2,wA,seval,wE]
 refine X1 q4 rfl ?_
 simp (disch:=omega) only [↓Xl,wD,↓X2,wA,seval,wE]
 refine X1 q5 rfl ?_
 simp (disch:=omega) only [↓Xl,wD,↓X2,wA,seval,wE]
 refine Xf (fun k:Nat=>⟨11,[],[Ck rim,X6 l,I at',.any,.any,.any,.ref 0 0 0,.ref 1 0 0,I k,.any,.any],[],[.row 0 25 (Xn J3),.row 0 25 (Xn (EZ id home rim k t u h s r)),.row k k (Q3 AV.bool false ((List.range k).map (IX l at'))),.row k k (Q3 I 0 ((List.range k).map (Ee l at')))]⟩) (fun k=>k≤rim.length) (fun k=>rim.length - k) 0 (by omega)
  (Sub.trans (Hp (Q3 AV.bool false [])) (Sub.trans (Hp (Q3 I 0 [])) (Sub.trans (Rf 1 3 (.osl 2 0 1 0 0) rfl (Af rfl)) (Sub.trans (Rf 1 4 (.osl 3 0 1 0 0) rfl (Af rfl)) (Xb rfl (by simp [Xh,Xj,X5,I]) (by simp [Xi]) (by simp [J3,EZ,qC,UR,Xj,X5,I,sg])))))) ?_
 intro k hk next
 by_cases hk2:k<rim.length
 rotate_left
 ·obtain rfl:k=rim.length:=by omega
  refine X0 1000 ?_
  simp (disch:=omega) only [J3,EZ,qC,Xj,X5,↓Xl,wD,↓X2,wA,seval,wE]
  subst hV
  refine Fg (L:=EZ id home rim rim.length t u h s r) rfl EY rfl rfl rfl ?_
  have h2:∀ H:List AO,H[2]?=some (.row rim.length rim.length (Q3 AV.bool false ((List.range rim.length).map (IX l at'))))→Jn H (.osl 2 rim.length 1 0 rim.length) (KN ((List.range rim.length).map (IX l at'))):=fun H ho=>by
   rw [Xw,List.length_map,List.length_range]
   refine QD (.inl ho) (by omega) (fun h=>h) fun j hj=>?_
   rw [Nat.zero_add]
   exact (X3 _).sees _
  have h3:∀ H:List AO,H[3]?=some (.row rim.length rim.length (Q3 I 0 ((List.range rim.length).map (Ee l at'))))→Jn H (.osl 3 rim.length 1 0 rim.length) (X6 ((List.range rim.length).map (Ee l at'))):=fun H ho=>by
   rw [X5,List.length_map,List.length_range]
   refine QD (.inl ho) (by omega) (fun h=>h) fun j hj=>?_
   rw [Nat.zero_add]
   exact (Xa _).sees _
  exact Az ⟨(Xa _).sees _,(Xa _).sees _,(Qn _).sees _,h2 _ rfl,h3 _ rfl,(X3 _).sees _,(X4 _).sees _,(X3 _).sees _,(X4 _).sees _,(X3 _).sees _,(X4 _).sees _,(X3 _).sees _,(X4 _).sees _,(X3 _).sees _,(X4 _).sees _,(X3 _).sees _,(X4 _).sees _,(X3 _).sees _,(X4 _).sees _,(X3 _).sees _,(X4 _).sees _,(X3 _).sees _,(X4 _).sees _,(X3 _).sees _,(X4 _).sees _,trivial⟩
 have c5:=Q9 l (at'+2+k:Nat) 16 hl (by omega)
 have b5:=Xt l (at'+2+k:Nat) 16 (by omega)
 have nx:=next (k+1)
 rw [Ie,Ie] at nx
 have e1:IX l at' k=decide (Ab.atF l (at'+2+k:Nat) 16=15):=rfl
 have e2:Ee l at' k=if 11<Ab.atF l (at'+2+k:Nat) 16 then Ab.atF l (at'+2+k:Nat) 16 - 11 else 0:=rfl
 rw [e1,e2] at nx
 generalize Ab.atF l (at'+2+k:Nat) 16=n at *
 rw [show ((at'+2+k:Nat):Int)=(at':Int)+2+k by omega] at c5
 have hW:((List.range k).map (IX l at')).length=k:=by simp
 have hM:((List.range k).map (Ee l at')).length=k:=by simp
 generalize (List.range k).map (IX l at')=W at *
 generalize (List.range k).map (Ee l at')=M at *
 have hap1:=Od AV.bool false W (decide (n=15))
 rw [hW,Nat.mul_one] at hap1
 refine X0 1000 ?_
 simp (disch:=omega) only [EZ,qC,Xj,X5,List.cons_append,List.nil_append,↓Xl,wD,↓X2,wA,seval,wE]
 refine X1 c5 rfl ?_
 by_cases hn:11<n
 ·have hap2:=E5 M (n - 11)
  rw [if_pos hn] at nx
  rw [hM] at hap2
  simp (disch:=omega) only [EZ,qC,Xj,X5,List.cons_append,List.nil_append,↓Xl,wD,↓X2,wA,seval,wE]
  exact nx _ (by omega) (by omega) (Xb rfl (by simp [Xh,Xj,X5,I]) (by simp [Xi]) (by rw [← hap1,← hap2]; simp [J3,EZ,qC,Xj,X5,I,sg]))
 ·have hap2:=E5 M 0
  rw [if_neg hn] at nx
  rw [hM] at hap2
  simp (disch:=omega) only [EZ,qC,Xj,X5,List.cons_append,List.nil_append,↓Xl,wD,↓X2,wA,seval,wE]
  exact nx _ (by omega) (by omega) (Xb rfl (by simp [Xh,Xj,X5,I]) (by simp [Xi]) (by rw [← hap1,← hap2]; simp [J3,EZ,qC,Xj,X5,I,sg,show ¬ n=15 by omega]))
structure Iso (g h:V2→V2):Prop where
 sub:∀ a b,(g a).sub (g b)=h (a.sub b)
 cr:∀ u v,Qg (h u) (h v)=Qg u v
 dt:∀ u v,Q7 (h u) (h v)=Q7 u v
 tn:∀ u,(h u).turned=h u.turned
theorem iy (g:V2→V2) (L:List V2) (h:0<L.length) (i:Nat):atF (L.map g) i=g (atF L i):=by
 unfold atF
 have hlt:=Nat.mod_lt i h
 rw [List.length_map,List.getD_eq_getElem?_getD,List.getElem?_map,List.getD_eq_getElem?_getD,List.getElem?_eq_getElem hlt]; rfl
theorem dJ {g h:V2→V2} (I:Iso g h) (a b c:V2):Jj (g a) (g b) (g c)=Jj a b c:=by unfold Jj; rw [I.sub,I.sub,I.cr]
theorem TX (n a b:V2):Q7 n a - Q7 n b=Q7 n (a.sub b):=by unfold Q7 V2.sub; grind
theorem ot {g h:V2→V2} (I:Iso g h) (n a b:V2):(Q7 (h n) (g a)<Q7 (h n) (g b))↔(Q7 n a<Q7 n b):=by
 have e1:=TX (h n) (g a) (g b)
 have e2:=TX n a b
 rw [I.sub,I.dt] at e1
 constructor <;> intro hh <;> grind
theorem P8 {g h:V2→V2} (I:Iso g h) (n a b c d:V2):JP (h n) (g a) (g b) (g c) (g d)=JP n a b c d:=by
 unfold JP Gu
 simp only [ot I]
theorem dI {g h:V2→V2} (I:Iso g h) (a b c d:V2) (i:Nat):Cn (g a) (g b) (g c) (g d) i=h (Cn a b c d i):=by
 unfold Cn
 split <;> simp only [I.sub,I.tn]
theorem P9 {g h:V2→V2} (I:Iso g h) (L:List V2) (hp:XF L) (ha:KM (L.map g)=KM L):XF (L.map g):=by
 obtain ⟨h1,h2,h3⟩:=hp
 have hl:0<L.length:=by omega
 have hat:=iy g L hl
 refine ⟨by rw [List.length_map]; exact h1,fun i hi=>?_,by rw [ha]; exact h3⟩
 rw [List.length_map] at hi
 obtain ⟨k1,k2⟩:=h2 i hi
 refine ⟨fun hb=>k1 ?_,fun k hk hg=>k2 k (by rw [List.length_map] at hk; exact hk) ?_⟩
 ·unfold EJ at hb ⊢
  rw [hat,hat,hat,dJ I] at hb
  exact hb
 ·obtain ⟨q1,q2,q3⟩:=hg
  rw [List.length_map] at q1 q2
  refine ⟨q1,q2,fun j hj=>?_⟩
  have:=q3 j hj
  rw [hat,hat,hat,hat,dI I,P8 I] at this
  exact this
theorem quart_iso:Iso Aa Aa:=⟨fun a b=>by unfold Aa V2.sub; rw [V2.ext']; exact ⟨by simp only; grind,rfl⟩,fun u v=>by unfold Aa Qg; grind,fun u v=>by unfold Aa Q7; grind,fun u=>by unfold Aa V2.turned; rfl⟩
theorem io (t:V2):Iso (fun a=>a.add t) id:=⟨fun a b=>by unfold V2.add V2.sub; rw [V2.ext']; exact ⟨by simp only [id]; grind,by simp only [id]; grind⟩,fun _ _=>rfl,fun _ _=>rfl,fun _=>rfl⟩
theorem F0 (g:V2→V2) (L:List V2) (i:Nat) (h:i<L.length):(L.map g).getD i v0=g (L.getD i v0):=by
 rw [List.getD_eq_getElem?_getD,List.getElem?_map,List.getD_eq_getElem?_getD,List.getElem?_eq_getElem h]; rfl
theorem Sf (L:List V2) (h:0<L.length):KM (L.map Aa)=KM L:=by
 have key:∀ n,n≤L.length→Km (L.map Aa) n=Km L n:=fun n=>by
  induction n with
  | zero=>intro _; rfl
  | succ n ih =>
   intro hn
   unfold Km
   rw [ih (by omega),List.length_map,F0 _ _ _ (by omega),F0 _ _ _ (Nat.mod_lt _ h),quart_iso.cr]
 unfold KM
 rw [List.length_map,key _ (Nat.le_refl _)]
theorem aJ (t:V2) (L:List V2) (h:0<L.length):KM (L.map fun a=>a.add t)=KM L:=by
 have key:∀ n,n≤L.length→Km (L.map fun a=>a.add t) n=Km L n+Qg t ((L.getD (n % L.length) v0).sub (L.getD 0 v0)):=fun n=>by
  induction n with
  | zero=>intro _; rw [Nat.zero_mod]; unfold Km Qg V2.sub; grind
  | succ n ih =>
   intro hn
   have hm:n % L.length=n:=Nat.mod_eq_of_lt (by omega)
   unfold Km
   rw [ih (by omega),List.length_map,F0 _ _ _ (by omega),F0 _ _ _ (Nat.mod_lt _ h),hm]
   generalize L.getD n v0=p
   generalize L.getD ((n+1) % L.length) v0=q
   generalize L.getD 0 v0=o
   unfold Qg V2.sub V2.add
   grind
 unfold KM
 rw [List.length_map,key _ (Nat.le_refl _),Nat.mod_self]
 have:Qg t ((L.getD 0 v0).sub (L.getD 0 v0))=0:=by unfold Qg V2.sub; grind
 rw [this,Rat.add_zero]
theorem Gx (L:List V2) (hp:XF L):∀ q,XF (L.map (K7 q))
 | 0=>by
  have:L.map (K7 0)=L:=by
   have e:K7 0=id:=rfl
   rw [e,List.map_id]
  rw [this]; exact hp
 | q+1=>by
  have ih:=Gx L hp q
  have e:L.map (K7 (q+1))=(L.map (K7 q)).map Aa:=by rw [List.map_map]; rfl
  rw [e]
  exact P9 quart_iso _ ih (Sf _ (by have:=ih.1; omega))
theorem eW (t:V2) (L:List V2) (hp:XF L):XF (L.map fun a=>a.add t):=P9 (io t) L hp (aJ t L (by have:=hp.1; omega))
def oC (q:Nat) (d p:Int×Int):Int×Int:=((Kx q p).1+d.1,(Kx q p).2+d.2)
theorem eY (q:Nat) (p:Int×Int):JB (Kx q p)=K7 q (JB p):=by
 induction q with
 | zero=>rfl
 | succ q ih =>
  show (⟨((-(Kx q p).2:Int):Rat),((Kx q p).1:Rat)⟩:V2)=Aa (K7 q (JB p))
  rw [← ih]
  unfold JB Aa
  rw [V2.ext']
  exact ⟨by simp,rfl⟩
theorem kJ (R:List (Int×Int)) (q:Nat) (d:Int×Int) (h:XF (Xx R)):XF (Xx (R.map (oC q d))):=by
 have h1:=eW (JB d) _ (Gx _ h q)
 have e:Xx (R.map (oC q d))=((Xx R).map (K7 q)).map fun a=>a.add (JB d):=by
  unfold Xx
  rw [List.map_map,List.map_map,List.map_map]
  refine List.map_congr_left fun p _=>?_
  show JB (oC q d p)=(K7 q (JB p)).add (JB d)
  rw [← eY]
  unfold oC JB V2.add
  rw [V2.ext']
  exact ⟨by simp,by simp⟩
 rw [e]; exact h1
end
end Go.Ab.N
namespace Go.Ab.N
open Go Go.RowKit Go.Proofs
noncomputable section
set_option maxRecDepth 10000
set_option maxHeartbeats 4000000
def qq (L:List V2) (i k:Nat):Bool:=decide (1<(k+L.length - i) % L.length) && decide ((k+L.length - i) % L.length<L.length - 1) &&
 (List.range 5).all fun j=>!JP (Cn (atF L i) (atF L (i+1)) (atF L k) (atF L (k+1)) j) (atF L i) (atF L (i+1)) (atF L k) (atF L (k+1))
def CX (L:List V2):Bool:=decide (3≤L.length) && decide (L.length≤12) && ((List.range L.length).all fun i=>!decide (Jj (atF L i) (atF L (i+1)) (atF L (i+2))=0) && (List.range L.length).all fun k=>!qq L i k) && decide (0<(KM L).num.sign)
theorem CY (L:List V2) (h:CX L=true):XF L:=by
 unfold CX at h
 simp only [Bool.and_eq_true,decide_eq_true_eq,List.all_eq_true,List.mem_range,Bool.not_eq_true',decide_eq_false_iff_not] at h
 obtain ⟨⟨⟨h1,h2⟩,h3⟩,h4⟩:=h
 refine ⟨⟨h1,h2⟩,fun i hi=>⟨(h3 i hi).1,fun k hk hg=>?_⟩,h4⟩
 have:=(h3 i hi).2 k hk
 obtain ⟨q1,q2,q3⟩:=hg
 unfold qq at this
 rw [decide_eq_true q1,decide_eq_true q2,Bool.true_and,Bool.true_and] at this
 rw [List.all_eq_true.2] at this
 ·cases this
 ·intro j hj
  rw [q3 j (List.mem_range.1 hj)]; rfl
def fi (x y h:Int):List (Int×Int):=[(0,0),(x,0),(y,h),(0,h)]
def fl (w x y h:Int):List (Int×Int):=[(x,0),(w,0),(w,h),(y,h)]
theorem kP:((List.range 4).all fun h=>(List.range 6).all fun x=>(List.range 6).all fun y=>CX (Xx (fi (1+x) (1+y) (3+h))))=true:=by decide +kernel
theorem kQ:((List.range 4).all fun w=>(List.range 4).all fun h=>(List.range 6).all fun x=>(List.range 6).all fun y=>!(decide (x<w+3) && decide (y<w+3)) || CX (Xx (fl (4+w) (1+x) (1+y) (3+h))))=true:=by decide +kernel
theorem fj (x y h:Int) (hx:1≤x∧x≤6) (hy:1≤y∧y≤6) (hh:3≤h∧h≤6):XF (Xx (fi x y h)):=by
 have h1:=kP
 simp only [List.all_eq_true,List.mem_range] at h1
 have h2:=h1 (h - 3).toNat (by omega) (x - 1).toNat (by omega) (y - 1).toNat (by omega)
 rw [show (1:Int)+((x - 1).toNat:Nat)=x by omega,show (1:Int)+((y - 1).toNat:Nat)=y by omega,show (3:Int)+((h - 3).toNat:Nat)=h by omega] at h2
 exact CY _ h2
theorem fm (w x y h:Int) (hw:4≤w∧w≤7) (hx:1≤x∧x<w) (hy:1≤y∧y<w) (hh:3≤h∧h≤6):XF (Xx (fl w x y h)):=by
 have h1:=kQ
 simp only [List.all_eq_true,List.mem_range] at h1
 have h2:=h1 (w - 4).toNat (by omega) (h - 3).toNat (by omega) (x - 1).toNat (by omega) (y - 1).toNat (by omega)
 rw [show (4:Int)+((w - 4).toNat:Nat)=w by omega,show (1:Int)+((x - 1).toNat:Nat)=x by omega,show (1:Int)+((y - 1).toNat:Nat)=y by omega,show (3:Int)+((h - 3).toNat:Nat)=h by omega] at h2
 rw [Bool.or_eq_true] at h2
 rcases h2 with h2 | h2
 ·rw [decide_eq_true (show (x - 1).toNat<(w - 4).toNat+3 by omega),decide_eq_true (show (y - 1).toNat<(w - 4).toNat+3 by omega)] at h2
  cases h2
 ·exact CY _ h2
end
end Go.Ab.N
namespace Go.Ab.N
open Go Go.RowKit Go.Proofs
noncomputable section
set_option maxRecDepth 10000
set_option maxHeartbeats 4000000
open Classical
theorem ED {a b:List (Int×Int)} {f:FV} {e:Rat} (h:(XC a b f e).2.2=true) :
  Cr a.length b.length f∧Ga f.turn∧XC a b f e=((CM a b f f.M.toNat).sub ⟨e,e⟩,(CJ a b f f.M.toNat).add ⟨e,e⟩,true)∧(CM a b f f.M.toNat).x - e≤(CJ a b f f.M.toNat).x+e∧(CM a b f f.M.toNat).y - e≤(CJ a b f f.M.toNat).y+e:=by
 by_cases g:Cr a.length b.length f∧Ga f.turn
 ·by_cases g2:((CJ a b f f.M.toNat).add ⟨e,e⟩).x<((CM a b f f.M.toNat).sub ⟨e,e⟩).x∨((CJ a b f f.M.toNat).add ⟨e,e⟩).y<((CM a b f f.M.toNat).sub ⟨e,e⟩).y
  ·exfalso
   unfold XC at h; rw [if_pos g] at h; simp only at h; rw [if_pos g2] at h; cases h
  ·refine ⟨g.1,g.2,?_,?_⟩
   ·unfold XC; rw [if_pos g]; simp only; rw [if_neg g2]
   ·simp only [not_or,Rat.not_lt] at g2; exact g2
 ·unfold XC at h; rw [if_neg g] at h; cases h
theorem RW {a b:List (Int×Int)} {f:FV} {e e':Rat} (h:(XC a b f e).2.2=true) (he:e≤e'):(XC a b f e').2.2=true:=by
 obtain ⟨h1,h2,_,h4,h5⟩:=ED h
 unfold XC
 rw [if_pos ⟨h1,h2⟩]
 simp only
 rw [if_neg]
 rintro (g | g)
 ·have:(CJ a b f f.M.toNat).x+e'<(CM a b f f.M.toNat).x - e':=g
  grind
 ·have:(CJ a b f f.M.toNat).y+e'<(CM a b f f.M.toNat).y - e':=g
  grind
theorem I0 {p:V2→Bool}:∀ {s:List V2},(ES p s).2=true↔∃ x∈s,p x=true
 | []=>by simp [ES]
 | x :: l=>by
  have ih:=I0 (p:=p) (s:=l)
  show ((if p x=true then (x,true) else ES p l).2=true)↔_
  by_cases h:p x=true
  ·rw [if_pos h]; simp [h]
  ·rw [if_neg h,ih]; simp [h]
theorem EL (a b:PV) (f:FV) (e:Rat):A1 a b f e=0↔Cr a.rim.length b.rim.length f∧GU a b f∧Sc a b f∧((XC a.rim b.rim f e).2.2=true∧(XC a.rim b.rim f e).1=f.lo∧(XC a.rim b.rim f e).2.1=f.hi)∧A2 a b f e=true:=by
 unfold A1
 by_cases h1:Cr a.rim.length b.rim.length f
 rotate_left
 ·rw [if_neg h1]; exact ⟨fun h=>absurd h (by decide),fun h=>absurd h.1 h1⟩
 rw [if_pos h1]
 by_cases h2:GU a b f
 rotate_left
 ·rw [if_neg h2]; exact ⟨fun h=>absurd h (by decide),fun h=>absurd h.2.1 h2⟩
 rw [if_pos h2]
 by_cases h3:Sc a b f
 rotate_left
 ·rw [if_neg h3]; exact ⟨fun h=>absurd h (by decide),fun h=>absurd h.2.2.1 h3⟩
 rw [if_pos h3]
 by_cases h4:(XC a.rim b.rim f e).2.2=true∧(XC a.rim b.rim f e).1=f.lo∧(XC a.rim b.rim f e).2.1=f.hi
 rotate_left
 ·rw [if_neg h4]; exact ⟨fun h=>absurd h (by decide),fun h=>absurd h.2.2.2.1 h4⟩
 rw [if_pos h4]
 by_cases h5:A2 a b f e=true
 ·rw [if_pos h5]; exact ⟨fun _=>⟨h1,h2,h3,h4,h5⟩,fun _=>rfl⟩
 ·rw [if_neg h5]; exact ⟨fun h=>absurd h (by decide),fun h=>absurd h.2.2.2.2 h5⟩
theorem Gk {a b:PV} {e:Rat} {f:FV} (h:f∈Bm a b e) (ha:0<a.rim.length) (hb:0<b.rim.length):A1 a b f e=0:=by
 obtain ⟨i,j,k,t,hi,hj,k0,kn,km,hp,ht,ho,rfl⟩:=(Ct a b e f ha hb).1 h
 unfold Gn at ho
 rw [Bool.and_eq_true] at ho
 obtain ⟨o1,o2⟩:=ho
 rw [ZH] at ht
 obtain ⟨k',q1,q2,q3⟩:=ht
 rw [EL]
 refine ⟨?_,hp,⟨k',?_,q2,q3⟩,⟨o1,rfl,rfl⟩,o2⟩
 ·show (0≤(i:Int)∧(i:Int)<a.rim.length)∧(0≤(j:Int)∧(j:Int)<b.rim.length)∧1≤(k:Int)∧(k:Int)<a.rim.length∧(k:Int)<b.rim.length
  omega
 ·show k'<((k:Nat):Int).toNat
  omega
theorem Ub (R:List (Int×Int)) (l:List Int) (p:Nat) (hn:QV R) (hp:XF (Xx R)):GP (KQ R l p) (Rat.divInt (Ab.atF l (p+1:Nat) 3) 4)∧(KQ R l p).small∧qb (Rat.divInt (Ab.atF l (p+1:Nat) 3) 4)≤3:=by
 have b1:=Xt l (p+1:Nat) 3 (by omega)
 have b2:=Xt l p 3 (by omega)
 have q:=Be (Ab.atF l (p+1:Nat) 3) 4 ⟨by omega,by omega⟩ ⟨by omega,by omega⟩
 have hl:R.length≤12:=by have:=hp.1; simp [Xx] at this; omega
 have z:=fun (n m:Int) (h1:Z8 n) (h2:Z8 m)=>fN n m h1 h2
 refine ⟨⟨⟨by show R.length<_; omega,by simp [KQ],by simp [KQ],hn⟩,hp,rfl,by omega⟩,⟨by show R.length<_; omega,by simp [KQ]; omega,by simp [KQ]; omega,?_,?_,?_,?_,?_⟩,q⟩
 ·exact Nat.le_trans (z (Ab.atF l (p+1:Nat) 3) 4 ⟨by omega,by omega⟩ ⟨by omega,by omega⟩) (by omega)
 ·exact Nat.le_trans (z 1 1 ⟨by omega,by omega⟩ ⟨by omega,by omega⟩) (by omega)
 ·exact Nat.le_trans (z (1+Ab.atF l p 3) 1 ⟨by omega,by omega⟩ ⟨by omega,by omega⟩) (by omega)
 ·exact Nat.le_trans (z 100 1 ⟨by omega,by omega⟩ ⟨by omega,by omega⟩) (by omega)
 ·exact Nat.le_trans (z 1 2 ⟨by omega,by omega⟩ ⟨by omega,by omega⟩) (by omega)
theorem LX {α:Type} (C:α→List AV) (s:Nat) (d:α) (hs:0<s) (hC:∀ a,(C a).length=s):∀ (L:List α) (j:Nat),j<L.length*s→Xn (L.flatMap C) j=Xr C s d L j
 | [],j,h=>by simp at h
 | a :: L,j,h=>by
  unfold Xr Xn
  rw [List.flatMap_cons,List.getD_eq_getElem?_getD]
  by_cases hj:j<s
  ·rw [Nat.div_eq_of_lt hj,Nat.mod_eq_of_lt hj,List.getElem?_append_left (by rw [hC]; exact hj),← List.getD_eq_getElem?_getD]; rfl
  ·obtain ⟨i,rfl⟩:∃ i,j=s+i:=⟨j - s,by omega⟩
   have hi:i<L.length*s:=by
    rw [List.length_cons,Nat.succ_mul] at h; omega
   have ih:=LX C s d hs hC L i hi
   unfold Xr Xn at ih
   rw [Nat.add_div_left i hs,Nat.add_mod_left,List.getElem?_append_right (by rw [hC]; omega),hC,Nat.add_sub_cancel_left,← List.getD_eq_getElem?_getD,ih]; rfl
def Qm (l:List Int) (W H M k:Nat):Int×Int:=(1+Ab.atF l (3+k:Nat) ((W:Int) - 1),if k=M then (H:Int) else k)
def Jq (l:List Int) (W H M:Nat):List (Int×Int):=(List.range (M+1)).map (Qm l W H M)
def QY (l:List Int) (W H M:Nat):List (Int×Int):=(0,0) :: Jq l W H M ++ [(0,(H:Int))]
def KE (l:List Int) (W H M i:Nat):List (Int×Int):=[Qm l W H M 0,((W:Int),0),((W:Int),(H:Int))] ++ (List.range i).map fun i=>Qm l W H M (M - i)
def Jf (l:List Int) (W H M:Nat):List (Int×Int):=KE l W H M M
def Ol (l:List Int):Int×Int:=(Ab.atF l 8 9 - 4,Ab.atF l 9 9 - 4)
def WQ (l:List Int):Nat:=(Ab.atF l 7 4).toNat
def Zj (l:List Int) (W H M:Nat):List (Int×Int):=(Jf l W H M).map (oC (WQ l) (Ol l))
def CT (l:List Int):V2:=K7 ((4 - WQ l) % 4) KT
def CS (l:List Int):V2:=v0.sub (L4 (CT l) (JB (Ol l)))
def He (l:List Int) (M:Nat):FV:=⟨0,1,1,(M+2:Nat),M,CT l,CS l,CS l⟩
def gL (a b:PV) (f:FV):List AV:=XW a ++ (XW b ++ Qo f)
def KF:List AV:=[I 0,I 0,I 0,I 0,I 0] ++ (Qf ++ (Qf ++ Qf))
theorem Ot (l:List Int) (W H M k:Nat) (h:k≤M):(Jq l W H M).getD k (0,0)=Qm l W H M k:=Dv _ _ _ _ (by omega)
theorem Ou (l:List Int) (W H M k:Nat) (hW:4≤W∧W≤7) (hH:H≤6) (hk:k≤3):(1≤(Qm l W H M k).1∧(Qm l W H M k).1<W)∧0≤(Qm l W H M k).2∧(Qm l W H M k).2≤6:=by
 have:=Xt l (3+k:Nat) ((W:Int) - 1) (by omega)
 unfold Qm
 simp only
 refine ⟨by omega,?_⟩
 split <;> omega
theorem jm (C:List (Int×Int)) (x y:Int×Int) (j:Nat) (h:j<C.length):(x :: C ++ [y]).getD (j+1) (0,0)=C.getD j (0,0):=by
 rw [List.getD_eq_getElem?_getD,List.getD_eq_getElem?_getD,List.cons_append,List.getElem?_cons_succ,List.getElem?_append_left h]
theorem Wc (C:List (Int×Int)) (h:Int) (j:Nat) (hj:j<(C.length+2)*2):QH ((1+C.length)*2) (QH 2 (Xn [I 0,I 0]) (C.length*2) (Xr JQ 2 (0,0) C)) 2 (Xn [I 0,I h]) j=Xr JQ 2 (0,0) ((0,0) :: C ++ [(0,h)]) j:=by
 unfold QH Xr
 by_cases h1:j<(1+C.length)*2
 ·rw [if_pos h1]
  by_cases h2:j<2
  ·rw [if_pos h2]
   match j,h2 with
   | 0,_=>rfl
   | 1,_=>rfl
  ·rw [if_neg h2,if_pos (by omega)]
   obtain ⟨i,rfl⟩:∃ i,j=i+2:=⟨j - 2,by omega⟩
   rw [show (i+2) / 2=i / 2+1 by omega,show (i+2) % 2=i % 2 by omega,show i+2 - 2=i by omega,jm C (0,0) (0,h) (i / 2) (by omega)]
 ·rw [if_neg h1,if_pos (by omega)]
  have e:((0,0) :: C ++ [(0,h)]).getD (j / 2) (0,0)=(0,h):=by
   rw [show j / 2=C.length+1 by omega,List.getD_eq_getElem?_getD,List.cons_append,List.getElem?_cons_succ,List.getElem?_append_right (Nat.le_refl _),Nat.sub_self]; rfl
  rw [e]
  obtain ⟨i,hi,rfl⟩:∃ i,i<2∧j=(1+C.length)*2+i:=⟨j - (1+C.length)*2,by omega,by omega⟩
  rw [Nat.add_sub_cancel_left,show ((1+C.length)*2+i) % 2=i by omega]
  match i,hi with
  | 0,_=>rfl
  | 1,_=>rfl
theorem Th (a b c d:Int×Int) (j:Nat) (hj:j<8):QH 6 (Xn (JQ a ++ (JQ b ++ JQ c))) 2 (Xn (JQ d)) j=Xr JQ 2 (0,0) [a,b,c,d] j:=by
 match j,hj with
 | 0,_=>rfl
 | 1,_=>rfl
 | 2,_=>rfl
 | 3,_=>rfl
 | 4,_=>rfl
 | 5,_=>rfl
 | 6,_=>rfl
 | 7,_=>rfl
def F1 (g:Int×Int→Int×Int) (S:List (Int×Int)) (k:Nat):List (Int×Int):=(S.take k).map g ++ S.drop k
theorem Ud (g:Int×Int→Int×Int) (S:List (Int×Int)) (k:Nat) (h:k<S.length):(F1 g S k).getD k (0,0)=S.getD k (0,0):=by
 unfold F1
 rw [List.getD_eq_getElem?_getD,List.getElem?_append_right (by simp; omega),List.getD_eq_getElem?_getD]
 simp [Nat.min_eq_left (Nat.le_of_lt h)]
theorem dY (g:Int×Int→Int×Int) (S:List (Int×Int)) (k:Nat) (h:k≤S.length):(F1 g S k).length=S.length:=by unfold F1; simp; omega
theorem dZ (g:Int×Int→Int×Int) (S:List (Int×Int)) (k:Nat) (h:k<S.length):(F1 g S k).set k (g (S.getD k (0,0)))=F1 g S (k+1):=by
 refine List.ext_getElem? fun j=>?_
 unfold F1
 rw [List.getElem?_set]
 by_cases hj:k=j
 ·subst hj
  rw [if_pos rfl,if_pos (by simp; omega),List.getElem?_append_left (by simp; omega),List.getElem?_map,List.getElem?_take,if_pos (by omega),List.getElem?_eq_getElem h,List.getD_eq_getElem?_getD,List.getElem?_eq_getElem h]; rfl
 ·rw [if_neg hj]
  by_cases hlt:j<k
  ·rw [List.getElem?_append_left (by simp; omega),List.getElem?_append_left (by simp; omega),List.getElem?_map,List.getElem?_map,List.getElem?_take,List.getElem?_take,if_pos hlt,if_pos (by omega)]
  ·rw [List.getElem?_append_right (by simp; omega),List.getElem?_append_right (by simp; omega),List.getElem?_drop,List.getElem?_drop]
   congr 1
   simp; omega
theorem qL (l:List (Int×Int)) (k:Nat) (x:Int×Int) (hk:k<l.length):AJ (AJ (Xr JQ 2 (0,0) l) (k*2) (I x.1)) (k*2+1) (I x.2)=Xr JQ 2 (0,0) (l.set k x):=by
 funext j
 have e:(l.set k x).getD k (0,0)=x:=by rw [List.getD_eq_getElem?_getD,List.getElem?_set_self hk]; rfl
 unfold AJ Xr
 by_cases h1:j=k*2+1
 ·rw [if_pos h1,h1,show (k*2+1) / 2=k by omega,show (k*2+1) % 2=1 by omega,e]; rfl
 ·rw [if_neg h1]
  by_cases h2:j=k*2
  ·rw [if_pos h2,h2,show (k*2) / 2=k by omega,show (k*2) % 2=0 by omega,e]; rfl
  ·rw [if_neg h2]
   have:(l.set k x).getD (j / 2) (0,0)=l.getD (j / 2) (0,0):=by rw [List.getD_eq_getElem?_getD,List.getElem?_set_ne (by omega),List.getD_eq_getElem?_getD]
   rw [this]
theorem E9 (l:List Int) (W H M:Nat) (hW:4≤W∧W≤7) (hH:H≤6) (hM:M≤3) (k:Nat) (hk:k≤M):(0≤(Qm l W H M k).1∧(Qm l W H M k).1≤7)∧0≤(Qm l W H M k).2∧(Qm l W H M k).2≤7:=by
 have:=Ou l W H M k hW hH (by omega)
 omega
theorem I2 (l:List Int) (W H M:Nat) (hW:4≤W∧W≤7) (hH:H≤6) (hM:M≤3):QV (QY l W H M):=fun c hc=>by
 unfold QY at hc
 rw [List.mem_append,List.mem_cons,List.mem_singleton] at hc
 rcases hc with (rfl | hc) | rfl
 ·exact ⟨⟨by decide,by decide⟩,⟨by decide,by decide⟩⟩
 ·obtain ⟨k,hk,rfl⟩:=List.mem_map.1 hc
  have:=E9 l W H M hW hH hM k (by have:=List.mem_range.1 hk; omega)
  omega
 ·show (-65536≤(0:Int)∧(0:Int)≤65536)∧(-65536≤(H:Int)∧(H:Int)≤65536)
  omega
theorem GF (l:List Int) (W H M:Nat) (hW:4≤W∧W≤7) (hH:H≤6) (hM:M≤3):∀ c∈Jf l W H M,(0≤c.1∧c.1≤7)∧0≤c.2∧c.2≤7:=fun c hc=>by
 unfold Jf KE at hc
 simp only [List.mem_append,List.mem_cons,List.not_mem_nil,or_false,List.mem_map,List.mem_range] at hc
 rcases hc with (rfl | rfl | rfl) | ⟨k,hk,rfl⟩
 ·exact E9 l W H M hW hH hM 0 (by omega)
 ·show (0≤(W:Int)∧(W:Int)≤7)∧0≤(0:Int)∧(0:Int)≤7
  omega
 ·show (0≤(W:Int)∧(W:Int)≤7)∧0≤(H:Int)∧(H:Int)≤7
  omega
 ·exact E9 l W H M hW hH hM (M - k) (by omega)
theorem GJ (l:List Int) (W H M:Nat) (hW:4≤W∧W≤7) (hH:H≤6) (hM:M≤3):QV (Zj l W H M):=fun c hc=>by
 obtain ⟨p,hp,rfl⟩:=List.mem_map.1 hc
 have h1:=GF l W H M hW hH hM p hp
 have h2:=Fs p 7 (by omega) (by omega) (WQ l)
 have b8:=Xt l 8 9 (by omega)
 have b9:=Xt l 9 9 (by omega)
 show (-65536≤(Kx (WQ l) p).1+(Ab.atF l 8 9 - 4)∧(Kx (WQ l) p).1+(Ab.atF l 8 9 - 4)≤65536)∧(-65536≤(Kx (WQ l) p).2+(Ab.atF l 9 9 - 4)∧(Kx (WQ l) p).2+(Ab.atF l 9 9 - 4)≤65536)
 omega
theorem Il (l:List Int):vb (CT l)≤10∧vb (CS l)≤100:=by
 have h1:vb (CT l)≤10:=by unfold CT; rw [Gb]; exact Fx
 have b8:=Xt l 8 9 (by omega)
 have b9:=Xt l 9 9 (by omega)
 have h2:vb (JB (Ol l))≤3:=by
  have q1:=ZA (Ol l).1 3 (by omega) (QA (by unfold Ol; simp only; exact ⟨by omega,by omega⟩))
  have q2:=ZA (Ol l).2 3 (by omega) (QA (by unfold Ol; simp only; exact ⟨by omega,by omega⟩))
  unfold vb JB
  simp only
  omega
 have h3:=Eu (CT l) (JB (Ol l))
 have h4:=Kk v0 (L4 (CT l) (JB (Ol l)))
 have:=Fy
 refine ⟨h1,?_⟩
 unfold CS
 omega
def GQ (l:List Int) (W H:Nat):List Int:=[(W:Int) - 4,(H:Int) - 3,0,Ab.atF l 3 ((W:Int) - 1),Ab.atF l 4 ((W:Int) - 1),0,0,Ab.atF l 7 4]
def ZD (l:List Int) (W H M:Nat) (x9 x10 x11 x12 x13 x14 x16 x17 x18:AV) (r:List AO):AS:=⟨20,[],[X6 l,.any,.ref 0 0 0,I W,I H,I M,.osl 1 (M+1) 2 0 (M+1),.any,.any,x9,x10,x11,x12,x13,x14,.any,x16,x17,x18,.any],[],[.row 0 79 (Xn (J3 ++ (J3 ++ KF))),.row (M+1) ((M+1)*2) (Xr JQ 2 (0,0) (Jq l W H M))] ++ r⟩
theorem NE (l:List Int) (W H M i:Nat):KE l W H M (i+1)=KE l W H M i ++ [Qm l W H M (M - i)]:=by
 unfold KE; rw [Ie,List.append_assoc]
theorem GE (l:List Int) (W H M i:Nat):(KE l W H M i).length=3+i:=by simp [KE]; omega
theorem R1 (a b:PV) (f:FV):∀ x∈gL a b f,Settled x:=fun x h=>by
 unfold gL at h
 rw [List.mem_append,List.mem_append] at h
 rcases h with h | h | h
 ·exact XE a x h
 ·exact XE b x h
 ·exact Qe f x h
theorem pQ (m v n:Nat) (L:List (Int×Int)):XS m (.row v n (Xr JQ 2 (0,0) L))=True:=eq_true fun j _=>X9 (Xg (K1 _) _)
theorem R4 (f:Nat→AV) (t:Bool):Settled (.sl 0 0 f t):=QS fun j hj=>absurd hj (Nat.not_lt_zero j)
theorem rj (m v n:Nat):XS m (.row v n (Xn (J3 ++ (J3 ++ KF))))=True:=eq_true fun j _=>X9 (Xg (l:=J3 ++ (J3 ++ KF)) (by simp [J3,KF,Qf,Xa,X3,R4]) _)
theorem Ik (l:List Int) (hl:AL l) (W H M:Nat) (hW:(4:Int)+Ab.atF l 0 4=W) (hH:(3:Int)+Ab.atF l 1 4=H) (hM:(1:Int)+Ab.atF l 2 3=M) (A' B':PV) (F':FV)
  (hr:¬ (XF (Xx (QY l W H M))∧XF (Xx (Jf l W H M)))→Fn Tryz.prog 28 [X6 (GQ l W H)] (.agg (gL A' B' F'))) :
  ∃ A B F,Fn Tryz.prog 28 [X6 l] (.agg (gL A B F))∧(((XF (Xx (QY l W H M))∧XF (Xx (Jf l W H M)))∧A=KQ (QY l W H M) l 10∧B=KQ (Zj l W H M) l 20∧F=He l M) ∨
   (¬ (XF (Xx (QY l W H M))∧XF (Xx (Jf l W H M)))∧A=A'∧B=B'∧F=F')):=by
 obtain ⟨A,B,F,hABF⟩:∃ A B F,(((XF (Xx (QY l W H M))∧XF (Xx (Jf l W H M)))∧A=KQ (QY l W H M) l 10∧B=KQ (Zj l W H M) l 20∧F=He l M) ∨
   (¬ (XF (Xx (QY l W H M))∧XF (Xx (Jf l W H M)))∧A=A'∧B=B'∧F=F')):=by
  by_cases h:XF (Xx (QY l W H M))∧XF (Xx (Jf l W H M))
  ·exact ⟨_,_,_,.inl ⟨h,rfl,rfl,rfl⟩⟩
  ·exact ⟨_,_,_,.inr ⟨h,rfl,rfl,rfl⟩⟩
 refine ⟨A,B,F,?_,hABF⟩
 obtain ⟨R,hR⟩:∃ R,R=AV.agg (gL A B F):=⟨_,rfl⟩
 have sR:Settled R:=hR▸Qd (R1 A B F)
 rw [← hR]
 have b0:=Xt l 0 4 (by omega)
 have b1:=Xt l 1 4 (by omega)
 have b2:=Xt l 2 3 (by omega)
 have c0:=Q9 l 0 4 hl (by omega)
 have c1:=Q9 l 1 4 hl (by omega)
 have c2:=Q9 l 2 3 hl (by omega)
 refine Fq Tryz.call28 Tryz.func28 20 [] [37,380000013,380000017] [] (by simp [X4]) (X0 1000 ?_)
 simp (disch:=omega) only [AS.start,X5,↓Xl,wD,↓X2,wA,seval,wE]
 refine X1 c0 rfl ?_
 simp (disch:=omega) only [X5,hW,↓Xl,wD,↓X2,wA,seval,wE]
 refine X1 c1 rfl ?_
 simp (disch:=omega) only [X5,hH,↓Xl,wD,↓X2,wA,seval,wE]
 refine X1 c2 rfl ?_
 simp (disch:=omega) only [X5,hM,↓Xl,wD,↓X2,wA,seval,wE]
 refine Xf (fun k:Nat=>⟨20,[],[X6 l,.any,.ref 0 0 0,I W,I H,I M,.osl 1 k 2 0 k,I k,.any,.any,.any,.any,.any,.any,.any,.any,.any,.any,.any,.any],[],[.row 0 79 (Xn (J3 ++ (J3 ++ KF))),.row k (k*2) (Xr JQ 2 (0,0) ((Jq l W H M).take k))]⟩) (fun k=>k≤M+1) (fun k=>M+1 - k) 0 (by omega)
  (Sub.trans (QL 6 2 (Xr JQ 2 (0,0) []) rfl) (Xb rfl (by simp [AS.put,Xh,X5,I]) (by simp [AS.put,Xi]) (by simp [AS.put,J3,KF,Qf,I]))) ?_
 intro k hk next
 by_cases hk2:k<M+1
 ·have c3:=Q9 l (3+k:Nat) ((W:Int) - 1) hl (by omega)
  have b3:=Xt l (3+k:Nat) ((W:Int) - 1) (by omega)
  have htk:(Jq l W H M).take (k+1)=(Jq l W H M).take k ++ [Qm l W H M k]:=by rw [QE _ (0,0) k (by simp [Jq]; omega),Ot _ _ _ _ _ (by omega)]
  have nx:=next (k+1)
  rw [htk] at nx
  have hcl:((Jq l W H M).take k).length=k:=by simp [Jq]; omega
  have hcp:Qm l W H M k=(1+Ab.atF l (3+k:Nat) ((W:Int) - 1),if k=M then (H:Int) else k):=rfl
  rw [hcp] at nx
  generalize Ab.atF l (3+k:Nat) ((W:Int) - 1)=x at *
  rw [Int.natCast_add] at c3
  change Fn _ _ [X6 l,I ((3:Int)+k),_] _ at c3
  generalize (Jq l W H M).take k=C at *
  by_cases he:k=M
  ·rw [if_pos he] at nx
   have hap:=Qq JQ 2 (0,0) C (1+x,(H:Int)) (by omega)
   rw [hcl] at hap
   refine X0 1000 ?_
   simp (disch:=omega) only [X5,↓Xl,wD,↓X2,wA,seval,wE]
   refine X1 c3 rfl ?_
   simp (disch:=omega) only [X5,↓Xl,wD,↓X2,wA,seval,wE]
   exact ⟨Dq (1+x,(H:Int)),nx _ (by omega) (by omega) (Xb rfl (by simp [Xh,X5,I]) (by simp [Xi]) (by rw [← hap]; simp [JQ,I]))⟩
  ·rw [if_neg he] at nx
   have hap:=Qq JQ 2 (0,0) C (1+x,(k:Int)) (by omega)
   rw [hcl] at hap
   refine X0 1000 ?_
   simp (disch:=omega) only [X5,↓Xl,wD,↓X2,wA,seval,wE]
   refine X1 c3 rfl ?_
   simp (disch:=omega) only [X5,↓Xl,wD,↓X2,wA,seval,wE]
   exact ⟨Dq (1+x,(k:Int)),nx _ (by omega) (by omega) (Xb rfl (by simp [Xh,X5,I]) (by simp [Xi]) (by rw [← hap]; simp [JQ,I]))⟩
 obtain rfl:k=M+1:=by omega
 have htk:(Jq l W H M).take (M+1)=Jq l W H M:=List.take_of_length_le (by simp [Jq])
 rw [htk]
 have hCl:(Jq l W H M).length=M+1:=by simp [Jq]
 have hq:∀ k,k≤M→Xr JQ 2 (0,0) (Jq l W H M) (k*2)=I (Qm l W H M k).1∧Xr JQ 2 (0,0) (Jq l W H M) (k*2+1)=I (Qm l W H M k).2:=fun k hk=>by
  rw [Ju JQ 2 (0,0) (Jq l W H M) k (by omega),Jm JQ 2 (0,0) (Jq l W H M) k 1 (by omega),Ot _ _ _ _ _ hk]
  exact ⟨rfl,rfl⟩
 have q0:Xr JQ 2 (0,0) (Jq l W H M) 0=I (Qm l W H M 0).1:=(hq 0 (by omega)).1
 have q1:Xr JQ 2 (0,0) (Jq l W H M) 1=I (Qm l W H M 0).2:=(hq 0 (by omega)).2
 have hF:QY l W H M=(0,0) :: Jq l W H M ++ [(0,(H:Int))]:=rfl
 have hfr:=Wc (Jq l W H M) H
 rw [← hF,hCl] at hfr
 have hFl:(QY l W H M).length=M+3:=by rw [hF]; simp [hCl]
 have hSl:(Jf l W H M).length=M+3:=by unfold Jf; rw [GE]; omega
 have hcr:=Ou l W H M
 have n1:=I2 l W H M (by omega) (by omega) (by omega)
 have n2:=GF l W H M (by omega) (by omega) (by omega)
 refine X0 1000 ?_
 simp (disch:=omega) only [X5,q0,q1,↓Xl,wD,↓X2,wA,seval,wE]
 refine ⟨fun j _=>Rb _ _ _ _ _ (by omega) fun a=>⟨rfl,by simp [JQ,I,AV.one]⟩,Dq (0,(H:Int)),?_⟩
 refine Xf (fun i:Nat=>match i with
  | 0=>ZD l W H M (.osl 2 1 2 0 (M+3)) (.sl 3 6 (Xn [I (Qm l W H M 0).1,I (Qm l W H M 0).2,I W,I 0,I W,I H]) true) (I M) .any .any .any .any .any .any [.row 1 ((M+3)*2) (Xr JQ 2 (0,0) (QY l W H M))]
  | i+1=>ZD l W H M (.osl 2 1 2 0 (M+3)) (.osl 3 i 2 0 (4+i)) (I (M - (i+1):Nat)) .any .any .any .any .any .any [.row 1 ((M+3)*2) (Xr JQ 2 (0,0) (QY l W H M)),.row i ((4+i)*2) (Xr JQ 2 (0,0) (KE l W H M (i+1)))])
  (fun i=>i≤M) (fun i=>M - i) 0 (by omega)
  (Sub.trans (QM 2 ((M+3)*2) (Xr JQ 2 (0,0) (QY l W H M)) rfl (by omega) (fun j hj=>hfr j (by omega))) (Xb rfl (by simp [ZD,Xh,X5,I]; omega) (by simp [Xi,ZD]) (by simp [ZD,J3,KF,Qf,I]))) ?_
 intro i hi next
 match i,hi,next with
 | 0,hi,next =>
  have ho:=Th (Qm l W H M 0) ((W:Int),0) ((W:Int),(H:Int)) (Qm l W H M M)
  have w1:=(hq M (by omega)).1
  have w2:=(hq M (by omega)).2
  refine X0 1000 ?_
  simp (disch:=omega) only [ZD,X5,List.cons_append,List.nil_append,w1,w2,↓Xl,wD,↓X2,wA,seval,wE]
  exact ⟨Dq (Qm l W H M M),next 1 _ (by omega) (by omega) (Sub.trans (QM 3 8 (Xr JQ 2 (0,0) (KE l W H M 1)) rfl (by omega) (fun j hj=>ho j hj)) (Xb rfl (by simp [ZD,Xh,X5,I]; omega) (by simp [Xi,ZD]) (by simp [ZD])))⟩
 | i+1,hi,next =>
 by_cases hi2:i+1<M
 ·have w1:=(hq (M - (i+1)) (by omega)).1
  have w2:=(hq (M - (i+1)) (by omega)).2
  have hs:=NE l W H M (i+1)
  have hap:=Qq JQ 2 (0,0) (KE l W H M (i+1)) (Qm l W H M (M - (i+1))) (by omega)
  rw [GE,show 3+(i+1)=4+i by omega] at hap
  refine X0 1000 ?_
  simp (disch:=omega) only [ZD,X5,List.cons_append,List.nil_append,w1,w2,↓Xl,wD,↓X2,wA,seval,wE]
  exact ⟨Dq (Qm l W H M (M - (i+1))),next (i+2) _ (by omega) (by omega) (Xb rfl (by simp [ZD,Xh,X5,I]; omega) (by simp [Xi,ZD]) (by rw [← hs] at hap; simp [ZD,← hap,JQ,I,show 4+i+1=4+(i+1) by omega]))⟩
 obtain rfl:M=i+1:=by omega
 clear next
 have k1:=IU (QY l W H (i+1)) n1 (by omega)
 have k2:=IU (Jf l W H (i+1)) (fun c hc=>by have:=n2 c hc; omega) (by omega)
 refine X0 1000 ?_
 simp (disch:=omega) only [ZD,X5,List.cons_append,List.nil_append,↓Xl,wD,↓X2,wA,seval,wE]
 refine Jo k1 rfl ⟨?_,trivial⟩ (Zv _) ?_
 ·show Jn _ (.osl 2 1 2 0 (i+1+3)) (Ck (QY l W H (i+1)))
  rw [Xj,hFl]
  refine QD (.inl rfl) (by omega) (fun h=>by omega) fun j hj=>?_
  rw [Nat.zero_add]
  exact (Xg (l:=JQ ((QY l W H (i+1)).getD (j / 2) (0,0))) (K1 _) _).sees _
 by_cases p1:XF (Xx (QY l W H (i+1)))
 rotate_left
 ·have hr2:=hr (fun h=>p1 h.1)
  rcases hABF with ⟨h,_⟩ | ⟨_,rfl,rfl,rfl⟩
  ·exact absurd h.1 p1
  have a3:=Q9 l 3 ((W:Int) - 1) hl (by omega)
  have a4:=Q9 l 4 ((W:Int) - 1) hl (by omega)
  have a7:=Q9 l 7 4 hl (by omega)
  simp (disch:=omega) only [decide_eq_false p1,ZD,X5,List.cons_append,List.nil_append,↓Xl,wD,↓X2,wA,seval,wE]
  refine X1 a3 rfl ?_
  simp (disch:=omega) only [ZD,X5,List.cons_append,List.nil_append,↓Xl,wD,↓X2,wA,seval,wE]
  refine X1 a4 rfl ?_
  simp (disch:=omega) only [ZD,X5,List.cons_append,List.nil_append,↓Xl,wD,↓X2,wA,seval,wE]
  refine X1 a7 rfl ?_
  simp (disch:=omega) only [ZD,X5,List.cons_append,List.nil_append,↓Xl,wD,↓X2,wA,seval,wE]
  refine XV hr2 ⟨Z7 rfl rfl,trivial⟩ ?_
  simp (disch:=omega) only [gL,XW,Qo,J3,KF,Qf,X5,List.cons_append,List.nil_append,↓Xl,wD,↓X2,wA,seval,wE]
  exact A4 rfl U8 rfl rfl rfl sR (hR.trans rfl)
 simp (disch:=omega) only [decide_eq_true p1,ZD,X5,List.cons_append,List.nil_append,↓Xl,wD,↓X2,wA,seval,wE]
 refine Jo k2 rfl ⟨?_,trivial⟩ (Zv _) ?_
 ·show Jn _ (.osl 3 i 2 0 (4+i)) (Ck (Jf l W H (i+1)))
  rw [Xj,hSl,show i+1+3=4+i by omega]
  refine QD (.inl rfl) (by omega) (fun h=>by omega) fun j hj=>?_
  rw [Nat.zero_add]
  exact (Xg (l:=JQ ((Jf l W H (i+1)).getD (j / 2) (0,0))) (K1 _) _).sees _
 by_cases p2:XF (Xx (Jf l W H (i+1)))
 rotate_left
 ·have hr2:=hr (fun h=>p2 h.2)
  rcases hABF with ⟨h,_⟩ | ⟨_,rfl,rfl,rfl⟩
  ·exact absurd h.2 p2
  have a3:=Q9 l 3 ((W:Int) - 1) hl (by omega)
  have a4:=Q9 l 4 ((W:Int) - 1) hl (by omega)
  have a7:=Q9 l 7 4 hl (by omega)
  simp (disch:=omega) only [decide_eq_false p2,ZD,X5,List.cons_append,List.nil_append,↓Xl,wD,↓X2,wA,seval,wE]
  refine X1 a3 rfl ?_
  simp (disch:=omega) only [ZD,X5,List.cons_append,List.nil_append,↓Xl,wD,↓X2,wA,seval,wE]
  refine X1 a4 rfl ?_
  simp (disch:=omega) only [ZD,X5,List.cons_append,List.nil_append,↓Xl,wD,↓X2,wA,seval,wE]
  refine X1 a7 rfl ?_
  simp (disch:=omega) only [ZD,X5,List.cons_append,List.nil_append,↓Xl,wD,↓X2,wA,seval,wE]
  refine XV hr2 ⟨Z7 rfl rfl,trivial⟩ ?_
  simp (disch:=omega) only [gL,XW,Qo,J3,KF,Qf,X5,List.cons_append,List.nil_append,↓Xl,wD,↓X2,wA,seval,wE]
  exact A4 rfl U8 rfl rfl rfl sR (hR.trans rfl)
 clear hr
 rcases hABF with ⟨_,rfl,rfl,rfl⟩ | ⟨h,_⟩
 rotate_left
 ·exact absurd ⟨p1,p2⟩ h
 have a7:=Q9 l 7 4 hl (by omega)
 have a8:=Q9 l 8 9 hl (by omega)
 have a9:=Q9 l 9 9 hl (by omega)
 have b7:=Xt l 7 4 (by omega)
 have b8:=Xt l 8 9 (by omega)
 have b9:=Xt l 9 9 (by omega)
 have e7:Ab.atF l 7 4=(WQ l:Int):=by unfold WQ; omega
 have hD:Ol l=(Ab.atF l 8 9 - 4,Ab.atF l 9 9 - 4):=rfl
 simp (disch:=omega) only [decide_eq_true p2,ZD,X5,List.cons_append,List.nil_append,↓Xl,wD,↓X2,wA,seval,wE]
 refine X1 a7 rfl ?_
 simp (disch:=omega) only [e7,ZD,X5,List.cons_append,List.nil_append,↓Xl,wD,↓X2,wA,seval,wE]
 refine X1 a8 rfl ?_
 simp (disch:=omega) only [ZD,X5,List.cons_append,List.nil_append,↓Xl,wD,↓X2,wA,seval,wE]
 refine X1 a9 rfl ?_
 simp (disch:=omega) only [ZD,X5,List.cons_append,List.nil_append,↓Xl,wD,↓X2,wA,seval,wE]
 have hSN:KE l W H (i+1) (i+1)=Jf l W H (i+1):=rfl
 rw [← hSN] at hSl n2
 have hST:Zj l W H (i+1)=(KE l W H (i+1) (i+1)).map (oC (WQ l) (Ol l)):=rfl
 have n3:=GJ l W H (i+1) (by omega) (by omega) (by omega)
 have hTl:(Zj l W H (i+1)).length=4+i:=by rw [hST,List.length_map,hSl]; omega
 have q4:WQ l≤3:=by omega
 generalize KE l W H (i+1) (i+1)=S at *
 have bD:(-4≤(Ol l).1∧(Ol l).1≤4)∧-4≤(Ol l).2∧(Ol l).2≤4:=by rw [hD]; omega
 have hAt:CS l=v0.sub (L4 (CT l) (JB (Ol l))):=rfl
 have hT:CT l=K7 ((4 - WQ l) % 4) KT:=rfl
 have hPF:He l (i+1)=⟨0,1,1,(i+1+2:Nat),(i+1:Nat),CT l,CS l,CS l⟩:=rfl
 have hps:=Il l
 rw [hPF] at hR
 have m1:=Ua (QY l W H (i+1)) l 10 (by omega) hl (by omega)
 have m2:=Ua (Zj l W H (i+1)) l 20 (by omega) hl (by omega)
 generalize KQ (QY l W H (i+1)) l 10=A at *
 generalize KQ (Zj l W H (i+1)) l 20=B at *
 generalize QY l W H (i+1)=FL at *
 generalize CS l=at' at *
 generalize Ol l=D at *
 obtain ⟨D1,D2⟩:=D
 rw [Prod.mk.injEq] at hD
 obtain ⟨rfl,rfl⟩:=hD
 generalize WQ l=q at *
 generalize CT l=T at *
 generalize Ab.atF l 8 9 - 4=D1 at *
 generalize Ab.atF l 9 9 - 4=D2 at *
 simp only at bD
 generalize hg:oC q (D1,D2)=g at *
 refine Xf (fun k:Nat=>ZD l W H (i+1) (.osl 2 1 2 0 (i+1+3)) (.osl 3 i 2 0 (4+i)) .any (I q) (.ref 4 0 0) (I k) .any .any .any [.row 1 ((i+1+3)*2) (Xr JQ 2 (0,0) FL),.row i ((4+i)*2) (Xr JQ 2 (0,0) (F1 g S k)),.row 0 2 (Xn [I D1,I D2])])
  (fun k=>k≤4+i) (fun k=>4+i - k) 0 (by omega)
  (Xb rfl (by simp [ZD,Xh,X5,I]) (by simp [Xi,ZD]) (by simp [ZD,F1,I])) ?_
 intro k hk next
 by_cases hk2:k<4+i
 ·have hp:=n2 (S.getD k (0,0)) (Jr (by omega))
  have hb:=Fs (S.getD k (0,0)) 7 (by omega) (by omega) q
  have c:=Yk (S.getD k (0,0)) q (by omega) (by omega) (by omega)
  have u0:Xr JQ 2 (0,0) (F1 g S k) (k*2)=I (S.getD k (0,0)).1:=by rw [Ju _ _ _ _ _ (by omega),Ud g S k (by omega)]; rfl
  have u1:Xr JQ 2 (0,0) (F1 g S k) (k*2+1)=I (S.getD k (0,0)).2:=by rw [Jm _ _ _ _ _ _ (by omega),Ud g S k (by omega)]; rfl
  have hs:=qL (F1 g S k) k (g (S.getD k (0,0))) (by rw [dY g S k (by omega)]; omega)
  rw [dZ g S k (by omega)] at hs
  have hgk:g (S.getD k (0,0))=((Kx q (S.getD k (0,0))).1+D1,(Kx q (S.getD k (0,0))).2+D2):=by rw [← hg]; rfl
  rw [hgk] at hs
  generalize S.getD k (0,0)=p at *
  generalize Kx q p=w at *
  refine X0 1000 ?_
  simp (disch:=omega) only [ZD,X5,JQ,List.cons_append,List.nil_append,u0,u1,↓Xl,wD,↓X2,wA,seval,wE]
  refine X1 c rfl ?_
  simp (disch:=omega) only [ZD,X5,JQ,List.cons_append,List.nil_append,↓Xl,wD,↓X2,wA,seval,wE]
  exact next (k+1) _ (by omega) (by omega) (XA (m:=5) (Nat.zero_le _) rfl (by simp [ZD,Xh,X5,I]) (by simp [Xi,ZD]) (by simp [ZD,← hs,JQ,I]) (by simp [ZD,Xz]) (by simp [ZD,Xz]) (by simp [ZD,pQ,rj,Xz]))
 obtain rfl:k=4+i:=by omega
 have hm:F1 g S (4+i)=Zj l W H (i+1):=by
  rw [hST]; unfold F1; rw [List.take_of_length_le (by omega),List.drop_eq_nil_of_le (by omega),List.append_nil]
 rw [hm]
 clear next
 generalize Zj l W H (i+1)=ST at *
 refine Run.sub (s':=ZD l W H (i+1) (Ck FL) (Ck ST) .any (I q) (.ref 4 0 0) (I (4+i:Nat)) .any .any .any [.con 1 ((i+1+3)*2) (Xr JQ 2 (0,0) FL),.con i ((4+i)*2) (Xr JQ 2 (0,0) ST),.row 0 2 (Xn [I D1,I D2])]) ?_
  (Sub.trans (Qu 2 rfl) (Sub.trans (IP 9 (M:=(i+1+3)*2) rfl rfl (by omega) (fun h=>by omega)) (Sub.trans (Qu 3 rfl) (Sub.trans (IP 10 (M:=(4+i)*2) rfl rfl (by omega) (fun h=>by omega)) (Xb rfl (by simp [AS.put,ZD,Xh,Xj,X5,hFl,hTl,I]) (by simp [AS.put,Xi,ZD]) (by simp [AS.put,ZD]))))))
 have o1:=Je 1 1 ⟨by omega,by omega⟩ ⟨by omega,by omega⟩
 have v1:Rat.divInt 1 1=1:=by decide +kernel
 rw [v1] at o1
 have hrem:((4:Int) - q).tmod 4=((4 - q) % 4:Nat):=by rw [Int.tmod_eq_emod_of_nonneg (by omega)]; omega
 refine X0 1000 ?_
 simp (disch:=omega) only [ZD,X5,List.cons_append,List.nil_append,↓Xl,wD,↓X2,wA,seval,wE]
 refine X1 m1 rfl ?_
 simp (disch:=omega) only [ZD,X5,List.cons_append,List.nil_append,↓Xl,wD,↓X2,wA,seval,wE]
 refine X1 m2 rfl ?_
 simp (disch:=omega) only [ZD,X5,JM,XW,J3,KF,Qf,List.cons_append,List.nil_append,↓Xl,wD,↓X2,wA,seval,wE]
 refine X1 o1 rfl ?_
 simp (disch:=omega) only [X5,Xj,↓Xl,wD,↓X2,wA,seval,wE]
 have wst:WeakL [.bool (sg 1),X6 (X8 (Rat.num 1).natAbs),.bool false,X6 (X8 (qd 1)),.bool false,.sl 0 0 (fun _=>.any) false,.bool false,.sl 0 0 (fun _=>.any) false] (vC KT):=by
  obtain ⟨w1,w2,w3,w4,w5,w6,w7,w8,_⟩:=Cf
  exact ⟨Weak.rfl' _,Weak.rfl' _,Weak.rfl' _,Weak.rfl' _,w5,w6,w7,w8,trivial⟩
 refine Xf (fun j:Nat=>ZD l W H (i+1) .any .any .any (I q) (.ref 4 0 0) .any (.ref 5 0 0) (.ref 6 0 0) (I j) [.con 1 ((i+1+3)*2) (Xr JQ 2 (0,0) FL),.con i ((4+i)*2) (Xr JQ 2 (0,0) ST),.row 0 2 (Xn [I D1,I D2]),.row 0 79 (Xn (XW A ++ (XW B ++ NP))),.row 0 8 (Xn (vC (K7 j KT)))])
  (fun j=>j≤(4 - q) % 4) (fun j=>(4 - q) % 4 - j) 0 (by omega)
  (Sub.trans (Da 6 (vC KT) rfl rfl wst) (Xb rfl (by simp [ZD,Xh,X5,I]) (by simp [Xi,ZD]) (by simp [ZD,J3,KF,Qf,NP,Zq,XW,Xj,Xw,X5,K7,I]))) ?_
 intro j hj next
 have hvq:vb (K7 j KT)≤10:=by rw [Gb]; exact Fx
 have hqs:K7 (j+1) KT=Aa (K7 j KT):=rfl
 by_cases hj2:j<(4 - q) % 4
 ·have nx:=next (j+1)
  rw [hqs] at nx
  generalize K7 j KT=V at *
  have q1:=QJ V
  have c:=En V.y (by unfold rm; omega)
  refine X0 1000 ?_
  simp (disch:=omega) only [ZD,X5,vC,hrem,List.cons_append,List.nil_append,↓Xl,wD,↓X2,wA,seval,wE]
  refine X1 c rfl ?_
  simp (disch:=omega) only [X5,↓Xl,wD,↓X2,wA,seval,wE]
  have hV:vC (Aa V)=[.bool (sg (-V.y)),X6 (X8 (-V.y).num.natAbs),.bool false,X6 (X8 (qd (-V.y))),.bool (sg V.x),X6 (X8 V.x.num.natAbs),.bool false,X6 (X8 (qd V.x))]:=rfl
  exact nx _ (by omega) (by omega) (Xb rfl (by simp [ZD,Xh,X5,I]) (by simp [Xi,ZD]) (by simp [ZD,J3,KF,Qf,NP,Zq,XW,Xj,Xw,X5,hV,I]))
 obtain rfl:j=(4 - q) % 4:=by omega
 rw [← hT] at hvq ⊢
 clear next
 have c1:=Dt D1 D2 ⟨by omega,by omega⟩ ⟨by omega,by omega⟩
 have hpv:(⟨(D1:Rat),(D2:Rat)⟩:V2)=JB (D1,D2):=rfl
 rw [hpv] at c1
 have vq:vb (JB (D1,D2))≤3:=by
  have q1:=ZA D1 3 (by omega) (QA ⟨by omega,by omega⟩)
  have q2:=ZA D2 3 (by omega) (QA ⟨by omega,by omega⟩)
  unfold vb JB
  simp only
  omega
 have c2:=Lr T (JB (D1,D2)) (by unfold vm; omega) (by unfold vm; omega)
 have vr:=Eu T (JB (D1,D2))
 have vz:=Fy
 have c3:=ZB v0 (L4 T (JB (D1,D2))) (by unfold rm; omega) (by unfold rm; omega)
 rw [← hAt] at c3
 refine X0 1000 ?_
 simp (disch:=omega) only [ZD,X5,vC,hrem,List.cons_append,List.nil_append,↓Xl,wD,↓X2,wA,seval,wE]
 refine X1 c1 rfl ?_
 simp (disch:=omega) only [X5,vA,vC,↓Xl,wD,↓X2,wA,seval,wE]
 refine X1 c2 rfl ?_
 simp (disch:=omega) only [X5,vA,vC,↓Xl,wD,↓X2,wA,seval,wE]
 refine XV c3 ⟨Qi (IW _),Weak.rfl' _,trivial⟩ ?_
 simp (disch:=omega) only [X5,vA,vC,XW,NP,Zq,J3,KF,Qf,List.cons_append,List.nil_append,↓Xl,wD,↓X2,wA,seval,wE]
 exact A4 rfl U8 rfl rfl rfl sR (hR.trans rfl)
theorem Sg (k m:Int) (h:0≤k∧k<m):K4 k m=k:=by
 unfold K4
 rw [if_neg (by omega),Int.tmod_eq_emod_of_nonneg h.1,Int.emod_eq_of_lt h.1 h.2]
theorem EH (L:List Int) (j:Nat) (m:Int) (h:j<L.length) (hb:0≤L.getD j 0∧L.getD j 0<m):Ab.atF L (j:Nat) m=L.getD j 0:=by
 unfold Ab.atF
 rw [if_neg (by omega),Int.toNat_natCast,Sg _ _ hb]
theorem oc (l:List Int) (W H:Nat) (hW:4≤W∧W≤7) (hH:3≤H∧H≤6):AL (GQ l W H):=fun x hx=>by
 have b3:=Xt l 3 ((W:Int) - 1) (by omega)
 have b4:=Xt l 4 ((W:Int) - 1) (by omega)
 have b7:=Xt l 7 4 (by omega)
 simp only [GQ,List.mem_cons,List.not_mem_nil,or_false] at hx
 rcases hx with rfl | rfl | rfl | rfl | rfl | rfl | rfl | rfl <;> exact ⟨by omega,by omega⟩
theorem eL (l:List Int) (hl:AL l):∃ (L:List Int) (W H M:Nat),AL L∧(4≤W∧W≤7)∧(3≤H∧H≤6)∧(1≤M∧M≤3)∧XF (Xx (QY L W H M))∧XF (Xx (Jf L W H M)) ∧
  Fn Tryz.prog 28 [X6 l] (.agg (gL (KQ (QY L W H M) L 10) (KQ (Zj L W H M) L 20) (He L M))):=by
 have b0:=Xt l 0 4 (by omega)
 have b1:=Xt l 1 4 (by omega)
 have b2:=Xt l 2 3 (by omega)
 obtain ⟨W,hW⟩:∃ W:Nat,(4:Int)+Ab.atF l 0 4=W:=⟨(4+Ab.atF l 0 4).toNat,by omega⟩
 obtain ⟨H,hH⟩:∃ H:Nat,(3:Int)+Ab.atF l 1 4=H:=⟨(3+Ab.atF l 1 4).toNat,by omega⟩
 obtain ⟨M,hM⟩:∃ M:Nat,(1:Int)+Ab.atF l 2 3=M:=⟨(1+Ab.atF l 2 3).toNat,by omega⟩
 by_cases hv:XF (Xx (QY l W H M))∧XF (Xx (Jf l W H M))
 ·obtain ⟨A,B,F,hf,h⟩:=Ik l hl W H M hW hH hM (KQ [] [] 0) (KQ [] [] 0) BT (fun h=>absurd hv h)
  rcases h with ⟨_,rfl,rfl,rfl⟩ | ⟨h,_⟩
  ·exact ⟨l,W,H,M,hl,by omega,by omega,by omega,hv.1,hv.2,hf⟩
  ·exact absurd hv h
 have b3:=Xt l 3 ((W:Int) - 1) (by omega)
 have b4:=Xt l 4 ((W:Int) - 1) (by omega)
 have b7:=Xt l 7 4 (by omega)
 have hl2:=oc l W H (by omega) (by omega)
 have a0:Ab.atF (GQ l W H) 0 4=(W:Int) - 4:=EH _ 0 _ (by simp [GQ]) (by show 0≤(W:Int) - 4∧(W:Int) - 4<4; omega)
 have a1:Ab.atF (GQ l W H) 1 4=(H:Int) - 3:=EH _ 1 _ (by simp [GQ]) (by show 0≤(H:Int) - 3∧(H:Int) - 3<4; omega)
 have a2:Ab.atF (GQ l W H) 2 3=0:=EH _ 2 _ (by simp [GQ]) (by show 0≤(0:Int)∧(0:Int)<3; omega)
 have a3:Ab.atF (GQ l W H) 3 ((W:Int) - 1)=Ab.atF l 3 ((W:Int) - 1):=EH _ 3 _ (by simp [GQ]) b3
 have a4:Ab.atF (GQ l W H) 4 ((W:Int) - 1)=Ab.atF l 4 ((W:Int) - 1):=EH _ 4 _ (by simp [GQ]) b4
 have c0:Qm (GQ l W H) W H 1 0=(1+Ab.atF l 3 ((W:Int) - 1),0):=by
  unfold Qm; rw [if_neg (by omega)]; exact congrArg (fun z:Int=>((1:Int)+z,(0:Int))) a3
 have c1:Qm (GQ l W H) W H 1 1=(1+Ab.atF l 4 ((W:Int) - 1),(H:Int)):=by
  unfold Qm; rw [if_pos rfl]; exact congrArg (fun z:Int=>((1:Int)+z,(H:Int))) a4
 have p1:XF (Xx (QY (GQ l W H) W H 1)):=by
  have e:QY (GQ l W H) W H 1=fi (1+Ab.atF l 3 ((W:Int) - 1)) (1+Ab.atF l 4 ((W:Int) - 1)) H:=by
   show (0,0) :: [Qm (GQ l W H) W H 1 0,Qm (GQ l W H) W H 1 1] ++ [(0,(H:Int))]=_
   rw [c0,c1]; rfl
  rw [e]
  exact fj _ _ _ (by omega) (by omega) (by omega)
 have p2:XF (Xx (Jf (GQ l W H) W H 1)):=by
  have e:Jf (GQ l W H) W H 1=fl W (1+Ab.atF l 3 ((W:Int) - 1)) (1+Ab.atF l 4 ((W:Int) - 1)) H:=by
   show [Qm (GQ l W H) W H 1 0,((W:Int),0),((W:Int),(H:Int))] ++ [Qm (GQ l W H) W H 1 1]=_
   rw [c0,c1]; rfl
  rw [e]
  exact fm _ _ _ _ (by omega) (by omega) (by omega) (by omega)
 obtain ⟨A,B,F,hf,h⟩:=Ik (GQ l W H) hl2 W H 1 (by rw [a0]; omega) (by rw [a1]; omega) (by rw [a2]; rfl) (KQ [] [] 0) (KQ [] [] 0) BT (fun h=>absurd ⟨p1,p2⟩ h)
 rcases h with ⟨_,rfl,rfl,rfl⟩ | ⟨h,_⟩
 rotate_left
 ·exact absurd ⟨p1,p2⟩ h
 obtain ⟨A,B,F,hf2,h⟩:=Ik l hl W H M hW hH hM _ _ _ (fun _=>hf)
 rcases h with ⟨h,_⟩ | ⟨_,rfl,rfl,rfl⟩
 ·exact absurd h hv
 ·exact ⟨GQ l W H,W,H,1,hl2,by omega,by omega,by omega,p1,p2,hf2⟩
theorem kG (l:List Int) (hl:AL l):∃ (A B:PV) (F:FV) (ta tb:Rat),Fn Tryz.prog 28 [X6 l] (.agg (gL A B F))∧GP A ta∧GP B tb∧A.small∧B.small∧qb ta≤3∧qb tb≤3∧vb F.turn≤10∧vb F.lo≤100∧vb F.hi≤100:=by
 obtain ⟨L,W,H,M,hL,hW,hH,hM,p1,p2,hf⟩:=eL l hl
 have g1:=Ub (QY L W H M) L 10 (I2 L W H M hW (by omega) (by omega)) p1
 have g2:=Ub (Zj L W H M) L 20 (GJ L W H M hW (by omega) (by omega)) (kJ _ _ _ p2)
 have hs:=Il L
 exact ⟨_,_,_,_,_,hf,g1.1,g2.1,g1.2.1,g2.2.1,g1.2.2,g2.2.2,hs.1,hs.2,hs.2⟩
end
end Go.Ab.N
