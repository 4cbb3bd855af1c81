/- Contracts of functions of these chapters, for every argument that fits, and what they need. -/
import Derived.Test.YtefjhgcndhepeaaGreatC12
import Derived.Test.YtefjhgcndhepeaaGreatC6
import Derived.Test.YtefjhgcndhepeaaGreatC7
import Derived.Shelf.Small.Bits
set_option linter.unusedSimpArgs false
set_option linter.unusedVariables false
open Nat renaming reducePow → Y1, reduceLT → Y2, reduceLeDiff → Y3, reduceEqDiff → Y4, reduceAdd → Y5, reduceMul → Y6, reduceSub → Y7, reduceBEq → Y8, reduceDiv → Y9, reduceMod → YA
namespace Go.Ab.N
open Go Go.RowKit Go.Proofs
noncomputable section
set_option maxRecDepth 10000
set_option maxHeartbeats 4000000
open Classical
def MW (a b:PV) (e:Rat) (f:FV) (i j k:Nat) (t:V2):Prop:=k≠0∧k<a.rim.length∧k<b.rim.length∧HE a b (Jx i j k v0)∧t∈KH a b (Jx i j k v0) k∧H6 a b e i j k t=true∧f=Jc a b (Jx i j k t) e
theorem aG (a b:PV) (e:Rat) (i j k:Nat) (L:List V2) (f:FV):f∈BM a b e i j k L↔∃ t,t∈L∧H6 a b e i j k t=true∧f=Jc a b (Jx i j k t) e:=by
 unfold BM
 rw [List.mem_map]
 constructor
 ·rintro ⟨t,h,rfl⟩
  rw [List.mem_filter] at h
  exact ⟨t,h.1,h.2,rfl⟩
 ·rintro ⟨t,h1,h2,rfl⟩
  exact ⟨t,List.mem_filter.2 ⟨h1,h2⟩,rfl⟩
theorem Nc (a b:PV) (e:Rat) (i j:Nat) (f:FV):∀ n,n<a.rim.length→n<b.rim.length→(f∈ZC a b e i j n↔∃ k t,k≤n∧MW a b e f i j k t)
 | 0,_,_=>by simp [ZC,MW]
 | n+1,h1,h2=>by
  have ih:=Nc a b e i j f n (by omega) (by omega)
  unfold ZC
  rw [List.mem_append,ih]
  have hk:f∈Ei a b e i j (n+1)↔∃ t,MW a b e f i j (n+1) t:=by
   unfold Ei
   by_cases hp:HE a b (Jx i j (n+1) v0)
   ·rw [if_pos hp,aG]
    exact ⟨fun ⟨t,q1,q2,q3⟩=>⟨t,by omega,h1,h2,hp,q1,q2,q3⟩,fun ⟨t,_,_,_,_,q1,q2,q3⟩=>⟨t,q1,q2,q3⟩⟩
   ·rw [if_neg hp]
    exact ⟨fun h=>absurd h List.not_mem_nil,fun ⟨t,_,_,_,q,_⟩=>absurd q hp⟩
  rw [hk]
  constructor
  ·rintro (⟨k,t,q1,q2⟩ | ⟨t,q⟩)
   ·exact ⟨k,t,by omega,q2⟩
   ·exact ⟨n+1,t,Nat.le_refl _,q⟩
  ·rintro ⟨k,t,q1,q2⟩
   by_cases hk:k=n+1
   ·subst hk; exact .inr ⟨t,q2⟩
   ·exact .inl ⟨k,t,by omega,q2⟩
theorem Nb (a b:PV) (e:Rat) (i:Nat) (f:FV) (ha:0<a.rim.length) (hb:0<b.rim.length):∀ n,f∈Ze a b e i n↔∃ j k t,j<n∧MW a b e f i j k t
 | 0=>by simp [Ze]
 | n+1=>by
  have ih:=Nb a b e i f ha hb n
  unfold Ze
  rw [List.mem_append,ih,Nc a b e i n f _ (by omega) (by omega)]
  constructor
  ·rintro (⟨j,k,t,q1,q2⟩ | ⟨k,t,q1,q2⟩)
   ·exact ⟨j,k,t,by omega,q2⟩
   ·exact ⟨n,k,t,by omega,q2⟩
  ·rintro ⟨j,k,t,q1,q2⟩
   by_cases hj:j=n
   ·subst hj; exact .inr ⟨k,t,by have:=q2.2.1; have:=q2.2.2.1; omega,q2⟩
   ·exact .inl ⟨j,k,t,by omega,q2⟩
theorem Na (a b:PV) (e:Rat) (f:FV) (ha:0<a.rim.length) (hb:0<b.rim.length):∀ n,f∈Z1 a b e n↔∃ i j k t,i<n∧j<b.rim.length∧MW a b e f i j k t
 | 0=>by simp [Z1]
 | n+1=>by
  have ih:=Na a b e f ha hb n
  unfold Z1
  rw [List.mem_append,ih,Nb a b e n f ha hb]
  constructor
  ·rintro (⟨i,j,k,t,q1,q2⟩ | ⟨j,k,t,q1,q2⟩)
   ·exact ⟨i,j,k,t,by omega,q2⟩
   ·exact ⟨n,j,k,t,by omega,q1,q2⟩
  ·rintro ⟨i,j,k,t,q1,q2,q3⟩
   by_cases hi:i=n
   ·subst hi; exact .inr ⟨j,k,t,q2,q3⟩
   ·exact .inl ⟨i,j,k,t,by omega,q2,q3⟩
theorem CR (a b:PV) (e:Rat) (f:FV) (ha:0<a.rim.length) (hb:0<b.rim.length):f∈BF a b e↔∃ i j k t,i<a.rim.length∧j<b.rim.length∧MW a b e f i j k t:=Na a b e f ha hb _
def P3 (n m:Nat) (W:List FV) (f:FV):Bool:=W.any fun g=>decide (Em n m f g)
def H4 (a b:PV) (e:Rat):List FV:=(BF a b e).filter fun f=>!P3 a.rim.length b.rim.length (BF a b e) f
theorem fF (l:List FV) (i:Nat):∀ j,j<29→Xt Qr 29 BO l (i*29+j)=(Qr (l.getD i BO)).getD j .any:=fun j hj=>JD _ _ _ _ _ _ hj
theorem wH (l:List FV) (i:Nat):Xt Qr 29 BO l (i*29)=(Qr (l.getD i BO)).getD 0 .any:=JT _ _ _ _ _ (by omega)
theorem aD (n m:Nat) (W:List FV) (i:Nat) (h:i<W.length):(W.take (i+1)).filter (fun f=>!P3 n m W f)=(W.take i).filter (fun f=>!P3 n m W f) ++ (if P3 n m W (W.getD i BO)=true then [] else [W.getD i BO]):=by
 rw [QJ W BO i h,List.filter_append]
 congr 1
 cases hq:P3 n m W (W.getD i BO) with
 | true=>rw [if_pos rfl,List.filter_cons_of_neg (by rw [hq]; decide)]; rfl
 | false=>rw [if_neg (by decide),List.filter_cons_of_pos (by rw [hq]; rfl)]; rfl
theorem Pm (a b:PV) (e:Rat) (ha:a.rim.length≤12) (hb:b.rim.length≤12) (h1:0<a.rim.length) (h2:0<b.rim.length):(BF a b e).length≤24000:=by
 have hk:∀ i j n,n≤12→(ZC a b e i j n).length≤12*n:=fun i j n=>by
  induction n with
  | zero=>intro _; simp [ZC]
  | succ n ih =>
   intro hn
   have h3:=ih (by omega)
   unfold ZC
   rw [List.length_append]
   have:(Ei a b e i j (n+1)).length≤n+1:=by
    unfold Ei
    split
    ·exact Nat.le_trans (MX ..) (F3 ..)
    ·simp
   omega
 have hj:∀ i n,(Ze a b e i n).length≤144*n:=fun i n=>by
  induction n with
  | zero=>simp [Ze]
  | succ n ih =>
   unfold Ze
   rw [List.length_append]
   have:=hk i n (min a.rim.length b.rim.length - 1) (by omega)
   omega
 have hi:∀ n,(Z1 a b e n).length≤1728*n:=fun n=>by
  induction n with
  | zero=>simp [Z1]
  | succ n ih =>
   unfold Z1
   rw [List.length_append]
   have:=hj n b.rim.length
   omega
 have:=hi a.rim.length
 unfold BF; omega
theorem R7 {a b:PV} {ta tb:Rat} (ha:GP a ta) (hb:GP b tb) {f:FV} (h:f∈BF a b (ta+tb)):f.near∧vb f.turn≤26∧vb f.lo≤200∧vb f.hi≤200:=by
 have la:=(Ad _ ha.poly).1
 have lb:=(Ad _ hb.poly).1
 have ea:(Xr a.rim).length=a.rim.length:=by simp [Xr]
 have eb:(Xr b.rim).length=b.rim.length:=by simp [Xr]
 rw [ea] at la
 rw [eb] at lb
 have qa:=ha.qt; have q2:=hb.qt
 have qe:=KW ta tb
 obtain ⟨i,j,k,t,h1,h2,_,h3,h4,_,h5,_,rfl⟩:=(CR a b (ta+tb) f (by omega) (by omega)).1 h
 have ht:=G1 a b (Jx i j k v0) ha.even.near hb.even.near k t h5
 obtain ⟨m1,m2⟩:=Pi a b (Jx i j k t) ha.even.near hb.even.near (ta+tb) (by show vb t≤60; omega)
 exact ⟨⟨⟨by show (-1000000:Int)≤(i:Int); omega,by show (i:Int)≤1000000; omega⟩,⟨by show (-1000000:Int)≤(j:Int); omega,by show (j:Int)≤1000000; omega⟩,by show (-1000000:Int)≤(k:Int); omega,by show (k:Int)≤1000000; omega⟩,ht,by show vb (XH a.rim b.rim (Jx i j k t) (ta+tb)).1≤200; omega,by show vb (XH a.rim b.rim (Jx i j k t) (ta+tb)).2.1≤200; omega⟩
def KG:Nat→Int×Int→Int×Int
 | 0,p=>p
 | i+1,p=>(-(KG i p).2,(KG i p).1)
theorem G0 (p:Int×Int) (c:Int) (h1:-c≤p.1∧p.1≤c) (h2:-c≤p.2∧p.2≤c):∀ i,(-c≤(KG i p).1∧(KG i p).1≤c)∧(-c≤(KG i p).2∧(KG i p).2≤c)
 | 0=>⟨h1,h2⟩
 | i+1=>by
  have ih:=G0 p c h1 h2 i
  unfold KG
  simp only
  omega
theorem cZ (p:Int×Int) (q:Nat) (h1:-1000≤p.1∧p.1≤1000) (h2:-1000≤p.2∧p.2≤1000) (hq:q≤4):Fn Tryz.prog 101 [.agg (Kx p),I q] (.agg (Kx (KG q p))):=by
 obtain ⟨R,hR⟩:∃ R,R=AV.agg (Kx (KG q p)):=⟨_,rfl⟩
 have sR:Settled R:=hR▸Qo (KF _)
 rw [← hR]
 refine Fq Tryz.call101 Tryz.func101 6 [] [] [] (by simp [X9,Qo (KF p)]) (Xj ?_)
 simp (disch:=omega) only [AS.start,Kx,↓Xy,wG,seval]
 refine Xd (fun i:Nat=>⟨6,[],[.any,I q,.ref 0 0 0,.any,.ref 1 0 0,I i],[],[.row 0 2 (Xk (Kx (KG i p))),.row 0 2 (Xk [I 0,I 0])]⟩) (fun i=>i≤q) (fun i=>q - i) 0 (by omega)
  (Kq (by simp [Xf,I]) rfl) ?_
 intro i hi next
 have hb:=G0 p 1000 h1 h2 i
 by_cases hi2:i<q
 ·refine Xj ?_
  simp (disch:=omega) only [Kx,↓Xy,wG,seval]
  exact next (i+1) _ (by omega) (by omega) (Kq (by simp [Xf,I]) (by simp [Kx,KG,I]))
 ·obtain rfl:i=q:=by omega
  refine Xj ?_
  simp (disch:=omega) only [Kx,↓Xy,wG,seval]
  exact Ar rfl ip rfl rfl rfl sR (hR.trans rfl)
theorem LG (l:List (Int×Int)) (hn:QV l) (hl:l.length<1000000):Fn Tryz.prog 100 [GB l] (.bool (decide (XP (Xr l)))):=by
 have hrl:(Xr l).length=l.length:=by simp [Xr]
 have cv:=OJ (Xr l) (fun i=>Nat.le_trans (GF hn i) (by omega)) (by omega)
 refine Fr Tryz.call100 Tryz.func100 5 [] [5] [] ?_
 simp (disch:=omega) only [AS.start,Xi,↓Xy,wG,seval]
 refine Xd (fun k:Nat=>⟨5,[],[GB l,.any,.any,.osl 0 k 8 0 k,I k],[],[.row k (k*8) (Xt vC 8 v0 (Xr (l.take k)))]⟩) (fun k=>k≤l.length) (fun k=>l.length - k) 0 (by omega)
  (Sub.trans (Jd 3 8 (Xt vC 8 v0 []) rfl) (Xg rfl (by simp [AS.put,Xf,Xi,I]) (by simp [AS.put,Xm]) (by simp [AS.put,Xr]))) ?_
 intro k hk next
 by_cases hk2:k<l.length
 rotate_left
 ·obtain rfl:k=l.length:=by omega
  rw [List.take_length]
  refine Xj ?_
  simp (disch:=omega) only [Xi,↓Xy,wG,seval]
  refine Jz cv rfl ⟨?_,trivial⟩ (ZN _) ?_
  ·show JH _ (.osl 0 l.length 8 0 l.length) (Xx (Xr l))
   rw [X5,hrl]
   refine Jk (.inl rfl) (by omega) (fun h=>by rw [h]) fun j hj=>?_
   rw [Nat.zero_add]
   exact (Xe (l:=vC ((Xr l).getD (j / 8) v0)) (by simp [vC,X6,X2]) _).sees _
  simp (disch:=omega) only [↓Xy,wG,seval]
  exact Xv rfl rfl (X2 _) rfl
 have hc:=Dk hn k
 have c1:=GC (l.getD k (0,0)).1 (l.getD k (0,0)).2 ⟨by omega,by omega⟩ ⟨by omega,by omega⟩
 have p1:Xt Kx 2 (0,0) l (k*2)=I (l.getD k (0,0)).1:=JT _ _ _ _ _ (by omega)
 have p2:Xt Kx 2 (0,0) l (k*2+1)=I (l.getD k (0,0)).2:=JD _ _ _ _ _ _ (by omega)
 have hap:=QN vC 8 v0 (Xr (l.take k)) (Qe (l.getD k (0,0))) (by omega)
 have htk:Xr (l.take k) ++ [Qe (l.getD k (0,0))]=Xr (l.take (k+1)):=by unfold Xr; rw [QJ l (0,0) k hk2,List.map_append]; rfl
 have hkl:(Xr (l.take k)).length=k:=by simp [Xr]; omega
 rw [htk,hkl] at hap
 have hpv:(⟨((l.getD k (0,0)).1:Rat),((l.getD k (0,0)).2:Rat)⟩:V2)=Qe (l.getD k (0,0)):=rfl
 rw [hpv] at c1
 refine Xj ?_
 simp (disch:=omega) only [Xi,p1,p2,↓Xy,wG,seval]
 refine X0 c1 rfl ?_
 simp (disch:=omega) only [↓Xy,wG,seval]
 exact ⟨F4 _,next (k+1) _ (by omega) (by omega) (Kq (by simp [Xf,Xi,I]) (by rw [← hap]; rfl))⟩
def LJ (l:List Int) (at' k:Nat):Bool:=decide (Ab.atF l (at'+2+k:Nat) 16=15)
def EN (l:List Int) (at' k:Nat):Int:=if 11<Ab.atF l (at'+2+k:Nat) 16 then Ab.atF l (at'+2+k:Nat) 16 - 11 else 0
def Kp (rim:List (Int×Int)) (l:List Int) (at':Nat):PV:=⟨Ab.atF l at' 900,Ab.atF l at' 5,rim,(List.range rim.length).map (LJ l at'),(List.range rim.length).map (EN l at'),
 RQ.of (Rat.divInt (Ab.atF l (at'+1:Nat) 3) 4),RQ.of (Rat.divInt 1 1),RQ.of (Rat.divInt (1+Ab.atF l at' 3) 1),RQ.of (Rat.divInt 100 1),RQ.of (Rat.divInt 1 2)⟩
theorem SK {m:Nat} {s:AS} (id i:Nat) (b:AV) {ver n:Nat} {f:Nat→AV} (ho:s.h[id]?=some (.row ver n f)) (h:Kt s.h (f i) b):Sub m s { s with h:=s.h.set id (.row ver n (C1 f i b)) } :=
 Z4 id (C1 f i b) ho fun j hj=>by
  unfold C1
  by_cases e:j=i
  ·rw [if_pos e,e]; exact h
  ·rw [if_neg e]; exact Qc _ _
def J8:List AV:=[I 0,I 0,.sl 0 0 (fun _=>.any) true,.sl 0 0 (fun _=>.any) true,.sl 0 0 (fun _=>.any) true,.bool false,.sl 0 0 (fun _=>.any) true,.bool false,.sl 0 0 (fun _=>.any) true,.bool false,.sl 0 0 (fun _=>.any) true,.bool false,.sl 0 0 (fun _=>.any) true,
 .bool false,.sl 0 0 (fun _=>.any) true,.bool false,.sl 0 0 (fun _=>.any) true,.bool false,.sl 0 0 (fun _=>.any) true,.bool false,.sl 0 0 (fun _=>.any) true,.bool false,.sl 0 0 (fun _=>.any) true,.bool false,.sl 0 0 (fun _=>.any) true]
def FB (id home:Int) (rim:List (Int×Int)) (k:Nat) (t u h s r:Rat):List AV:=[I id,I home,GB rim,.osl 2 k 1 0 k,.osl 3 k 1 0 k] ++ (qC t ++ (qC u ++ (qC h ++ (qC s ++ qC r))))
theorem L0 {α:Type} (f:Nat→α) (k:Nat):(List.range (k+1)).map f=(List.range k).map f ++ [f k]:=by rw [List.range_succ,List.map_append]; rfl
theorem VY (rim:List (Int×Int)) (l:List Int) (at':Nat) (hr:rim.length<1000) (hl:GV l) (ha:at'<1000):Fn Tryz.prog 102 [GB rim,X4 l,I at'] (Kh (Kp rim l at')):=by
 obtain ⟨V,hV⟩:∃ V,V=Kh (Kp rim l at'):=⟨_,rfl⟩
 rw [← hV]
 have c1:=JC l at' 900 hl (by omega)
 have c2:=JC l at' 5 hl (by omega)
 have c3:=JC l (at'+1:Nat) 3 hl (by omega)
 have c4:=JC l at' 3 hl (by omega)
 have b3:=XR l (at'+1:Nat) 3 (by omega)
 have b4:=XR l at' 3 (by omega)
 have q1:=Zv (Ab.atF l (at'+1:Nat) 3) 4 ⟨by omega,by omega⟩ ⟨by omega,by omega⟩
 have q2:=Zv 1 1 ⟨by omega,by omega⟩ ⟨by omega,by omega⟩
 have q3:=Zv (1+Ab.atF l at' 3) 1 ⟨by omega,by omega⟩ ⟨by omega,by omega⟩
 have q4:=Zv 100 1 ⟨by omega,by omega⟩ ⟨by omega,by omega⟩
 have q5:=Zv 1 2 ⟨by omega,by omega⟩ ⟨by omega,by omega⟩
 unfold Kp at hV
 generalize Rat.divInt (Ab.atF l (at'+1:Nat) 3) 4=t at *
 generalize Rat.divInt 1 1=u at *
 generalize Rat.divInt (1+Ab.atF l at' 3) 1=h at *
 generalize Rat.divInt 100 1=s at *
 generalize Rat.divInt 1 2=r at *
 generalize Ab.atF l at' 900=id at *
 generalize Ab.atF l at' 5=home at *
 rw [Int.natCast_add] at c3
 refine Fr Tryz.call102 Tryz.func102 11 [] [1] [] ?_
 simp (disch:=omega) only [AS.start,Xi,↓Xy,wG,seval]
 refine X0 c1 rfl ?_
 simp (disch:=omega) only [↓Xy,wG,seval]
 refine X0 c2 rfl ?_
 simp (disch:=omega) only [↓Xy,wG,seval]
 refine X0 c3 rfl ?_
 simp (disch:=omega) only [↓Xy,wG,seval]
 refine X0 q1 rfl ?_
 simp (disch:=omega) only [↓Xy,wG,seval]
 refine X0 q2 rfl ?_
 simp (disch:=omega) only [↓Xy,wG,seval]
 refine X0 c4 rfl ?_
 simp (disch:=omega) only [↓Xy,wG,seval]
 refine X0 q3 rfl ?_
 simp (disch:=omega) only [↓Xy,wG,seval]
 refine X0 q4 rfl ?_
 simp (disch:=omega) only [↓Xy,wG,seval]
 refine X0 q5 rfl ?_
 simp (disch:=omega) only [↓Xy,wG,seval]
 refine Xd (fun k:Nat=>⟨11,[],[GB rim,X4 l,I at',.any,.any,.any,.ref 0 0 0,.ref 1 0 0,I k,.any,.any],[],[.row 0 25 (Xk J8),.row 0 25 (Xk (FB id home rim k t u h s r)),.row k k (Qb AV.bool false ((List.range k).map (LJ l at'))),.row k k (Qb I 0 ((List.range k).map (EN l at')))]⟩) (fun k=>k≤rim.length) (fun k=>rim.length - k) 0 (by omega)
  (Sub.trans (I9 (Qb AV.bool false [])) (Sub.trans (I9 (Qb I 0 [])) (Sub.trans (SK 1 3 (.osl 2 0 1 0 0) rfl (Az rfl)) (Sub.trans (SK 1 4 (.osl 3 0 1 0 0) rfl (Az rfl)) (Kq (by simp [Xf,Xi,X3,I]) (by simp [J8,FB,qC,WI,Xi,X3,I,sg])))))) ?_
 intro k hk next
 by_cases hk2:k<rim.length
 rotate_left
 ·obtain rfl:k=rim.length:=by omega
  refine Xj ?_
  simp (disch:=omega) only [J8,FB,qC,Xi,X3,↓Xy,wG,seval]
  subst hV
  refine Lk (L:=FB id home rim rim.length t u h s r) rfl ir rfl rfl rfl ?_
  have h2:∀ H:List AO,H[2]?=some (.row rim.length rim.length (Qb AV.bool false ((List.range rim.length).map (LJ l at'))))→JH H (.osl 2 rim.length 1 0 rim.length) (Zo ((List.range rim.length).map (LJ l at'))):=fun H ho=>by
   rw [Xz,List.length_map,List.length_range]
   refine Jk (.inl ho) (by omega) (fun h=>h) fun j hj=>?_
   rw [Nat.zero_add]
   exact (X2 _).sees _
  have h3:∀ H:List AO,H[3]?=some (.row rim.length rim.length (Qb I 0 ((List.range rim.length).map (EN l at'))))→JH H (.osl 3 rim.length 1 0 rim.length) (X4 ((List.range rim.length).map (EN l at'))):=fun H ho=>by
   rw [X3,List.length_map,List.length_range]
   refine Jk (.inl ho) (by omega) (fun h=>h) fun j hj=>?_
   rw [Nat.zero_add]
   exact (X9 _).sees _
  exact BW ⟨(X9 _).sees _,(X9 _).sees _,(Jy _).sees _,h2 _ rfl,h3 _ rfl,(X2 _).sees _,(X6 _).sees _,(X2 _).sees _,(X6 _).sees _,(X2 _).sees _,(X6 _).sees _,(X2 _).sees _,(X6 _).sees _,(X2 _).sees _,(X6 _).sees _,(X2 _).sees _,(X6 _).sees _,(X2 _).sees _,(X6 _).sees _,(X2 _).sees _,(X6 _).sees _,(X2 _).sees _,(X6 _).sees _,(X2 _).sees _,(X6 _).sees _,trivial⟩
 have c5:=JC l (at'+2+k:Nat) 16 hl (by omega)
 have b5:=XR l (at'+2+k:Nat) 16 (by omega)
 have nx:=next (k+1)
 rw [L0,L0] at nx
 have e1:LJ l at' k=decide (Ab.atF l (at'+2+k:Nat) 16=15):=rfl
 have e2:EN l at' k=if 11<Ab.atF l (at'+2+k:Nat) 16 then Ab.atF l (at'+2+k:Nat) 16 - 11 else 0:=rfl
 rw [e1,e2] at nx
 generalize Ab.atF l (at'+2+k:Nat) 16=n at *
 rw [show ((at'+2+k:Nat):Int)=(at':Int)+2+k by omega] at c5
 have hW:((List.range k).map (LJ l at')).length=k:=by simp
 have hM:((List.range k).map (EN l at')).length=k:=by simp
 generalize (List.range k).map (LJ l at')=W at *
 generalize (List.range k).map (EN l at')=M at *
 have hap1:=Ps AV.bool false W (decide (n=15))
 rw [hW,Nat.mul_one] at hap1
 refine Xj ?_
 simp (disch:=omega) only [FB,qC,Xi,X3,List.cons_append,List.nil_append,↓Xy,wG,seval]
 refine X0 c5 rfl ?_
 by_cases hn:11<n
 ·have hap2:=ED M (n - 11)
  rw [if_pos hn] at nx
  rw [hM] at hap2
  simp (disch:=omega) only [FB,qC,Xi,X3,List.cons_append,List.nil_append,↓Xy,wG,seval]
  exact nx _ (by omega) (by omega) (Kq (by simp [Xf,Xi,X3,I]) (by rw [← hap1,← hap2]; simp [J8,FB,qC,Xi,X3,I,sg]))
 ·have hap2:=ED M 0
  rw [if_neg hn] at nx
  rw [hM] at hap2
  simp (disch:=omega) only [FB,qC,Xi,X3,List.cons_append,List.nil_append,↓Xy,wG,seval]
  exact nx _ (by omega) (by omega) (Kq (by simp [Xf,Xi,X3,I]) (by rw [← hap1,← hap2]; simp [J8,FB,qC,Xi,X3,I,sg,show ¬ n=15 by omega]))
structure Iso (g h:V2→V2):Prop where
 sub:∀ a b,(g a).sub (g b)=h (a.sub b)
 cr:∀ u v,Q6 (h u) (h v)=Q6 u v
 dt:∀ u v,Q1 (h u) (h v)=Q1 u v
 tn:∀ u,(h u).turned=h u.turned
theorem ln (g:V2→V2) (L:List V2) (h:0<L.length) (i:Nat):atF (L.map g) i=g (atF L i):=by
 unfold atF
 have hlt:=Nat.mod_lt i h
 rw [List.length_map,List.getD_eq_getElem?_getD,List.getElem?_map,List.getD_eq_getElem?_getD,List.getElem?_eq_getElem hlt]; rfl
theorem Dg {g h:V2→V2} (I:Iso g h) (a b c:V2):Jm (g a) (g b) (g c)=Jm a b c:=by unfold Jm; rw [I.sub,I.sub,I.cr]
theorem VI (n a b:V2):Q1 n a - Q1 n b=Q1 n (a.sub b):=by unfold Q1 V2.sub; grind
theorem rW {g h:V2→V2} (I:Iso g h) (n a b:V2):(Q1 (h n) (g a)<Q1 (h n) (g b))↔(Q1 n a<Q1 n b):=by
 have e1:=VI (h n) (g a) (g b)
 have e2:=VI n a b
 rw [I.sub,I.dt] at e1
 constructor <;> intro hh <;> grind
theorem Rx {g h:V2→V2} (I:Iso g h) (n a b c d:V2):K2 (h n) (g a) (g b) (g c) (g d)=K2 n a b c d:=by
 unfold K2 Hc
 simp only [rW I]
theorem io {g h:V2→V2} (I:Iso g h) (a b c d:V2) (i:Nat):CI (g a) (g b) (g c) (g d) i=h (CI a b c d i):=by
 unfold CI
 split <;> simp only [I.sub,I.tn]
theorem Ry {g h:V2→V2} (I:Iso g h) (L:List V2) (hp:XP L) (ha:JF (L.map g)=JF L):XP (L.map g):=by
 obtain ⟨h1,h2,h3⟩:=hp
 have hl:0<L.length:=by omega
 have hat:=ln g L hl
 refine ⟨by rw [List.length_map]; exact h1,fun i hi=>?_,by rw [ha]; exact h3⟩
 rw [List.length_map] at hi
 obtain ⟨k1,k2⟩:=h2 i hi
 refine ⟨fun hb=>k1 ?_,fun k hk hg=>k2 k (by rw [List.length_map] at hk; exact hk) ?_⟩
 ·unfold O8 at hb ⊢
  rw [hat,hat,hat,Dg I] at hb
  exact hb
 ·obtain ⟨q1,q2,q3⟩:=hg
  rw [List.length_map] at q1 q2
  refine ⟨q1,q2,fun j hj=>?_⟩
  have:=q3 j hj
  rw [hat,hat,hat,hat,io I,Rx I] at this
  exact this
theorem quart_iso:Iso QW QW:=⟨fun a b=>by unfold QW V2.sub; rw [V2.ext']; exact ⟨by simp only; grind,rfl⟩,fun u v=>by unfold QW Q6; grind,fun u v=>by unfold QW Q1; grind,fun u=>by unfold QW V2.turned; rfl⟩
theorem Vg (t:V2):Iso (fun a=>a.add t) id:=⟨fun a b=>by unfold V2.add V2.sub; rw [V2.ext']; exact ⟨by simp only [id]; grind,by simp only [id]; grind⟩,fun _ _=>rfl,fun _ _=>rfl,fun _=>rfl⟩
theorem JL (g:V2→V2) (L:List V2) (i:Nat) (h:i<L.length):(L.map g).getD i v0=g (L.getD i v0):=by
 rw [List.getD_eq_getElem?_getD,List.getElem?_map,List.getD_eq_getElem?_getD,List.getElem?_eq_getElem h]; rfl
theorem TC (L:List V2) (h:0<L.length):JF (L.map QW)=JF L:=by
 have key:∀ n,n≤L.length→K1 (L.map QW) n=K1 L n:=fun n=>by
  induction n with
  | zero=>intro _; rfl
  | succ n ih =>
   intro hn
   unfold K1
   rw [ih (by omega),List.length_map,JL _ _ _ (by omega),JL _ _ _ (Nat.mod_lt _ h),quart_iso.cr]
 unfold JF
 rw [List.length_map,key _ (Nat.le_refl _)]
theorem eZ (t:V2) (L:List V2) (h:0<L.length):JF (L.map fun a=>a.add t)=JF L:=by
 have key:∀ n,n≤L.length→K1 (L.map fun a=>a.add t) n=K1 L n+Q6 t ((L.getD (n % L.length) v0).sub (L.getD 0 v0)):=fun n=>by
  induction n with
  | zero=>intro _; rw [Nat.zero_mod]; unfold K1 Q6 V2.sub; grind
  | succ n ih =>
   intro hn
   have hm:n % L.length=n:=Nat.mod_eq_of_lt (by omega)
   unfold K1
   rw [ih (by omega),List.length_map,JL _ _ _ (by omega),JL _ _ _ (Nat.mod_lt _ h),hm]
   generalize L.getD n v0=p
   generalize L.getD ((n+1) % L.length) v0=q
   generalize L.getD 0 v0=o
   unfold Q6 V2.sub V2.add
   grind
 unfold JF
 rw [List.length_map,key _ (Nat.le_refl _),Nat.mod_self]
 have:Q6 t ((L.getD 0 v0).sub (L.getD 0 v0))=0:=by unfold Q6 V2.sub; grind
 rw [this,Rat.add_zero]
theorem Hh (L:List V2) (hp:XP L):∀ q,XP (L.map (XZ q))
 | 0=>by
  have:L.map (XZ 0)=L:=by
   have e:XZ 0=id:=rfl
   rw [e,List.map_id]
  rw [this]; exact hp
 | q+1=>by
  have ih:=Hh L hp q
  have e:L.map (XZ (q+1))=(L.map (XZ q)).map QW:=by rw [List.map_map]; rfl
  rw [e]
  exact Ry quart_iso _ ih (TC _ (by have:=ih.1; omega))
theorem jf (t:V2) (L:List V2) (hp:XP L):XP (L.map fun a=>a.add t):=Ry (Vg t) L hp (eZ t L (by have:=hp.1; omega))
def P4 (q:Nat) (d p:Int×Int):Int×Int:=((KG q p).1+d.1,(KG q p).2+d.2)
theorem La (q:Nat) (p:Int×Int):Qe (KG q p)=XZ q (Qe p):=by
 induction q with
 | zero=>rfl
 | succ q ih =>
  show (⟨((-(KG q p).2:Int):Rat),((KG q p).1:Rat)⟩:V2)=QW (XZ q (Qe p))
  rw [← ih]
  unfold Qe QW
  rw [V2.ext']
  exact ⟨by simp,rfl⟩
theorem od (R:List (Int×Int)) (q:Nat) (d:Int×Int) (h:XP (Xr R)):XP (Xr (R.map (P4 q d))):=by
 have h1:=jf (Qe d) _ (Hh _ h q)
 have e:Xr (R.map (P4 q d))=((Xr R).map (XZ q)).map fun a=>a.add (Qe d):=by
  unfold Xr
  rw [List.map_map,List.map_map,List.map_map]
  refine List.map_congr_left fun p _=>?_
  show Qe (P4 q d p)=(XZ q (Qe p)).add (Qe d)
  rw [← La]
  unfold P4 Qe V2.add
  rw [V2.ext']
  exact ⟨by simp,by simp⟩
 rw [e]; exact h1
end
end Go.Ab.N
namespace Go.Ab.N
open Go Go.RowKit Go.Proofs
noncomputable section
set_option maxRecDepth 10000
set_option maxHeartbeats 4000000
def vw (L:List V2) (i k:Nat):Bool:=decide (1<(k+L.length - i) % L.length) && decide ((k+L.length - i) % L.length<L.length - 1) &&
 (List.range 5).all fun j=>!K2 (CI (atF L i) (atF L (i+1)) (atF L k) (atF L (k+1)) j) (atF L i) (atF L (i+1)) (atF L k) (atF L (k+1))
def Dr (L:List V2):Bool:=decide (3≤L.length) && decide (L.length≤12) && ((List.range L.length).all fun i=>!decide (Jm (atF L i) (atF L (i+1)) (atF L (i+2))=0) && (List.range L.length).all fun k=>!vw L i k) && decide (0<(JF L).num.sign)
theorem Ds (L:List V2) (h:Dr L=true):XP L:=by
 unfold Dr at h
 simp only [Bool.and_eq_true,decide_eq_true_eq,List.all_eq_true,List.mem_range,Bool.not_eq_true',decide_eq_false_iff_not] at h
 obtain ⟨⟨⟨h1,h2⟩,h3⟩,h4⟩:=h
 refine ⟨⟨h1,h2⟩,fun i hi=>⟨(h3 i hi).1,fun k hk hg=>?_⟩,h4⟩
 have:=(h3 i hi).2 k hk
 obtain ⟨q1,q2,q3⟩:=hg
 unfold vw at this
 rw [decide_eq_true q1,decide_eq_true q2,Bool.true_and,Bool.true_and] at this
 rw [List.all_eq_true.2] at this
 ·cases this
 ·intro j hj
  rw [q3 j (List.mem_range.1 hj)]; rfl
def jo (x y h:Int):List (Int×Int):=[(0,0),(x,0),(y,h),(0,h)]
def jq (w x y h:Int):List (Int×Int):=[(x,0),(w,0),(w,h),(y,h)]
theorem ol:((List.range 4).all fun h=>(List.range 6).all fun x=>(List.range 6).all fun y=>Dr (Xr (jo (1+x) (1+y) (3+h))))=true:=by decide +kernel
theorem oo:((List.range 4).all fun w=>(List.range 4).all fun h=>(List.range 6).all fun x=>(List.range 6).all fun y=>!(decide (x<w+3) && decide (y<w+3)) || Dr (Xr (jq (4+w) (1+x) (1+y) (3+h))))=true:=by decide +kernel
theorem jp (x y h:Int) (hx:1≤x∧x≤6) (hy:1≤y∧y≤6) (hh:3≤h∧h≤6):XP (Xr (jo x y h)):=by
 have h1:=ol
 simp only [List.all_eq_true,List.mem_range] at h1
 have h2:=h1 (h - 3).toNat (by omega) (x - 1).toNat (by omega) (y - 1).toNat (by omega)
 rw [show (1:Int)+((x - 1).toNat:Nat)=x by omega,show (1:Int)+((y - 1).toNat:Nat)=y by omega,show (3:Int)+((h - 3).toNat:Nat)=h by omega] at h2
 exact Ds _ h2
theorem jr (w x y h:Int) (hw:4≤w∧w≤7) (hx:1≤x∧x<w) (hy:1≤y∧y<w) (hh:3≤h∧h≤6):XP (Xr (jq w x y h)):=by
 have h1:=oo
 simp only [List.all_eq_true,List.mem_range] at h1
 have h2:=h1 (w - 4).toNat (by omega) (h - 3).toNat (by omega) (x - 1).toNat (by omega) (y - 1).toNat (by omega)
 rw [show (4:Int)+((w - 4).toNat:Nat)=w by omega,show (1:Int)+((x - 1).toNat:Nat)=x by omega,show (1:Int)+((y - 1).toNat:Nat)=y by omega,show (3:Int)+((h - 3).toNat:Nat)=h by omega] at h2
 rw [Bool.or_eq_true] at h2
 rcases h2 with h2 | h2
 ·rw [decide_eq_true (show (x - 1).toNat<(w - 4).toNat+3 by omega),decide_eq_true (show (y - 1).toNat<(w - 4).toNat+3 by omega)] at h2
  cases h2
 ·exact Ds _ h2
end
end Go.Ab.N
namespace Go.Ab.N
open Go Go.RowKit Go.Proofs
noncomputable section
set_option maxRecDepth 10000
set_option maxHeartbeats 4000000
open Classical
theorem Ph {a b:List (Int×Int)} {f:FV} {e:Rat} (h:(XH a b f e).2.2=true) :
  BZ a.length b.length f∧Zb f.turn∧XH a b f e=((DT a b f f.M.toNat).sub ⟨e,e⟩,(DQ a b f f.M.toNat).add ⟨e,e⟩,true)∧(DT a b f f.M.toNat).x - e≤(DQ a b f f.M.toNat).x+e∧(DT a b f f.M.toNat).y - e≤(DQ a b f f.M.toNat).y+e:=by
 by_cases g:BZ a.length b.length f∧Zb f.turn
 ·by_cases g2:((DQ a b f f.M.toNat).add ⟨e,e⟩).x<((DT a b f f.M.toNat).sub ⟨e,e⟩).x∨((DQ a b f f.M.toNat).add ⟨e,e⟩).y<((DT a b f f.M.toNat).sub ⟨e,e⟩).y
  ·exfalso
   unfold XH at h; rw [if_pos g] at h; simp only at h; rw [if_pos g2] at h; cases h
  ·refine ⟨g.1,g.2,?_,?_⟩
   ·unfold XH; rw [if_pos g]; simp only; rw [if_neg g2]
   ·simp only [not_or,Rat.not_lt] at g2; exact g2
 ·unfold XH at h; rw [if_neg g] at h; cases h
theorem Cf {p:V2→Bool}:∀ {s:List V2},(Fu p s).2=true↔∃ x∈s,p x=true
 | []=>by simp [Fu]
 | x :: l=>by
  have ih:=Cf (p:=p) (s:=l)
  show ((if p x=true then (x,true) else Fu p l).2=true)↔_
  by_cases h:p x=true
  ·rw [if_pos h]; simp [h]
  ·rw [if_neg h,ih]; simp [h]
theorem GU (x:Rat):0≤F9 x:=by unfold F9; split <;> grind
theorem SF (n:V2):0≤Ak n:=by
 have h1:=GU n.x
 have h2:=GU n.y
 unfold Ak; grind
theorem jE {n:V2} {A B:List V2} {e e':Rat} (h:GL n A B e) (he:e'≤e):GL n A B e':=by
 unfold GL at *
 have h2:e'*Ak n≤e*Ak n:=Rat.mul_le_mul_of_nonneg_right he (SF n)
 exact Rat.le_trans h2 h
theorem Yn {A B:List (List V2)} {e e':Rat} (h:CG A B e=true) (he:e'≤e):CG A B e'=true:=by
 unfold CG at *
 rw [decide_eq_true_eq] at *
 intro i hi
 have h1:=h i hi
 unfold NZ at *
 rw [decide_eq_true_eq] at *
 intro k hk
 have h2:=h1 k hk
 unfold Zw A8 at *
 rw [Cf] at *
 obtain ⟨x,hx,hp⟩:=h2
 exact ⟨x,hx,decide_eq_true (jE (of_decide_eq_true hp) he)⟩
theorem DL (a b:PV) (f:FV) (e:Rat):Ap a b f e=0↔BZ a.rim.length b.rim.length f∧HE a b f∧Tz a b f∧((XH a.rim b.rim f e).2.2=true∧(XH a.rim b.rim f e).1=f.lo∧(XH a.rim b.rim f e).2.1=f.hi)∧ZL a b f e=true:=by
 unfold Ap
 by_cases h1:BZ a.rim.length b.rim.length f
 rotate_left
 ·rw [if_neg h1]; exact ⟨fun h=>absurd h (by decide),fun h=>absurd h.1 h1⟩
 rw [if_pos h1]
 by_cases h2:HE a b f
 rotate_left
 ·rw [if_neg h2]; exact ⟨fun h=>absurd h (by decide),fun h=>absurd h.2.1 h2⟩
 rw [if_pos h2]
 by_cases h3:Tz a b f
 rotate_left
 ·rw [if_neg h3]; exact ⟨fun h=>absurd h (by decide),fun h=>absurd h.2.2.1 h3⟩
 rw [if_pos h3]
 by_cases h4:(XH a.rim b.rim f e).2.2=true∧(XH a.rim b.rim f e).1=f.lo∧(XH a.rim b.rim f e).2.1=f.hi
 rotate_left
 ·rw [if_neg h4]; exact ⟨fun h=>absurd h (by decide),fun h=>absurd h.2.2.2.1 h4⟩
 rw [if_pos h4]
 by_cases h5:ZL a b f e=true
 ·rw [if_pos h5]; exact ⟨fun _=>⟨h1,h2,h3,h4,h5⟩,fun _=>rfl⟩
 ·rw [if_neg h5]; exact ⟨fun h=>absurd h (by decide),fun h=>absurd h.2.2.2.2 h5⟩
theorem CZ {a b:PV} {e:Rat} {f:FV} (h:f∈BF a b e) (ha:0<a.rim.length) (hb:0<b.rim.length):Ap a b f e=0:=by
 obtain ⟨i,j,k,t,hi,hj,k0,kn,km,hp,ht,ho,rfl⟩:=(CR a b e f ha hb).1 h
 unfold H6 at ho
 rw [Bool.and_eq_true] at ho
 obtain ⟨o1,o2⟩:=ho
 rw [ZX] at ht
 obtain ⟨k',q1,q2,q3⟩:=ht
 rw [DL]
 refine ⟨?_,hp,⟨k',?_,q2,q3⟩,⟨o1,rfl,rfl⟩,o2⟩
 ·show (0≤(i:Int)∧(i:Int)<a.rim.length)∧(0≤(j:Int)∧(j:Int)<b.rim.length)∧1≤(k:Int)∧(k:Int)<a.rim.length∧(k:Int)<b.rim.length
  omega
 ·show k'<((k:Nat):Int).toNat
  omega
theorem VZ (R:List (Int×Int)) (l:List Int) (p:Nat) (hn:QV R) (hp:XP (Xr R)):GP (Kp R l p) (Rat.divInt (Ab.atF l (p+1:Nat) 3) 4)∧(Kp R l p).small∧qb (Rat.divInt (Ab.atF l (p+1:Nat) 3) 4)≤3:=by
 have b1:=XR l (p+1:Nat) 3 (by omega)
 have b2:=XR l p 3 (by omega)
 have q:=OD (Ab.atF l (p+1:Nat) 3) 4 ⟨by omega,by omega⟩ ⟨by omega,by omega⟩
 have hl:R.length≤12:=by have:=hp.1; simp [Xr] at this; omega
 have z:=fun (n m:Int) (h1:ZO n) (h2:ZO m)=>u7 n m h1 h2
 refine ⟨⟨⟨by show R.length<_; omega,by simp [Kp],by simp [Kp],hn⟩,hp,rfl,by omega⟩,⟨by show R.length<_; omega,by simp [Kp]; omega,by simp [Kp]; omega,?_,?_,?_,?_,?_⟩,q⟩
 ·exact Nat.le_trans (z (Ab.atF l (p+1:Nat) 3) 4 ⟨by omega,by omega⟩ ⟨by omega,by omega⟩) (by omega)
 ·exact Nat.le_trans (z 1 1 ⟨by omega,by omega⟩ ⟨by omega,by omega⟩) (by omega)
 ·exact Nat.le_trans (z (1+Ab.atF l p 3) 1 ⟨by omega,by omega⟩ ⟨by omega,by omega⟩) (by omega)
 ·exact Nat.le_trans (z 100 1 ⟨by omega,by omega⟩ ⟨by omega,by omega⟩) (by omega)
 ·exact Nat.le_trans (z 1 2 ⟨by omega,by omega⟩ ⟨by omega,by omega⟩) (by omega)
theorem MZ {α:Type} (C:α→List AV) (s:Nat) (d:α) (hs:0<s) (hC:∀ a,(C a).length=s):∀ (L:List α) (j:Nat),j<L.length*s→Xk (L.flatMap C) j=Xt C s d L j
 | [],j,h=>by simp at h
 | a :: L,j,h=>by
  unfold Xt Xk
  rw [List.flatMap_cons,List.getD_eq_getElem?_getD]
  by_cases hj:j<s
  ·rw [Nat.div_eq_of_lt hj,Nat.mod_eq_of_lt hj,List.getElem?_append_left (by rw [hC]; exact hj),← List.getD_eq_getElem?_getD]; rfl
  ·obtain ⟨i,rfl⟩:∃ i,j=s+i:=⟨j - s,by omega⟩
   have hi:i<L.length*s:=by
    rw [List.length_cons,Nat.succ_mul] at h; omega
   have ih:=MZ C s d hs hC L i hi
   unfold Xt Xk at ih
   rw [Nat.add_div_left i hs,Nat.add_mod_left,List.getElem?_append_right (by rw [hC]; omega),hC,Nat.add_sub_cancel_left,← List.getD_eq_getElem?_getD,ih]; rfl
def Xl (l:List Int) (W H M k:Nat):Int×Int:=(1+Ab.atF l (3+k:Nat) ((W:Int) - 1),if k=M then (H:Int) else k)
def J1 (l:List Int) (W H M:Nat):List (Int×Int):=(List.range (M+1)).map (Xl l W H M)
def Xp (l:List Int) (W H M:Nat):List (Int×Int):=(0,0) :: J1 l W H M ++ [(0,(H:Int))]
def Kl (l:List Int) (W H M i:Nat):List (Int×Int):=[Xl l W H M 0,((W:Int),0),((W:Int),(H:Int))] ++ (List.range i).map fun i=>Xl l W H M (M - i)
def Xu (l:List Int) (W H M:Nat):List (Int×Int):=Kl l W H M M
def CJ (l:List Int):Int×Int:=(Ab.atF l 8 9 - 4,Ab.atF l 9 9 - 4)
def Do (l:List Int):Nat:=(Ab.atF l 7 4).toNat
def XE (l:List Int) (W H M:Nat):List (Int×Int):=(Xu l W H M).map (P4 (Do l) (CJ l))
def Ji (l:List Int):V2:=XZ ((4 - Do l) % 4) Qq
def Qw (l:List Int):V2:=v0.sub (ZE (Ji l) (Qe (CJ l)))
def Jo (l:List Int) (M:Nat):FV:=⟨0,1,1,(M+2:Nat),M,Ji l,Qw l,Qw l⟩
def LQ (a b:PV) (f:FV):List AV:=Q0 a ++ (Q0 b ++ Qr f)
def KR:List AV:=[I 0,I 0,I 0,I 0,I 0] ++ (Q5 ++ (Q5 ++ Q5))
theorem IB (l:List Int) (W H M k:Nat) (h:k≤M):(J1 l W H M).getD k (0,0)=Xl l W H M k:=E6 _ _ _ _ (by omega)
theorem Fi (l:List Int) (W H M k:Nat) (hW:4≤W∧W≤7) (hH:H≤6) (hk:k≤3):(1≤(Xl l W H M k).1∧(Xl l W H M k).1<W)∧0≤(Xl l W H M k).2∧(Xl l W H M k).2≤6:=by
 have:=XR l (3+k:Nat) ((W:Int) - 1) (by omega)
 unfold Xl
 simp only
 refine ⟨by omega,?_⟩
 split <;> omega
theorem VB (C:List (Int×Int)) (x y:Int×Int) (j:Nat) (h:j<C.length):(x :: C ++ [y]).getD (j+1) (0,0)=C.getD j (0,0):=by
 rw [List.getD_eq_getElem?_getD,List.getD_eq_getElem?_getD,List.cons_append,List.getElem?_cons_succ,List.getElem?_append_left h]
theorem aF (C:List (Int×Int)) (h:Int) (j:Nat) (hj:j<(C.length+2)*2):QK ((1+C.length)*2) (QK 2 (Xk [I 0,I 0]) (C.length*2) (Xt Kx 2 (0,0) C)) 2 (Xk [I 0,I h]) j=Xt Kx 2 (0,0) ((0,0) :: C ++ [(0,h)]) j:=by
 unfold QK Xt
 by_cases h1:j<(1+C.length)*2
 ·rw [if_pos h1]
  by_cases h2:j<2
  ·rw [if_pos h2]
   match j,h2 with
   | 0,_=>rfl
   | 1,_=>rfl
  ·rw [if_neg h2,if_pos (by omega)]
   obtain ⟨i,rfl⟩:∃ i,j=i+2:=⟨j - 2,by omega⟩
   rw [show (i+2) / 2=i / 2+1 by omega,show (i+2) % 2=i % 2 by omega,show i+2 - 2=i by omega,VB C (0,0) (0,h) (i / 2) (by omega)]
 ·rw [if_neg h1,if_pos (by omega)]
  have e:((0,0) :: C ++ [(0,h)]).getD (j / 2) (0,0)=(0,h):=by
   rw [show j / 2=C.length+1 by omega,List.getD_eq_getElem?_getD,List.cons_append,List.getElem?_cons_succ,List.getElem?_append_right (Nat.le_refl _),Nat.sub_self]; rfl
  rw [e]
  obtain ⟨i,hi,rfl⟩:∃ i,i<2∧j=(1+C.length)*2+i:=⟨j - (1+C.length)*2,by omega,by omega⟩
  rw [Nat.add_sub_cancel_left,show ((1+C.length)*2+i) % 2=i by omega]
  match i,hi with
  | 0,_=>rfl
  | 1,_=>rfl
theorem UQ (a b c d:Int×Int) (j:Nat) (hj:j<8):QK 6 (Xk (Kx a ++ (Kx b ++ Kx c))) 2 (Xk (Kx d)) j=Xt Kx 2 (0,0) [a,b,c,d] j:=by
 match j,hj with
 | 0,_=>rfl
 | 1,_=>rfl
 | 2,_=>rfl
 | 3,_=>rfl
 | 4,_=>rfl
 | 5,_=>rfl
 | 6,_=>rfl
 | 7,_=>rfl
def FC (g:Int×Int→Int×Int) (S:List (Int×Int)) (k:Nat):List (Int×Int):=(S.take k).map g ++ S.drop k
theorem W0 (g:Int×Int→Int×Int) (S:List (Int×Int)) (k:Nat) (h:k<S.length):(FC g S k).getD k (0,0)=S.getD k (0,0):=by
 unfold FC
 rw [List.getD_eq_getElem?_getD,List.getElem?_append_right (by simp; omega),List.getD_eq_getElem?_getD]
 simp [Nat.min_eq_left (Nat.le_of_lt h)]
theorem iD (g:Int×Int→Int×Int) (S:List (Int×Int)) (k:Nat) (h:k≤S.length):(FC g S k).length=S.length:=by unfold FC; simp; omega
theorem iE (g:Int×Int→Int×Int) (S:List (Int×Int)) (k:Nat) (h:k<S.length):(FC g S k).set k (g (S.getD k (0,0)))=FC g S (k+1):=by
 refine List.ext_getElem? fun j=>?_
 unfold FC
 rw [List.getElem?_set]
 by_cases hj:k=j
 ·subst hj
  rw [if_pos rfl,if_pos (by simp; omega),List.getElem?_append_left (by simp; omega),List.getElem?_map,List.getElem?_take,if_pos (by omega),List.getElem?_eq_getElem h,List.getD_eq_getElem?_getD,List.getElem?_eq_getElem h]; rfl
 ·rw [if_neg hj]
  by_cases hlt:j<k
  ·rw [List.getElem?_append_left (by simp; omega),List.getElem?_append_left (by simp; omega),List.getElem?_map,List.getElem?_map,List.getElem?_take,List.getElem?_take,if_pos hlt,if_pos (by omega)]
  ·rw [List.getElem?_append_right (by simp; omega),List.getElem?_append_right (by simp; omega),List.getElem?_drop,List.getElem?_drop]
   congr 1
   simp; omega
theorem vY (l:List (Int×Int)) (k:Nat) (x:Int×Int) (hk:k<l.length):C1 (C1 (Xt Kx 2 (0,0) l) (k*2) (I x.1)) (k*2+1) (I x.2)=Xt Kx 2 (0,0) (l.set k x):=by
 funext j
 have e:(l.set k x).getD k (0,0)=x:=by rw [List.getD_eq_getElem?_getD,List.getElem?_set_self hk]; rfl
 unfold C1 Xt
 by_cases h1:j=k*2+1
 ·rw [if_pos h1,h1,show (k*2+1) / 2=k by omega,show (k*2+1) % 2=1 by omega,e]; rfl
 ·rw [if_neg h1]
  by_cases h2:j=k*2
  ·rw [if_pos h2,h2,show (k*2) / 2=k by omega,show (k*2) % 2=0 by omega,e]; rfl
  ·rw [if_neg h2]
   have:(l.set k x).getD (j / 2) (0,0)=l.getD (j / 2) (0,0):=by rw [List.getD_eq_getElem?_getD,List.getElem?_set_ne (by omega),List.getD_eq_getElem?_getD]
   rw [this]
theorem EH (l:List Int) (W H M:Nat) (hW:4≤W∧W≤7) (hH:H≤6) (hM:M≤3) (k:Nat) (hk:k≤M):(0≤(Xl l W H M k).1∧(Xl l W H M k).1≤7)∧0≤(Xl l W H M k).2∧(Xl l W H M k).2≤7:=by
 have:=Fi l W H M k hW hH (by omega)
 omega
theorem Cg (l:List Int) (W H M:Nat) (hW:4≤W∧W≤7) (hH:H≤6) (hM:M≤3):QV (Xp l W H M):=fun c hc=>by
 unfold Xp at hc
 rw [List.mem_append,List.mem_cons,List.mem_singleton] at hc
 rcases hc with (rfl | hc) | rfl
 ·exact ⟨⟨by decide,by decide⟩,⟨by decide,by decide⟩⟩
 ·obtain ⟨k,hk,rfl⟩:=List.mem_map.1 hc
  have:=EH l W H M hW hH hM k (by have:=List.mem_range.1 hk; omega)
  omega
 ·show (-65536≤(0:Int)∧(0:Int)≤65536)∧(-65536≤(H:Int)∧(H:Int)≤65536)
  omega
theorem Dx (l:List Int) (W H M:Nat) (hW:4≤W∧W≤7) (hH:H≤6) (hM:M≤3):∀ c∈Xu l W H M,(0≤c.1∧c.1≤7)∧0≤c.2∧c.2≤7:=fun c hc=>by
 unfold Xu Kl at hc
 simp only [List.mem_append,List.mem_cons,List.not_mem_nil,or_false,List.mem_map,List.mem_range] at hc
 rcases hc with (rfl | rfl | rfl) | ⟨k,hk,rfl⟩
 ·exact EH l W H M hW hH hM 0 (by omega)
 ·show (0≤(W:Int)∧(W:Int)≤7)∧0≤(0:Int)∧(0:Int)≤7
  omega
 ·show (0≤(W:Int)∧(W:Int)≤7)∧0≤(H:Int)∧(H:Int)≤7
  omega
 ·exact EH l W H M hW hH hM (M - k) (by omega)
theorem DF (l:List Int) (W H M:Nat) (hW:4≤W∧W≤7) (hH:H≤6) (hM:M≤3):QV (XE l W H M):=fun c hc=>by
 obtain ⟨p,hp,rfl⟩:=List.mem_map.1 hc
 have h1:=Dx l W H M hW hH hM p hp
 have h2:=G0 p 7 (by omega) (by omega) (Do l)
 have b8:=XR l 8 9 (by omega)
 have b9:=XR l 9 9 (by omega)
 show (-65536≤(KG (Do l) p).1+(Ab.atF l 8 9 - 4)∧(KG (Do l) p).1+(Ab.atF l 8 9 - 4)≤65536)∧(-65536≤(KG (Do l) p).2+(Ab.atF l 9 9 - 4)∧(KG (Do l) p).2+(Ab.atF l 9 9 - 4)≤65536)
 omega
theorem L6 (l:List Int):vb (Ji l)≤10∧vb (Qw l)≤100:=by
 have h1:vb (Ji l)≤10:=by unfold Ji; rw [GO]; exact G5
 have b8:=XR l 8 9 (by omega)
 have b9:=XR l 9 9 (by omega)
 have h2:vb (Qe (CJ l))≤3:=by
  have q1:=Za (CJ l).1 3 (by omega) (QR (by unfold CJ; simp only; exact ⟨by omega,by omega⟩))
  have q2:=Za (CJ l).2 3 (by omega) (QR (by unfold CJ; simp only; exact ⟨by omega,by omega⟩))
  unfold vb Qe
  simp only
  omega
 have h3:=F5 (Ji l) (Qe (CJ l))
 have h4:=KZ v0 (ZE (Ji l) (Qe (CJ l)))
 have:=G6
 refine ⟨h1,?_⟩
 unfold Qw
 omega
def Hy (l:List Int) (W H:Nat):List Int:=[(W:Int) - 4,(H:Int) - 3,0,Ab.atF l 3 ((W:Int) - 1),Ab.atF l 4 ((W:Int) - 1),0,0,Ab.atF l 7 4]
def ZT (l:List Int) (W H M:Nat) (x9 x10 x11 x12 x13 x14 x16 x17 x18:AV) (r:List AO):AS:=⟨20,[],[X4 l,.any,.ref 0 0 0,I W,I H,I M,.osl 1 (M+1) 2 0 (M+1),.any,.any,x9,x10,x11,x12,x13,x14,.any,x16,x17,x18,.any],[],[.row 0 79 (Xk (J8 ++ (J8 ++ KR))),.row (M+1) ((M+1)*2) (Xt Kx 2 (0,0) (J1 l W H M))] ++ r⟩
theorem ON (l:List Int) (W H M i:Nat):Kl l W H M (i+1)=Kl l W H M i ++ [Xl l W H M (M - i)]:=by
 unfold Kl; rw [L0,List.append_assoc]
theorem Dw (l:List Int) (W H M i:Nat):(Kl l W H M i).length=3+i:=by simp [Kl]; omega
theorem Sx (a b:PV) (f:FV):∀ x∈LQ a b f,Settled x:=fun x h=>by
 unfold LQ at h
 rw [List.mem_append,List.mem_append] at h
 rcases h with h | h | h
 ·exact XI a x h
 ·exact XI b x h
 ·exact Q8 f x h
theorem uQ (m v n:Nat) (L:List (Int×Int)):XT m (.row v n (Xt Kx 2 (0,0) L))=True:=eq_true fun j _=>X7 (Xe (KF _) _)
theorem Hp (f:Nat→AV) (t:Bool):Settled (.sl 0 0 f t):=QX fun j hj=>absurd hj (Nat.not_lt_zero j)
theorem wU (m v n:Nat):XT m (.row v n (Xk (J8 ++ (J8 ++ KR))))=True:=eq_true fun j _=>X7 (Xe (l:=J8 ++ (J8 ++ KR)) (by simp [J8,KR,Q5,X9,X2,Hp]) _)
theorem L5 (l:List Int) (hl:GV l) (W H M:Nat) (hW:(4:Int)+Ab.atF l 0 4=W) (hH:(3:Int)+Ab.atF l 1 4=H) (hM:(1:Int)+Ab.atF l 2 3=M) (A' B':PV) (F':FV)
  (hr:¬ (XP (Xr (Xp l W H M))∧XP (Xr (Xu l W H M)))→Fn Tryz.prog 28 [X4 (Hy l W H)] (.agg (LQ A' B' F'))) :
  ∃ A B F,Fn Tryz.prog 28 [X4 l] (.agg (LQ A B F))∧(((XP (Xr (Xp l W H M))∧XP (Xr (Xu l W H M)))∧A=Kp (Xp l W H M) l 10∧B=Kp (XE l W H M) l 20∧F=Jo l M) ∨
   (¬ (XP (Xr (Xp l W H M))∧XP (Xr (Xu l W H M)))∧A=A'∧B=B'∧F=F')):=by
 obtain ⟨A,B,F,hABF⟩:∃ A B F,(((XP (Xr (Xp l W H M))∧XP (Xr (Xu l W H M)))∧A=Kp (Xp l W H M) l 10∧B=Kp (XE l W H M) l 20∧F=Jo l M) ∨
   (¬ (XP (Xr (Xp l W H M))∧XP (Xr (Xu l W H M)))∧A=A'∧B=B'∧F=F')):=by
  by_cases h:XP (Xr (Xp l W H M))∧XP (Xr (Xu l W H M))
  ·exact ⟨_,_,_,.inl ⟨h,rfl,rfl,rfl⟩⟩
  ·exact ⟨_,_,_,.inr ⟨h,rfl,rfl,rfl⟩⟩
 refine ⟨A,B,F,?_,hABF⟩
 obtain ⟨R,hR⟩:∃ R,R=AV.agg (LQ A B F):=⟨_,rfl⟩
 have sR:Settled R:=hR▸Qo (Sx A B F)
 rw [← hR]
 have b0:=XR l 0 4 (by omega)
 have b1:=XR l 1 4 (by omega)
 have b2:=XR l 2 3 (by omega)
 have c0:=JC l 0 4 hl (by omega)
 have c1:=JC l 1 4 hl (by omega)
 have c2:=JC l 2 3 hl (by omega)
 refine Fr Tryz.call28 Tryz.func28 20 [] [37,380000013,380000017] [] ?_
 simp (disch:=omega) only [AS.start,X3,↓Xy,wG,seval]
 refine X0 c0 rfl ?_
 simp (disch:=omega) only [X3,hW,↓Xy,wG,seval]
 refine X0 c1 rfl ?_
 simp (disch:=omega) only [X3,hH,↓Xy,wG,seval]
 refine X0 c2 rfl ?_
 simp (disch:=omega) only [X3,hM,↓Xy,wG,seval]
 refine Xd (fun k:Nat=>⟨20,[],[X4 l,.any,.ref 0 0 0,I W,I H,I M,.osl 1 k 2 0 k,I k,.any,.any,.any,.any,.any,.any,.any,.any,.any,.any,.any,.any],[],[.row 0 79 (Xk (J8 ++ (J8 ++ KR))),.row k (k*2) (Xt Kx 2 (0,0) ((J1 l W H M).take k))]⟩) (fun k=>k≤M+1) (fun k=>M+1 - k) 0 (by omega)
  (Sub.trans (Jd 6 2 (Xt Kx 2 (0,0) []) rfl) (Xg rfl (by simp [AS.put,Xf,X3,I]) (by simp [AS.put,Xm]) (by simp [AS.put,J8,KR,Q5,I]))) ?_
 intro k hk next
 by_cases hk2:k<M+1
 ·have c3:=JC l (3+k:Nat) ((W:Int) - 1) hl (by omega)
  have b3:=XR l (3+k:Nat) ((W:Int) - 1) (by omega)
  have htk:(J1 l W H M).take (k+1)=(J1 l W H M).take k ++ [Xl l W H M k]:=by rw [QJ _ (0,0) k (by simp [J1]; omega),IB _ _ _ _ _ (by omega)]
  have nx:=next (k+1)
  rw [htk] at nx
  have hcl:((J1 l W H M).take k).length=k:=by simp [J1]; omega
  have hcp:Xl l W H M k=(1+Ab.atF l (3+k:Nat) ((W:Int) - 1),if k=M then (H:Int) else k):=rfl
  rw [hcp] at nx
  generalize Ab.atF l (3+k:Nat) ((W:Int) - 1)=x at *
  rw [Int.natCast_add] at c3
  change Fn _ _ [X4 l,I ((3:Int)+k),_] _ at c3
  generalize (J1 l W H M).take k=C at *
  by_cases he:k=M
  ·rw [if_pos he] at nx
   have hap:=QN Kx 2 (0,0) C (1+x,(H:Int)) (by omega)
   rw [hcl] at hap
   refine Xj ?_
   simp (disch:=omega) only [X3,↓Xy,wG,seval]
   refine X0 c3 rfl ?_
   simp (disch:=omega) only [X3,↓Xy,wG,seval]
   exact ⟨DY (1+x,(H:Int)),nx _ (by omega) (by omega) (Kq (by simp [Xf,X3,I]) (by rw [← hap]; simp [Kx,I]))⟩
  ·rw [if_neg he] at nx
   have hap:=QN Kx 2 (0,0) C (1+x,(k:Int)) (by omega)
   rw [hcl] at hap
   refine Xj ?_
   simp (disch:=omega) only [X3,↓Xy,wG,seval]
   refine X0 c3 rfl ?_
   simp (disch:=omega) only [X3,↓Xy,wG,seval]
   exact ⟨DY (1+x,(k:Int)),nx _ (by omega) (by omega) (Kq (by simp [Xf,X3,I]) (by rw [← hap]; simp [Kx,I]))⟩
 obtain rfl:k=M+1:=by omega
 have htk:(J1 l W H M).take (M+1)=J1 l W H M:=List.take_of_length_le (by simp [J1])
 rw [htk]
 have hCl:(J1 l W H M).length=M+1:=by simp [J1]
 have hq:∀ k,k≤M→Xt Kx 2 (0,0) (J1 l W H M) (k*2)=I (Xl l W H M k).1∧Xt Kx 2 (0,0) (J1 l W H M) (k*2+1)=I (Xl l W H M k).2:=fun k hk=>by
  rw [JT Kx 2 (0,0) (J1 l W H M) k (by omega),JD Kx 2 (0,0) (J1 l W H M) k 1 (by omega),IB _ _ _ _ _ hk]
  exact ⟨rfl,rfl⟩
 have q0:Xt Kx 2 (0,0) (J1 l W H M) 0=I (Xl l W H M 0).1:=(hq 0 (by omega)).1
 have q1:Xt Kx 2 (0,0) (J1 l W H M) 1=I (Xl l W H M 0).2:=(hq 0 (by omega)).2
 have hF:Xp l W H M=(0,0) :: J1 l W H M ++ [(0,(H:Int))]:=rfl
 have hfr:=aF (J1 l W H M) H
 rw [← hF,hCl] at hfr
 have hFl:(Xp l W H M).length=M+3:=by rw [hF]; simp [hCl]
 have hSl:(Xu l W H M).length=M+3:=by unfold Xu; rw [Dw]; omega
 have hcr:=Fi l W H M
 have n1:=Cg l W H M (by omega) (by omega) (by omega)
 have n2:=Dx l W H M (by omega) (by omega) (by omega)
 refine Xj ?_
 simp (disch:=omega) only [X3,q0,q1,↓Xy,wG,seval]
 refine ⟨fun j _=>jH _ _ _ _ _ (by omega) fun a=>⟨rfl,by simp [Kx,I,AV.one]⟩,DY (0,(H:Int)),?_⟩
 refine Xd (fun i:Nat=>match i with
  | 0=>ZT l W H M (.osl 2 1 2 0 (M+3)) (.sl 3 6 (Xk [I (Xl l W H M 0).1,I (Xl l W H M 0).2,I W,I 0,I W,I H]) true) (I M) .any .any .any .any .any .any [.row 1 ((M+3)*2) (Xt Kx 2 (0,0) (Xp l W H M))]
  | i+1=>ZT l W H M (.osl 2 1 2 0 (M+3)) (.osl 3 i 2 0 (4+i)) (I (M - (i+1):Nat)) .any .any .any .any .any .any [.row 1 ((M+3)*2) (Xt Kx 2 (0,0) (Xp l W H M)),.row i ((4+i)*2) (Xt Kx 2 (0,0) (Kl l W H M (i+1)))])
  (fun i=>i≤M) (fun i=>M - i) 0 (by omega)
  (Sub.trans (Jn 2 ((M+3)*2) (Xt Kx 2 (0,0) (Xp l W H M)) rfl (by omega) (fun j hj=>hfr j (by omega))) (Xg rfl (by simp [ZT,Xf,X3,I]; omega) (by simp [Xm,ZT]) (by simp [ZT,J8,KR,Q5,I]))) ?_
 intro i hi next
 match i,hi,next with
 | 0,hi,next =>
  have ho:=UQ (Xl l W H M 0) ((W:Int),0) ((W:Int),(H:Int)) (Xl l W H M M)
  have w1:=(hq M (by omega)).1
  have w2:=(hq M (by omega)).2
  refine Xj ?_
  simp (disch:=omega) only [ZT,X3,List.cons_append,List.nil_append,w1,w2,↓Xy,wG,seval]
  exact ⟨DY (Xl l W H M M),next 1 _ (by omega) (by omega) (Sub.trans (Jn 3 8 (Xt Kx 2 (0,0) (Kl l W H M 1)) rfl (by omega) (fun j hj=>ho j hj)) (Xg rfl (by simp [ZT,Xf,X3,I]; omega) (by simp [Xm,ZT]) (by simp [ZT])))⟩
 | i+1,hi,next =>
 by_cases hi2:i+1<M
 ·have w1:=(hq (M - (i+1)) (by omega)).1
  have w2:=(hq (M - (i+1)) (by omega)).2
  have hs:=ON l W H M (i+1)
  have hap:=QN Kx 2 (0,0) (Kl l W H M (i+1)) (Xl l W H M (M - (i+1))) (by omega)
  rw [Dw,show 3+(i+1)=4+i by omega] at hap
  refine Xj ?_
  simp (disch:=omega) only [ZT,X3,List.cons_append,List.nil_append,w1,w2,↓Xy,wG,seval]
  exact ⟨DY (Xl l W H M (M - (i+1))),next (i+2) _ (by omega) (by omega) (Xg rfl (by simp [ZT,Xf,X3,I]; omega) (by simp [Xm,ZT]) (by rw [← hs] at hap; simp [ZT,← hap,Kx,I,show 4+i+1=4+(i+1) by omega]))⟩
 obtain rfl:M=i+1:=by omega
 clear next
 have k1:=LG (Xp l W H (i+1)) n1 (by omega)
 have k2:=LG (Xu l W H (i+1)) (fun c hc=>by have:=n2 c hc; omega) (by omega)
 refine Xj ?_
 simp (disch:=omega) only [ZT,X3,List.cons_append,List.nil_append,↓Xy,wG,seval]
 refine Jz k1 rfl ⟨?_,trivial⟩ (ZN _) ?_
 ·show JH _ (.osl 2 1 2 0 (i+1+3)) (GB (Xp l W H (i+1)))
  rw [Xi,hFl]
  refine Jk (.inl rfl) (by omega) (fun h=>by omega) fun j hj=>?_
  rw [Nat.zero_add]
  exact (Xe (l:=Kx ((Xp l W H (i+1)).getD (j / 2) (0,0))) (KF _) _).sees _
 by_cases p1:XP (Xr (Xp l W H (i+1)))
 rotate_left
 ·have hr2:=hr (fun h=>p1 h.1)
  rcases hABF with ⟨h,_⟩ | ⟨_,rfl,rfl,rfl⟩
  ·exact absurd h.1 p1
  have a3:=JC l 3 ((W:Int) - 1) hl (by omega)
  have a4:=JC l 4 ((W:Int) - 1) hl (by omega)
  have a7:=JC l 7 4 hl (by omega)
  simp (disch:=omega) only [decide_eq_false p1,ZT,X3,List.cons_append,List.nil_append,↓Xy,wG,seval]
  refine X0 a3 rfl ?_
  simp (disch:=omega) only [ZT,X3,List.cons_append,List.nil_append,↓Xy,wG,seval]
  refine X0 a4 rfl ?_
  simp (disch:=omega) only [ZT,X3,List.cons_append,List.nil_append,↓Xy,wG,seval]
  refine X0 a7 rfl ?_
  simp (disch:=omega) only [ZT,X3,List.cons_append,List.nil_append,↓Xy,wG,seval]
  refine Qm hr2 ⟨Zk rfl rfl,trivial⟩ ?_
  simp (disch:=omega) only [LQ,Q0,Qr,J8,KR,Q5,X3,List.cons_append,List.nil_append,↓Xy,wG,seval]
  exact Ar rfl VV rfl rfl rfl sR (hR.trans rfl)
 simp (disch:=omega) only [decide_eq_true p1,ZT,X3,List.cons_append,List.nil_append,↓Xy,wG,seval]
 refine Jz k2 rfl ⟨?_,trivial⟩ (ZN _) ?_
 ·show JH _ (.osl 3 i 2 0 (4+i)) (GB (Xu l W H (i+1)))
  rw [Xi,hSl,show i+1+3=4+i by omega]
  refine Jk (.inl rfl) (by omega) (fun h=>by omega) fun j hj=>?_
  rw [Nat.zero_add]
  exact (Xe (l:=Kx ((Xu l W H (i+1)).getD (j / 2) (0,0))) (KF _) _).sees _
 by_cases p2:XP (Xr (Xu l W H (i+1)))
 rotate_left
 ·have hr2:=hr (fun h=>p2 h.2)
  rcases hABF with ⟨h,_⟩ | ⟨_,rfl,rfl,rfl⟩
  ·exact absurd h.2 p2
  have a3:=JC l 3 ((W:Int) - 1) hl (by omega)
  have a4:=JC l 4 ((W:Int) - 1) hl (by omega)
  have a7:=JC l 7 4 hl (by omega)
  simp (disch:=omega) only [decide_eq_false p2,ZT,X3,List.cons_append,List.nil_append,↓Xy,wG,seval]
  refine X0 a3 rfl ?_
  simp (disch:=omega) only [ZT,X3,List.cons_append,List.nil_append,↓Xy,wG,seval]
  refine X0 a4 rfl ?_
  simp (disch:=omega) only [ZT,X3,List.cons_append,List.nil_append,↓Xy,wG,seval]
  refine X0 a7 rfl ?_
  simp (disch:=omega) only [ZT,X3,List.cons_append,List.nil_append,↓Xy,wG,seval]
  refine Qm hr2 ⟨Zk rfl rfl,trivial⟩ ?_
  simp (disch:=omega) only [LQ,Q0,Qr,J8,KR,Q5,X3,List.cons_append,List.nil_append,↓Xy,wG,seval]
  exact Ar rfl VV rfl rfl rfl sR (hR.trans rfl)
 clear hr
 rcases hABF with ⟨_,rfl,rfl,rfl⟩ | ⟨h,_⟩
 rotate_left
 ·exact absurd ⟨p1,p2⟩ h
 have a7:=JC l 7 4 hl (by omega)
 have a8:=JC l 8 9 hl (by omega)
 have a9:=JC l 9 9 hl (by omega)
 have b7:=XR l 7 4 (by omega)
 have b8:=XR l 8 9 (by omega)
 have b9:=XR l 9 9 (by omega)
 have e7:Ab.atF l 7 4=(Do l:Int):=by unfold Do; omega
 have hD:CJ l=(Ab.atF l 8 9 - 4,Ab.atF l 9 9 - 4):=rfl
 simp (disch:=omega) only [decide_eq_true p2,ZT,X3,List.cons_append,List.nil_append,↓Xy,wG,seval]
 refine X0 a7 rfl ?_
 simp (disch:=omega) only [e7,ZT,X3,List.cons_append,List.nil_append,↓Xy,wG,seval]
 refine X0 a8 rfl ?_
 simp (disch:=omega) only [ZT,X3,List.cons_append,List.nil_append,↓Xy,wG,seval]
 refine X0 a9 rfl ?_
 simp (disch:=omega) only [ZT,X3,List.cons_append,List.nil_append,↓Xy,wG,seval]
 have hSN:Kl l W H (i+1) (i+1)=Xu l W H (i+1):=rfl
 rw [← hSN] at hSl n2
 have hST:XE l W H (i+1)=(Kl l W H (i+1) (i+1)).map (P4 (Do l) (CJ l)):=rfl
 have n3:=DF l W H (i+1) (by omega) (by omega) (by omega)
 have hTl:(XE l W H (i+1)).length=4+i:=by rw [hST,List.length_map,hSl]; omega
 have q4:Do l≤3:=by omega
 generalize Kl l W H (i+1) (i+1)=S at *
 have bD:(-4≤(CJ l).1∧(CJ l).1≤4)∧-4≤(CJ l).2∧(CJ l).2≤4:=by rw [hD]; omega
 have hAt:Qw l=v0.sub (ZE (Ji l) (Qe (CJ l))):=rfl
 have hT:Ji l=XZ ((4 - Do l) % 4) Qq:=rfl
 have hPF:Jo l (i+1)=⟨0,1,1,(i+1+2:Nat),(i+1:Nat),Ji l,Qw l,Qw l⟩:=rfl
 have hps:=L6 l
 rw [hPF] at hR
 have m1:=VY (Xp l W H (i+1)) l 10 (by omega) hl (by omega)
 have m2:=VY (XE l W H (i+1)) l 20 (by omega) hl (by omega)
 generalize Kp (Xp l W H (i+1)) l 10=A at *
 generalize Kp (XE l W H (i+1)) l 20=B at *
 generalize Xp l W H (i+1)=FL at *
 generalize Qw l=at' at *
 generalize CJ l=D at *
 obtain ⟨D1,D2⟩:=D
 rw [Prod.mk.injEq] at hD
 obtain ⟨rfl,rfl⟩:=hD
 generalize Do l=q at *
 generalize Ji l=T at *
 generalize Ab.atF l 8 9 - 4=D1 at *
 generalize Ab.atF l 9 9 - 4=D2 at *
 simp only at bD
 generalize hg:P4 q (D1,D2)=g at *
 refine Xd (fun k:Nat=>ZT l W H (i+1) (.osl 2 1 2 0 (i+1+3)) (.osl 3 i 2 0 (4+i)) .any (I q) (.ref 4 0 0) (I k) .any .any .any [.row 1 ((i+1+3)*2) (Xt Kx 2 (0,0) FL),.row i ((4+i)*2) (Xt Kx 2 (0,0) (FC g S k)),.row 0 2 (Xk [I D1,I D2])])
  (fun k=>k≤4+i) (fun k=>4+i - k) 0 (by omega)
  (Xg rfl (by simp [ZT,Xf,X3,I]) (by simp [Xm,ZT]) (by simp [ZT,FC,I])) ?_
 intro k hk next
 by_cases hk2:k<4+i
 ·have hp:=n2 (S.getD k (0,0)) (Ju (by omega))
  have hb:=G0 (S.getD k (0,0)) 7 (by omega) (by omega) q
  have c:=cZ (S.getD k (0,0)) q (by omega) (by omega) (by omega)
  have u0:Xt Kx 2 (0,0) (FC g S k) (k*2)=I (S.getD k (0,0)).1:=by rw [JT _ _ _ _ _ (by omega),W0 g S k (by omega)]; rfl
  have u1:Xt Kx 2 (0,0) (FC g S k) (k*2+1)=I (S.getD k (0,0)).2:=by rw [JD _ _ _ _ _ _ (by omega),W0 g S k (by omega)]; rfl
  have hs:=vY (FC g S k) k (g (S.getD k (0,0))) (by rw [iD g S k (by omega)]; omega)
  rw [iE g S k (by omega)] at hs
  have hgk:g (S.getD k (0,0))=((KG q (S.getD k (0,0))).1+D1,(KG q (S.getD k (0,0))).2+D2):=by rw [← hg]; rfl
  rw [hgk] at hs
  generalize S.getD k (0,0)=p at *
  generalize KG q p=w at *
  refine Xj ?_
  simp (disch:=omega) only [ZT,X3,Kx,List.cons_append,List.nil_append,u0,u1,↓Xy,wG,seval]
  refine X0 c rfl ?_
  simp (disch:=omega) only [ZT,X3,Kx,List.cons_append,List.nil_append,↓Xy,wG,seval]
  exact next (k+1) _ (by omega) (by omega) (XD (m:=5) (Nat.zero_le _) rfl (by simp [ZT,Xf,X3,I]) (by simp [Xm,ZT]) (by simp [ZT,← hs,Kx,I]) (by simp [ZT,XA]) (by simp [ZT,XA]) (by simp [ZT,uQ,wU,XA]))
 obtain rfl:k=4+i:=by omega
 have hm:FC g S (4+i)=XE l W H (i+1):=by
  rw [hST]; unfold FC; rw [List.take_of_length_le (by omega),List.drop_eq_nil_of_le (by omega),List.append_nil]
 rw [hm]
 clear next
 generalize XE l W H (i+1)=ST at *
 refine Run.sub (s':=ZT l W H (i+1) (GB FL) (GB ST) .any (I q) (.ref 4 0 0) (I (4+i:Nat)) .any .any .any [.con 1 ((i+1+3)*2) (Xt Kx 2 (0,0) FL),.con i ((4+i)*2) (Xt Kx 2 (0,0) ST),.row 0 2 (Xk [I D1,I D2])]) ?_
  (Sub.trans (Qk 2 rfl) (Sub.trans (LC 9 (M:=(i+1+3)*2) rfl rfl (by omega) (fun h=>by omega)) (Sub.trans (Qk 3 rfl) (Sub.trans (LC 10 (M:=(4+i)*2) rfl rfl (by omega) (fun h=>by omega)) (Xg rfl (by simp [AS.put,ZT,Xf,Xi,X3,hFl,hTl,I]) (by simp [AS.put,Xm,ZT]) (by simp [AS.put,ZT]))))))
 have o1:=Zv 1 1 ⟨by omega,by omega⟩ ⟨by omega,by omega⟩
 have v1:Rat.divInt 1 1=1:=by decide +kernel
 rw [v1] at o1
 have hrem:((4:Int) - q).tmod 4=((4 - q) % 4:Nat):=by rw [Int.tmod_eq_emod_of_nonneg (by omega)]; omega
 refine Xj ?_
 simp (disch:=omega) only [ZT,X3,List.cons_append,List.nil_append,↓Xy,wG,seval]
 refine X0 m1 rfl ?_
 simp (disch:=omega) only [ZT,X3,List.cons_append,List.nil_append,↓Xy,wG,seval]
 refine X0 m2 rfl ?_
 simp (disch:=omega) only [ZT,X3,Kh,Q0,J8,KR,Q5,List.cons_append,List.nil_append,↓Xy,wG,seval]
 refine X0 o1 rfl ?_
 simp (disch:=omega) only [X3,Xi,↓Xy,wG,seval]
 have wst:WeakL [.bool (sg 1),X4 (X8 (Rat.num 1).natAbs),.bool false,X4 (X8 (qd 1)),.bool false,.sl 0 0 (fun _=>.any) false,.bool false,.sl 0 0 (fun _=>.any) false] (vC Qq):=by
  obtain ⟨w1,w2,w3,w4,w5,w6,w7,w8,_⟩:=CC
  exact ⟨Weak.rfl' _,Weak.rfl' _,Weak.rfl' _,Weak.rfl' _,w5,w6,w7,w8,trivial⟩
 refine Xd (fun j:Nat=>ZT l W H (i+1) .any .any .any (I q) (.ref 4 0 0) .any (.ref 5 0 0) (.ref 6 0 0) (I j) [.con 1 ((i+1+3)*2) (Xt Kx 2 (0,0) FL),.con i ((4+i)*2) (Xt Kx 2 (0,0) ST),.row 0 2 (Xk [I D1,I D2]),.row 0 79 (Xk (Q0 A ++ (Q0 B ++ P2))),.row 0 8 (Xk (vC (XZ j Qq)))])
  (fun j=>j≤(4 - q) % 4) (fun j=>(4 - q) % 4 - j) 0 (by omega)
  (Sub.trans (LB 6 (vC Qq) rfl rfl wst) (Xg rfl (by simp [ZT,Xf,X3,I]) (by simp [Xm,ZT]) (by simp [ZT,J8,KR,Q5,P2,ZG,Q0,Xi,Xz,X3,XZ,I]))) ?_
 intro j hj next
 have hvq:vb (XZ j Qq)≤10:=by rw [GO]; exact G5
 have hqs:XZ (j+1) Qq=QW (XZ j Qq):=rfl
 by_cases hj2:j<(4 - q) % 4
 ·have nx:=next (j+1)
  rw [hqs] at nx
  generalize XZ j Qq=V at *
  have q1:=QG V
  have c:=EW V.y (by unfold rm; omega)
  refine Xj ?_
  simp (disch:=omega) only [ZT,X3,vC,hrem,List.cons_append,List.nil_append,↓Xy,wG,seval]
  refine X0 c rfl ?_
  simp (disch:=omega) only [X3,↓Xy,wG,seval]
  have hV:vC (QW V)=[.bool (sg (-V.y)),X4 (X8 (-V.y).num.natAbs),.bool false,X4 (X8 (qd (-V.y))),.bool (sg V.x),X4 (X8 V.x.num.natAbs),.bool false,X4 (X8 (qd V.x))]:=rfl
  exact nx _ (by omega) (by omega) (Xg rfl (by simp [ZT,Xf,X3,I]) (by simp [Xm,ZT]) (by simp [ZT,J8,KR,Q5,P2,ZG,Q0,Xi,Xz,X3,hV,I]))
 obtain rfl:j=(4 - q) % 4:=by omega
 rw [← hT] at hvq ⊢
 clear next
 have c1:=GC D1 D2 ⟨by omega,by omega⟩ ⟨by omega,by omega⟩
 have hpv:(⟨(D1:Rat),(D2:Rat)⟩:V2)=Qe (D1,D2):=rfl
 rw [hpv] at c1
 have vq:vb (Qe (D1,D2))≤3:=by
  have q1:=Za D1 3 (by omega) (QR ⟨by omega,by omega⟩)
  have q2:=Za D2 3 (by omega) (QR ⟨by omega,by omega⟩)
  unfold vb Qe
  simp only
  omega
 have c2:=Mk T (Qe (D1,D2)) (by unfold vm; omega) (by unfold vm; omega)
 have vr:=F5 T (Qe (D1,D2))
 have vz:=G6
 have c3:=ZS v0 (ZE T (Qe (D1,D2))) (by unfold rm; omega) (by unfold rm; omega)
 rw [← hAt] at c3
 refine Xj ?_
 simp (disch:=omega) only [ZT,X3,vC,hrem,List.cons_append,List.nil_append,↓Xy,wG,seval]
 refine X0 c1 rfl ?_
 simp (disch:=omega) only [X3,vA,vC,↓Xy,wG,seval]
 refine X0 c2 rfl ?_
 simp (disch:=omega) only [X3,vA,vC,↓Xy,wG,seval]
 refine Qm c3 ⟨QY (LI _),Weak.rfl' _,trivial⟩ ?_
 simp (disch:=omega) only [X3,vA,vC,Q0,P2,ZG,J8,KR,Q5,List.cons_append,List.nil_append,↓Xy,wG,seval]
 exact Ar rfl VV rfl rfl rfl sR (hR.trans rfl)
theorem TD (k m:Int) (h:0≤k∧k<m):Zn k m=k:=by
 unfold Zn
 rw [if_neg (by omega),Int.tmod_eq_emod_of_nonneg h.1,Int.emod_eq_of_lt h.1 h.2]
theorem Fe (L:List Int) (j:Nat) (m:Int) (h:j<L.length) (hb:0≤L.getD j 0∧L.getD j 0<m):Ab.atF L (j:Nat) m=L.getD j 0:=by
 unfold Ab.atF
 rw [if_neg (by omega),Int.toNat_natCast,TD _ _ hb]
theorem rL (l:List Int) (W H:Nat) (hW:4≤W∧W≤7) (hH:3≤H∧H≤6):GV (Hy l W H):=fun x hx=>by
 have b3:=XR l 3 ((W:Int) - 1) (by omega)
 have b4:=XR l 4 ((W:Int) - 1) (by omega)
 have b7:=XR l 7 4 (by omega)
 simp only [Hy,List.mem_cons,List.not_mem_nil,or_false] at hx
 rcases hx with rfl | rfl | rfl | rfl | rfl | rfl | rfl | rfl <;> exact ⟨by omega,by omega⟩
theorem jb (l:List Int) (hl:GV l):∃ (L:List Int) (W H M:Nat),GV L∧(4≤W∧W≤7)∧(3≤H∧H≤6)∧(1≤M∧M≤3)∧XP (Xr (Xp L W H M))∧XP (Xr (Xu L W H M)) ∧
  Fn Tryz.prog 28 [X4 l] (.agg (LQ (Kp (Xp L W H M) L 10) (Kp (XE L W H M) L 20) (Jo L M))):=by
 have b0:=XR l 0 4 (by omega)
 have b1:=XR l 1 4 (by omega)
 have b2:=XR l 2 3 (by omega)
 obtain ⟨W,hW⟩:∃ W:Nat,(4:Int)+Ab.atF l 0 4=W:=⟨(4+Ab.atF l 0 4).toNat,by omega⟩
 obtain ⟨H,hH⟩:∃ H:Nat,(3:Int)+Ab.atF l 1 4=H:=⟨(3+Ab.atF l 1 4).toNat,by omega⟩
 obtain ⟨M,hM⟩:∃ M:Nat,(1:Int)+Ab.atF l 2 3=M:=⟨(1+Ab.atF l 2 3).toNat,by omega⟩
 by_cases hv:XP (Xr (Xp l W H M))∧XP (Xr (Xu l W H M))
 ·obtain ⟨A,B,F,hf,h⟩:=L5 l hl W H M hW hH hM (Kp [] [] 0) (Kp [] [] 0) BO (fun h=>absurd hv h)
  rcases h with ⟨_,rfl,rfl,rfl⟩ | ⟨h,_⟩
  ·exact ⟨l,W,H,M,hl,by omega,by omega,by omega,hv.1,hv.2,hf⟩
  ·exact absurd hv h
 have b3:=XR l 3 ((W:Int) - 1) (by omega)
 have b4:=XR l 4 ((W:Int) - 1) (by omega)
 have b7:=XR l 7 4 (by omega)
 have hl2:=rL l W H (by omega) (by omega)
 have a0:Ab.atF (Hy l W H) 0 4=(W:Int) - 4:=Fe _ 0 _ (by simp [Hy]) (by show 0≤(W:Int) - 4∧(W:Int) - 4<4; omega)
 have a1:Ab.atF (Hy l W H) 1 4=(H:Int) - 3:=Fe _ 1 _ (by simp [Hy]) (by show 0≤(H:Int) - 3∧(H:Int) - 3<4; omega)
 have a2:Ab.atF (Hy l W H) 2 3=0:=Fe _ 2 _ (by simp [Hy]) (by show 0≤(0:Int)∧(0:Int)<3; omega)
 have a3:Ab.atF (Hy l W H) 3 ((W:Int) - 1)=Ab.atF l 3 ((W:Int) - 1):=Fe _ 3 _ (by simp [Hy]) b3
 have a4:Ab.atF (Hy l W H) 4 ((W:Int) - 1)=Ab.atF l 4 ((W:Int) - 1):=Fe _ 4 _ (by simp [Hy]) b4
 have c0:Xl (Hy l W H) W H 1 0=(1+Ab.atF l 3 ((W:Int) - 1),0):=by
  unfold Xl; rw [if_neg (by omega)]; exact congrArg (fun z:Int=>((1:Int)+z,(0:Int))) a3
 have c1:Xl (Hy l W H) W H 1 1=(1+Ab.atF l 4 ((W:Int) - 1),(H:Int)):=by
  unfold Xl; rw [if_pos rfl]; exact congrArg (fun z:Int=>((1:Int)+z,(H:Int))) a4
 have p1:XP (Xr (Xp (Hy l W H) W H 1)):=by
  have e:Xp (Hy l W H) W H 1=jo (1+Ab.atF l 3 ((W:Int) - 1)) (1+Ab.atF l 4 ((W:Int) - 1)) H:=by
   show (0,0) :: [Xl (Hy l W H) W H 1 0,Xl (Hy l W H) W H 1 1] ++ [(0,(H:Int))]=_
   rw [c0,c1]; rfl
  rw [e]
  exact jp _ _ _ (by omega) (by omega) (by omega)
 have p2:XP (Xr (Xu (Hy l W H) W H 1)):=by
  have e:Xu (Hy l W H) W H 1=jq W (1+Ab.atF l 3 ((W:Int) - 1)) (1+Ab.atF l 4 ((W:Int) - 1)) H:=by
   show [Xl (Hy l W H) W H 1 0,((W:Int),0),((W:Int),(H:Int))] ++ [Xl (Hy l W H) W H 1 1]=_
   rw [c0,c1]; rfl
  rw [e]
  exact jr _ _ _ _ (by omega) (by omega) (by omega) (by omega)
 obtain ⟨A,B,F,hf,h⟩:=L5 (Hy l W H) hl2 W H 1 (by rw [a0]; omega) (by rw [a1]; omega) (by rw [a2]; rfl) (Kp [] [] 0) (Kp [] [] 0) BO (fun h=>absurd ⟨p1,p2⟩ h)
 rcases h with ⟨_,rfl,rfl,rfl⟩ | ⟨h,_⟩
 rotate_left
 ·exact absurd ⟨p1,p2⟩ h
 obtain ⟨A,B,F,hf2,h⟩:=L5 l hl W H M hW hH hM _ _ _ (fun _=>hf)
 rcases h with ⟨h,_⟩ | ⟨_,rfl,rfl,rfl⟩
 ·exact absurd h hv
 ·exact ⟨Hy l W H,W,H,1,hl2,by omega,by omega,by omega,p1,p2,hf2⟩
def TQ (t u:V2):Int:=if J3 t.x u.x≠0 then J3 t.x u.x else J3 t.y u.y
theorem fP (t u:V2):TQ t u<0↔ZK t u:=by
 have h1:=A1 t.x u.x; have h2:=A1 t.y u.y
 have h3:=jm t.x u.x
 unfold TQ ZK
 by_cases h:J3 t.x u.x=0
 ·rw [if_neg (by simp [h])]
  have e:=h3.1 h
  rw [h2]
  constructor
  ·intro hh; exact .inr ⟨e,hh⟩
  ·rintro (hh | hh)
   ·rw [e] at hh; exact absurd hh (Rat.lt_irrefl)
   ·exact hh.2
 ·rw [if_pos h,h1]
  constructor
  ·intro hh; exact .inl hh
  ·rintro (hh | hh)
   ·exact hh
   ·exact absurd (h3.2 hh.1) h
theorem vW (a b:Int):Fn Tryz.prog 200 [.sl 2 2 (Xk [I a,I b]) false] (I (if a≠0 then a else b)):=by
 refine Fn.intro (fn:=Tryz.f200) Tryz.call200 Tryz.func200 rfl mixed 6 [6,7,8] [] [] (by kernel_rfl) (Nat.le_of_ble_eq_true rfl) (by
  intro x hx
  rw [List.mem_singleton.1 hx]
  exact QX fun j hj=>Xe (l:=[I a,I b]) (by simp [X9]) _) (Xj ?_)
 simp (disch:=omega) only [AS.start,↓Xy,wG,seval]
 refine GJ ?_
 refine Xj ?_
 by_cases h:a=0
 rotate_left
 ·simp (disch:=omega) only [eq_false h,Int.reduceAdd,↓Xy,wG,seval]
  exact Xv (v:=I a) rfl rfl (X9 _) (by rw [if_pos h])
 simp (disch:=omega) only [eq_true h,Int.reduceAdd,↓Xy,wG,seval]
 refine EY ?_
 refine Xj ?_
 by_cases h2:b=0
 rotate_left
 ·simp (disch:=omega) only [eq_false h2,Int.reduceAdd,↓Xy,wG,seval]
  exact Xv (v:=I b) rfl rfl (X9 _) (by rw [if_neg (by simp [h])])
 simp (disch:=omega) only [eq_true h2,Int.reduceAdd,↓Xy,wG,seval]
 refine EY ?_
 refine Xj ?_
 simp (disch:=omega) only [Int.reduceAdd,↓Xy,wG,seval]
 exact Xv (v:=I 0) rfl rfl (X9 _) (by rw [if_neg (by simp [h]),h2])
theorem R4 (t u:V2) (ht:vb t≤vm) (hu:vb u≤vm):Fn Tryz.prog 135 [vA t,vA u] (I (TQ t u)):=by
 have q1:=QM t; have q2:=QG t; have q3:=QM u; have q4:=QG u
 have c1:=QD t.x u.x (by unfold rm; unfold vm at *; omega) (by unfold rm; unfold vm at *; omega)
 have c2:=QD t.y u.y (by unfold rm; unfold vm at *; omega) (by unfold rm; unfold vm at *; omega)
 have c3:=vW (J3 t.x u.x) (J3 t.y u.y)
 have hc:TQ t u=if J3 t.x u.x≠0 then J3 t.x u.x else J3 t.y u.y:=rfl
 rw [← hc] at c3
 generalize TQ t u=R at *
 refine Fr Tryz.call135 Tryz.func135 5 [] [1,20000002,20000003] [] ?_
 simp (disch:=omega) only [AS.start,vA,vC,↓Xy,wG,seval]
 refine X0 c1 rfl ?_
 simp (disch:=omega) only [↓Xy,wG,seval]
 refine X0 c2 rfl ?_
 simp (disch:=omega) only [↓Xy,wG,seval]
 refine X0 c3 rfl ?_
 simp (disch:=omega) only [↓Xy,wG,seval]
 exact Xv rfl rfl (X9 _) rfl
def cR (L:List V2) (j:Nat):List V2:=(L.set (j+1) (L.getD j v0)).set j (L.getD (j+1) v0)
def Ba:List V2→Nat→List V2
 | L,0=>L
 | L,j+1=>if ZK (L.getD (j+1) v0) (L.getD j v0) then Ba (cR L j) j else L
def As (L:List V2):Nat→List V2
 | 0=>L
 | k+1=>Ba (As L k) (k+1)
theorem OU (L:List V2) (j:Nat):(cR L j).length=L.length:=by simp [cR]
theorem Rp:∀ (j:Nat) (L:List V2),(Ba L j).length=L.length
 | 0,_=>rfl
 | j+1,L=>by
  unfold Ba
  split
  ·rw [Rp j,OU]
  ·rfl
theorem B7 (L:List V2):∀ k,(As L k).length=L.length
 | 0=>rfl
 | k+1=>by show (Ba (As L k) (k+1)).length=_; rw [Rp,B7 L k]
theorem WD {L:List V2} {j:Nat} (h:j+1<L.length) (x:V2) (hx:x∈cR L j):x∈L:=by
 unfold cR at hx
 rcases List.mem_or_eq_of_mem_set hx with hx | rfl
 ·rcases List.mem_or_eq_of_mem_set hx with hx | rfl
  ·exact hx
  ·exact Ju (by omega)
 ·exact Ju h
theorem Rq:∀ (j:Nat) (L:List V2),j<L.length→∀ x∈Ba L j,x∈L
 | 0,_,_,x,h=>h
 | j+1,L,hj,x,h=>by
  unfold Ba at h
  split at h
  ·exact WD hj x (Rq j (cR L j) (by rw [OU]; omega) x h)
  ·exact h
theorem Lw (L:List V2):∀ k,k<L.length→∀ x∈As L k,x∈L
 | 0,_,x,h=>h
 | k+1,hk,x,h=>Lw L k (by omega) x (Rq (k+1) (As L k) (by rw [B7]; exact hk) x h)
theorem un (l:List V2) (k:Nat) (x:V2) (hk:k<l.length):HH (Xt vC 8 v0 l) (k*8) (vC x)=Xt vC 8 v0 (l.set k x):=by
 funext j
 rw [SP]
 have e:(l.set k x).getD k v0=x:=by rw [List.getD_eq_getElem?_getD,List.getElem?_set_self hk]; rfl
 have hl:(vC x).length=8:=rfl
 unfold Xt
 by_cases h:k*8≤j∧j<k*8+(vC x).length
 ·rw [if_pos h]
  rw [hl] at h
  rw [show j / 8=k by omega,e,show j % 8=j - k*8 by omega]
 ·rw [if_neg h]
  rw [hl] at h
  have:(l.set k x).getD (j / 8) v0=l.getD (j / 8) v0:=by rw [List.getD_eq_getElem?_getD,List.getElem?_set_ne (by omega),List.getD_eq_getElem?_getD]
  rw [this]
theorem qg {P:Program} {fn:Func} {str hcs:List Nat} {b:Nat} {H:List AO} {s:AS} (hr:fn.results=#[]) (hH:s.h=H):RetE (Gn P fn str hcs b (.tup []) H) s :=
 ⟨.tup [],by show KQ P fn s=_; simp [KQ,hr,J6,ZD],rfl,hH⟩
theorem aS (o0 o1 o2 o3 o4 o5 o6 o7:AO) (v:Nat) (L:List V2) (hL:∀ x∈L,vb x≤vm) (hn:L.length<1000) :
  HCall Tryz.prog 233 [.osl 8 v 8 0 L.length,I 0,I L.length,.fn 135 []] [o0,o1,o2,o3,o4,o5,o6,o7,.row v (L.length*8) (Xt vC 8 v0 L)] (.tup []) [o0,o1,o2,o3,o4,o5,o6,o7,.row v (L.length*8) (Xt vC 8 v0 (As L (L.length - 1)))]:=by
 refine HCall.intro (fn:=Tryz.f233) Tryz.call233 Tryz.func233 rfl mixed 10 [] [4,5008,5013,6,7009,7013] [] (by kernel_rfl) (Nat.le_of_ble_eq_true rfl) (Xj ?_)
 simp (disch:=omega) only [AS.start,↓Xy,wG,seval]
 refine Xd (fun k:Nat=>⟨10,[],[.osl 8 v 8 0 L.length,I 0,I L.length,.fn 135 [],.any,.any,.any,.any,I (k+1:Nat),.any],[],[o0,o1,o2,o3,o4,o5,o6,o7,.row v (L.length*8) (Xt vC 8 v0 (As L k))]⟩) (fun k=>k≤L.length - 1) (fun k=>L.length - k) 0 (by omega)
  (Kq (by simp [Xf,I]) rfl) ?_
 intro k hk next
 by_cases hk2:k+1<L.length
 rotate_left
 ·obtain rfl:k=L.length - 1:=by omega
  refine Xj ?_
  simp (disch:=omega) only [↓Xy,wG,seval]
  exact qg rfl rfl
 have hml:=Lw L k (by omega)
 have hll:=B7 L k
 have nx:=next (k+1)
 rw [show As L (k+1)=Ba (As L k) (k+1) from rfl] at nx
 generalize As L k=M at *
 refine Xj ?_
 simp (disch:=omega) only [↓Xy,wG,seval]
 refine Xd (fun p:Nat×List V2=>⟨10,[],[.osl 8 v 8 0 L.length,I 0,I L.length,.fn 135 [],.any,.any,.any,.any,I (k+1:Nat),I p.1],[],[o0,o1,o2,o3,o4,o5,o6,o7,.row v (L.length*8) (Xt vC 8 v0 p.2)]⟩) (fun p=>p.1≤k+1∧p.2.length=L.length∧(∀ x∈p.2,vb x≤vm)∧Ba p.2 p.1=Ba M (k+1)) (fun p=>p.1) (k+1,M) ⟨by simp,hll,fun x hx=>hL x (hml x hx),rfl⟩
  (Kq (by simp [Xf,I]) rfl) ?_
 rintro ⟨j,C⟩ ⟨h1,h2,h3,h4⟩ nextj
 replace h1:j≤k+1:=h1
 replace h2:C.length=L.length:=h2
 replace h3:∀ x∈C,vb x≤vm:=h3
 replace h4:Ba C j=Ba M (k+1):=h4
 match j,h1,h4,nextj with
 | 0,h1,h4,nextj =>
  refine Xj ?_
  simp (disch:=omega) only [↓Xy,wG,seval]
  have h5:C=Ba M (k+1):=h4
  rw [← h5] at nx
  exact nx _ (by omega) (by omega) (Kq (by simp [Xf,I]) rfl)
 | j+1,h1,h4,nextj =>
  have c:=R4 (C.getD (j+1) v0) (C.getD j v0) (h3 _ (Ju (by omega))) (h3 _ (Ju (by omega)))
  have a1:=JD vC 8 v0 C (j+1)
  have a2:=JT vC 8 v0 C (j+1) (by omega)
  have b1:=JD vC 8 v0 C j
  have b2:=JT vC 8 v0 C j (by omega)
  have hj1:(((j+1:Nat):Int) - 1).toNat=j:=by omega
  have hneg:=fP (C.getD (j+1) v0) (C.getD j v0)
  by_cases hb:ZK (C.getD (j+1) v0) (C.getD j v0)
  rotate_left
  ·have hlt:=mt hneg.1 hb
   have h5:C=Ba M (k+1):=by rw [← h4]; unfold Ba; rw [if_neg hb]
   rw [← h5] at nx
   clear h4 h5 hb hneg nextj
   generalize C.getD (j+1) v0=x at *
   generalize C.getD j v0=y at *
   generalize TQ x y=d at *
   refine Xj ?_
   simp (disch:=omega) only [hj1,a1,a2,b1,b2,vC,↓Xy,wG,seval]
   refine X0 c rfl ?_
   simp (disch:=omega) only [eq_false hlt,↓Xy,wG,seval]
   exact nx _ (by omega) (by omega) (Kq (by simp [Xf,I]) rfl)
  have hlt:=hneg.2 hb
  have e1:=un C (j+1) (C.getD j v0) (by omega)
  have e2:=un (C.set (j+1) (C.getD j v0)) j (C.getD (j+1) v0) (by rw [List.length_set]; omega)
  have hsw:(C.set (j+1) (C.getD j v0)).set j (C.getD (j+1) v0)=cR C j:=rfl
  rw [hsw,← e1] at e2
  have h5:Ba (cR C j) j=Ba M (k+1):=by rw [← h4]; exact (if_pos hb).symm
  have nx2:=nextj (j,cR C j)
  have h6:∀ x∈cR C j,vb x≤vm:=fun x hx=>h3 x (WD (by omega) x hx)
  have h7:=OU C j
  generalize cR C j=D at *
  clear h4 hb hneg nextj hsw e1
  generalize C.getD (j+1) v0=x at *
  generalize C.getD j v0=y at *
  generalize TQ x y=d at *
  refine Xj ?_
  simp (disch:=omega) only [hj1,a1,a2,b1,b2,vC,↓Xy,wG,seval]
  refine X0 c rfl ?_
  simp (disch:=omega) only [hj1,a1,a2,b1,b2,vC,eq_true hlt,↓Xy,wG,seval]
  exact nx2 _ ⟨by show j≤k+1; omega,by show D.length=_; omega,h6,h5⟩ (by show j<j+1; omega) (Kq (by simp [Xf,I]) (by rw [← e2]; rfl))
end
end Go.Ab.N
namespace Go.Ab.N
open Go Go.RowKit Go.Proofs
open Go.Shelf
noncomputable section
set_option maxRecDepth 10000
set_option maxHeartbeats 4000000
open Classical
def xJ:Go.Shelf.Ren:=⟨fun k=>if k=125 then 199 else if k=128 then 241 else 242,fun t=>if t=46 then 187 else if t=51 then 218 else if t=53 then 197 else t,fun x=>x⟩
theorem vJ:Lays.n125 Tryz.prog xJ where
 mixed:=mixed
 f125:=Tryz.func199.trans (congrArg some rfl)
 f128:=Tryz.func241.trans (congrArg some rfl)
 f129:=Tryz.func242.trans (congrArg some rfl)
 t3:=Tryz.underlying3
 a3:=Tryz.isAgg3
 z3:=Tryz.sizeOf3
 v3:=Tryz.zeroValue3
 t4:=Tryz.underlying4
 a4:=Tryz.isAgg4
 z4:=Tryz.sizeOf4
 v4:=Tryz.zeroValue4
 t5:=Tryz.underlying5
 a5:=Tryz.isAgg5
 z5:=Tryz.sizeOf5
 v5:=Tryz.zeroValue5
 t9:=Tryz.underlying9
 a9:=Tryz.isAgg9
 z9:=Tryz.sizeOf9
 v9:=Tryz.zeroValue9
 t46:=Tryz.underlying187
 a46:=Tryz.isAgg187
 z46:=Tryz.sizeOf187
 v46:=Tryz.zeroValue187
 t51:=Tryz.underlying218
 a51:=Tryz.isAgg218
 z51:=Tryz.sizeOf218
 v51:=Tryz.zeroValue218
 t53:=Tryz.underlying197
 a53:=Tryz.isAgg197
 z53:=Tryz.sizeOf197
 v53:=Tryz.zeroValue197
theorem s9 (n:Nat) (h:n<1000000):Fn Tryz.prog 199 [.int .u64 n] (I (Lib.bitLen n)):=by
 refine ⟨⟨Tryz.call199,?_⟩,fun a ha=>by rw [List.mem_singleton.1 ha]; exact Jl _ _⟩
 rintro w S vs hS ⟨hv1,hv2⟩
 have hx:=hv2 0 (by simp)
 have h3:vs.size=1:=hv1
 have e1:vs=#[vs.getD 0 undef]:=by
  apply Array.ext
  ·simp [h3]
  ·intro j g1 g2
   match j,g1 with
   | 0,_=>simp [Array.getD,h3]
   | j+1,g=>omega
 rw [e1]
 generalize vs.getD 0 undef=x at *
 replace hx:Rep (.bare w S) x (.int .u64 n):=hx
 cases hx
 have key:=Any.bits_Len vJ (n:Int) w (by omega) (by omega)
 refine key.mono ?_
 rintro e w' ⟨rfl,rfl⟩
 rw [Int.toNat_natCast]
 exact ⟨_,S,rfl,.int _ _,hS,Ext.refl _⟩
theorem tR {P:Program} {fn:Func} {str hcs:List Nat} {b:Nat} {H:List AO} {s:AS} (hr:fn.results=#[]) (hH:s.h=H):RetOk (Gn P fn str hcs b (.tup []) H) s :=
 ⟨.tup [],by show KQ P fn s=_; simp [KQ,hr,J6,ZD],rfl,hH⟩
theorem wq {o0 o1 o2 o3 o4 o5 o6 o7 o8:AO} (h:∀ o∈[o0,o1,o2,o3,o4,o5,o6,o7],o≠.unborn) (h5:o8≠.unborn) (id:Nat):[o0,o1,o2,o3,o4,o5,o6,o7,o8][id]?≠some .unborn:=by
 intro hh
 have:=List.mem_of_getElem? hh
 rw [show [o0,o1,o2,o3,o4,o5,o6,o7,o8]=[o0,o1,o2,o3,o4,o5,o6,o7] ++ [o8] from rfl,List.mem_append,List.mem_singleton] at this
 rcases this with g | g
 ·exact h _ g rfl
 ·exact h5 g.symm
theorem tJ (o0 o1 o2 o3 o4 o5 o6 o7:AO) (hu:∀ o∈[o0,o1,o2,o3,o4,o5,o6,o7],o≠.unborn) (v lim:Nat) (L:List V2) (hL:∀ x∈L,vb x≤vm) (hn:L.length≤12) :
  HCall Tryz.prog 198 [.osl 8 v 8 0 L.length,I 0,I L.length,I lim,.fn 135 []] [o0,o1,o2,o3,o4,o5,o6,o7,.row v (L.length*8) (Xt vC 8 v0 L)] (.tup []) [o0,o1,o2,o3,o4,o5,o6,o7,.row v (L.length*8) (Xt vC 8 v0 (As L (L.length - 1)))]:=by
 have c:=aS o0 o1 o2 o3 o4 o5 o6 o7 v L hL (by omega)
 refine HCall.intro (fn:=Tryz.f198) Tryz.call198 Tryz.func198 rfl mixed 21 [] [] [4] (by kernel_rfl) (Nat.le_of_ble_eq_true rfl) (Xj ?_)
 simp (disch:=omega) only [AS.start,↓Xy,wG,seval]
 refine GJ ?_
 refine Xj ?_
 simp (disch:=omega) only [↓Xy,wG,seval]
 refine KK rfl c (KL (id:=8) (o:=.row v (L.length*8) (Xt vC 8 v0 L)) rfl (by simp) (by simp)) (wq hu (by simp)) (Qj _) ?_
 simp (disch:=omega) only [↓Xy,wG,seval]
 exact tR rfl rfl
theorem oI (o0 o1 o2 o3 o4 o5 o6 o7:AO) (hu:∀ o∈[o0,o1,o2,o3,o4,o5,o6,o7],o≠.unborn) (v:Nat) (L:List V2) (hL:∀ x∈L,vb x≤vm) (hn:L.length≤12) :
  HCall Tryz.prog 134 [.osl 8 v 8 0 L.length,.fn 135 []] [o0,o1,o2,o3,o4,o5,o6,o7,.row v (L.length*8) (Xt vC 8 v0 L)] (.tup []) [o0,o1,o2,o3,o4,o5,o6,o7,.row v (L.length*8) (Xt vC 8 v0 (As L (L.length - 1)))]:=by
 have c:=tJ o0 o1 o2 o3 o4 o5 o6 o7 hu v (Lib.bitLen L.length) L hL hn
 have cl:=s9 L.length (by omega)
 have hw:IntKind.u64.wrap (L.length:Int)=L.length:=by rw [IntKind.wrap_u64]; omega
 generalize Lib.bitLen L.length=lim at *
 refine HCall.intro (fn:=Tryz.f134) Tryz.call134 Tryz.func134 rfl mixed 5 [] [] [1] (by kernel_rfl) (Nat.le_of_ble_eq_true rfl) (Xj ?_)
 simp (disch:=omega) only [AS.start,hw,↓Xy,wG,seval]
 refine X0 cl rfl ?_
 simp (disch:=omega) only [↓Xy,wG,seval]
 refine KK rfl c (KL (id:=8) (o:=.row v (L.length*8) (Xt vC 8 v0 L)) rfl (by simp) (by simp)) (wq hu (by simp)) (Qj _) ?_
 simp (disch:=omega) only [↓Xy,wG,seval]
 exact qg rfl rfl
end
end Go.Ab.N
