/- Contracts of functions of these chapters, for every argument that fits, and what they need. -/
import Derived.Test.YtefjhgcndhepeaaGreatC12
import Derived.Test.YtefjhgcndhepeaaGreatC6
import Derived.Test.YtefjhgcndhepeaaGreatC7
set_option linter.unusedSimpArgs false
set_option linter.unusedVariables false
open Nat renaming reducePow → Y1, reduceLT → Y2, reduceLeDiff → Y3, reduceEqDiff → Y4, reduceAdd → Y5, reduceMul → Y6, reduceSub → Y7, reduceBEq → Y8, reduceDiv → Y9, reduceMod → YA
namespace Go.Ab.N
open Go Go.RowKit Go.Proofs
noncomputable section
set_option maxRecDepth 10000
set_option maxHeartbeats 4000000
open Classical
def Nr (l:List FV):AV:=qw Qa 29 Cb l
theorem Qg (l:List FV):Nr l=.sl l.length (l.length*29) (Xs Qa 29 Cb l) false:=nrfl rfl
theorem Zn (l:List FV):Settled (Nr l):=J0 fun j _=>Xg (Qd _) _
def Jv (i j k:Nat) (t:V2):FV:=⟨0,1,i,j,k,t,v0,v0⟩
def GA (a b:PV) (e:Rat) (i j k:Nat) (t:V2):Bool:=(XD a.rim b.rim (Jv i j k t) e).2.2 && Ai a b (B8 a b (Jv i j k t) e) e
def BR (a b:PV) (e:Rat) (i j k:Nat) (L:List V2):List FV:=(L.filter (GA a b e i j k)).map fun t=>B8 a b (Jv i j k t) e
def DZ (a b:PV) (e:Rat) (i j k:Nat):List FV:=if H8 a b (Jv i j k v0) then BR a b e i j k (KH a b (Jv i j k v0) k) else []
def ZK (a b:PV) (e:Rat) (i j:Nat):Nat→List FV
 | 0=>[]
 | k+1=>ZK a b e i j k ++ DZ a b e i j (k+1)
def Zi (a b:PV) (e:Rat) (i:Nat):Nat→List FV
 | 0=>[]
 | j+1=>Zi a b e i j ++ ZK a b e i j (min a.rim.length b.rim.length - 1)
def Z0 (a b:PV) (e:Rat):Nat→List FV
 | 0=>[]
 | i+1=>Z0 a b e i ++ Zi a b e i b.rim.length
def BK (a b:PV) (e:Rat):List FV:=Z0 a b e a.rim.length
theorem SV (a b:PV) (e:Rat) (i j k:Nat) (L:List V2) (n:Nat) (h:n<L.length):BR a b e i j k (L.take (n+1))=BR a b e i j k (L.take n) ++ (if GA a b e i j k (L.getD n v0)=true then [B8 a b (Jv i j k (L.getD n v0)) e] else []):=by
 unfold BR
 rw [QJ L v0 n h,List.filter_append,List.map_append]
 congr 1
 by_cases hq:GA a b e i j k (L.getD n v0)=true
 ·rw [if_pos hq,List.filter_cons_of_pos hq]; rfl
 ·rw [if_neg hq,List.filter_cons_of_neg hq]; rfl
theorem M5 (a b:PV) (e:Rat) (i j k:Nat) (L:List V2):(BR a b e i j k L).length≤L.length:=by
 unfold BR; rw [List.length_map]; exact List.length_filter_le _ _
theorem pu {l:List AV} (h:∀ x∈l,x.one=true):∀ j,j<l.length→(l.getD j .any).one=true:=fun j hj=>by
 rw [List.getD_eq_getElem?_getD,List.getElem?_eq_getElem hj]; exact h _ (List.getElem_mem _)
theorem Um (f:FV):∀ j,j<29→((Qa f).getD j .any).one=true:=pu (l:=Qa f) (by simp [Qa,AV.one,X4,I])
theorem kS {P:Program} {fn:Func} {str hcs:List Nat} {s:AS} {t id ver:Nat} (L:List FV) (hr:fn.results=#[.tmp t]) (hs:s.get t=.osl id ver 29 0 L.length) (ho:s.h[id]?=some (.row ver (L.length*29) (Xs Qa 29 Cb L))):RetOk (QX P fn str hcs (Nr L)) s:=by
 refine Bd hr ?_
 rw [hs,Qg]
 refine QI (.inl ho) (by omega) (fun h=>by rw [h]) fun j hj=>?_
 rw [Nat.zero_add]
 exact (Xg (Qd _) _).sees _
theorem L5 {m:Nat} {s:AS} (id:Nat) {ver n:Nat} {l:List AV} (l':List AV) (ho:s.h[id]?=some (.row ver n (Xo l))) (hn:n=l.length) (h:WeakL l l'):Sub m s { s with h:=s.h.set id (.row ver n (Xo l')) } :=
 ZF id (Xo l') ho fun j hj c v _ _ hv=>(WeakL.spec h).2 j (by omega) v hv
theorem YR (i j k:Nat):WeakL ([I 0,I 1,I i,I j,I k] ++ (KR ++ (KR ++ KR))) (Qa (Jv i j k v0)):=by
 obtain ⟨w1,w2,w3,w4,w5,w6,w7,w8,_⟩:=ZI
 exact ⟨Weak.rfl' _,Weak.rfl' _,Weak.rfl' _,Weak.rfl' _,Weak.rfl' _,w1,w2,w3,w4,w5,w6,w7,w8,w1,w2,w3,w4,w5,w6,w7,w8,w1,w2,w3,w4,w5,w6,w7,w8,trivial⟩
def M4 (a b:PV) (e:Rat) (f:FV) (i j k:Nat) (t:V2):Prop:=k≠0∧k<a.rim.length∧k<b.rim.length∧H8 a b (Jv i j k v0)∧t∈KH a b (Jv i j k v0) k∧GA a b e i j k t=true∧f=B8 a b (Jv i j k t) e
theorem Wv (a b:PV) (e:Rat) (i j k:Nat) (L:List V2) (f:FV):f∈BR a b e i j k L↔∃ t,t∈L∧GA a b e i j k t=true∧f=B8 a b (Jv i j k t) e:=by
 unfold BR
 rw [List.mem_map]
 constructor
 ·rintro ⟨t,h,rfl⟩
  rw [List.mem_filter] at h
  exact ⟨t,h.1,h.2,rfl⟩
 ·rintro ⟨t,h1,h2,rfl⟩
  exact ⟨t,List.mem_filter.2 ⟨h1,h2⟩,rfl⟩
theorem Mg (a b:PV) (e:Rat) (i j:Nat) (f:FV):∀ n,n<a.rim.length→n<b.rim.length→(f∈ZK a b e i j n↔∃ k t,k≤n∧M4 a b e f i j k t)
 | 0,_,_=>by simp [ZK,M4]
 | n+1,h1,h2=>by
  have ih:=Mg a b e i j f n (by omega) (by omega)
  unfold ZK
  rw [List.mem_append,ih]
  have hk:f∈DZ a b e i j (n+1)↔∃ t,M4 a b e f i j (n+1) t:=by
   unfold DZ
   by_cases hp:H8 a b (Jv i j (n+1) v0)
   ·rw [if_pos hp,Wv]
    exact ⟨fun ⟨t,q1,q2,q3⟩=>⟨t,by omega,h1,h2,hp,q1,q2,q3⟩,fun ⟨t,_,_,_,_,q1,q2,q3⟩=>⟨t,q1,q2,q3⟩⟩
   ·rw [if_neg hp]
    exact ⟨fun h=>absurd h List.not_mem_nil,fun ⟨t,_,_,_,q,_⟩=>absurd q hp⟩
  rw [hk]
  constructor
  ·rintro (⟨k,t,q1,q2⟩ | ⟨t,q⟩)
   ·exact ⟨k,t,by omega,q2⟩
   ·exact ⟨n+1,t,Nat.le_refl _,q⟩
  ·rintro ⟨k,t,q1,q2⟩
   by_cases hk:k=n+1
   ·subst hk; exact .inr ⟨t,q2⟩
   ·exact .inl ⟨k,t,by omega,q2⟩
theorem Mf (a b:PV) (e:Rat) (i:Nat) (f:FV) (ha:0<a.rim.length) (hb:0<b.rim.length):∀ n,f∈Zi a b e i n↔∃ j k t,j<n∧M4 a b e f i j k t
 | 0=>by simp [Zi]
 | n+1=>by
  have ih:=Mf a b e i f ha hb n
  unfold Zi
  rw [List.mem_append,ih,Mg a b e i n f _ (by omega) (by omega)]
  constructor
  ·rintro (⟨j,k,t,q1,q2⟩ | ⟨k,t,q1,q2⟩)
   ·exact ⟨j,k,t,by omega,q2⟩
   ·exact ⟨n,k,t,by omega,q2⟩
  ·rintro ⟨j,k,t,q1,q2⟩
   by_cases hj:j=n
   ·subst hj; exact .inr ⟨k,t,by have:=q2.2.1; have:=q2.2.2.1; omega,q2⟩
   ·exact .inl ⟨j,k,t,by omega,q2⟩
theorem Me (a b:PV) (e:Rat) (f:FV) (ha:0<a.rim.length) (hb:0<b.rim.length):∀ n,f∈Z0 a b e n↔∃ i j k t,i<n∧j<b.rim.length∧M4 a b e f i j k t
 | 0=>by simp [Z0]
 | n+1=>by
  have ih:=Me a b e f ha hb n
  unfold Z0
  rw [List.mem_append,ih,Mf a b e n f ha hb]
  constructor
  ·rintro (⟨i,j,k,t,q1,q2⟩ | ⟨j,k,t,q1,q2⟩)
   ·exact ⟨i,j,k,t,by omega,q2⟩
   ·exact ⟨n,j,k,t,by omega,q1,q2⟩
  ·rintro ⟨i,j,k,t,q1,q2,q3⟩
   by_cases hi:i=n
   ·subst hi; exact .inr ⟨j,k,t,q2,q3⟩
   ·exact .inl ⟨i,j,k,t,by omega,q2,q3⟩
theorem CQ (a b:PV) (e:Rat) (f:FV) (ha:0<a.rim.length) (hb:0<b.rim.length):f∈BK a b e↔∃ i j k t,i<a.rim.length∧j<b.rim.length∧M4 a b e f i j k t:=Me a b e f ha hb _
def O0 (n m:Nat) (W:List FV) (f:FV):Bool:=W.any fun g=>decide (Mr n m f g)
def OU (a b:PV) (e:Rat):List FV:=(BK a b e).filter fun f=>!O0 a.rim.length b.rim.length (BK a b e) f
theorem fF (l:List FV) (i:Nat):∀ j,j<29→Xs Qa 29 Cb l (i*29+j)=(Qa (l.getD i Cb)).getD j .any:=fun j hj=>JP _ _ _ _ _ _ hj
theorem rU (l:List FV) (i:Nat):Xs Qa 29 Cb l (i*29)=(Qa (l.getD i Cb)).getD 0 .any:=K6 _ _ _ _ _ (by omega)
theorem Wt (n m:Nat) (W:List FV) (i:Nat) (h:i<W.length):(W.take (i+1)).filter (fun f=>!O0 n m W f)=(W.take i).filter (fun f=>!O0 n m W f) ++ (if O0 n m W (W.getD i Cb)=true then [] else [W.getD i Cb]):=by
 rw [QJ W Cb i h,List.filter_append]
 congr 1
 cases hq:O0 n m W (W.getD i Cb) with
 | true=>rw [if_pos rfl,List.filter_cons_of_neg (by rw [hq]; decide)]; rfl
 | false=>rw [if_neg (by decide),List.filter_cons_of_pos (by rw [hq]; rfl)]; rfl
theorem Of (a b:PV) (e:Rat) (ha:a.rim.length≤12) (hb:b.rim.length≤12) (h1:0<a.rim.length) (h2:0<b.rim.length):(BK a b e).length≤24000:=by
 have hk:∀ i j n,n≤12→(ZK a b e i j n).length≤12*n:=fun i j n=>by
  induction n with
  | zero=>intro _; simp [ZK]
  | succ n ih =>
   intro hn
   have h3:=ih (by omega)
   unfold ZK
   rw [List.length_append]
   have:(DZ a b e i j (n+1)).length≤n+1:=by
    unfold DZ
    split
    ·exact Nat.le_trans (M5 ..) (EL ..)
    ·simp
   omega
 have hj:∀ i n,(Zi a b e i n).length≤144*n:=fun i n=>by
  induction n with
  | zero=>simp [Zi]
  | succ n ih =>
   unfold Zi
   rw [List.length_append]
   have:=hk i n (min a.rim.length b.rim.length - 1) (by omega)
   omega
 have hi:∀ n,(Z0 a b e n).length≤1728*n:=fun n=>by
  induction n with
  | zero=>simp [Z0]
  | succ n ih =>
   unfold Z0
   rw [List.length_append]
   have:=hj n b.rim.length
   omega
 have:=hi a.rim.length
 unfold BK; omega
theorem OV {a b:PV} {ta tb:Rat} (ha:GP a ta) (hb:GP b tb) {f:FV} (h:f∈BK a b (ta+tb)):f.near∧vb f.turn≤26∧vb f.lo≤200∧vb f.hi≤200:=by
 have la:=(Aa _ ha.poly).1
 have lb:=(Aa _ hb.poly).1
 have ea:(Xy a.rim).length=a.rim.length:=by simp [Xy]
 have eb:(Xy b.rim).length=b.rim.length:=by simp [Xy]
 rw [ea] at la
 rw [eb] at lb
 have qa:=ha.qt; have q2:=hb.qt
 have qe:=K2 ta tb
 obtain ⟨i,j,k,t,h1,h2,_,h3,h4,_,h5,_,rfl⟩:=(CQ a b (ta+tb) f (by omega) (by omega)).1 h
 have ht:=FK a b (Jv i j k v0) ha.even.near hb.even.near k t h5
 obtain ⟨m1,m2⟩:=HK a b (Jv i j k t) ha.even.near hb.even.near (ta+tb) (by show vb t≤60; omega)
 exact ⟨⟨⟨by show (-1000000:Int)≤(i:Int); omega,by show (i:Int)≤1000000; omega⟩,⟨by show (-1000000:Int)≤(j:Int); omega,by show (j:Int)≤1000000; omega⟩,by show (-1000000:Int)≤(k:Int); omega,by show (k:Int)≤1000000; omega⟩,ht,by show vb (XD a.rim b.rim (Jv i j k t) (ta+tb)).1≤200; omega,by show vb (XD a.rim b.rim (Jv i j k t) (ta+tb)).2.1≤200; omega⟩
def KG:Nat→Int×Int→Int×Int
 | 0,p=>p
 | i+1,p=>(-(KG i p).2,(KG i p).1)
theorem FJ (p:Int×Int) (c:Int) (h1:-c≤p.1∧p.1≤c) (h2:-c≤p.2∧p.2≤c):∀ i,(-c≤(KG i p).1∧(KG i p).1≤c)∧(-c≤(KG i p).2∧(KG i p).2≤c)
 | 0=>⟨h1,h2⟩
 | i+1=>by
  have ih:=FJ p c h1 h2 i
  unfold KG
  simp only
  omega
theorem YJ (p:Int×Int) (q:Nat) (h1:-1000≤p.1∧p.1≤1000) (h2:-1000≤p.2∧p.2≤1000) (hq:q≤4):Fn Tryz.prog 101 [.agg (K1 p),I q] (.agg (K1 (KG q p))):=by
 obtain ⟨R,hR⟩:∃ R,R=AV.agg (K1 (KG q p)):=⟨_,rfl⟩
 have sR:Settled R:=hR▸Qj (Ke _)
 rw [← hR]
 refine Fq Tryz.call101 Tryz.func101 6 [] [] [] (by simp [Xa,Qj (Ke p)]) (X1 1000 ?_)
 simp (disch:=omega) only [AS.start,K1,↓Xk,wD,↓X2,wA,seval,wE]
 refine Xf (fun i:Nat=>⟨6,[],[.any,I q,.ref 0 0 0,.any,.ref 1 0 0,I i],[],[.row 0 2 (Xo (K1 (KG i p))),.row 0 2 (Xo [I 0,I 0])]⟩) (fun i=>i≤q) (fun i=>q - i) 0 (by omega)
  (Xb rfl (by simp [Xi,I]) (by simp [Xj]) rfl) ?_
 intro i hi next
 have hb:=FJ p 1000 h1 h2 i
 by_cases hi2:i<q
 ·refine X1 1000 ?_
  simp (disch:=omega) only [K1,↓Xk,wD,↓X2,wA,seval,wE]
  exact next (i+1) _ (by omega) (by omega) (Xb rfl (by simp [Xi,I]) (by simp [Xj]) (by simp [K1,KG,I]))
 ·obtain rfl:i=q:=by omega
  refine X1 1000 ?_
  simp (disch:=omega) only [K1,↓Xk,wD,↓X2,wA,seval,wE]
  exact ZD rfl eE rfl rfl rfl sR (hR.trans rfl)
theorem L9 (l:List (Int×Int)) (hn:QP l) (hl:l.length<1000000):Fn Tryz.prog 100 [CO l] (.bool (decide (XI (Xy l)))):=by
 have hrl:(Xy l).length=l.length:=by simp [Xy]
 have cv:=Fv (Xy l) (fun i=>Nat.le_trans (Gj hn i) (by omega)) (by omega)
 refine Fq Tryz.call100 Tryz.func100 5 [] [5] [] (by simp [Qt]) (X1 1000 ?_)
 simp (disch:=omega) only [AS.start,Xh,↓Xk,wD,↓X2,wA,seval,wE]
 refine Xf (fun k:Nat=>⟨5,[],[CO l,.any,.any,.osl 0 k 8 0 k,I k],[],[.row k (k*8) (Xs vC 8 v0 (Xy (l.take k)))]⟩) (fun k=>k≤l.length) (fun k=>l.length - k) 0 (by omega)
  (Sub.trans (QT 3 8 (Xs vC 8 v0 []) rfl) (Xb rfl (by simp [AS.put,Xi,Xh,I]) (by simp [AS.put,Xj]) (by simp [AS.put,Xy]))) ?_
 intro k hk next
 by_cases hk2:k<l.length
 rotate_left
 ·obtain rfl:k=l.length:=by omega
  rw [List.take_length]
  refine X1 1000 ?_
  simp (disch:=omega) only [Xh,↓Xk,wD,↓X2,wA,seval,wE]
  refine Ju cv rfl ⟨?_,trivial⟩ (ZQ _) ?_
  ·show Jt _ (.osl 0 l.length 8 0 l.length) (Xw (Xy l))
   rw [X7,hrl]
   refine QI (.inl rfl) (by omega) (fun h=>by rw [h]) fun j hj=>?_
   rw [Nat.zero_add]
   exact (Xg (l:=vC ((Xy l).getD (j / 8) v0)) (by simp [vC,X5,X3]) _).sees _
  simp (disch:=omega) only [↓Xk,wD,↓X2,wA,seval,wE]
  exact Xt rfl rfl (X3 _) rfl
 have hc:=Dd hn k
 have c1:=Ax (l.getD k (0,0)).1 (l.getD k (0,0)).2 ⟨by omega,by omega⟩ ⟨by omega,by omega⟩
 have p1:Xs K1 2 (0,0) l (k*2)=I (l.getD k (0,0)).1:=K6 _ _ _ _ _ (by omega)
 have p2:Xs K1 2 (0,0) l (k*2+1)=I (l.getD k (0,0)).2:=JP _ _ _ _ _ _ (by omega)
 have hap:=Qv vC 8 v0 (Xy (l.take k)) (JY (l.getD k (0,0))) (by omega)
 have htk:Xy (l.take k) ++ [JY (l.getD k (0,0))]=Xy (l.take (k+1)):=by unfold Xy; rw [QJ l (0,0) k hk2,List.map_append]; rfl
 have hkl:(Xy (l.take k)).length=k:=by simp [Xy]; omega
 rw [htk,hkl] at hap
 have hpv:(⟨((l.getD k (0,0)).1:Rat),((l.getD k (0,0)).2:Rat)⟩:V2)=JY (l.getD k (0,0)):=rfl
 rw [hpv] at c1
 refine X1 1000 ?_
 simp (disch:=omega) only [Xh,p1,p2,↓Xk,wD,↓X2,wA,seval,wE]
 refine X0 c1 rfl ?_
 simp (disch:=omega) only [↓Xk,wD,↓X2,wA,seval,wE]
 exact ⟨EM _,next (k+1) _ (by omega) (by omega) (Xb rfl (by simp [Xi,Xh,I]) (by simp [Xj]) (by rw [← hap]; rfl))⟩
def Lb (l:List Int) (at' k:Nat):Bool:=decide (Ab.atF l (at'+2+k:Nat) 16=15)
def Ev (l:List Int) (at' k:Nat):Int:=if 11<Ab.atF l (at'+2+k:Nat) 16 then Ab.atF l (at'+2+k:Nat) 16 - 11 else 0
def Z1 (rim:List (Int×Int)) (l:List Int) (at':Nat):PV:=⟨Ab.atF l at' 900,Ab.atF l at' 5,rim,(List.range rim.length).map (Lb l at'),(List.range rim.length).map (Ev l at'),
 RQ.of (Rat.divInt (Ab.atF l (at'+1:Nat) 3) 4),RQ.of (Rat.divInt 1 1),RQ.of (Rat.divInt (1+Ab.atF l at' 3) 1),RQ.of (Rat.divInt 100 1),RQ.of (Rat.divInt 1 2)⟩
theorem Rr {m:Nat} {s:AS} (id i:Nat) (b:AV) {ver n:Nat} {f:Nat→AV} (ho:s.h[id]?=some (.row ver n f)) (h:Zr s.h (f i) b):Sub m s { s with h:=s.h.set id (.row ver n (Be f i b)) } :=
 ZF id (Be f i b) ho fun j hj=>by
  unfold Be
  by_cases e:j=i
  ·rw [if_pos e,e]; exact h
  ·rw [if_neg e]; exact J1 _ _
def J9:List AV:=[I 0,I 0,.sl 0 0 (fun _=>.any) true,.sl 0 0 (fun _=>.any) true,.sl 0 0 (fun _=>.any) true,.bool false,.sl 0 0 (fun _=>.any) true,.bool false,.sl 0 0 (fun _=>.any) true,.bool false,.sl 0 0 (fun _=>.any) true,.bool false,.sl 0 0 (fun _=>.any) true,
 .bool false,.sl 0 0 (fun _=>.any) true,.bool false,.sl 0 0 (fun _=>.any) true,.bool false,.sl 0 0 (fun _=>.any) true,.bool false,.sl 0 0 (fun _=>.any) true,.bool false,.sl 0 0 (fun _=>.any) true,.bool false,.sl 0 0 (fun _=>.any) true]
def Fc (id home:Int) (rim:List (Int×Int)) (k:Nat) (t u h s r:Rat):List AV:=[I id,I home,CO rim,.osl 2 k 1 0 k,.osl 3 k 1 0 k] ++ (qC t ++ (qC u ++ (qC h ++ (qC s ++ qC r))))
theorem Iq {α:Type} (f:Nat→α) (k:Nat):(List.range (k+1)).map f=(List.range k).map f ++ [f k]:=by rw [List.range_succ,List.map_append]; rfl
theorem Us (rim:List (Int×Int)) (l:List Int) (at':Nat) (hr:rim.length<1000) (hl:Bg l) (ha:at'<1000):Fn Tryz.prog 102 [CO rim,X6 l,I at'] (Jg (Z1 rim l at')):=by
 obtain ⟨V,hV⟩:∃ V,V=Jg (Z1 rim l at'):=⟨_,rfl⟩
 rw [← hV]
 have c1:=Qf l at' 900 hl (by omega)
 have c2:=Qf l at' 5 hl (by omega)
 have c3:=Qf l (at'+1:Nat) 3 hl (by omega)
 have c4:=Qf l at' 3 hl (by omega)
 have b3:=Xv l (at'+1:Nat) 3 (by omega)
 have b4:=Xv l at' 3 (by omega)
 have q1:=QY (Ab.atF l (at'+1:Nat) 3) 4 ⟨by omega,by omega⟩ ⟨by omega,by omega⟩
 have q2:=QY 1 1 ⟨by omega,by omega⟩ ⟨by omega,by omega⟩
 have q3:=QY (1+Ab.atF l at' 3) 1 ⟨by omega,by omega⟩ ⟨by omega,by omega⟩
 have q4:=QY 100 1 ⟨by omega,by omega⟩ ⟨by omega,by omega⟩
 have q5:=QY 1 2 ⟨by omega,by omega⟩ ⟨by omega,by omega⟩
 unfold Z1 at hV
 generalize Rat.divInt (Ab.atF l (at'+1:Nat) 3) 4=t at *
 generalize Rat.divInt 1 1=u at *
 generalize Rat.divInt (1+Ab.atF l at' 3) 1=h at *
 generalize Rat.divInt 100 1=s at *
 generalize Rat.divInt 1 2=r at *
 generalize Ab.atF l at' 900=id at *
 generalize Ab.atF l at' 5=home at *
 rw [Int.natCast_add] at c3
 refine Fq Tryz.call102 Tryz.func102 11 [] [1] [] (by simp [Xa,Qt,X5]) (X1 1000 ?_)
 simp (disch:=omega) only [AS.start,Xh,↓Xk,wD,↓X2,wA,seval,wE]
 refine X0 c1 rfl ?_
 simp (disch:=omega) only [↓Xk,wD,↓X2,wA,seval,wE]
 refine X0 c2 rfl ?_
 simp (disch:=omega) only [↓Xk,wD,↓X2,wA,seval,wE]
 refine X0 c3 rfl ?_
 simp (disch:=omega) only [↓Xk,wD,↓X2,wA,seval,wE]
 refine X0 q1 rfl ?_
 simp (disch:=omega) only [↓Xk,wD,↓X2,wA,seval,wE]
 refine X0 q2 rfl ?_
 simp (disch:=omega) only [↓Xk,wD,↓X2,wA,seval,wE]
 refine X0 c4 rfl ?_
 simp (disch:=omega) only [↓Xk,wD,↓X2,wA,seval,wE]
 refine X0 q3 rfl ?_
 simp (disch:=omega) only [↓Xk,wD,↓X2,wA,seval,wE]
 refine X0 q4 rfl ?_
 simp (disch:=omega) only [↓Xk,wD,↓X2,wA,seval,wE]
 refine X0 q5 rfl ?_
 simp (disch:=omega) only [↓Xk,wD,↓X2,wA,seval,wE]
 refine Xf (fun k:Nat=>⟨11,[],[CO rim,X6 l,I at',.any,.any,.any,.ref 0 0 0,.ref 1 0 0,I k,.any,.any],[],[.row 0 25 (Xo J9),.row 0 25 (Xo (Fc id home rim k t u h s r)),.row k k (Q7 AV.bool false ((List.range k).map (Lb l at'))),.row k k (Q7 I 0 ((List.range k).map (Ev l at')))]⟩) (fun k=>k≤rim.length) (fun k=>rim.length - k) 0 (by omega)
  (Sub.trans (HD (Q7 AV.bool false [])) (Sub.trans (HD (Q7 I 0 [])) (Sub.trans (Rr 1 3 (.osl 2 0 1 0 0) rfl (Au rfl)) (Sub.trans (Rr 1 4 (.osl 3 0 1 0 0) rfl (Au rfl)) (Xb rfl (by simp [Xi,Xh,X4,I]) (by simp [Xj]) (by simp [J9,Fc,qC,Vc,Xh,X4,I,sg])))))) ?_
 intro k hk next
 by_cases hk2:k<rim.length
 rotate_left
 ·obtain rfl:k=rim.length:=by omega
  refine X1 1000 ?_
  simp (disch:=omega) only [J9,Fc,qC,Xh,X4,↓Xk,wD,↓X2,wA,seval,wE]
  subst hV
  refine Fy (L:=Fc id home rim rim.length t u h s r) rfl Fb rfl rfl rfl ?_
  have h2:∀ H:List AO,H[2]?=some (.row rim.length rim.length (Q7 AV.bool false ((List.range rim.length).map (Lb l at'))))→Jt H (.osl 2 rim.length 1 0 rim.length) (Zt ((List.range rim.length).map (Lb l at'))):=fun H ho=>by
   rw [Xr,List.length_map,List.length_range]
   refine QI (.inl ho) (by omega) (fun h=>h) fun j hj=>?_
   rw [Nat.zero_add]
   exact (X3 _).sees _
  have h3:∀ H:List AO,H[3]?=some (.row rim.length rim.length (Q7 I 0 ((List.range rim.length).map (Ev l at'))))→Jt H (.osl 3 rim.length 1 0 rim.length) (X6 ((List.range rim.length).map (Ev l at'))):=fun H ho=>by
   rw [X4,List.length_map,List.length_range]
   refine QI (.inl ho) (by omega) (fun h=>h) fun j hj=>?_
   rw [Nat.zero_add]
   exact (Xa _).sees _
  exact B5 ⟨(Xa _).sees _,(Xa _).sees _,(Qt _).sees _,h2 _ rfl,h3 _ rfl,(X3 _).sees _,(X5 _).sees _,(X3 _).sees _,(X5 _).sees _,(X3 _).sees _,(X5 _).sees _,(X3 _).sees _,(X5 _).sees _,(X3 _).sees _,(X5 _).sees _,(X3 _).sees _,(X5 _).sees _,(X3 _).sees _,(X5 _).sees _,(X3 _).sees _,(X5 _).sees _,(X3 _).sees _,(X5 _).sees _,(X3 _).sees _,(X5 _).sees _,trivial⟩
 have c5:=Qf l (at'+2+k:Nat) 16 hl (by omega)
 have b5:=Xv l (at'+2+k:Nat) 16 (by omega)
 have nx:=next (k+1)
 rw [Iq,Iq] at nx
 have e1:Lb l at' k=decide (Ab.atF l (at'+2+k:Nat) 16=15):=rfl
 have e2:Ev l at' k=if 11<Ab.atF l (at'+2+k:Nat) 16 then Ab.atF l (at'+2+k:Nat) 16 - 11 else 0:=rfl
 rw [e1,e2] at nx
 generalize Ab.atF l (at'+2+k:Nat) 16=n at *
 rw [show ((at'+2+k:Nat):Int)=(at':Int)+2+k by omega] at c5
 have hW:((List.range k).map (Lb l at')).length=k:=by simp
 have hM:((List.range k).map (Ev l at')).length=k:=by simp
 generalize (List.range k).map (Lb l at')=W at *
 generalize (List.range k).map (Ev l at')=M at *
 have hap1:=Oo AV.bool false W (decide (n=15))
 rw [hW,Nat.mul_one] at hap1
 refine X1 1000 ?_
 simp (disch:=omega) only [Fc,qC,Xh,X4,List.cons_append,List.nil_append,↓Xk,wD,↓X2,wA,seval,wE]
 refine X0 c5 rfl ?_
 by_cases hn:11<n
 ·have hap2:=El M (n - 11)
  rw [if_pos hn] at nx
  rw [hM] at hap2
  simp (disch:=omega) only [Fc,qC,Xh,X4,List.cons_append,List.nil_append,↓Xk,wD,↓X2,wA,seval,wE]
  exact nx _ (by omega) (by omega) (Xb rfl (by simp [Xi,Xh,X4,I]) (by simp [Xj]) (by rw [← hap1,← hap2]; simp [J9,Fc,qC,Xh,X4,I,sg]))
 ·have hap2:=El M 0
  rw [if_neg hn] at nx
  rw [hM] at hap2
  simp (disch:=omega) only [Fc,qC,Xh,X4,List.cons_append,List.nil_append,↓Xk,wD,↓X2,wA,seval,wE]
  exact nx _ (by omega) (by omega) (Xb rfl (by simp [Xi,Xh,X4,I]) (by simp [Xj]) (by rw [← hap1,← hap2]; simp [J9,Fc,qC,Xh,X4,I,sg,show ¬ n=15 by omega]))
structure Iso (g h:V2→V2):Prop where
 sub:∀ a b,(g a).sub (g b)=h (a.sub b)
 cr:∀ u v,Q2 (h u) (h v)=Q2 u v
 dt:∀ u v,XR (h u) (h v)=XR u v
 tn:∀ u,(h u).turned=h u.turned
theorem j9 (g:V2→V2) (L:List V2) (h:0<L.length) (i:Nat):atF (L.map g) i=g (atF L i):=by
 unfold atF
 have hlt:=Nat.mod_lt i h
 rw [List.length_map,List.getD_eq_getElem?_getD,List.getElem?_map,List.getD_eq_getElem?_getD,List.getElem?_eq_getElem hlt]; rfl
theorem eD {g h:V2→V2} (I:Iso g h) (a b c:V2):Jp (g a) (g b) (g c)=Jp a b c:=by unfold Jp; rw [I.sub,I.sub,I.cr]
theorem Ue (n a b:V2):XR n a - XR n b=XR n (a.sub b):=by unfold XR V2.sub; grind
theorem p9 {g h:V2→V2} (I:Iso g h) (n a b:V2):(XR (h n) (g a)<XR (h n) (g b))↔(XR n a<XR n b):=by
 have e1:=Ue (h n) (g a) (g b)
 have e2:=Ue n a b
 rw [I.sub,I.dt] at e1
 constructor <;> intro hh <;> grind
theorem Pi {g h:V2→V2} (I:Iso g h) (n a b c d:V2):K0 (h n) (g a) (g b) (g c) (g d)=K0 n a b c d:=by
 unfold K0 GG
 simp only [p9 I]
theorem ez {g h:V2→V2} (I:Iso g h) (a b c d:V2) (i:Nat):CK (g a) (g b) (g c) (g d) i=h (CK a b c d i):=by
 unfold CK
 split <;> simp only [I.sub,I.tn]
theorem Pj {g h:V2→V2} (I:Iso g h) (L:List V2) (hp:XI L) (ha:KY (L.map g)=KY L):XI (L.map g):=by
 obtain ⟨h1,h2,h3⟩:=hp
 have hl:0<L.length:=by omega
 have hat:=j9 g L hl
 refine ⟨by rw [List.length_map]; exact h1,fun i hi=>?_,by rw [ha]; exact h3⟩
 rw [List.length_map] at hi
 obtain ⟨k1,k2⟩:=h2 i hi
 refine ⟨fun hb=>k1 ?_,fun k hk hg=>k2 k (by rw [List.length_map] at hk; exact hk) ?_⟩
 ·unfold EX at hb ⊢
  rw [hat,hat,hat,eD I] at hb
  exact hb
 ·obtain ⟨q1,q2,q3⟩:=hg
  rw [List.length_map] at q1 q2
  refine ⟨q1,q2,fun j hj=>?_⟩
  have:=q3 j hj
  rw [hat,hat,hat,hat,ez I,Pi I] at this
  exact this
theorem quart_iso:Iso Ap Ap:=⟨fun a b=>by unfold Ap V2.sub; rw [V2.ext']; exact ⟨by simp only; grind,rfl⟩,fun u v=>by unfold Ap Q2; grind,fun u v=>by unfold Ap XR; grind,fun u=>by unfold Ap V2.turned; rfl⟩
theorem iT (t:V2):Iso (fun a=>a.add t) id:=⟨fun a b=>by unfold V2.add V2.sub; rw [V2.ext']; exact ⟨by simp only [id]; grind,by simp only [id]; grind⟩,fun _ _=>rfl,fun _ _=>rfl,fun _=>rfl⟩
theorem Fd (g:V2→V2) (L:List V2) (i:Nat) (h:i<L.length):(L.map g).getD i v0=g (L.getD i v0):=by
 rw [List.getD_eq_getElem?_getD,List.getElem?_map,List.getD_eq_getElem?_getD,List.getElem?_eq_getElem h]; rfl
theorem Ss (L:List V2) (h:0<L.length):KY (L.map Ap)=KY L:=by
 have key:∀ n,n≤L.length→Kw (L.map Ap) n=Kw L n:=fun n=>by
  induction n with
  | zero=>intro _; rfl
  | succ n ih =>
   intro hn
   unfold Kw
   rw [ih (by omega),List.length_map,Fd _ _ _ (by omega),Fd _ _ _ (Nat.mod_lt _ h),quart_iso.cr]
 unfold KY
 rw [List.length_map,key _ (Nat.le_refl _)]
theorem bF (t:V2) (L:List V2) (h:0<L.length):KY (L.map fun a=>a.add t)=KY L:=by
 have key:∀ n,n≤L.length→Kw (L.map fun a=>a.add t) n=Kw L n+Q2 t ((L.getD (n % L.length) v0).sub (L.getD 0 v0)):=fun n=>by
  induction n with
  | zero=>intro _; rw [Nat.zero_mod]; unfold Kw Q2 V2.sub; grind
  | succ n ih =>
   intro hn
   have hm:n % L.length=n:=Nat.mod_eq_of_lt (by omega)
   unfold Kw
   rw [ih (by omega),List.length_map,Fd _ _ _ (by omega),Fd _ _ _ (Nat.mod_lt _ h),hm]
   generalize L.getD n v0=p
   generalize L.getD ((n+1) % L.length) v0=q
   generalize L.getD 0 v0=o
   unfold Q2 V2.sub V2.add
   grind
 unfold KY
 rw [List.length_map,key _ (Nat.le_refl _),Nat.mod_self]
 have:Q2 t ((L.getD 0 v0).sub (L.getD 0 v0))=0:=by unfold Q2 V2.sub; grind
 rw [this,Rat.add_zero]
theorem GJ (L:List V2) (hp:XI L):∀ q,XI (L.map (Jn q))
 | 0=>by
  have:L.map (Jn 0)=L:=by
   have e:Jn 0=id:=rfl
   rw [e,List.map_id]
  rw [this]; exact hp
 | q+1=>by
  have ih:=GJ L hp q
  have e:L.map (Jn (q+1))=(L.map (Jn q)).map Ap:=by rw [List.map_map]; rfl
  rw [e]
  exact Pj quart_iso _ ih (Ss _ (by have:=ih.1; omega))
theorem fJ (t:V2) (L:List V2) (hp:XI L):XI (L.map fun a=>a.add t):=Pj (iT t) L hp (bF t L (by have:=hp.1; omega))
def po (q:Nat) (d p:Int×Int):Int×Int:=((KG q p).1+d.1,(KG q p).2+d.2)
theorem fL (q:Nat) (p:Int×Int):JY (KG q p)=Jn q (JY p):=by
 induction q with
 | zero=>rfl
 | succ q ih =>
  show (⟨((-(KG q p).2:Int):Rat),((KG q p).1:Rat)⟩:V2)=Ap (Jn q (JY p))
  rw [← ih]
  unfold JY Ap
  rw [V2.ext']
  exact ⟨by simp,rfl⟩
theorem ll (R:List (Int×Int)) (q:Nat) (d:Int×Int) (h:XI (Xy R)):XI (Xy (R.map (po q d))):=by
 have h1:=fJ (JY d) _ (GJ _ h q)
 have e:Xy (R.map (po q d))=((Xy R).map (Jn q)).map fun a=>a.add (JY d):=by
  unfold Xy
  rw [List.map_map,List.map_map,List.map_map]
  refine List.map_congr_left fun p _=>?_
  show JY (po q d p)=(Jn q (JY p)).add (JY d)
  rw [← fL]
  unfold po JY V2.add
  rw [V2.ext']
  exact ⟨by simp,by simp⟩
 rw [e]; exact h1
end
end Go.Ab.N
namespace Go.Ab.N
open Go Go.RowKit Go.Proofs
noncomputable section
set_option maxRecDepth 10000
set_option maxHeartbeats 4000000
def ri (L:List V2) (i k:Nat):Bool:=decide (1<(k+L.length - i) % L.length) && decide ((k+L.length - i) % L.length<L.length - 1) &&
 (List.range 5).all fun j=>!K0 (CK (atF L i) (atF L (i+1)) (atF L k) (atF L (k+1)) j) (atF L i) (atF L (i+1)) (atF L k) (atF L (k+1))
def Dj (L:List V2):Bool:=decide (3≤L.length) && decide (L.length≤12) && ((List.range L.length).all fun i=>!decide (Jp (atF L i) (atF L (i+1)) (atF L (i+2))=0) && (List.range L.length).all fun k=>!ri L i k) && decide (0<(KY L).num.sign)
theorem Dk (L:List V2) (h:Dj L=true):XI L:=by
 unfold Dj at h
 simp only [Bool.and_eq_true,decide_eq_true_eq,List.all_eq_true,List.mem_range,Bool.not_eq_true',decide_eq_false_iff_not] at h
 obtain ⟨⟨⟨h1,h2⟩,h3⟩,h4⟩:=h
 refine ⟨⟨h1,h2⟩,fun i hi=>⟨(h3 i hi).1,fun k hk hg=>?_⟩,h4⟩
 have:=(h3 i hi).2 k hk
 obtain ⟨q1,q2,q3⟩:=hg
 unfold ri at this
 rw [decide_eq_true q1,decide_eq_true q2,Bool.true_and,Bool.true_and] at this
 rw [List.all_eq_true.2] at this
 ·cases this
 ·intro j hj
  rw [q3 j (List.mem_range.1 hj)]; rfl
def fR (x y h:Int):List (Int×Int):=[(0,0),(x,0),(y,h),(0,h)]
def fT (w x y h:Int):List (Int×Int):=[(x,0),(w,0),(w,h),(y,h)]
theorem lz:((List.range 4).all fun h=>(List.range 6).all fun x=>(List.range 6).all fun y=>Dj (Xy (fR (1+x) (1+y) (3+h))))=true:=by decide +kernel
theorem lA:((List.range 4).all fun w=>(List.range 4).all fun h=>(List.range 6).all fun x=>(List.range 6).all fun y=>!(decide (x<w+3) && decide (y<w+3)) || Dj (Xy (fT (4+w) (1+x) (1+y) (3+h))))=true:=by decide +kernel
theorem fS (x y h:Int) (hx:1≤x∧x≤6) (hy:1≤y∧y≤6) (hh:3≤h∧h≤6):XI (Xy (fR x y h)):=by
 have h1:=lz
 simp only [List.all_eq_true,List.mem_range] at h1
 have h2:=h1 (h - 3).toNat (by omega) (x - 1).toNat (by omega) (y - 1).toNat (by omega)
 rw [show (1:Int)+((x - 1).toNat:Nat)=x by omega,show (1:Int)+((y - 1).toNat:Nat)=y by omega,show (3:Int)+((h - 3).toNat:Nat)=h by omega] at h2
 exact Dk _ h2
theorem fU (w x y h:Int) (hw:4≤w∧w≤7) (hx:1≤x∧x<w) (hy:1≤y∧y<w) (hh:3≤h∧h≤6):XI (Xy (fT w x y h)):=by
 have h1:=lA
 simp only [List.all_eq_true,List.mem_range] at h1
 have h2:=h1 (w - 4).toNat (by omega) (h - 3).toNat (by omega) (x - 1).toNat (by omega) (y - 1).toNat (by omega)
 rw [show (4:Int)+((w - 4).toNat:Nat)=w by omega,show (1:Int)+((x - 1).toNat:Nat)=x by omega,show (1:Int)+((y - 1).toNat:Nat)=y by omega,show (3:Int)+((h - 3).toNat:Nat)=h by omega] at h2
 rw [Bool.or_eq_true] at h2
 rcases h2 with h2 | h2
 ·rw [decide_eq_true (show (x - 1).toNat<(w - 4).toNat+3 by omega),decide_eq_true (show (y - 1).toNat<(w - 4).toNat+3 by omega)] at h2
  cases h2
 ·exact Dk _ h2
end
end Go.Ab.N
namespace Go.Ab.N
open Go Go.RowKit Go.Proofs
noncomputable section
set_option maxRecDepth 10000
set_option maxHeartbeats 4000000
open Classical
theorem aW {a b:List (Int×Int)} {f:FV} {e:Rat} (h:(XD a b f e).2.2=true) :
  BF a.length b.length f∧CD f.turn∧XD a b f e=((ZT a b f f.M.toNat).sub ⟨e,e⟩,(ZR a b f f.M.toNat).add ⟨e,e⟩,true)∧(ZT a b f f.M.toNat).x - e≤(ZR a b f f.M.toNat).x+e∧(ZT a b f f.M.toNat).y - e≤(ZR a b f f.M.toNat).y+e:=by
 by_cases g:BF a.length b.length f∧CD f.turn
 ·by_cases g2:((ZR a b f f.M.toNat).add ⟨e,e⟩).x<((ZT a b f f.M.toNat).sub ⟨e,e⟩).x∨((ZR a b f f.M.toNat).add ⟨e,e⟩).y<((ZT a b f f.M.toNat).sub ⟨e,e⟩).y
  ·exfalso
   unfold XD at h; rw [if_pos g] at h; simp only at h; rw [if_pos g2] at h; cases h
  ·refine ⟨g.1,g.2,?_,?_⟩
   ·unfold XD; rw [if_pos g]; simp only; rw [if_neg g2]
   ·simp only [not_or,Rat.not_lt] at g2; exact g2
 ·unfold XD at h; rw [if_neg g] at h; cases h
theorem Ic {p:V2→Bool}:∀ {s:List V2},(F5 p s).2=true↔∃ x∈s,p x=true
 | []=>by simp [F5]
 | x :: l=>by
  have ih:=Ic (p:=p) (s:=l)
  show ((if p x=true then (x,true) else F5 p l).2=true)↔_
  by_cases h:p x=true
  ·rw [if_pos h]; simp [h]
  ·rw [if_neg h,ih]; simp [h]
theorem Hi (a b:PV) (f:FV) (e:Rat):AB a b f e=0↔BF a.rim.length b.rim.length f∧H8 a b f∧Sp a b f∧((XD a.rim b.rim f e).2.2=true∧(XD a.rim b.rim f e).1=f.lo∧(XD a.rim b.rim f e).2.1=f.hi)∧Ai a b f e=true:=by
 unfold AB
 by_cases h1:BF a.rim.length b.rim.length f
 rotate_left
 ·rw [if_neg h1]; exact ⟨fun h=>absurd h (by decide),fun h=>absurd h.1 h1⟩
 rw [if_pos h1]
 by_cases h2:H8 a b f
 rotate_left
 ·rw [if_neg h2]; exact ⟨fun h=>absurd h (by decide),fun h=>absurd h.2.1 h2⟩
 rw [if_pos h2]
 by_cases h3:Sp a b f
 rotate_left
 ·rw [if_neg h3]; exact ⟨fun h=>absurd h (by decide),fun h=>absurd h.2.2.1 h3⟩
 rw [if_pos h3]
 by_cases h4:(XD a.rim b.rim f e).2.2=true∧(XD a.rim b.rim f e).1=f.lo∧(XD a.rim b.rim f e).2.1=f.hi
 rotate_left
 ·rw [if_neg h4]; exact ⟨fun h=>absurd h (by decide),fun h=>absurd h.2.2.2.1 h4⟩
 rw [if_pos h4]
 by_cases h5:Ai a b f e=true
 ·rw [if_pos h5]; exact ⟨fun _=>⟨h1,h2,h3,h4,h5⟩,fun _=>rfl⟩
 ·rw [if_neg h5]; exact ⟨fun h=>absurd h (by decide),fun h=>absurd h.2.2.2.2 h5⟩
theorem Gx {a b:PV} {e:Rat} {f:FV} (h:f∈BK a b e) (ha:0<a.rim.length) (hb:0<b.rim.length):AB a b f e=0:=by
 obtain ⟨i,j,k,t,hi,hj,k0,kn,km,hp,ht,ho,rfl⟩:=(CQ a b e f ha hb).1 h
 unfold GA at ho
 rw [Bool.and_eq_true] at ho
 obtain ⟨o1,o2⟩:=ho
 rw [A2] at ht
 obtain ⟨k',q1,q2,q3⟩:=ht
 rw [Hi]
 refine ⟨?_,hp,⟨k',?_,q2,q3⟩,⟨o1,rfl,rfl⟩,o2⟩
 ·show (0≤(i:Int)∧(i:Int)<a.rim.length)∧(0≤(j:Int)∧(j:Int)<b.rim.length)∧1≤(k:Int)∧(k:Int)<a.rim.length∧(k:Int)<b.rim.length
  omega
 ·show k'<((k:Nat):Int).toNat
  omega
theorem Ut (R:List (Int×Int)) (l:List Int) (p:Nat) (hn:QP R) (hp:XI (Xy R)):GP (Z1 R l p) (Rat.divInt (Ab.atF l (p+1:Nat) 3) 4)∧(Z1 R l p).small∧qb (Rat.divInt (Ab.atF l (p+1:Nat) 3) 4)≤3:=by
 have b1:=Xv l (p+1:Nat) 3 (by omega)
 have b2:=Xv l p 3 (by omega)
 have q:=AQ (Ab.atF l (p+1:Nat) 3) 4 ⟨by omega,by omega⟩ ⟨by omega,by omega⟩
 have hl:R.length≤12:=by have:=hp.1; simp [Xy] at this; omega
 have z:=fun (n m:Int) (h1:Kg n) (h2:Kg m)=>gu n m h1 h2
 refine ⟨⟨⟨by show R.length<_; omega,by simp [Z1],by simp [Z1],hn⟩,hp,rfl,by omega⟩,⟨by show R.length<_; omega,by simp [Z1]; omega,by simp [Z1]; omega,?_,?_,?_,?_,?_⟩,q⟩
 ·exact Nat.le_trans (z (Ab.atF l (p+1:Nat) 3) 4 ⟨by omega,by omega⟩ ⟨by omega,by omega⟩) (by omega)
 ·exact Nat.le_trans (z 1 1 ⟨by omega,by omega⟩ ⟨by omega,by omega⟩) (by omega)
 ·exact Nat.le_trans (z (1+Ab.atF l p 3) 1 ⟨by omega,by omega⟩ ⟨by omega,by omega⟩) (by omega)
 ·exact Nat.le_trans (z 100 1 ⟨by omega,by omega⟩ ⟨by omega,by omega⟩) (by omega)
 ·exact Nat.le_trans (z 1 2 ⟨by omega,by omega⟩ ⟨by omega,by omega⟩) (by omega)
theorem Gb {α:Type} (C:α→List AV) (s:Nat) (d:α) (hs:0<s) (hC:∀ a,(C a).length=s):∀ (L:List α) (j:Nat),j<L.length*s→Xo (L.flatMap C) j=Xs C s d L j
 | [],j,h=>by simp at h
 | a :: L,j,h=>by
  unfold Xs Xo
  rw [List.flatMap_cons,List.getD_eq_getElem?_getD]
  by_cases hj:j<s
  ·rw [Nat.div_eq_of_lt hj,Nat.mod_eq_of_lt hj,List.getElem?_append_left (by rw [hC]; exact hj),← List.getD_eq_getElem?_getD]; rfl
  ·obtain ⟨i,rfl⟩:∃ i,j=s+i:=⟨j - s,by omega⟩
   have hi:i<L.length*s:=by
    rw [List.length_cons,Nat.succ_mul] at h; omega
   have ih:=Gb C s d hs hC L i hi
   unfold Xs Xo at ih
   rw [Nat.add_div_left i hs,Nat.add_mod_left,List.getElem?_append_right (by rw [hC]; omega),hC,Nat.add_sub_cancel_left,← List.getD_eq_getElem?_getD,ih]; rfl
def Qr (l:List Int) (W H M k:Nat):Int×Int:=(1+Ab.atF l (3+k:Nat) ((W:Int) - 1),if k=M then (H:Int) else k)
def Jw (l:List Int) (W H M:Nat):List (Int×Int):=(List.range (M+1)).map (Qr l W H M)
def J4 (l:List Int) (W H M:Nat):List (Int×Int):=(0,0) :: Jw l W H M ++ [(0,(H:Int))]
def KN (l:List Int) (W H M i:Nat):List (Int×Int):=[Qr l W H M 0,((W:Int),0),((W:Int),(H:Int))] ++ (List.range i).map fun i=>Qr l W H M (M - i)
def Jj (l:List Int) (W H M:Nat):List (Int×Int):=KN l W H M M
def Oz (l:List Int):Int×Int:=(Ab.atF l 8 9 - 4,Ab.atF l 9 9 - 4)
def Yj (l:List Int):Nat:=(Ab.atF l 7 4).toNat
def ZE (l:List Int) (W H M:Nat):List (Int×Int):=(Jj l W H M).map (po (Yj l) (Oz l))
def Dg (l:List Int):V2:=Jn ((4 - Yj l) % 4) Z6
def Df (l:List Int):V2:=v0.sub (Ha (Dg l) (JY (Oz l)))
def Hu (l:List Int) (M:Nat):FV:=⟨0,1,1,(M+2:Nat),M,Dg l,Df l,Df l⟩
def ir (a b:PV) (f:FV):List AV:=XO a ++ (XO b ++ Qa f)
def KO:List AV:=[I 0,I 0,I 0,I 0,I 0] ++ (XN ++ (XN ++ XN))
theorem OE (l:List Int) (W H M k:Nat) (h:k≤M):(Jw l W H M).getD k (0,0)=Qr l W H M k:=DL _ _ _ _ (by omega)
theorem OG (l:List Int) (W H M k:Nat) (hW:4≤W∧W≤7) (hH:H≤6) (hk:k≤3):(1≤(Qr l W H M k).1∧(Qr l W H M k).1<W)∧0≤(Qr l W H M k).2∧(Qr l W H M k).2≤6:=by
 have:=Xv l (3+k:Nat) ((W:Int) - 1) (by omega)
 unfold Qr
 simp only
 refine ⟨by omega,?_⟩
 split <;> omega
theorem jO (C:List (Int×Int)) (x y:Int×Int) (j:Nat) (h:j<C.length):(x :: C ++ [y]).getD (j+1) (0,0)=C.getD j (0,0):=by
 rw [List.getD_eq_getElem?_getD,List.getD_eq_getElem?_getD,List.cons_append,List.getElem?_cons_succ,List.getElem?_append_left h]
theorem Wu (C:List (Int×Int)) (h:Int) (j:Nat) (hj:j<(C.length+2)*2):QM ((1+C.length)*2) (QM 2 (Xo [I 0,I 0]) (C.length*2) (Xs K1 2 (0,0) C)) 2 (Xo [I 0,I h]) j=Xs K1 2 (0,0) ((0,0) :: C ++ [(0,h)]) j:=by
 unfold QM Xs
 by_cases h1:j<(1+C.length)*2
 ·rw [if_pos h1]
  by_cases h2:j<2
  ·rw [if_pos h2]
   match j,h2 with
   | 0,_=>rfl
   | 1,_=>rfl
  ·rw [if_neg h2,if_pos (by omega)]
   obtain ⟨i,rfl⟩:∃ i,j=i+2:=⟨j - 2,by omega⟩
   rw [show (i+2) / 2=i / 2+1 by omega,show (i+2) % 2=i % 2 by omega,show i+2 - 2=i by omega,jO C (0,0) (0,h) (i / 2) (by omega)]
 ·rw [if_neg h1,if_pos (by omega)]
  have e:((0,0) :: C ++ [(0,h)]).getD (j / 2) (0,0)=(0,h):=by
   rw [show j / 2=C.length+1 by omega,List.getD_eq_getElem?_getD,List.cons_append,List.getElem?_cons_succ,List.getElem?_append_right (Nat.le_refl _),Nat.sub_self]; rfl
  rw [e]
  obtain ⟨i,hi,rfl⟩:∃ i,i<2∧j=(1+C.length)*2+i:=⟨j - (1+C.length)*2,by omega,by omega⟩
  rw [Nat.add_sub_cancel_left,show ((1+C.length)*2+i) % 2=i by omega]
  match i,hi with
  | 0,_=>rfl
  | 1,_=>rfl
theorem Tv (a b c d:Int×Int) (j:Nat) (hj:j<8):QM 6 (Xo (K1 a ++ (K1 b ++ K1 c))) 2 (Xo (K1 d)) j=Xs K1 2 (0,0) [a,b,c,d] j:=by
 match j,hj with
 | 0,_=>rfl
 | 1,_=>rfl
 | 2,_=>rfl
 | 3,_=>rfl
 | 4,_=>rfl
 | 5,_=>rfl
 | 6,_=>rfl
 | 7,_=>rfl
def Fe (g:Int×Int→Int×Int) (S:List (Int×Int)) (k:Nat):List (Int×Int):=(S.take k).map g ++ S.drop k
theorem Uv (g:Int×Int→Int×Int) (S:List (Int×Int)) (k:Nat) (h:k<S.length):(Fe g S k).getD k (0,0)=S.getD k (0,0):=by
 unfold Fe
 rw [List.getD_eq_getElem?_getD,List.getElem?_append_right (by simp; omega),List.getD_eq_getElem?_getD]
 simp [Nat.min_eq_left (Nat.le_of_lt h)]
theorem eX (g:Int×Int→Int×Int) (S:List (Int×Int)) (k:Nat) (h:k≤S.length):(Fe g S k).length=S.length:=by unfold Fe; simp; omega
theorem eY (g:Int×Int→Int×Int) (S:List (Int×Int)) (k:Nat) (h:k<S.length):(Fe g S k).set k (g (S.getD k (0,0)))=Fe g S (k+1):=by
 refine List.ext_getElem? fun j=>?_
 unfold Fe
 rw [List.getElem?_set]
 by_cases hj:k=j
 ·subst hj
  rw [if_pos rfl,if_pos (by simp; omega),List.getElem?_append_left (by simp; omega),List.getElem?_map,List.getElem?_take,if_pos (by omega),List.getElem?_eq_getElem h,List.getD_eq_getElem?_getD,List.getElem?_eq_getElem h]; rfl
 ·rw [if_neg hj]
  by_cases hlt:j<k
  ·rw [List.getElem?_append_left (by simp; omega),List.getElem?_append_left (by simp; omega),List.getElem?_map,List.getElem?_map,List.getElem?_take,List.getElem?_take,if_pos hlt,if_pos (by omega)]
  ·rw [List.getElem?_append_right (by simp; omega),List.getElem?_append_right (by simp; omega),List.getElem?_drop,List.getElem?_drop]
   congr 1
   simp; omega
theorem rD (l:List (Int×Int)) (k:Nat) (x:Int×Int) (hk:k<l.length):Be (Be (Xs K1 2 (0,0) l) (k*2) (I x.1)) (k*2+1) (I x.2)=Xs K1 2 (0,0) (l.set k x):=by
 funext j
 have e:(l.set k x).getD k (0,0)=x:=by rw [List.getD_eq_getElem?_getD,List.getElem?_set_self hk]; rfl
 unfold Be Xs
 by_cases h1:j=k*2+1
 ·rw [if_pos h1,h1,show (k*2+1) / 2=k by omega,show (k*2+1) % 2=1 by omega,e]; rfl
 ·rw [if_neg h1]
  by_cases h2:j=k*2
  ·rw [if_pos h2,h2,show (k*2) / 2=k by omega,show (k*2) % 2=0 by omega,e]; rfl
  ·rw [if_neg h2]
   have:(l.set k x).getD (j / 2) (0,0)=l.getD (j / 2) (0,0):=by rw [List.getD_eq_getElem?_getD,List.getElem?_set_ne (by omega),List.getD_eq_getElem?_getD]
   rw [this]
theorem Ep (l:List Int) (W H M:Nat) (hW:4≤W∧W≤7) (hH:H≤6) (hM:M≤3) (k:Nat) (hk:k≤M):(0≤(Qr l W H M k).1∧(Qr l W H M k).1≤7)∧0≤(Qr l W H M k).2∧(Qr l W H M k).2≤7:=by
 have:=OG l W H M k hW hH (by omega)
 omega
theorem Id (l:List Int) (W H M:Nat) (hW:4≤W∧W≤7) (hH:H≤6) (hM:M≤3):QP (J4 l W H M):=fun c hc=>by
 unfold J4 at hc
 rw [List.mem_append,List.mem_cons,List.mem_singleton] at hc
 rcases hc with (rfl | hc) | rfl
 ·exact ⟨⟨by decide,by decide⟩,⟨by decide,by decide⟩⟩
 ·obtain ⟨k,hk,rfl⟩:=List.mem_map.1 hc
  have:=Ep l W H M hW hH hM k (by have:=List.mem_range.1 hk; omega)
  omega
 ·show (-65536≤(0:Int)∧(0:Int)≤65536)∧(-65536≤(H:Int)∧(H:Int)≤65536)
  omega
theorem GS (l:List Int) (W H M:Nat) (hW:4≤W∧W≤7) (hH:H≤6) (hM:M≤3):∀ c∈Jj l W H M,(0≤c.1∧c.1≤7)∧0≤c.2∧c.2≤7:=fun c hc=>by
 unfold Jj KN at hc
 simp only [List.mem_append,List.mem_cons,List.not_mem_nil,or_false,List.mem_map,List.mem_range] at hc
 rcases hc with (rfl | rfl | rfl) | ⟨k,hk,rfl⟩
 ·exact Ep l W H M hW hH hM 0 (by omega)
 ·show (0≤(W:Int)∧(W:Int)≤7)∧0≤(0:Int)∧(0:Int)≤7
  omega
 ·show (0≤(W:Int)∧(W:Int)≤7)∧0≤(H:Int)∧(H:Int)≤7
  omega
 ·exact Ep l W H M hW hH hM (M - k) (by omega)
theorem GW (l:List Int) (W H M:Nat) (hW:4≤W∧W≤7) (hH:H≤6) (hM:M≤3):QP (ZE l W H M):=fun c hc=>by
 obtain ⟨p,hp,rfl⟩:=List.mem_map.1 hc
 have h1:=GS l W H M hW hH hM p hp
 have h2:=FJ p 7 (by omega) (by omega) (Yj l)
 have b8:=Xv l 8 9 (by omega)
 have b9:=Xv l 9 9 (by omega)
 show (-65536≤(KG (Yj l) p).1+(Ab.atF l 8 9 - 4)∧(KG (Yj l) p).1+(Ab.atF l 8 9 - 4)≤65536)∧(-65536≤(KG (Yj l) p).2+(Ab.atF l 9 9 - 4)∧(KG (Yj l) p).2+(Ab.atF l 9 9 - 4)≤65536)
 omega
theorem Iw (l:List Int):vb (Dg l)≤10∧vb (Df l)≤100:=by
 have h1:vb (Dg l)≤10:=by unfold Dg; rw [C9]; exact FP
 have b8:=Xv l 8 9 (by omega)
 have b9:=Xv l 9 9 (by omega)
 have h2:vb (JY (Oz l))≤3:=by
  have q1:=KC (Oz l).1 3 (by omega) (Qm (by unfold Oz; simp only; exact ⟨by omega,by omega⟩))
  have q2:=KC (Oz l).2 3 (by omega) (Qm (by unfold Oz; simp only; exact ⟨by omega,by omega⟩))
  unfold vb JY
  simp only
  omega
 have h3:=Du (Dg l) (JY (Oz l))
 have h4:=K9 v0 (Ha (Dg l) (JY (Oz l)))
 have:=Dv
 refine ⟨h1,?_⟩
 unfold Df
 omega
def H4 (l:List Int) (W H:Nat):List Int:=[(W:Int) - 4,(H:Int) - 3,0,Ab.atF l 3 ((W:Int) - 1),Ab.atF l 4 ((W:Int) - 1),0,0,Ab.atF l 7 4]
def ZY (l:List Int) (W H M:Nat) (x9 x10 x11 x12 x13 x14 x16 x17 x18:AV) (r:List AO):AS:=⟨20,[],[X6 l,.any,.ref 0 0 0,I W,I H,I M,.osl 1 (M+1) 2 0 (M+1),.any,.any,x9,x10,x11,x12,x13,x14,.any,x16,x17,x18,.any],[],[.row 0 79 (Xo (J9 ++ (J9 ++ KO))),.row (M+1) ((M+1)*2) (Xs K1 2 (0,0) (Jw l W H M))] ++ r⟩
theorem NN (l:List Int) (W H M i:Nat):KN l W H M (i+1)=KN l W H M i ++ [Qr l W H M (M - i)]:=by
 unfold KN; rw [Iq,List.append_assoc]
theorem GR (l:List Int) (W H M i:Nat):(KN l W H M i).length=3+i:=by simp [KN]; omega
theorem Rc (a b:PV) (f:FV):∀ x∈ir a b f,Settled x:=fun x h=>by
 unfold ir at h
 rw [List.mem_append,List.mem_append] at h
 rcases h with h | h | h
 ·exact XG a x h
 ·exact XG b x h
 ·exact Qd f x h
theorem qN (m v n:Nat) (L:List (Int×Int)):XQ m (.row v n (Xs K1 2 (0,0) L))=True:=eq_true fun j _=>X8 (Xg (Ke _) _)
theorem Rg (f:Nat→AV) (t:Bool):Settled (.sl 0 0 f t):=J0 fun j hj=>absurd hj (Nat.not_lt_zero j)
theorem sa (m v n:Nat):XQ m (.row v n (Xo (J9 ++ (J9 ++ KO))))=True:=eq_true fun j _=>X8 (Xg (l:=J9 ++ (J9 ++ KO)) (by simp [J9,KO,XN,Xa,X3,Rg]) _)
theorem Iv (l:List Int) (hl:Bg l) (W H M:Nat) (hW:(4:Int)+Ab.atF l 0 4=W) (hH:(3:Int)+Ab.atF l 1 4=H) (hM:(1:Int)+Ab.atF l 2 3=M) (A' B':PV) (F':FV)
  (hr:¬ (XI (Xy (J4 l W H M))∧XI (Xy (Jj l W H M)))→Fn Tryz.prog 28 [X6 (H4 l W H)] (.agg (ir A' B' F'))) :
  ∃ A B F,Fn Tryz.prog 28 [X6 l] (.agg (ir A B F))∧(((XI (Xy (J4 l W H M))∧XI (Xy (Jj l W H M)))∧A=Z1 (J4 l W H M) l 10∧B=Z1 (ZE l W H M) l 20∧F=Hu l M) ∨
   (¬ (XI (Xy (J4 l W H M))∧XI (Xy (Jj l W H M)))∧A=A'∧B=B'∧F=F')):=by
 obtain ⟨A,B,F,hABF⟩:∃ A B F,(((XI (Xy (J4 l W H M))∧XI (Xy (Jj l W H M)))∧A=Z1 (J4 l W H M) l 10∧B=Z1 (ZE l W H M) l 20∧F=Hu l M) ∨
   (¬ (XI (Xy (J4 l W H M))∧XI (Xy (Jj l W H M)))∧A=A'∧B=B'∧F=F')):=by
  by_cases h:XI (Xy (J4 l W H M))∧XI (Xy (Jj l W H M))
  ·exact ⟨_,_,_,.inl ⟨h,rfl,rfl,rfl⟩⟩
  ·exact ⟨_,_,_,.inr ⟨h,rfl,rfl,rfl⟩⟩
 refine ⟨A,B,F,?_,hABF⟩
 obtain ⟨R,hR⟩:∃ R,R=AV.agg (ir A B F):=⟨_,rfl⟩
 have sR:Settled R:=hR▸Qj (Rc A B F)
 rw [← hR]
 have b0:=Xv l 0 4 (by omega)
 have b1:=Xv l 1 4 (by omega)
 have b2:=Xv l 2 3 (by omega)
 have c0:=Qf l 0 4 hl (by omega)
 have c1:=Qf l 1 4 hl (by omega)
 have c2:=Qf l 2 3 hl (by omega)
 refine Fq Tryz.call28 Tryz.func28 20 [] [37,380000013,380000017] [] (by simp [X5]) (X1 1000 ?_)
 simp (disch:=omega) only [AS.start,X4,↓Xk,wD,↓X2,wA,seval,wE]
 refine X0 c0 rfl ?_
 simp (disch:=omega) only [X4,hW,↓Xk,wD,↓X2,wA,seval,wE]
 refine X0 c1 rfl ?_
 simp (disch:=omega) only [X4,hH,↓Xk,wD,↓X2,wA,seval,wE]
 refine X0 c2 rfl ?_
 simp (disch:=omega) only [X4,hM,↓Xk,wD,↓X2,wA,seval,wE]
 refine Xf (fun k:Nat=>⟨20,[],[X6 l,.any,.ref 0 0 0,I W,I H,I M,.osl 1 k 2 0 k,I k,.any,.any,.any,.any,.any,.any,.any,.any,.any,.any,.any,.any],[],[.row 0 79 (Xo (J9 ++ (J9 ++ KO))),.row k (k*2) (Xs K1 2 (0,0) ((Jw l W H M).take k))]⟩) (fun k=>k≤M+1) (fun k=>M+1 - k) 0 (by omega)
  (Sub.trans (QT 6 2 (Xs K1 2 (0,0) []) rfl) (Xb rfl (by simp [AS.put,Xi,X4,I]) (by simp [AS.put,Xj]) (by simp [AS.put,J9,KO,XN,I]))) ?_
 intro k hk next
 by_cases hk2:k<M+1
 ·have c3:=Qf l (3+k:Nat) ((W:Int) - 1) hl (by omega)
  have b3:=Xv l (3+k:Nat) ((W:Int) - 1) (by omega)
  have htk:(Jw l W H M).take (k+1)=(Jw l W H M).take k ++ [Qr l W H M k]:=by rw [QJ _ (0,0) k (by simp [Jw]; omega),OE _ _ _ _ _ (by omega)]
  have nx:=next (k+1)
  rw [htk] at nx
  have hcl:((Jw l W H M).take k).length=k:=by simp [Jw]; omega
  have hcp:Qr l W H M k=(1+Ab.atF l (3+k:Nat) ((W:Int) - 1),if k=M then (H:Int) else k):=rfl
  rw [hcp] at nx
  generalize Ab.atF l (3+k:Nat) ((W:Int) - 1)=x at *
  rw [Int.natCast_add] at c3
  change Fn _ _ [X6 l,I ((3:Int)+k),_] _ at c3
  generalize (Jw l W H M).take k=C at *
  by_cases he:k=M
  ·rw [if_pos he] at nx
   have hap:=Qv K1 2 (0,0) C (1+x,(H:Int)) (by omega)
   rw [hcl] at hap
   refine X1 1000 ?_
   simp (disch:=omega) only [X4,↓Xk,wD,↓X2,wA,seval,wE]
   refine X0 c3 rfl ?_
   simp (disch:=omega) only [X4,↓Xk,wD,↓X2,wA,seval,wE]
   exact ⟨DI (1+x,(H:Int)),nx _ (by omega) (by omega) (Xb rfl (by simp [Xi,X4,I]) (by simp [Xj]) (by rw [← hap]; simp [K1,I]))⟩
  ·rw [if_neg he] at nx
   have hap:=Qv K1 2 (0,0) C (1+x,(k:Int)) (by omega)
   rw [hcl] at hap
   refine X1 1000 ?_
   simp (disch:=omega) only [X4,↓Xk,wD,↓X2,wA,seval,wE]
   refine X0 c3 rfl ?_
   simp (disch:=omega) only [X4,↓Xk,wD,↓X2,wA,seval,wE]
   exact ⟨DI (1+x,(k:Int)),nx _ (by omega) (by omega) (Xb rfl (by simp [Xi,X4,I]) (by simp [Xj]) (by rw [← hap]; simp [K1,I]))⟩
 obtain rfl:k=M+1:=by omega
 have htk:(Jw l W H M).take (M+1)=Jw l W H M:=List.take_of_length_le (by simp [Jw])
 rw [htk]
 have hCl:(Jw l W H M).length=M+1:=by simp [Jw]
 have hq:∀ k,k≤M→Xs K1 2 (0,0) (Jw l W H M) (k*2)=I (Qr l W H M k).1∧Xs K1 2 (0,0) (Jw l W H M) (k*2+1)=I (Qr l W H M k).2:=fun k hk=>by
  rw [K6 K1 2 (0,0) (Jw l W H M) k (by omega),JP K1 2 (0,0) (Jw l W H M) k 1 (by omega),OE _ _ _ _ _ hk]
  exact ⟨rfl,rfl⟩
 have q0:Xs K1 2 (0,0) (Jw l W H M) 0=I (Qr l W H M 0).1:=(hq 0 (by omega)).1
 have q1:Xs K1 2 (0,0) (Jw l W H M) 1=I (Qr l W H M 0).2:=(hq 0 (by omega)).2
 have hF:J4 l W H M=(0,0) :: Jw l W H M ++ [(0,(H:Int))]:=rfl
 have hfr:=Wu (Jw l W H M) H
 rw [← hF,hCl] at hfr
 have hFl:(J4 l W H M).length=M+3:=by rw [hF]; simp [hCl]
 have hSl:(Jj l W H M).length=M+3:=by unfold Jj; rw [GR]; omega
 have hcr:=OG l W H M
 have n1:=Id l W H M (by omega) (by omega) (by omega)
 have n2:=GS l W H M (by omega) (by omega) (by omega)
 refine X1 1000 ?_
 simp (disch:=omega) only [X4,q0,q1,↓Xk,wD,↓X2,wA,seval,wE]
 refine ⟨fun j _=>Rn _ _ _ _ _ (by omega) fun a=>⟨rfl,by simp [K1,I,AV.one]⟩,DI (0,(H:Int)),?_⟩
 refine Xf (fun i:Nat=>match i with
  | 0=>ZY l W H M (.osl 2 1 2 0 (M+3)) (.sl 3 6 (Xo [I (Qr l W H M 0).1,I (Qr l W H M 0).2,I W,I 0,I W,I H]) true) (I M) .any .any .any .any .any .any [.row 1 ((M+3)*2) (Xs K1 2 (0,0) (J4 l W H M))]
  | i+1=>ZY l W H M (.osl 2 1 2 0 (M+3)) (.osl 3 i 2 0 (4+i)) (I (M - (i+1):Nat)) .any .any .any .any .any .any [.row 1 ((M+3)*2) (Xs K1 2 (0,0) (J4 l W H M)),.row i ((4+i)*2) (Xs K1 2 (0,0) (KN l W H M (i+1)))])
  (fun i=>i≤M) (fun i=>M - i) 0 (by omega)
  (Sub.trans (QU 2 ((M+3)*2) (Xs K1 2 (0,0) (J4 l W H M)) rfl (by omega) (fun j hj=>hfr j (by omega))) (Xb rfl (by simp [ZY,Xi,X4,I]; omega) (by simp [Xj,ZY]) (by simp [ZY,J9,KO,XN,I]))) ?_
 intro i hi next
 match i,hi,next with
 | 0,hi,next =>
  have ho:=Tv (Qr l W H M 0) ((W:Int),0) ((W:Int),(H:Int)) (Qr l W H M M)
  have w1:=(hq M (by omega)).1
  have w2:=(hq M (by omega)).2
  refine X1 1000 ?_
  simp (disch:=omega) only [ZY,X4,List.cons_append,List.nil_append,w1,w2,↓Xk,wD,↓X2,wA,seval,wE]
  exact ⟨DI (Qr l W H M M),next 1 _ (by omega) (by omega) (Sub.trans (QU 3 8 (Xs K1 2 (0,0) (KN l W H M 1)) rfl (by omega) (fun j hj=>ho j hj)) (Xb rfl (by simp [ZY,Xi,X4,I]; omega) (by simp [Xj,ZY]) (by simp [ZY])))⟩
 | i+1,hi,next =>
 by_cases hi2:i+1<M
 ·have w1:=(hq (M - (i+1)) (by omega)).1
  have w2:=(hq (M - (i+1)) (by omega)).2
  have hs:=NN l W H M (i+1)
  have hap:=Qv K1 2 (0,0) (KN l W H M (i+1)) (Qr l W H M (M - (i+1))) (by omega)
  rw [GR,show 3+(i+1)=4+i by omega] at hap
  refine X1 1000 ?_
  simp (disch:=omega) only [ZY,X4,List.cons_append,List.nil_append,w1,w2,↓Xk,wD,↓X2,wA,seval,wE]
  exact ⟨DI (Qr l W H M (M - (i+1))),next (i+2) _ (by omega) (by omega) (Xb rfl (by simp [ZY,Xi,X4,I]; omega) (by simp [Xj,ZY]) (by rw [← hs] at hap; simp [ZY,← hap,K1,I,show 4+i+1=4+(i+1) by omega]))⟩
 obtain rfl:M=i+1:=by omega
 clear next
 have k1:=L9 (J4 l W H (i+1)) n1 (by omega)
 have k2:=L9 (Jj l W H (i+1)) (fun c hc=>by have:=n2 c hc; omega) (by omega)
 refine X1 1000 ?_
 simp (disch:=omega) only [ZY,X4,List.cons_append,List.nil_append,↓Xk,wD,↓X2,wA,seval,wE]
 refine Ju k1 rfl ⟨?_,trivial⟩ (ZQ _) ?_
 ·show Jt _ (.osl 2 1 2 0 (i+1+3)) (CO (J4 l W H (i+1)))
  rw [Xh,hFl]
  refine QI (.inl rfl) (by omega) (fun h=>by omega) fun j hj=>?_
  rw [Nat.zero_add]
  exact (Xg (l:=K1 ((J4 l W H (i+1)).getD (j / 2) (0,0))) (Ke _) _).sees _
 by_cases p1:XI (Xy (J4 l W H (i+1)))
 rotate_left
 ·have hr2:=hr (fun h=>p1 h.1)
  rcases hABF with ⟨h,_⟩ | ⟨_,rfl,rfl,rfl⟩
  ·exact absurd h.1 p1
  have a3:=Qf l 3 ((W:Int) - 1) hl (by omega)
  have a4:=Qf l 4 ((W:Int) - 1) hl (by omega)
  have a7:=Qf l 7 4 hl (by omega)
  simp (disch:=omega) only [decide_eq_false p1,ZY,X4,List.cons_append,List.nil_append,↓Xk,wD,↓X2,wA,seval,wE]
  refine X0 a3 rfl ?_
  simp (disch:=omega) only [ZY,X4,List.cons_append,List.nil_append,↓Xk,wD,↓X2,wA,seval,wE]
  refine X0 a4 rfl ?_
  simp (disch:=omega) only [ZY,X4,List.cons_append,List.nil_append,↓Xk,wD,↓X2,wA,seval,wE]
  refine X0 a7 rfl ?_
  simp (disch:=omega) only [ZY,X4,List.cons_append,List.nil_append,↓Xk,wD,↓X2,wA,seval,wE]
  refine XW hr2 ⟨Zp rfl rfl,trivial⟩ ?_
  simp (disch:=omega) only [ir,XO,Qa,J9,KO,XN,X4,List.cons_append,List.nil_append,↓Xk,wD,↓X2,wA,seval,wE]
  exact ZD rfl Uq rfl rfl rfl sR (hR.trans rfl)
 simp (disch:=omega) only [decide_eq_true p1,ZY,X4,List.cons_append,List.nil_append,↓Xk,wD,↓X2,wA,seval,wE]
 refine Ju k2 rfl ⟨?_,trivial⟩ (ZQ _) ?_
 ·show Jt _ (.osl 3 i 2 0 (4+i)) (CO (Jj l W H (i+1)))
  rw [Xh,hSl,show i+1+3=4+i by omega]
  refine QI (.inl rfl) (by omega) (fun h=>by omega) fun j hj=>?_
  rw [Nat.zero_add]
  exact (Xg (l:=K1 ((Jj l W H (i+1)).getD (j / 2) (0,0))) (Ke _) _).sees _
 by_cases p2:XI (Xy (Jj l W H (i+1)))
 rotate_left
 ·have hr2:=hr (fun h=>p2 h.2)
  rcases hABF with ⟨h,_⟩ | ⟨_,rfl,rfl,rfl⟩
  ·exact absurd h.2 p2
  have a3:=Qf l 3 ((W:Int) - 1) hl (by omega)
  have a4:=Qf l 4 ((W:Int) - 1) hl (by omega)
  have a7:=Qf l 7 4 hl (by omega)
  simp (disch:=omega) only [decide_eq_false p2,ZY,X4,List.cons_append,List.nil_append,↓Xk,wD,↓X2,wA,seval,wE]
  refine X0 a3 rfl ?_
  simp (disch:=omega) only [ZY,X4,List.cons_append,List.nil_append,↓Xk,wD,↓X2,wA,seval,wE]
  refine X0 a4 rfl ?_
  simp (disch:=omega) only [ZY,X4,List.cons_append,List.nil_append,↓Xk,wD,↓X2,wA,seval,wE]
  refine X0 a7 rfl ?_
  simp (disch:=omega) only [ZY,X4,List.cons_append,List.nil_append,↓Xk,wD,↓X2,wA,seval,wE]
  refine XW hr2 ⟨Zp rfl rfl,trivial⟩ ?_
  simp (disch:=omega) only [ir,XO,Qa,J9,KO,XN,X4,List.cons_append,List.nil_append,↓Xk,wD,↓X2,wA,seval,wE]
  exact ZD rfl Uq rfl rfl rfl sR (hR.trans rfl)
 clear hr
 rcases hABF with ⟨_,rfl,rfl,rfl⟩ | ⟨h,_⟩
 rotate_left
 ·exact absurd ⟨p1,p2⟩ h
 have a7:=Qf l 7 4 hl (by omega)
 have a8:=Qf l 8 9 hl (by omega)
 have a9:=Qf l 9 9 hl (by omega)
 have b7:=Xv l 7 4 (by omega)
 have b8:=Xv l 8 9 (by omega)
 have b9:=Xv l 9 9 (by omega)
 have e7:Ab.atF l 7 4=(Yj l:Int):=by unfold Yj; omega
 have hD:Oz l=(Ab.atF l 8 9 - 4,Ab.atF l 9 9 - 4):=rfl
 simp (disch:=omega) only [decide_eq_true p2,ZY,X4,List.cons_append,List.nil_append,↓Xk,wD,↓X2,wA,seval,wE]
 refine X0 a7 rfl ?_
 simp (disch:=omega) only [e7,ZY,X4,List.cons_append,List.nil_append,↓Xk,wD,↓X2,wA,seval,wE]
 refine X0 a8 rfl ?_
 simp (disch:=omega) only [ZY,X4,List.cons_append,List.nil_append,↓Xk,wD,↓X2,wA,seval,wE]
 refine X0 a9 rfl ?_
 simp (disch:=omega) only [ZY,X4,List.cons_append,List.nil_append,↓Xk,wD,↓X2,wA,seval,wE]
 have hSN:KN l W H (i+1) (i+1)=Jj l W H (i+1):=rfl
 rw [← hSN] at hSl n2
 have hST:ZE l W H (i+1)=(KN l W H (i+1) (i+1)).map (po (Yj l) (Oz l)):=rfl
 have n3:=GW l W H (i+1) (by omega) (by omega) (by omega)
 have hTl:(ZE l W H (i+1)).length=4+i:=by rw [hST,List.length_map,hSl]; omega
 have q4:Yj l≤3:=by omega
 generalize KN l W H (i+1) (i+1)=S at *
 have bD:(-4≤(Oz l).1∧(Oz l).1≤4)∧-4≤(Oz l).2∧(Oz l).2≤4:=by rw [hD]; omega
 have hAt:Df l=v0.sub (Ha (Dg l) (JY (Oz l))):=rfl
 have hT:Dg l=Jn ((4 - Yj l) % 4) Z6:=rfl
 have hPF:Hu l (i+1)=⟨0,1,1,(i+1+2:Nat),(i+1:Nat),Dg l,Df l,Df l⟩:=rfl
 have hps:=Iw l
 rw [hPF] at hR
 have m1:=Us (J4 l W H (i+1)) l 10 (by omega) hl (by omega)
 have m2:=Us (ZE l W H (i+1)) l 20 (by omega) hl (by omega)
 generalize Z1 (J4 l W H (i+1)) l 10=A at *
 generalize Z1 (ZE l W H (i+1)) l 20=B at *
 generalize J4 l W H (i+1)=FL at *
 generalize Df l=at' at *
 generalize Oz l=D at *
 obtain ⟨D1,D2⟩:=D
 rw [Prod.mk.injEq] at hD
 obtain ⟨rfl,rfl⟩:=hD
 generalize Yj l=q at *
 generalize Dg l=T at *
 generalize Ab.atF l 8 9 - 4=D1 at *
 generalize Ab.atF l 9 9 - 4=D2 at *
 simp only at bD
 generalize hg:po q (D1,D2)=g at *
 refine Xf (fun k:Nat=>ZY l W H (i+1) (.osl 2 1 2 0 (i+1+3)) (.osl 3 i 2 0 (4+i)) .any (I q) (.ref 4 0 0) (I k) .any .any .any [.row 1 ((i+1+3)*2) (Xs K1 2 (0,0) FL),.row i ((4+i)*2) (Xs K1 2 (0,0) (Fe g S k)),.row 0 2 (Xo [I D1,I D2])])
  (fun k=>k≤4+i) (fun k=>4+i - k) 0 (by omega)
  (Xb rfl (by simp [ZY,Xi,X4,I]) (by simp [Xj,ZY]) (by simp [ZY,Fe,I])) ?_
 intro k hk next
 by_cases hk2:k<4+i
 ·have hp:=n2 (S.getD k (0,0)) (JI (by omega))
  have hb:=FJ (S.getD k (0,0)) 7 (by omega) (by omega) q
  have c:=YJ (S.getD k (0,0)) q (by omega) (by omega) (by omega)
  have u0:Xs K1 2 (0,0) (Fe g S k) (k*2)=I (S.getD k (0,0)).1:=by rw [K6 _ _ _ _ _ (by omega),Uv g S k (by omega)]; rfl
  have u1:Xs K1 2 (0,0) (Fe g S k) (k*2+1)=I (S.getD k (0,0)).2:=by rw [JP _ _ _ _ _ _ (by omega),Uv g S k (by omega)]; rfl
  have hs:=rD (Fe g S k) k (g (S.getD k (0,0))) (by rw [eX g S k (by omega)]; omega)
  rw [eY g S k (by omega)] at hs
  have hgk:g (S.getD k (0,0))=((KG q (S.getD k (0,0))).1+D1,(KG q (S.getD k (0,0))).2+D2):=by rw [← hg]; rfl
  rw [hgk] at hs
  generalize S.getD k (0,0)=p at *
  generalize KG q p=w at *
  refine X1 1000 ?_
  simp (disch:=omega) only [ZY,X4,K1,List.cons_append,List.nil_append,u0,u1,↓Xk,wD,↓X2,wA,seval,wE]
  refine X0 c rfl ?_
  simp (disch:=omega) only [ZY,X4,K1,List.cons_append,List.nil_append,↓Xk,wD,↓X2,wA,seval,wE]
  exact next (k+1) _ (by omega) (by omega) (Xz (m:=5) (Nat.zero_le _) rfl (by simp [ZY,Xi,X4,I]) (by simp [Xj,ZY]) (by simp [ZY,← hs,K1,I]) (by simp [ZY,XA]) (by simp [ZY,XA]) (by simp [ZY,qN,sa,XA]))
 obtain rfl:k=4+i:=by omega
 have hm:Fe g S (4+i)=ZE l W H (i+1):=by
  rw [hST]; unfold Fe; rw [List.take_of_length_le (by omega),List.drop_eq_nil_of_le (by omega),List.append_nil]
 rw [hm]
 clear next
 generalize ZE l W H (i+1)=ST at *
 refine Run.sub (s':=ZY l W H (i+1) (CO FL) (CO ST) .any (I q) (.ref 4 0 0) (I (4+i:Nat)) .any .any .any [.con 1 ((i+1+3)*2) (Xs K1 2 (0,0) FL),.con i ((4+i)*2) (Xs K1 2 (0,0) ST),.row 0 2 (Xo [I D1,I D2])]) ?_
  (Sub.trans (QL 2 rfl) (Sub.trans (L6 9 (M:=(i+1+3)*2) rfl rfl (by omega) (fun h=>by omega)) (Sub.trans (QL 3 rfl) (Sub.trans (L6 10 (M:=(4+i)*2) rfl rfl (by omega) (fun h=>by omega)) (Xb rfl (by simp [AS.put,ZY,Xi,Xh,X4,hFl,hTl,I]) (by simp [AS.put,Xj,ZY]) (by simp [AS.put,ZY]))))))
 have o1:=QY 1 1 ⟨by omega,by omega⟩ ⟨by omega,by omega⟩
 have v1:Rat.divInt 1 1=1:=by decide +kernel
 rw [v1] at o1
 have hrem:((4:Int) - q).tmod 4=((4 - q) % 4:Nat):=by rw [Int.tmod_eq_emod_of_nonneg (by omega)]; omega
 refine X1 1000 ?_
 simp (disch:=omega) only [ZY,X4,List.cons_append,List.nil_append,↓Xk,wD,↓X2,wA,seval,wE]
 refine X0 m1 rfl ?_
 simp (disch:=omega) only [ZY,X4,List.cons_append,List.nil_append,↓Xk,wD,↓X2,wA,seval,wE]
 refine X0 m2 rfl ?_
 simp (disch:=omega) only [ZY,X4,Jg,XO,J9,KO,XN,List.cons_append,List.nil_append,↓Xk,wD,↓X2,wA,seval,wE]
 refine X0 o1 rfl ?_
 simp (disch:=omega) only [X4,Xh,↓Xk,wD,↓X2,wA,seval,wE]
 have wst:WeakL [.bool (sg 1),X6 (X9 (Rat.num 1).natAbs),.bool false,X6 (X9 (qd 1)),.bool false,.sl 0 0 (fun _=>.any) false,.bool false,.sl 0 0 (fun _=>.any) false] (vC Z6):=by
  obtain ⟨w1,w2,w3,w4,w5,w6,w7,w8,_⟩:=ZI
  exact ⟨Weak.rfl' _,Weak.rfl' _,Weak.rfl' _,Weak.rfl' _,w5,w6,w7,w8,trivial⟩
 refine Xf (fun j:Nat=>ZY l W H (i+1) .any .any .any (I q) (.ref 4 0 0) .any (.ref 5 0 0) (.ref 6 0 0) (I j) [.con 1 ((i+1+3)*2) (Xs K1 2 (0,0) FL),.con i ((4+i)*2) (Xs K1 2 (0,0) ST),.row 0 2 (Xo [I D1,I D2]),.row 0 79 (Xo (XO A ++ (XO B ++ NZ))),.row 0 8 (Xo (vC (Jn j Z6)))])
  (fun j=>j≤(4 - q) % 4) (fun j=>(4 - q) % 4 - j) 0 (by omega)
  (Sub.trans (L5 6 (vC Z6) rfl rfl wst) (Xb rfl (by simp [ZY,Xi,X4,I]) (by simp [Xj,ZY]) (by simp [ZY,J9,KO,XN,NZ,KR,XO,Xh,Xr,X4,Jn,I]))) ?_
 intro j hj next
 have hvq:vb (Jn j Z6)≤10:=by rw [C9]; exact FP
 have hqs:Jn (j+1) Z6=Ap (Jn j Z6):=rfl
 by_cases hj2:j<(4 - q) % 4
 ·have nx:=next (j+1)
  rw [hqs] at nx
  generalize Jn j Z6=V at *
  have q1:=Qo V
  have c:=Cu V.y (by unfold rm; omega)
  refine X1 1000 ?_
  simp (disch:=omega) only [ZY,X4,vC,hrem,List.cons_append,List.nil_append,↓Xk,wD,↓X2,wA,seval,wE]
  refine X0 c rfl ?_
  simp (disch:=omega) only [X4,↓Xk,wD,↓X2,wA,seval,wE]
  have hV:vC (Ap V)=[.bool (sg (-V.y)),X6 (X9 (-V.y).num.natAbs),.bool false,X6 (X9 (qd (-V.y))),.bool (sg V.x),X6 (X9 V.x.num.natAbs),.bool false,X6 (X9 (qd V.x))]:=rfl
  exact nx _ (by omega) (by omega) (Xb rfl (by simp [ZY,Xi,X4,I]) (by simp [Xj,ZY]) (by simp [ZY,J9,KO,XN,NZ,KR,XO,Xh,Xr,X4,hV,I]))
 obtain rfl:j=(4 - q) % 4:=by omega
 rw [← hT] at hvq ⊢
 clear next
 have c1:=Ax D1 D2 ⟨by omega,by omega⟩ ⟨by omega,by omega⟩
 have hpv:(⟨(D1:Rat),(D2:Rat)⟩:V2)=JY (D1,D2):=rfl
 rw [hpv] at c1
 have vq:vb (JY (D1,D2))≤3:=by
  have q1:=KC D1 3 (by omega) (Qm ⟨by omega,by omega⟩)
  have q2:=KC D2 3 (by omega) (Qm ⟨by omega,by omega⟩)
  unfold vb JY
  simp only
  omega
 have c2:=E9 T (JY (D1,D2)) (by unfold vm; omega) (by unfold vm; omega)
 have vr:=Du T (JY (D1,D2))
 have vz:=Dv
 have c3:=JU v0 (Ha T (JY (D1,D2))) (by unfold rm; omega) (by unfold rm; omega)
 rw [← hAt] at c3
 refine X1 1000 ?_
 simp (disch:=omega) only [ZY,X4,vC,hrem,List.cons_append,List.nil_append,↓Xk,wD,↓X2,wA,seval,wE]
 refine X0 c1 rfl ?_
 simp (disch:=omega) only [X4,vA,vC,↓Xk,wD,↓X2,wA,seval,wE]
 refine X0 c2 rfl ?_
 simp (disch:=omega) only [X4,vA,vC,↓Xk,wD,↓X2,wA,seval,wE]
 refine XW c3 ⟨XT (Ca _),Weak.rfl' _,trivial⟩ ?_
 simp (disch:=omega) only [X4,vA,vC,XO,NZ,KR,J9,KO,XN,List.cons_append,List.nil_append,↓Xk,wD,↓X2,wA,seval,wE]
 exact ZD rfl Uq rfl rfl rfl sR (hR.trans rfl)
theorem Su (k m:Int) (h:0≤k∧k<m):QB k m=k:=by
 unfold QB
 rw [if_neg (by omega),Int.tmod_eq_emod_of_nonneg h.1,Int.emod_eq_of_lt h.1 h.2]
theorem EV (L:List Int) (j:Nat) (m:Int) (h:j<L.length) (hb:0≤L.getD j 0∧L.getD j 0<m):Ab.atF L (j:Nat) m=L.getD j 0:=by
 unfold Ab.atF
 rw [if_neg (by omega),Int.toNat_natCast,Su _ _ hb]
theorem oV (l:List Int) (W H:Nat) (hW:4≤W∧W≤7) (hH:3≤H∧H≤6):Bg (H4 l W H):=fun x hx=>by
 have b3:=Xv l 3 ((W:Int) - 1) (by omega)
 have b4:=Xv l 4 ((W:Int) - 1) (by omega)
 have b7:=Xv l 7 4 (by omega)
 simp only [H4,List.mem_cons,List.not_mem_nil,or_false] at hx
 rcases hx with rfl | rfl | rfl | rfl | rfl | rfl | rfl | rfl <;> exact ⟨by omega,by omega⟩
theorem fD (l:List Int) (hl:Bg l):∃ (L:List Int) (W H M:Nat),Bg L∧(4≤W∧W≤7)∧(3≤H∧H≤6)∧(1≤M∧M≤3)∧XI (Xy (J4 L W H M))∧XI (Xy (Jj L W H M)) ∧
  Fn Tryz.prog 28 [X6 l] (.agg (ir (Z1 (J4 L W H M) L 10) (Z1 (ZE L W H M) L 20) (Hu L M))):=by
 have b0:=Xv l 0 4 (by omega)
 have b1:=Xv l 1 4 (by omega)
 have b2:=Xv l 2 3 (by omega)
 obtain ⟨W,hW⟩:∃ W:Nat,(4:Int)+Ab.atF l 0 4=W:=⟨(4+Ab.atF l 0 4).toNat,by omega⟩
 obtain ⟨H,hH⟩:∃ H:Nat,(3:Int)+Ab.atF l 1 4=H:=⟨(3+Ab.atF l 1 4).toNat,by omega⟩
 obtain ⟨M,hM⟩:∃ M:Nat,(1:Int)+Ab.atF l 2 3=M:=⟨(1+Ab.atF l 2 3).toNat,by omega⟩
 by_cases hv:XI (Xy (J4 l W H M))∧XI (Xy (Jj l W H M))
 ·obtain ⟨A,B,F,hf,h⟩:=Iv l hl W H M hW hH hM (Z1 [] [] 0) (Z1 [] [] 0) Cb (fun h=>absurd hv h)
  rcases h with ⟨_,rfl,rfl,rfl⟩ | ⟨h,_⟩
  ·exact ⟨l,W,H,M,hl,by omega,by omega,by omega,hv.1,hv.2,hf⟩
  ·exact absurd hv h
 have b3:=Xv l 3 ((W:Int) - 1) (by omega)
 have b4:=Xv l 4 ((W:Int) - 1) (by omega)
 have b7:=Xv l 7 4 (by omega)
 have hl2:=oV l W H (by omega) (by omega)
 have a0:Ab.atF (H4 l W H) 0 4=(W:Int) - 4:=EV _ 0 _ (by simp [H4]) (by show 0≤(W:Int) - 4∧(W:Int) - 4<4; omega)
 have a1:Ab.atF (H4 l W H) 1 4=(H:Int) - 3:=EV _ 1 _ (by simp [H4]) (by show 0≤(H:Int) - 3∧(H:Int) - 3<4; omega)
 have a2:Ab.atF (H4 l W H) 2 3=0:=EV _ 2 _ (by simp [H4]) (by show 0≤(0:Int)∧(0:Int)<3; omega)
 have a3:Ab.atF (H4 l W H) 3 ((W:Int) - 1)=Ab.atF l 3 ((W:Int) - 1):=EV _ 3 _ (by simp [H4]) b3
 have a4:Ab.atF (H4 l W H) 4 ((W:Int) - 1)=Ab.atF l 4 ((W:Int) - 1):=EV _ 4 _ (by simp [H4]) b4
 have c0:Qr (H4 l W H) W H 1 0=(1+Ab.atF l 3 ((W:Int) - 1),0):=by
  unfold Qr; rw [if_neg (by omega)]; exact congrArg (fun z:Int=>((1:Int)+z,(0:Int))) a3
 have c1:Qr (H4 l W H) W H 1 1=(1+Ab.atF l 4 ((W:Int) - 1),(H:Int)):=by
  unfold Qr; rw [if_pos rfl]; exact congrArg (fun z:Int=>((1:Int)+z,(H:Int))) a4
 have p1:XI (Xy (J4 (H4 l W H) W H 1)):=by
  have e:J4 (H4 l W H) W H 1=fR (1+Ab.atF l 3 ((W:Int) - 1)) (1+Ab.atF l 4 ((W:Int) - 1)) H:=by
   show (0,0) :: [Qr (H4 l W H) W H 1 0,Qr (H4 l W H) W H 1 1] ++ [(0,(H:Int))]=_
   rw [c0,c1]; rfl
  rw [e]
  exact fS _ _ _ (by omega) (by omega) (by omega)
 have p2:XI (Xy (Jj (H4 l W H) W H 1)):=by
  have e:Jj (H4 l W H) W H 1=fT W (1+Ab.atF l 3 ((W:Int) - 1)) (1+Ab.atF l 4 ((W:Int) - 1)) H:=by
   show [Qr (H4 l W H) W H 1 0,((W:Int),0),((W:Int),(H:Int))] ++ [Qr (H4 l W H) W H 1 1]=_
   rw [c0,c1]; rfl
  rw [e]
  exact fU _ _ _ _ (by omega) (by omega) (by omega) (by omega)
 obtain ⟨A,B,F,hf,h⟩:=Iv (H4 l W H) hl2 W H 1 (by rw [a0]; omega) (by rw [a1]; omega) (by rw [a2]; rfl) (Z1 [] [] 0) (Z1 [] [] 0) Cb (fun h=>absurd ⟨p1,p2⟩ h)
 rcases h with ⟨_,rfl,rfl,rfl⟩ | ⟨h,_⟩
 rotate_left
 ·exact absurd ⟨p1,p2⟩ h
 obtain ⟨A,B,F,hf2,h⟩:=Iv l hl W H M hW hH hM _ _ _ (fun _=>hf)
 rcases h with ⟨h,_⟩ | ⟨_,rfl,rfl,rfl⟩
 ·exact absurd h hv
 ·exact ⟨H4 l W H,W,H,1,hl2,by omega,by omega,by omega,p1,p2,hf2⟩
theorem li (l:List Int) (hl:Bg l):∃ (A B:PV) (F:FV) (ta tb:Rat),Fn Tryz.prog 28 [X6 l] (.agg (ir A B F))∧GP A ta∧GP B tb∧A.small∧B.small∧qb ta≤3∧qb tb≤3∧vb F.turn≤10∧vb F.lo≤100∧vb F.hi≤100:=by
 obtain ⟨L,W,H,M,hL,hW,hH,hM,p1,p2,hf⟩:=fD l hl
 have g1:=Ut (J4 L W H M) L 10 (Id L W H M hW (by omega) (by omega)) p1
 have g2:=Ut (ZE L W H M) L 20 (GW L W H M hW (by omega) (by omega)) (ll _ _ _ p2)
 have hs:=Iw L
 exact ⟨_,_,_,_,_,hf,g1.1,g2.1,g1.2.1,g2.2.1,g1.2.2,g2.2.2,hs.1,hs.2,hs.2⟩
end
end Go.Ab.N
