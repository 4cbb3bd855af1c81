/- Contracts of functions of these chapters, for every argument that fits, and what they need. -/
import Derived.Test.YtefjhgcndhepeaaGreatC12
import Derived.Test.YtefjhgcndhepeaaGreatC6
import Derived.Test.YtefjhgcndhepeaaGreatC7
import Derived.Shelf.Small.Bits
set_option linter.unusedSimpArgs false
set_option linter.unusedVariables false
open Nat renaming reducePow → Y1, reduceLT → Y2, reduceLeDiff → Y3, reduceEqDiff → Y4, reduceAdd → Y5, reduceMul → Y6, reduceSub → Y7, reduceBEq → Y8, reduceDiv → Y9, reduceMod → YA
namespace Go.Ab.N
open Go Go.RowKit Go.Proofs
noncomputable section
set_option maxRecDepth 10000
set_option maxHeartbeats 4000000
open Classical
def Mg (a b:PV) (e:Rat) (f:FV) (i j k:Nat) (t:V2):Prop:=k≠0∧k<a.rim.length∧k<b.rim.length∧LC a b (Jr i j k v0)∧t∈KF a b (Jr i j k v0) k∧Gs a b e i j k t=true∧f=J7 a b (Jr i j k t) e
theorem Yo (a b:PV) (e:Rat) (i j k:Nat) (L:List V2) (f:FV):f∈BA a b e i j k L↔∃ t,t∈L∧Gs a b e i j k t=true∧f=J7 a b (Jr i j k t) e:=by
 unfold BA
 rw [List.mem_map]
 constructor
 ·rintro ⟨t,h,rfl⟩
  rw [List.mem_filter] at h
  exact ⟨t,h.1,h.2,rfl⟩
 ·rintro ⟨t,h1,h2,rfl⟩
  exact ⟨t,List.mem_filter.2 ⟨h1,h2⟩,rfl⟩
theorem Mw (a b:PV) (e:Rat) (i j:Nat) (f:FV):∀ n,n<a.rim.length→n<b.rim.length→(f∈Zz a b e i j n↔∃ k t,k≤n∧Mg a b e f i j k t)
 | 0,_,_=>by simp [Zz,Mg]
 | n+1,h1,h2=>by
  have ih:=Mw a b e i j f n (by omega) (by omega)
  unfold Zz
  rw [List.mem_append,ih]
  have hk:f∈DP a b e i j (n+1)↔∃ t,Mg a b e f i j (n+1) t:=by
   unfold DP
   by_cases hp:LC a b (Jr i j (n+1) v0)
   ·rw [if_pos hp,Yo]
    exact ⟨fun ⟨t,q1,q2,q3⟩=>⟨t,by omega,h1,h2,hp,q1,q2,q3⟩,fun ⟨t,_,_,_,_,q1,q2,q3⟩=>⟨t,q1,q2,q3⟩⟩
   ·rw [if_neg hp]
    exact ⟨fun h=>absurd h List.not_mem_nil,fun ⟨t,_,_,_,q,_⟩=>absurd q hp⟩
  rw [hk]
  constructor
  ·rintro (⟨k,t,q1,q2⟩ | ⟨t,q⟩)
   ·exact ⟨k,t,by omega,q2⟩
   ·exact ⟨n+1,t,Nat.le_refl _,q⟩
  ·rintro ⟨k,t,q1,q2⟩
   by_cases hk:k=n+1
   ·subst hk; exact .inr ⟨t,q2⟩
   ·exact .inl ⟨k,t,by omega,q2⟩
theorem Mv (a b:PV) (e:Rat) (i:Nat) (f:FV) (ha:0<a.rim.length) (hb:0<b.rim.length):∀ n,f∈Zd a b e i n↔∃ j k t,j<n∧Mg a b e f i j k t
 | 0=>by simp [Zd]
 | n+1=>by
  have ih:=Mv a b e i f ha hb n
  unfold Zd
  rw [List.mem_append,ih,Mw a b e i n f _ (by omega) (by omega)]
  constructor
  ·rintro (⟨j,k,t,q1,q2⟩ | ⟨k,t,q1,q2⟩)
   ·exact ⟨j,k,t,by omega,q2⟩
   ·exact ⟨n,k,t,by omega,q2⟩
  ·rintro ⟨j,k,t,q1,q2⟩
   by_cases hj:j=n
   ·subst hj; exact .inr ⟨k,t,by have:=q2.2.1; have:=q2.2.2.1; omega,q2⟩
   ·exact .inl ⟨j,k,t,by omega,q2⟩
theorem Mu (a b:PV) (e:Rat) (f:FV) (ha:0<a.rim.length) (hb:0<b.rim.length):∀ n,f∈KX a b e n↔∃ i j k t,i<n∧j<b.rim.length∧Mg a b e f i j k t
 | 0=>by simp [KX]
 | n+1=>by
  have ih:=Mu a b e f ha hb n
  unfold KX
  rw [List.mem_append,ih,Mv a b e n f ha hb]
  constructor
  ·rintro (⟨i,j,k,t,q1,q2⟩ | ⟨j,k,t,q1,q2⟩)
   ·exact ⟨i,j,k,t,by omega,q2⟩
   ·exact ⟨n,j,k,t,by omega,q1,q2⟩
  ·rintro ⟨i,j,k,t,q1,q2,q3⟩
   by_cases hi:i=n
   ·subst hi; exact .inr ⟨j,k,t,q2,q3⟩
   ·exact .inl ⟨i,j,k,t,by omega,q2,q3⟩
theorem CB (a b:PV) (e:Rat) (f:FV) (ha:0<a.rim.length) (hb:0<b.rim.length):f∈Bt a b e↔∃ i j k t,i<a.rim.length∧j<b.rim.length∧Mg a b e f i j k t:=Mu a b e f ha hb _
def Pz (n m:Nat) (W:List FV) (f:FV):Bool:=W.any fun g=>decide (Fc n m f g)
def Mf (a b:PV) (e:Rat):List FV:=(Bt a b e).filter fun f=>!Pz a.rim.length b.rim.length (Bt a b e) f
theorem fF (l:List FV) (i:Nat):∀ j,j<29→Xt Jp 29 Cs l (i*29+j)=(Jp (l.getD i Cs)).getD j .any:=fun j hj=>Jy _ _ _ _ _ _ hj
theorem uM (l:List FV) (i:Nat):Xt Jp 29 Cs l (i*29)=(Jp (l.getD i Cs)).getD 0 .any:=JQ _ _ _ _ _ (by omega)
theorem Yl (n m:Nat) (W:List FV) (i:Nat) (h:i<W.length):(W.take (i+1)).filter (fun f=>!Pz n m W f)=(W.take i).filter (fun f=>!Pz n m W f) ++ (if Pz n m W (W.getD i Cs)=true then [] else [W.getD i Cs]):=by
 rw [QB W Cs i h,List.filter_append]
 congr 1
 cases hq:Pz n m W (W.getD i Cs) with
 | true=>rw [if_pos rfl,List.filter_cons_of_neg (by rw [hq]; decide)]; rfl
 | false=>rw [if_neg (by decide),List.filter_cons_of_pos (by rw [hq]; rfl)]; rfl
theorem OD (a b:PV) (e:Rat) (ha:a.rim.length≤12) (hb:b.rim.length≤12) (h1:0<a.rim.length) (h2:0<b.rim.length):(Bt a b e).length≤24000:=by
 have hk:∀ i j n,n≤12→(Zz a b e i j n).length≤12*n:=fun i j n=>by
  induction n with
  | zero=>intro _; simp [Zz]
  | succ n ih =>
   intro hn
   have h3:=ih (by omega)
   unfold Zz
   rw [List.length_append]
   have:(DP a b e i j (n+1)).length≤n+1:=by
    unfold DP
    split
    ·exact Nat.le_trans (Mh ..) (Ey ..)
    ·simp
   omega
 have hj:∀ i n,(Zd a b e i n).length≤144*n:=fun i n=>by
  induction n with
  | zero=>simp [Zd]
  | succ n ih =>
   unfold Zd
   rw [List.length_append]
   have:=hk i n (min a.rim.length b.rim.length - 1) (by omega)
   omega
 have hi:∀ n,(KX a b e n).length≤1728*n:=fun n=>by
  induction n with
  | zero=>simp [KX]
  | succ n ih =>
   unfold KX
   rw [List.length_append]
   have:=hj n b.rim.length
   omega
 have:=hi a.rim.length
 unfold Bt; omega
theorem Pi {a b:PV} {ta tb:Rat} (ha:GP a ta) (hb:GP b tb) {f:FV} (h:f∈Bt a b (ta+tb)):f.near∧vb f.turn≤26∧vb f.lo≤200∧vb f.hi≤200:=by
 have la:=(A5 _ ha.poly).1
 have lb:=(A5 _ hb.poly).1
 have ea:(Xp a.rim).length=a.rim.length:=by simp [Xp]
 have eb:(Xp b.rim).length=b.rim.length:=by simp [Xp]
 rw [ea] at la
 rw [eb] at lb
 have qa:=ha.qt; have q2:=hb.qt
 have qe:=Z7 ta tb
 obtain ⟨i,j,k,t,h1,h2,_,h3,h4,_,h5,_,rfl⟩:=(CB a b (ta+tb) f (by omega) (by omega)).1 h
 have ht:=Fx a b (Jr i j k v0) ha.even.near hb.even.near k t h5
 obtain ⟨m1,m2⟩:=OA a b (Jr i j k t) ha.even.near hb.even.near (ta+tb) (by show vb t≤60; omega)
 exact ⟨⟨⟨by show (-1000000:Int)≤(i:Int); omega,by show (i:Int)≤1000000; omega⟩,⟨by show (-1000000:Int)≤(j:Int); omega,by show (j:Int)≤1000000; omega⟩,by show (-1000000:Int)≤(k:Int); omega,by show (k:Int)≤1000000; omega⟩,ht,by show vb (XU a.rim b.rim (Jr i j k t) (ta+tb)).1≤200; omega,by show vb (XU a.rim b.rim (Jr i j k t) (ta+tb)).2.1≤200; omega⟩
def KE:Nat→Int×Int→Int×Int
 | 0,p=>p
 | i+1,p=>(-(KE i p).2,(KE i p).1)
theorem Fw (p:Int×Int) (c:Int) (h1:-c≤p.1∧p.1≤c) (h2:-c≤p.2∧p.2≤c):∀ i,(-c≤(KE i p).1∧(KE i p).1≤c)∧(-c≤(KE i p).2∧(KE i p).2≤c)
 | 0=>⟨h1,h2⟩
 | i+1=>by
  have ih:=Fw p c h1 h2 i
  unfold KE
  simp only
  omega
theorem aI (p:Int×Int) (q:Nat) (h1:-1000≤p.1∧p.1≤1000) (h2:-1000≤p.2∧p.2≤1000) (hq:q≤4):Fn Tryz.prog 101 [.agg (Kv p),I q] (.agg (Kv (KE q p))):=by
 obtain ⟨R,hR⟩:∃ R,R=AV.agg (Kv (KE q p)):=⟨_,rfl⟩
 have sR:Settled R:=hR▸Qh (KC _)
 rw [← hR]
 refine Fq Tryz.call101 Tryz.func101 6 [] [] [] (by simp [X9,Qh (KC p)]) (Xi ?_)
 simp (disch:=omega) only [AS.start,Kv,↓XK,wG,seval]
 refine Xd (fun i:Nat=>⟨6,[],[.any,I q,.ref 0 0 0,.any,.ref 1 0 0,I i],[],[.row 0 2 (Xk (Kv (KE i p))),.row 0 2 (Xk [I 0,I 0])]⟩) (fun i=>i≤q) (fun i=>q - i) 0 (by omega)
  (Ku (by simp [Xg,I]) rfl) ?_
 intro i hi next
 have hb:=Fw p 1000 h1 h2 i
 by_cases hi2:i<q
 ·refine Xi ?_
  simp (disch:=omega) only [Kv,↓XK,wG,seval]
  exact next (i+1) _ (by omega) (by omega) (Ku (by simp [Xg,I]) (by simp [Kv,KE,I]))
 ·obtain rfl:i=q:=by omega
  refine Xi ?_
  simp (disch:=omega) only [Kv,↓XK,wG,seval]
  exact Ah rfl fU rfl rfl rfl sR (hR.trans rfl)
theorem L7 (l:List (Int×Int)) (hn:Jc l) (hl:l.length<1000000):Fn Tryz.prog 100 [Ld l] (.bool (decide (XJ (Xp l)))):=by
 have hrl:(Xp l).length=l.length:=by simp [Xp]
 have cv:=O2 (Xp l) (fun i=>Nat.le_trans (G6 hn i) (by omega)) (by omega)
 refine Fr Tryz.call100 Tryz.func100 5 [] [5] [] ?_
 simp (disch:=omega) only [AS.start,Xu,↓XK,wG,seval]
 refine Xd (fun k:Nat=>⟨5,[],[Ld l,.any,.any,.osl 0 k 8 0 k,I k],[],[.row k (k*8) (Xt vC 8 v0 (Xp (l.take k)))]⟩) (fun k=>k≤l.length) (fun k=>l.length - k) 0 (by omega)
  (Sub.trans (Jk 3 8 (Xt vC 8 v0 []) rfl) (Xf rfl (by simp [AS.put,Xg,Xu,I]) (by simp [AS.put,Xn]) (by simp [AS.put,Xp]))) ?_
 intro k hk next
 by_cases hk2:k<l.length
 rotate_left
 ·obtain rfl:k=l.length:=by omega
  rw [List.take_length]
  refine Xi ?_
  simp (disch:=omega) only [Xu,↓XK,wG,seval]
  refine JF cv rfl ⟨?_,trivial⟩ (Ar _) ?_
  ·show Kj _ (.osl 0 l.length 8 0 l.length) (Xw (Xp l))
   rw [X5,hrl]
   refine Jv (.inl rfl) (by omega) (fun h=>by rw [h]) fun j hj=>?_
   rw [Nat.zero_add]
   exact (Xe (l:=vC ((Xp l).getD (j / 8) v0)) (by simp [vC,X8,X2]) _).sees _
  simp (disch:=omega) only [↓XK,wG,seval]
  exact Xx rfl rfl (X2 _) rfl
 have hc:=D0 hn k
 have c1:=MV (l.getD k (0,0)).1 (l.getD k (0,0)).2 ⟨by omega,by omega⟩ ⟨by omega,by omega⟩
 have p1:Xt Kv 2 (0,0) l (k*2)=I (l.getD k (0,0)).1:=JQ _ _ _ _ _ (by omega)
 have p2:Xt Kv 2 (0,0) l (k*2+1)=I (l.getD k (0,0)).2:=Jy _ _ _ _ _ _ (by omega)
 have hap:=QR vC 8 v0 (Xp (l.take k)) (Qc (l.getD k (0,0))) (by omega)
 have htk:Xp (l.take k) ++ [Qc (l.getD k (0,0))]=Xp (l.take (k+1)):=by unfold Xp; rw [QB l (0,0) k hk2,List.map_append]; rfl
 have hkl:(Xp (l.take k)).length=k:=by simp [Xp]; omega
 rw [htk,hkl] at hap
 have hpv:(⟨((l.getD k (0,0)).1:Rat),((l.getD k (0,0)).2:Rat)⟩:V2)=Qc (l.getD k (0,0)):=rfl
 rw [hpv] at c1
 refine Xi ?_
 simp (disch:=omega) only [Xu,p1,p2,↓XK,wG,seval]
 refine X0 c1 rfl ?_
 simp (disch:=omega) only [↓XK,wG,seval]
 exact ⟨Gc _,next (k+1) _ (by omega) (by omega) (Ku (by simp [Xg,Xu,I]) (by rw [← hap]; rfl))⟩
def La (l:List Int) (at' k:Nat):Bool:=decide (Ab.atF l (at'+2+k:Nat) 16=15)
def Eh (l:List Int) (at' k:Nat):Int:=if 11<Ab.atF l (at'+2+k:Nat) 16 then Ab.atF l (at'+2+k:Nat) 16 - 11 else 0
def Kk (rim:List (Int×Int)) (l:List Int) (at':Nat):PV:=⟨Ab.atF l at' 900,Ab.atF l at' 5,rim,(List.range rim.length).map (La l at'),(List.range rim.length).map (Eh l at'),
 RQ.of (Rat.divInt (Ab.atF l (at'+1:Nat) 3) 4),RQ.of (Rat.divInt 1 1),RQ.of (Rat.divInt (1+Ab.atF l at' 3) 1),RQ.of (Rat.divInt 100 1),RQ.of (Rat.divInt 1 2)⟩
theorem RW {m:Nat} {s:AS} (id i:Nat) (b:AV) {ver n:Nat} {f:Nat→AV} (ho:s.h[id]?=some (.row ver n f)) (h:Ko s.h (f i) b):Sub m s { s with h:=s.h.set id (.row ver n (BM f i b)) } :=
 Z1 id (BM f i b) ho fun j hj=>by
  unfold BM
  by_cases e:j=i
  ·rw [if_pos e,e]; exact h
  ·rw [if_neg e]; exact Qa _ _
def J4:List AV:=[I 0,I 0,.sl 0 0 (fun _=>.any) true,.sl 0 0 (fun _=>.any) true,.sl 0 0 (fun _=>.any) true,.bool false,.sl 0 0 (fun _=>.any) true,.bool false,.sl 0 0 (fun _=>.any) true,.bool false,.sl 0 0 (fun _=>.any) true,.bool false,.sl 0 0 (fun _=>.any) true,
 .bool false,.sl 0 0 (fun _=>.any) true,.bool false,.sl 0 0 (fun _=>.any) true,.bool false,.sl 0 0 (fun _=>.any) true,.bool false,.sl 0 0 (fun _=>.any) true,.bool false,.sl 0 0 (fun _=>.any) true,.bool false,.sl 0 0 (fun _=>.any) true]
def F4 (id home:Int) (rim:List (Int×Int)) (k:Nat) (t u h s r:Rat):List AV:=[I id,I home,Ld rim,.osl 2 k 1 0 k,.osl 3 k 1 0 k] ++ (qC t ++ (qC u ++ (qC h ++ (qC s ++ qC r))))
theorem Iq {α:Type} (f:Nat→α) (k:Nat):(List.range (k+1)).map f=(List.range k).map f ++ [f k]:=by rw [List.range_succ,List.map_append]; rfl
theorem V8 (rim:List (Int×Int)) (l:List Int) (at':Nat) (hr:rim.length<1000) (hl:Gi l) (ha:at'<1000):Fn Tryz.prog 102 [Ld rim,X3 l,I at'] (Zl (Kk rim l at')):=by
 obtain ⟨V,hV⟩:∃ V,V=Zl (Kk rim l at'):=⟨_,rfl⟩
 rw [← hV]
 have c1:=Jx l at' 900 hl (by omega)
 have c2:=Jx l at' 5 hl (by omega)
 have c3:=Jx l (at'+1:Nat) 3 hl (by omega)
 have c4:=Jx l at' 3 hl (by omega)
 have b3:=XM l (at'+1:Nat) 3 (by omega)
 have b4:=XM l at' 3 (by omega)
 have q1:=Ao (Ab.atF l (at'+1:Nat) 3) 4 ⟨by omega,by omega⟩ ⟨by omega,by omega⟩
 have q2:=Ao 1 1 ⟨by omega,by omega⟩ ⟨by omega,by omega⟩
 have q3:=Ao (1+Ab.atF l at' 3) 1 ⟨by omega,by omega⟩ ⟨by omega,by omega⟩
 have q4:=Ao 100 1 ⟨by omega,by omega⟩ ⟨by omega,by omega⟩
 have q5:=Ao 1 2 ⟨by omega,by omega⟩ ⟨by omega,by omega⟩
 unfold Kk at hV
 generalize Rat.divInt (Ab.atF l (at'+1:Nat) 3) 4=t at *
 generalize Rat.divInt 1 1=u at *
 generalize Rat.divInt (1+Ab.atF l at' 3) 1=h at *
 generalize Rat.divInt 100 1=s at *
 generalize Rat.divInt 1 2=r at *
 generalize Ab.atF l at' 900=id at *
 generalize Ab.atF l at' 5=home at *
 rw [Int.natCast_add] at c3
 refine Fr Tryz.call102 Tryz.func102 11 [] [1] [] ?_
 simp (disch:=omega) only [AS.start,Xu,↓XK,wG,seval]
 refine X0 c1 rfl ?_
 simp (disch:=omega) only [↓XK,wG,seval]
 refine X0 c2 rfl ?_
 simp (disch:=omega) only [↓XK,wG,seval]
 refine X0 c3 rfl ?_
 simp (disch:=omega) only [↓XK,wG,seval]
 refine X0 q1 rfl ?_
 simp (disch:=omega) only [↓XK,wG,seval]
 refine X0 q2 rfl ?_
 simp (disch:=omega) only [↓XK,wG,seval]
 refine X0 c4 rfl ?_
 simp (disch:=omega) only [↓XK,wG,seval]
 refine X0 q3 rfl ?_
 simp (disch:=omega) only [↓XK,wG,seval]
 refine X0 q4 rfl ?_
 simp (disch:=omega) only [↓XK,wG,seval]
 refine X0 q5 rfl ?_
 simp (disch:=omega) only [↓XK,wG,seval]
 refine Xd (fun k:Nat=>⟨11,[],[Ld rim,X3 l,I at',.any,.any,.any,.ref 0 0 0,.ref 1 0 0,I k,.any,.any],[],[.row 0 25 (Xk J4),.row 0 25 (Xk (F4 id home rim k t u h s r)),.row k k (Q9 AV.bool false ((List.range k).map (La l at'))),.row k k (Q9 I 0 ((List.range k).map (Eh l at')))]⟩) (fun k=>k≤rim.length) (fun k=>rim.length - k) 0 (by omega)
  (Sub.trans (HA (Q9 AV.bool false [])) (Sub.trans (HA (Q9 I 0 [])) (Sub.trans (RW 1 3 (.osl 2 0 1 0 0) rfl (Aq rfl)) (Sub.trans (RW 1 4 (.osl 3 0 1 0 0) rfl (Aq rfl)) (Ku (by simp [Xg,Xu,X4,I]) (by simp [J4,F4,qC,VP,Xu,X4,I,sg])))))) ?_
 intro k hk next
 by_cases hk2:k<rim.length
 rotate_left
 ·obtain rfl:k=rim.length:=by omega
  refine Xi ?_
  simp (disch:=omega) only [J4,F4,qC,Xu,X4,↓XK,wG,seval]
  subst hV
  refine Rw (L:=F4 id home rim rim.length t u h s r) rfl oa rfl rfl rfl ?_
  have h2:∀ H:List AO,H[2]?=some (.row rim.length rim.length (Q9 AV.bool false ((List.range rim.length).map (La l at'))))→Kj H (.osl 2 rim.length 1 0 rim.length) (Zx ((List.range rim.length).map (La l at'))):=fun H ho=>by
   rw [XR,List.length_map,List.length_range]
   refine Jv (.inl ho) (by omega) (fun h=>h) fun j hj=>?_
   rw [Nat.zero_add]
   exact (X2 _).sees _
  have h3:∀ H:List AO,H[3]?=some (.row rim.length rim.length (Q9 I 0 ((List.range rim.length).map (Eh l at'))))→Kj H (.osl 3 rim.length 1 0 rim.length) (X3 ((List.range rim.length).map (Eh l at'))):=fun H ho=>by
   rw [X4,List.length_map,List.length_range]
   refine Jv (.inl ho) (by omega) (fun h=>h) fun j hj=>?_
   rw [Nat.zero_add]
   exact (X9 _).sees _
  exact Dc ⟨(X9 _).sees _,(X9 _).sees _,(KD _).sees _,h2 _ rfl,h3 _ rfl,(X2 _).sees _,(X8 _).sees _,(X2 _).sees _,(X8 _).sees _,(X2 _).sees _,(X8 _).sees _,(X2 _).sees _,(X8 _).sees _,(X2 _).sees _,(X8 _).sees _,(X2 _).sees _,(X8 _).sees _,(X2 _).sees _,(X8 _).sees _,(X2 _).sees _,(X8 _).sees _,(X2 _).sees _,(X8 _).sees _,(X2 _).sees _,(X8 _).sees _,trivial⟩
 have c5:=Jx l (at'+2+k:Nat) 16 hl (by omega)
 have b5:=XM l (at'+2+k:Nat) 16 (by omega)
 have nx:=next (k+1)
 rw [Iq,Iq] at nx
 have e1:La l at' k=decide (Ab.atF l (at'+2+k:Nat) 16=15):=rfl
 have e2:Eh l at' k=if 11<Ab.atF l (at'+2+k:Nat) 16 then Ab.atF l (at'+2+k:Nat) 16 - 11 else 0:=rfl
 rw [e1,e2] at nx
 generalize Ab.atF l (at'+2+k:Nat) 16=n at *
 rw [show ((at'+2+k:Nat):Int)=(at':Int)+2+k by omega] at c5
 have hW:((List.range k).map (La l at')).length=k:=by simp
 have hM:((List.range k).map (Eh l at')).length=k:=by simp
 generalize (List.range k).map (La l at')=W at *
 generalize (List.range k).map (Eh l at')=M at *
 have hap1:=OL AV.bool false W (decide (n=15))
 rw [hW,Nat.mul_one] at hap1
 refine Xi ?_
 simp (disch:=omega) only [F4,qC,Xu,X4,List.cons_append,List.nil_append,↓XK,wG,seval]
 refine X0 c5 rfl ?_
 by_cases hn:11<n
 ·have hap2:=E7 M (n - 11)
  rw [if_pos hn] at nx
  rw [hM] at hap2
  simp (disch:=omega) only [F4,qC,Xu,X4,List.cons_append,List.nil_append,↓XK,wG,seval]
  exact nx _ (by omega) (by omega) (Ku (by simp [Xg,Xu,X4,I]) (by rw [← hap1,← hap2]; simp [J4,F4,qC,Xu,X4,I,sg]))
 ·have hap2:=E7 M 0
  rw [if_neg hn] at nx
  rw [hM] at hap2
  simp (disch:=omega) only [F4,qC,Xu,X4,List.cons_append,List.nil_append,↓XK,wG,seval]
  exact nx _ (by omega) (by omega) (Ku (by simp [Xg,Xu,X4,I]) (by rw [← hap1,← hap2]; simp [J4,F4,qC,Xu,X4,I,sg,show ¬ n=15 by omega]))
structure Iso (g h:V2→V2):Prop where
 sub:∀ a b,(g a).sub (g b)=h (a.sub b)
 cr:∀ u v,Q8 (h u) (h v)=Q8 u v
 dt:∀ u v,Q4 (h u) (h v)=Q4 u v
 tn:∀ u,(h u).turned=h u.turned
theorem jN (g:V2→V2) (L:List V2) (h:0<L.length) (i:Nat):atF (L.map g) i=g (atF L i):=by
 unfold atF
 have hlt:=Nat.mod_lt i h
 rw [List.length_map,List.getD_eq_getElem?_getD,List.getElem?_map,List.getD_eq_getElem?_getD,List.getElem?_eq_getElem hlt]; rfl
theorem CW {g h:V2→V2} (I:Iso g h) (a b c:V2):Jg (g a) (g b) (g c)=Jg a b c:=by unfold Jg; rw [I.sub,I.sub,I.cr]
theorem UR (n a b:V2):Q4 n a - Q4 n b=Q4 n (a.sub b):=by unfold Q4 V2.sub; grind
theorem qp {g h:V2→V2} (I:Iso g h) (n a b:V2):(Q4 (h n) (g a)<Q4 (h n) (g b))↔(Q4 n a<Q4 n b):=by
 have e1:=UR (h n) (g a) (g b)
 have e2:=UR n a b
 rw [I.sub,I.dt] at e1
 constructor <;> intro hh <;> grind
theorem PK {g h:V2→V2} (I:Iso g h) (n a b c d:V2):JZ (h n) (g a) (g b) (g c) (g d)=JZ n a b c d:=by
 unfold JZ Gy
 simp only [qp I]
theorem fT {g h:V2→V2} (I:Iso g h) (a b c d:V2) (i:Nat):Cw (g a) (g b) (g c) (g d) i=h (Cw a b c d i):=by
 unfold Cw
 split <;> simp only [I.sub,I.tn]
theorem PL {g h:V2→V2} (I:Iso g h) (L:List V2) (hp:XJ L) (ha:JA (L.map g)=JA L):XJ (L.map g):=by
 obtain ⟨h1,h2,h3⟩:=hp
 have hl:0<L.length:=by omega
 have hat:=jN g L hl
 refine ⟨by rw [List.length_map]; exact h1,fun i hi=>?_,by rw [ha]; exact h3⟩
 rw [List.length_map] at hi
 obtain ⟨k1,k2⟩:=h2 i hi
 refine ⟨fun hb=>k1 ?_,fun k hk hg=>k2 k (by rw [List.length_map] at hk; exact hk) ?_⟩
 ·unfold Nw at hb ⊢
  rw [hat,hat,hat,CW I] at hb
  exact hb
 ·obtain ⟨q1,q2,q3⟩:=hg
  rw [List.length_map] at q1 q2
  refine ⟨q1,q2,fun j hj=>?_⟩
  have:=q3 j hj
  rw [hat,hat,hat,hat,fT I,PK I] at this
  exact this
theorem quart_iso:Iso QO QO:=⟨fun a b=>by unfold QO V2.sub; rw [V2.ext']; exact ⟨by simp only; grind,rfl⟩,fun u v=>by unfold QO Q8; grind,fun u v=>by unfold QO Q4; grind,fun u=>by unfold QO V2.turned; rfl⟩
theorem Uq (t:V2):Iso (fun a=>a.add t) id:=⟨fun a b=>by unfold V2.add V2.sub; rw [V2.ext']; exact ⟨by simp only [id]; grind,by simp only [id]; grind⟩,fun _ _=>rfl,fun _ _=>rfl,fun _=>rfl⟩
theorem JI (g:V2→V2) (L:List V2) (i:Nat) (h:i<L.length):(L.map g).getD i v0=g (L.getD i v0):=by
 rw [List.getD_eq_getElem?_getD,List.getElem?_map,List.getD_eq_getElem?_getD,List.getElem?_eq_getElem h]; rfl
theorem SU (L:List V2) (h:0<L.length):JA (L.map QO)=JA L:=by
 have key:∀ n,n≤L.length→JY (L.map QO) n=JY L n:=fun n=>by
  induction n with
  | zero=>intro _; rfl
  | succ n ih =>
   intro hn
   unfold JY
   rw [ih (by omega),List.length_map,JI _ _ _ (by omega),JI _ _ _ (Nat.mod_lt _ h),quart_iso.cr]
 unfold JA
 rw [List.length_map,key _ (Nat.le_refl _)]
theorem df (t:V2) (L:List V2) (h:0<L.length):JA (L.map fun a=>a.add t)=JA L:=by
 have key:∀ n,n≤L.length→JY (L.map fun a=>a.add t) n=JY L n+Q8 t ((L.getD (n % L.length) v0).sub (L.getD 0 v0)):=fun n=>by
  induction n with
  | zero=>intro _; rw [Nat.zero_mod]; unfold JY Q8 V2.sub; grind
  | succ n ih =>
   intro hn
   have hm:n % L.length=n:=Nat.mod_eq_of_lt (by omega)
   unfold JY
   rw [ih (by omega),List.length_map,JI _ _ _ (by omega),JI _ _ _ (Nat.mod_lt _ h),hm]
   generalize L.getD n v0=p
   generalize L.getD ((n+1) % L.length) v0=q
   generalize L.getD 0 v0=o
   unfold Q8 V2.sub V2.add
   grind
 unfold JA
 rw [List.length_map,key _ (Nat.le_refl _),Nat.mod_self]
 have:Q8 t ((L.getD 0 v0).sub (L.getD 0 v0))=0:=by unfold Q8 V2.sub; grind
 rw [this,Rat.add_zero]
theorem GC (L:List V2) (hp:XJ L):∀ q,XJ (L.map (XY q))
 | 0=>by
  have:L.map (XY 0)=L:=by
   have e:XY 0=id:=rfl
   rw [e,List.map_id]
  rw [this]; exact hp
 | q+1=>by
  have ih:=GC L hp q
  have e:L.map (XY (q+1))=(L.map (XY q)).map QO:=by rw [List.map_map]; rfl
  rw [e]
  exact PL quart_iso _ ih (SU _ (by have:=ih.1; omega))
theorem gL (t:V2) (L:List V2) (hp:XJ L):XJ (L.map fun a=>a.add t):=PL (Uq t) L hp (df t L (by have:=hp.1; omega))
def Ol (q:Nat) (d p:Int×Int):Int×Int:=((KE q p).1+d.1,(KE q p).2+d.2)
theorem Iy (q:Nat) (p:Int×Int):Qc (KE q p)=XY q (Qc p):=by
 induction q with
 | zero=>rfl
 | succ q ih =>
  show (⟨((-(KE q p).2:Int):Rat),((KE q p).1:Rat)⟩:V2)=QO (XY q (Qc p))
  rw [← ih]
  unfold Qc QO
  rw [V2.ext']
  exact ⟨by simp,rfl⟩
theorem mn (R:List (Int×Int)) (q:Nat) (d:Int×Int) (h:XJ (Xp R)):XJ (Xp (R.map (Ol q d))):=by
 have h1:=gL (Qc d) _ (GC _ h q)
 have e:Xp (R.map (Ol q d))=((Xp R).map (XY q)).map fun a=>a.add (Qc d):=by
  unfold Xp
  rw [List.map_map,List.map_map,List.map_map]
  refine List.map_congr_left fun p _=>?_
  show Qc (Ol q d p)=(XY q (Qc p)).add (Qc d)
  rw [← Iy]
  unfold Ol Qc V2.add
  rw [V2.ext']
  exact ⟨by simp,by simp⟩
 rw [e]; exact h1
end
end Go.Ab.N
namespace Go.Ab.N
open Go Go.RowKit Go.Proofs
noncomputable section
set_option maxRecDepth 10000
set_option maxHeartbeats 4000000
def tK (L:List V2) (i k:Nat):Bool:=decide (1<(k+L.length - i) % L.length) && decide ((k+L.length - i) % L.length<L.length - 1) &&
 (List.range 5).all fun j=>!JZ (Cw (atF L i) (atF L (i+1)) (atF L k) (atF L (k+1)) j) (atF L i) (atF L (i+1)) (atF L k) (atF L (k+1))
def Fi (L:List V2):Bool:=decide (3≤L.length) && decide (L.length≤12) && ((List.range L.length).all fun i=>!decide (Jg (atF L i) (atF L (i+1)) (atF L (i+2))=0) && (List.range L.length).all fun k=>!tK L i k) && decide (0<(JA L).num.sign)
theorem GE (L:List V2) (h:Fi L=true):XJ L:=by
 unfold Fi at h
 simp only [Bool.and_eq_true,decide_eq_true_eq,List.all_eq_true,List.mem_range,Bool.not_eq_true',decide_eq_false_iff_not] at h
 obtain ⟨⟨⟨h1,h2⟩,h3⟩,h4⟩:=h
 refine ⟨⟨h1,h2⟩,fun i hi=>⟨(h3 i hi).1,fun k hk hg=>?_⟩,h4⟩
 have:=(h3 i hi).2 k hk
 obtain ⟨q1,q2,q3⟩:=hg
 unfold tK at this
 rw [decide_eq_true q1,decide_eq_true q2,Bool.true_and,Bool.true_and] at this
 rw [List.all_eq_true.2] at this
 ·cases this
 ·intro j hj
  rw [q3 j (List.mem_range.1 hj)]; rfl
def gT (x y h:Int):List (Int×Int):=[(0,0),(x,0),(y,h),(0,h)]
def gV (w x y h:Int):List (Int×Int):=[(x,0),(w,0),(w,h),(y,h)]
theorem ms:((List.range 4).all fun h=>(List.range 6).all fun x=>(List.range 6).all fun y=>Fi (Xp (gT (1+x) (1+y) (3+h))))=true:=by decide +kernel
theorem mu:((List.range 4).all fun w=>(List.range 4).all fun h=>(List.range 6).all fun x=>(List.range 6).all fun y=>!(decide (x<w+3) && decide (y<w+3)) || Fi (Xp (gV (4+w) (1+x) (1+y) (3+h))))=true:=by decide +kernel
theorem gU (x y h:Int) (hx:1≤x∧x≤6) (hy:1≤y∧y≤6) (hh:3≤h∧h≤6):XJ (Xp (gT x y h)):=by
 have h1:=ms
 simp only [List.all_eq_true,List.mem_range] at h1
 have h2:=h1 (h - 3).toNat (by omega) (x - 1).toNat (by omega) (y - 1).toNat (by omega)
 rw [show (1:Int)+((x - 1).toNat:Nat)=x by omega,show (1:Int)+((y - 1).toNat:Nat)=y by omega,show (3:Int)+((h - 3).toNat:Nat)=h by omega] at h2
 exact GE _ h2
theorem gW (w x y h:Int) (hw:4≤w∧w≤7) (hx:1≤x∧x<w) (hy:1≤y∧y<w) (hh:3≤h∧h≤6):XJ (Xp (gV w x y h)):=by
 have h1:=mu
 simp only [List.all_eq_true,List.mem_range] at h1
 have h2:=h1 (w - 4).toNat (by omega) (h - 3).toNat (by omega) (x - 1).toNat (by omega) (y - 1).toNat (by omega)
 rw [show (4:Int)+((w - 4).toNat:Nat)=w by omega,show (1:Int)+((x - 1).toNat:Nat)=x by omega,show (1:Int)+((y - 1).toNat:Nat)=y by omega,show (3:Int)+((h - 3).toNat:Nat)=h by omega] at h2
 rw [Bool.or_eq_true] at h2
 rcases h2 with h2 | h2
 ·rw [decide_eq_true (show (x - 1).toNat<(w - 4).toNat+3 by omega),decide_eq_true (show (y - 1).toNat<(w - 4).toNat+3 by omega)] at h2
  cases h2
 ·exact GE _ h2
end
end Go.Ab.N
namespace Go.Ab.N
open Go Go.RowKit Go.Proofs
noncomputable section
set_option maxRecDepth 10000
set_option maxHeartbeats 4000000
open Classical
theorem cQ {a b:List (Int×Int)} {f:FV} {e:Rat} (h:(XU a b f e).2.2=true) :
  Ev a.length b.length f∧Z9 f.turn∧XU a b f e=((EG a b f f.M.toNat).sub ⟨e,e⟩,(EF a b f f.M.toNat).add ⟨e,e⟩,true)∧(EG a b f f.M.toNat).x - e≤(EF a b f f.M.toNat).x+e∧(EG a b f f.M.toNat).y - e≤(EF a b f f.M.toNat).y+e:=by
 by_cases g:Ev a.length b.length f∧Z9 f.turn
 ·by_cases g2:((EF a b f f.M.toNat).add ⟨e,e⟩).x<((EG a b f f.M.toNat).sub ⟨e,e⟩).x∨((EF a b f f.M.toNat).add ⟨e,e⟩).y<((EG a b f f.M.toNat).sub ⟨e,e⟩).y
  ·exfalso
   unfold XU at h; rw [if_pos g] at h; simp only at h; rw [if_pos g2] at h; cases h
  ·refine ⟨g.1,g.2,?_,?_⟩
   ·unfold XU; rw [if_pos g]; simp only; rw [if_neg g2]
   ·simp only [not_or,Rat.not_lt] at g2; exact g2
 ·unfold XU at h; rw [if_neg g] at h; cases h
theorem C1 {p:V2→Bool}:∀ {s:List V2},(EY p s).2=true↔∃ x∈s,p x=true
 | []=>by simp [EY]
 | x :: l=>by
  have ih:=C1 (p:=p) (s:=l)
  show ((if p x=true then (x,true) else EY p l).2=true)↔_
  by_cases h:p x=true
  ·rw [if_pos h]; simp [h]
  ·rw [if_neg h,ih]; simp [h]
theorem Gh (x:Rat):0≤EI x:=by unfold EI; split <;> grind
theorem RP (n:V2):0≤Ac n:=by
 have h1:=Gh n.x
 have h2:=Gh n.y
 unfold Ac; grind
theorem im {n:V2} {A B:List V2} {e e':Rat} (h:Ga n A B e) (he:e'≤e):Ga n A B e':=by
 unfold Ga at *
 have h2:e'*Ac n≤e*Ac n:=Rat.mul_le_mul_of_nonneg_right he (RP n)
 exact Rat.le_trans h2 h
theorem Wk {A B:List (List V2)} {e e':Rat} (h:Cu A B e=true) (he:e'≤e):Cu A B e'=true:=by
 unfold Cu at *
 rw [decide_eq_true_eq] at *
 intro i hi
 have h1:=h i hi
 unfold Nn at *
 rw [decide_eq_true_eq] at *
 intro k hk
 have h2:=h1 k hk
 unfold Zs A2 at *
 rw [C1] at *
 obtain ⟨x,hx,hp⟩:=h2
 exact ⟨x,hx,decide_eq_true (im (of_decide_eq_true hp) he)⟩
theorem Hh (a b:PV) (f:FV) (e:Rat):FM a b f e=0↔Ev a.rim.length b.rim.length f∧LC a b f∧pj a b f∧((XU a.rim b.rim f e).2.2=true∧(XU a.rim b.rim f e).1=f.lo∧(XU a.rim b.rim f e).2.1=f.hi)∧Bk a b f e=true:=by
 unfold FM
 by_cases h1:Ev a.rim.length b.rim.length f
 rotate_left
 ·rw [if_neg h1]; exact ⟨fun h=>absurd h (by decide),fun h=>absurd h.1 h1⟩
 rw [if_pos h1]
 by_cases h2:LC a b f
 rotate_left
 ·rw [if_neg h2]; exact ⟨fun h=>absurd h (by decide),fun h=>absurd h.2.1 h2⟩
 rw [if_pos h2]
 by_cases h3:pj a b f
 rotate_left
 ·rw [if_neg h3]; exact ⟨fun h=>absurd h (by decide),fun h=>absurd h.2.2.1 h3⟩
 rw [if_pos h3]
 by_cases h4:(XU a.rim b.rim f e).2.2=true∧(XU a.rim b.rim f e).1=f.lo∧(XU a.rim b.rim f e).2.1=f.hi
 rotate_left
 ·rw [if_neg h4]; exact ⟨fun h=>absurd h (by decide),fun h=>absurd h.2.2.2.1 h4⟩
 rw [if_pos h4]
 by_cases h5:Bk a b f e=true
 ·rw [if_pos h5]; exact ⟨fun _=>⟨h1,h2,h3,h4,h5⟩,fun _=>rfl⟩
 ·rw [if_neg h5]; exact ⟨fun h=>absurd h (by decide),fun h=>absurd h.2.2.2.2 h5⟩
theorem Gm {a b:PV} {e:Rat} {f:FV} (h:f∈Bt a b e) (ha:0<a.rim.length) (hb:0<b.rim.length):FM a b f e=0:=by
 obtain ⟨i,j,k,t,hi,hj,k0,kn,km,hp,ht,ho,rfl⟩:=(CB a b e f ha hb).1 h
 unfold Gs at ho
 rw [Bool.and_eq_true] at ho
 obtain ⟨o1,o2⟩:=ho
 rw [ZS] at ht
 obtain ⟨k',q1,q2,q3⟩:=ht
 rw [Hh]
 refine ⟨?_,hp,⟨k',?_,q2,q3⟩,⟨o1,rfl,rfl⟩,o2⟩
 ·show (0≤(i:Int)∧(i:Int)<a.rim.length)∧(0≤(j:Int)∧(j:Int)<b.rim.length)∧1≤(k:Int)∧(k:Int)<a.rim.length∧(k:Int)<b.rim.length
  omega
 ·show k'<((k:Nat):Int).toNat
  omega
theorem V9 (R:List (Int×Int)) (l:List Int) (p:Nat) (hn:Jc R) (hp:XJ (Xp R)):GP (Kk R l p) (Rat.divInt (Ab.atF l (p+1:Nat) 3) 4)∧(Kk R l p).small∧qb (Rat.divInt (Ab.atF l (p+1:Nat) 3) 4)≤3:=by
 have b1:=XM l (p+1:Nat) 3 (by omega)
 have b2:=XM l p 3 (by omega)
 have q:=NX (Ab.atF l (p+1:Nat) 3) 4 ⟨by omega,by omega⟩ ⟨by omega,by omega⟩
 have hl:R.length≤12:=by have:=hp.1; simp [Xp] at this; omega
 have z:=fun (n m:Int) (h1:ZJ n) (h2:ZJ m)=>s8 n m h1 h2
 refine ⟨⟨⟨by show R.length<_; omega,by simp [Kk],by simp [Kk],hn⟩,hp,rfl,by omega⟩,⟨by show R.length<_; omega,by simp [Kk]; omega,by simp [Kk]; omega,?_,?_,?_,?_,?_⟩,q⟩
 ·exact Nat.le_trans (z (Ab.atF l (p+1:Nat) 3) 4 ⟨by omega,by omega⟩ ⟨by omega,by omega⟩) (by omega)
 ·exact Nat.le_trans (z 1 1 ⟨by omega,by omega⟩ ⟨by omega,by omega⟩) (by omega)
 ·exact Nat.le_trans (z (1+Ab.atF l p 3) 1 ⟨by omega,by omega⟩ ⟨by omega,by omega⟩) (by omega)
 ·exact Nat.le_trans (z 100 1 ⟨by omega,by omega⟩ ⟨by omega,by omega⟩) (by omega)
 ·exact Nat.le_trans (z 1 2 ⟨by omega,by omega⟩ ⟨by omega,by omega⟩) (by omega)
theorem Mj {α:Type} (C:α→List AV) (s:Nat) (d:α) (hs:0<s) (hC:∀ a,(C a).length=s):∀ (L:List α) (j:Nat),j<L.length*s→Xk (L.flatMap C) j=Xt C s d L j
 | [],j,h=>by simp at h
 | a :: L,j,h=>by
  unfold Xt Xk
  rw [List.flatMap_cons,List.getD_eq_getElem?_getD]
  by_cases hj:j<s
  ·rw [Nat.div_eq_of_lt hj,Nat.mod_eq_of_lt hj,List.getElem?_append_left (by rw [hC]; exact hj),← List.getD_eq_getElem?_getD]; rfl
  ·obtain ⟨i,rfl⟩:∃ i,j=s+i:=⟨j - s,by omega⟩
   have hi:i<L.length*s:=by
    rw [List.length_cons,Nat.succ_mul] at h; omega
   have ih:=Mj C s d hs hC L i hi
   unfold Xt Xk at ih
   rw [Nat.add_div_left i hs,Nat.add_mod_left,List.getElem?_append_right (by rw [hC]; omega),hC,Nat.add_sub_cancel_left,← List.getD_eq_getElem?_getD,ih]; rfl
def Xj (l:List Int) (W H M k:Nat):Int×Int:=(1+Ab.atF l (3+k:Nat) ((W:Int) - 1),if k=M then (H:Int) else k)
def QX (l:List Int) (W H M:Nat):List (Int×Int):=(List.range (M+1)).map (Xj l W H M)
def Xo (l:List Int) (W H M:Nat):List (Int×Int):=(0,0) :: QX l W H M ++ [(0,(H:Int))]
def Kg (l:List Int) (W H M i:Nat):List (Int×Int):=[Xj l W H M 0,((W:Int),0),((W:Int),(H:Int))] ++ (List.range i).map fun i=>Xj l W H M (M - i)
def Xs (l:List Int) (W H M:Nat):List (Int×Int):=Kg l W H M M
def Cx (l:List Int):Int×Int:=(Ab.atF l 8 9 - 4,Ab.atF l 9 9 - 4)
def D6 (l:List Int):Nat:=(Ab.atF l 7 4).toNat
def Xz (l:List Int) (W H M:Nat):List (Int×Int):=(Xs l W H M).map (Ol (D6 l) (Cx l))
def Jd (l:List Int):V2:=XY ((4 - D6 l) % 4) Qm
def Qp (l:List Int):V2:=v0.sub (ZB (Jd l) (Qc (Cx l)))
def Jj (l:List Int) (M:Nat):FV:=⟨0,1,1,(M+2:Nat),M,Jd l,Qp l,Qp l⟩
def Lq (a b:PV) (f:FV):List AV:=QC a ++ (QC b ++ Jp f)
def KP:List AV:=[I 0,I 0,I 0,I 0,I 0] ++ (Q2 ++ (Q2 ++ Q2))
theorem I4 (l:List Int) (W H M k:Nat) (h:k≤M):(QX l W H M).getD k (0,0)=Xj l W H M k:=Hy _ _ _ _ (by omega)
theorem EQ (l:List Int) (W H M k:Nat) (hW:4≤W∧W≤7) (hH:H≤6) (hk:k≤3):(1≤(Xj l W H M k).1∧(Xj l W H M k).1<W)∧0≤(Xj l W H M k).2∧(Xj l W H M k).2≤6:=by
 have:=XM l (3+k:Nat) ((W:Int) - 1) (by omega)
 unfold Xj
 simp only
 refine ⟨by omega,?_⟩
 split <;> omega
theorem UJ (C:List (Int×Int)) (x y:Int×Int) (j:Nat) (h:j<C.length):(x :: C ++ [y]).getD (j+1) (0,0)=C.getD j (0,0):=by
 rw [List.getD_eq_getElem?_getD,List.getD_eq_getElem?_getD,List.cons_append,List.getElem?_cons_succ,List.getElem?_append_left h]
theorem Yn (C:List (Int×Int)) (h:Int) (j:Nat) (hj:j<(C.length+2)*2):QD ((1+C.length)*2) (QD 2 (Xk [I 0,I 0]) (C.length*2) (Xt Kv 2 (0,0) C)) 2 (Xk [I 0,I h]) j=Xt Kv 2 (0,0) ((0,0) :: C ++ [(0,h)]) j:=by
 unfold QD Xt
 by_cases h1:j<(1+C.length)*2
 ·rw [if_pos h1]
  by_cases h2:j<2
  ·rw [if_pos h2]
   match j,h2 with
   | 0,_=>rfl
   | 1,_=>rfl
  ·rw [if_neg h2,if_pos (by omega)]
   obtain ⟨i,rfl⟩:∃ i,j=i+2:=⟨j - 2,by omega⟩
   rw [show (i+2) / 2=i / 2+1 by omega,show (i+2) % 2=i % 2 by omega,show i+2 - 2=i by omega,UJ C (0,0) (0,h) (i / 2) (by omega)]
 ·rw [if_neg h1,if_pos (by omega)]
  have e:((0,0) :: C ++ [(0,h)]).getD (j / 2) (0,0)=(0,h):=by
   rw [show j / 2=C.length+1 by omega,List.getD_eq_getElem?_getD,List.cons_append,List.getElem?_cons_succ,List.getElem?_append_right (Nat.le_refl _),Nat.sub_self]; rfl
  rw [e]
  obtain ⟨i,hi,rfl⟩:∃ i,i<2∧j=(1+C.length)*2+i:=⟨j - (1+C.length)*2,by omega,by omega⟩
  rw [Nat.add_sub_cancel_left,show ((1+C.length)*2+i) % 2=i by omega]
  match i,hi with
  | 0,_=>rfl
  | 1,_=>rfl
theorem U3 (a b c d:Int×Int) (j:Nat) (hj:j<8):QD 6 (Xk (Kv a ++ (Kv b ++ Kv c))) 2 (Xk (Kv d)) j=Xt Kv 2 (0,0) [a,b,c,d] j:=by
 match j,hj with
 | 0,_=>rfl
 | 1,_=>rfl
 | 2,_=>rfl
 | 3,_=>rfl
 | 4,_=>rfl
 | 5,_=>rfl
 | 6,_=>rfl
 | 7,_=>rfl
def F5 (g:Int×Int→Int×Int) (S:List (Int×Int)) (k:Nat):List (Int×Int):=(S.take k).map g ++ S.drop k
theorem Va (g:Int×Int→Int×Int) (S:List (Int×Int)) (k:Nat) (h:k<S.length):(F5 g S k).getD k (0,0)=S.getD k (0,0):=by
 unfold F5
 rw [List.getD_eq_getElem?_getD,List.getElem?_append_right (by simp; omega),List.getD_eq_getElem?_getD]
 simp [Nat.min_eq_left (Nat.le_of_lt h)]
theorem gg (g:Int×Int→Int×Int) (S:List (Int×Int)) (k:Nat) (h:k≤S.length):(F5 g S k).length=S.length:=by unfold F5; simp; omega
theorem gh (g:Int×Int→Int×Int) (S:List (Int×Int)) (k:Nat) (h:k<S.length):(F5 g S k).set k (g (S.getD k (0,0)))=F5 g S (k+1):=by
 refine List.ext_getElem? fun j=>?_
 unfold F5
 rw [List.getElem?_set]
 by_cases hj:k=j
 ·subst hj
  rw [if_pos rfl,if_pos (by simp; omega),List.getElem?_append_left (by simp; omega),List.getElem?_map,List.getElem?_take,if_pos (by omega),List.getElem?_eq_getElem h,List.getD_eq_getElem?_getD,List.getElem?_eq_getElem h]; rfl
 ·rw [if_neg hj]
  by_cases hlt:j<k
  ·rw [List.getElem?_append_left (by simp; omega),List.getElem?_append_left (by simp; omega),List.getElem?_map,List.getElem?_map,List.getElem?_take,List.getElem?_take,if_pos hlt,if_pos (by omega)]
  ·rw [List.getElem?_append_right (by simp; omega),List.getElem?_append_right (by simp; omega),List.getElem?_drop,List.getElem?_drop]
   congr 1
   simp; omega
theorem u8 (l:List (Int×Int)) (k:Nat) (x:Int×Int) (hk:k<l.length):BM (BM (Xt Kv 2 (0,0) l) (k*2) (I x.1)) (k*2+1) (I x.2)=Xt Kv 2 (0,0) (l.set k x):=by
 funext j
 have e:(l.set k x).getD k (0,0)=x:=by rw [List.getD_eq_getElem?_getD,List.getElem?_set_self hk]; rfl
 unfold BM Xt
 by_cases h1:j=k*2+1
 ·rw [if_pos h1,h1,show (k*2+1) / 2=k by omega,show (k*2+1) % 2=1 by omega,e]; rfl
 ·rw [if_neg h1]
  by_cases h2:j=k*2
  ·rw [if_pos h2,h2,show (k*2) / 2=k by omega,show (k*2) % 2=0 by omega,e]; rfl
  ·rw [if_neg h2]
   have:(l.set k x).getD (j / 2) (0,0)=l.getD (j / 2) (0,0):=by rw [List.getD_eq_getElem?_getD,List.getElem?_set_ne (by omega),List.getD_eq_getElem?_getD]
   rw [this]
theorem Eb (l:List Int) (W H M:Nat) (hW:4≤W∧W≤7) (hH:H≤6) (hM:M≤3) (k:Nat) (hk:k≤M):(0≤(Xj l W H M k).1∧(Xj l W H M k).1≤7)∧0≤(Xj l W H M k).2∧(Xj l W H M k).2≤7:=by
 have:=EQ l W H M k hW hH (by omega)
 omega
theorem C2 (l:List Int) (W H M:Nat) (hW:4≤W∧W≤7) (hH:H≤6) (hM:M≤3):Jc (Xo l W H M):=fun c hc=>by
 unfold Xo at hc
 rw [List.mem_append,List.mem_cons,List.mem_singleton] at hc
 rcases hc with (rfl | hc) | rfl
 ·exact ⟨⟨by decide,by decide⟩,⟨by decide,by decide⟩⟩
 ·obtain ⟨k,hk,rfl⟩:=List.mem_map.1 hc
  have:=Eb l W H M hW hH hM k (by have:=List.mem_range.1 hk; omega)
  omega
 ·show (-65536≤(0:Int)∧(0:Int)≤65536)∧(-65536≤(H:Int)∧(H:Int)≤65536)
  omega
theorem Db (l:List Int) (W H M:Nat) (hW:4≤W∧W≤7) (hH:H≤6) (hM:M≤3):∀ c∈Xs l W H M,(0≤c.1∧c.1≤7)∧0≤c.2∧c.2≤7:=fun c hc=>by
 unfold Xs Kg at hc
 simp only [List.mem_append,List.mem_cons,List.not_mem_nil,or_false,List.mem_map,List.mem_range] at hc
 rcases hc with (rfl | rfl | rfl) | ⟨k,hk,rfl⟩
 ·exact Eb l W H M hW hH hM 0 (by omega)
 ·show (0≤(W:Int)∧(W:Int)≤7)∧0≤(0:Int)∧(0:Int)≤7
  omega
 ·show (0≤(W:Int)∧(W:Int)≤7)∧0≤(H:Int)∧(H:Int)≤7
  omega
 ·exact Eb l W H M hW hH hM (M - k) (by omega)
theorem Dk (l:List Int) (W H M:Nat) (hW:4≤W∧W≤7) (hH:H≤6) (hM:M≤3):Jc (Xz l W H M):=fun c hc=>by
 obtain ⟨p,hp,rfl⟩:=List.mem_map.1 hc
 have h1:=Db l W H M hW hH hM p hp
 have h2:=Fw p 7 (by omega) (by omega) (D6 l)
 have b8:=XM l 8 9 (by omega)
 have b9:=XM l 9 9 (by omega)
 show (-65536≤(KE (D6 l) p).1+(Ab.atF l 8 9 - 4)∧(KE (D6 l) p).1+(Ab.atF l 8 9 - 4)≤65536)∧(-65536≤(KE (D6 l) p).2+(Ab.atF l 9 9 - 4)∧(KE (D6 l) p).2+(Ab.atF l 9 9 - 4)≤65536)
 omega
theorem Iv (l:List Int):vb (Jd l)≤10∧vb (Qp l)≤100:=by
 have h1:vb (Jd l)≤10:=by unfold Jd; rw [Gd]; exact FB
 have b8:=XM l 8 9 (by omega)
 have b9:=XM l 9 9 (by omega)
 have h2:vb (Qc (Cx l))≤3:=by
  have q1:=Z8 (Cx l).1 3 (by omega) (QJ (by unfold Cx; simp only; exact ⟨by omega,by omega⟩))
  have q2:=Z8 (Cx l).2 3 (by omega) (QJ (by unfold Cx; simp only; exact ⟨by omega,by omega⟩))
  unfold vb Qc
  simp only
  omega
 have h3:=Ez (Jd l) (Qc (Cx l))
 have h4:=Za v0 (ZB (Jd l) (Qc (Cx l)))
 have:=GQ
 refine ⟨h1,?_⟩
 unfold Qp
 omega
def GW (l:List Int) (W H:Nat):List Int:=[(W:Int) - 4,(H:Int) - 3,0,Ab.atF l 3 ((W:Int) - 1),Ab.atF l 4 ((W:Int) - 1),0,0,Ab.atF l 7 4]
def ZO (l:List Int) (W H M:Nat) (x9 x10 x11 x12 x13 x14 x16 x17 x18:AV) (r:List AO):AS:=⟨20,[],[X3 l,.any,.ref 0 0 0,I W,I H,I M,.osl 1 (M+1) 2 0 (M+1),.any,.any,x9,x10,x11,x12,x13,x14,.any,x16,x17,x18,.any],[],[.row 0 79 (Xk (J4 ++ (J4 ++ KP))),.row (M+1) ((M+1)*2) (Xt Kv 2 (0,0) (QX l W H M))] ++ r⟩
theorem O7 (l:List Int) (W H M i:Nat):Kg l W H M (i+1)=Kg l W H M i ++ [Xj l W H M (M - i)]:=by
 unfold Kg; rw [Iq,List.append_assoc]
theorem Da (l:List Int) (W H M i:Nat):(Kg l W H M i).length=3+i:=by simp [Kg]; omega
theorem RH (a b:PV) (f:FV):∀ x∈Lq a b f,Settled x:=fun x h=>by
 unfold Lq at h
 rw [List.mem_append,List.mem_append] at h
 rcases h with h | h | h
 ·exact XP a x h
 ·exact XP b x h
 ·exact Qq f x h
theorem te (m v n:Nat) (L:List (Int×Int)):XW m (.row v n (Xt Kv 2 (0,0) L))=True:=eq_true fun j _=>X7 (Xe (KC _) _)
theorem GL (f:Nat→AV) (t:Bool):Settled (.sl 0 0 f t):=QP fun j hj=>absurd hj (Nat.not_lt_zero j)
theorem uG (m v n:Nat):XW m (.row v n (Xk (J4 ++ (J4 ++ KP))))=True:=eq_true fun j _=>X7 (Xe (l:=J4 ++ (J4 ++ KP)) (by simp [J4,KP,Q2,X9,X2,GL]) _)
theorem Iu (l:List Int) (hl:Gi l) (W H M:Nat) (hW:(4:Int)+Ab.atF l 0 4=W) (hH:(3:Int)+Ab.atF l 1 4=H) (hM:(1:Int)+Ab.atF l 2 3=M) (A' B':PV) (F':FV)
  (hr:¬ (XJ (Xp (Xo l W H M))∧XJ (Xp (Xs l W H M)))→Fn Tryz.prog 28 [X3 (GW l W H)] (.agg (Lq A' B' F'))) :
  ∃ A B F,Fn Tryz.prog 28 [X3 l] (.agg (Lq A B F))∧(((XJ (Xp (Xo l W H M))∧XJ (Xp (Xs l W H M)))∧A=Kk (Xo l W H M) l 10∧B=Kk (Xz l W H M) l 20∧F=Jj l M) ∨
   (¬ (XJ (Xp (Xo l W H M))∧XJ (Xp (Xs l W H M)))∧A=A'∧B=B'∧F=F')):=by
 obtain ⟨A,B,F,hABF⟩:∃ A B F,(((XJ (Xp (Xo l W H M))∧XJ (Xp (Xs l W H M)))∧A=Kk (Xo l W H M) l 10∧B=Kk (Xz l W H M) l 20∧F=Jj l M) ∨
   (¬ (XJ (Xp (Xo l W H M))∧XJ (Xp (Xs l W H M)))∧A=A'∧B=B'∧F=F')):=by
  by_cases h:XJ (Xp (Xo l W H M))∧XJ (Xp (Xs l W H M))
  ·exact ⟨_,_,_,.inl ⟨h,rfl,rfl,rfl⟩⟩
  ·exact ⟨_,_,_,.inr ⟨h,rfl,rfl,rfl⟩⟩
 refine ⟨A,B,F,?_,hABF⟩
 obtain ⟨R,hR⟩:∃ R,R=AV.agg (Lq A B F):=⟨_,rfl⟩
 have sR:Settled R:=hR▸Qh (RH A B F)
 rw [← hR]
 have b0:=XM l 0 4 (by omega)
 have b1:=XM l 1 4 (by omega)
 have b2:=XM l 2 3 (by omega)
 have c0:=Jx l 0 4 hl (by omega)
 have c1:=Jx l 1 4 hl (by omega)
 have c2:=Jx l 2 3 hl (by omega)
 refine Fr Tryz.call28 Tryz.func28 20 [] [37,380000013,380000017] [] ?_
 simp (disch:=omega) only [AS.start,X4,↓XK,wG,seval]
 refine X0 c0 rfl ?_
 simp (disch:=omega) only [X4,hW,↓XK,wG,seval]
 refine X0 c1 rfl ?_
 simp (disch:=omega) only [X4,hH,↓XK,wG,seval]
 refine X0 c2 rfl ?_
 simp (disch:=omega) only [X4,hM,↓XK,wG,seval]
 refine Xd (fun k:Nat=>⟨20,[],[X3 l,.any,.ref 0 0 0,I W,I H,I M,.osl 1 k 2 0 k,I k,.any,.any,.any,.any,.any,.any,.any,.any,.any,.any,.any,.any],[],[.row 0 79 (Xk (J4 ++ (J4 ++ KP))),.row k (k*2) (Xt Kv 2 (0,0) ((QX l W H M).take k))]⟩) (fun k=>k≤M+1) (fun k=>M+1 - k) 0 (by omega)
  (Sub.trans (Jk 6 2 (Xt Kv 2 (0,0) []) rfl) (Xf rfl (by simp [AS.put,Xg,X4,I]) (by simp [AS.put,Xn]) (by simp [AS.put,J4,KP,Q2,I]))) ?_
 intro k hk next
 by_cases hk2:k<M+1
 ·have c3:=Jx l (3+k:Nat) ((W:Int) - 1) hl (by omega)
  have b3:=XM l (3+k:Nat) ((W:Int) - 1) (by omega)
  have htk:(QX l W H M).take (k+1)=(QX l W H M).take k ++ [Xj l W H M k]:=by rw [QB _ (0,0) k (by simp [QX]; omega),I4 _ _ _ _ _ (by omega)]
  have nx:=next (k+1)
  rw [htk] at nx
  have hcl:((QX l W H M).take k).length=k:=by simp [QX]; omega
  have hcp:Xj l W H M k=(1+Ab.atF l (3+k:Nat) ((W:Int) - 1),if k=M then (H:Int) else k):=rfl
  rw [hcp] at nx
  generalize Ab.atF l (3+k:Nat) ((W:Int) - 1)=x at *
  rw [Int.natCast_add] at c3
  change Fn _ _ [X3 l,I ((3:Int)+k),_] _ at c3
  generalize (QX l W H M).take k=C at *
  by_cases he:k=M
  ·rw [if_pos he] at nx
   have hap:=QR Kv 2 (0,0) C (1+x,(H:Int)) (by omega)
   rw [hcl] at hap
   refine Xi ?_
   simp (disch:=omega) only [X4,↓XK,wG,seval]
   refine X0 c3 rfl ?_
   simp (disch:=omega) only [X4,↓XK,wG,seval]
   exact ⟨DC (1+x,(H:Int)),nx _ (by omega) (by omega) (Ku (by simp [Xg,X4,I]) (by rw [← hap]; simp [Kv,I]))⟩
  ·rw [if_neg he] at nx
   have hap:=QR Kv 2 (0,0) C (1+x,(k:Int)) (by omega)
   rw [hcl] at hap
   refine Xi ?_
   simp (disch:=omega) only [X4,↓XK,wG,seval]
   refine X0 c3 rfl ?_
   simp (disch:=omega) only [X4,↓XK,wG,seval]
   exact ⟨DC (1+x,(k:Int)),nx _ (by omega) (by omega) (Ku (by simp [Xg,X4,I]) (by rw [← hap]; simp [Kv,I]))⟩
 obtain rfl:k=M+1:=by omega
 have htk:(QX l W H M).take (M+1)=QX l W H M:=List.take_of_length_le (by simp [QX])
 rw [htk]
 have hCl:(QX l W H M).length=M+1:=by simp [QX]
 have hq:∀ k,k≤M→Xt Kv 2 (0,0) (QX l W H M) (k*2)=I (Xj l W H M k).1∧Xt Kv 2 (0,0) (QX l W H M) (k*2+1)=I (Xj l W H M k).2:=fun k hk=>by
  rw [JQ Kv 2 (0,0) (QX l W H M) k (by omega),Jy Kv 2 (0,0) (QX l W H M) k 1 (by omega),I4 _ _ _ _ _ hk]
  exact ⟨rfl,rfl⟩
 have q0:Xt Kv 2 (0,0) (QX l W H M) 0=I (Xj l W H M 0).1:=(hq 0 (by omega)).1
 have q1:Xt Kv 2 (0,0) (QX l W H M) 1=I (Xj l W H M 0).2:=(hq 0 (by omega)).2
 have hF:Xo l W H M=(0,0) :: QX l W H M ++ [(0,(H:Int))]:=rfl
 have hfr:=Yn (QX l W H M) H
 rw [← hF,hCl] at hfr
 have hFl:(Xo l W H M).length=M+3:=by rw [hF]; simp [hCl]
 have hSl:(Xs l W H M).length=M+3:=by unfold Xs; rw [Da]; omega
 have hcr:=EQ l W H M
 have n1:=C2 l W H M (by omega) (by omega) (by omega)
 have n2:=Db l W H M (by omega) (by omega) (by omega)
 refine Xi ?_
 simp (disch:=omega) only [X4,q0,q1,↓XK,wG,seval]
 refine ⟨fun j _=>iq _ _ _ _ _ (by omega) fun a=>⟨rfl,by simp [Kv,I,AV.one]⟩,DC (0,(H:Int)),?_⟩
 refine Xd (fun i:Nat=>match i with
  | 0=>ZO l W H M (.osl 2 1 2 0 (M+3)) (.sl 3 6 (Xk [I (Xj l W H M 0).1,I (Xj l W H M 0).2,I W,I 0,I W,I H]) true) (I M) .any .any .any .any .any .any [.row 1 ((M+3)*2) (Xt Kv 2 (0,0) (Xo l W H M))]
  | i+1=>ZO l W H M (.osl 2 1 2 0 (M+3)) (.osl 3 i 2 0 (4+i)) (I (M - (i+1):Nat)) .any .any .any .any .any .any [.row 1 ((M+3)*2) (Xt Kv 2 (0,0) (Xo l W H M)),.row i ((4+i)*2) (Xt Kv 2 (0,0) (Kg l W H M (i+1)))])
  (fun i=>i≤M) (fun i=>M - i) 0 (by omega)
  (Sub.trans (Jh 2 ((M+3)*2) (Xt Kv 2 (0,0) (Xo l W H M)) rfl (by omega) (fun j hj=>hfr j (by omega))) (Xf rfl (by simp [ZO,Xg,X4,I]; omega) (by simp [Xn,ZO]) (by simp [ZO,J4,KP,Q2,I]))) ?_
 intro i hi next
 match i,hi,next with
 | 0,hi,next =>
  have ho:=U3 (Xj l W H M 0) ((W:Int),0) ((W:Int),(H:Int)) (Xj l W H M M)
  have w1:=(hq M (by omega)).1
  have w2:=(hq M (by omega)).2
  refine Xi ?_
  simp (disch:=omega) only [ZO,X4,List.cons_append,List.nil_append,w1,w2,↓XK,wG,seval]
  exact ⟨DC (Xj l W H M M),next 1 _ (by omega) (by omega) (Sub.trans (Jh 3 8 (Xt Kv 2 (0,0) (Kg l W H M 1)) rfl (by omega) (fun j hj=>ho j hj)) (Xf rfl (by simp [ZO,Xg,X4,I]; omega) (by simp [Xn,ZO]) (by simp [ZO])))⟩
 | i+1,hi,next =>
 by_cases hi2:i+1<M
 ·have w1:=(hq (M - (i+1)) (by omega)).1
  have w2:=(hq (M - (i+1)) (by omega)).2
  have hs:=O7 l W H M (i+1)
  have hap:=QR Kv 2 (0,0) (Kg l W H M (i+1)) (Xj l W H M (M - (i+1))) (by omega)
  rw [Da,show 3+(i+1)=4+i by omega] at hap
  refine Xi ?_
  simp (disch:=omega) only [ZO,X4,List.cons_append,List.nil_append,w1,w2,↓XK,wG,seval]
  exact ⟨DC (Xj l W H M (M - (i+1))),next (i+2) _ (by omega) (by omega) (Xf rfl (by simp [ZO,Xg,X4,I]; omega) (by simp [Xn,ZO]) (by rw [← hs] at hap; simp [ZO,← hap,Kv,I,show 4+i+1=4+(i+1) by omega]))⟩
 obtain rfl:M=i+1:=by omega
 clear next
 have k1:=L7 (Xo l W H (i+1)) n1 (by omega)
 have k2:=L7 (Xs l W H (i+1)) (fun c hc=>by have:=n2 c hc; omega) (by omega)
 refine Xi ?_
 simp (disch:=omega) only [ZO,X4,List.cons_append,List.nil_append,↓XK,wG,seval]
 refine JF k1 rfl ⟨?_,trivial⟩ (Ar _) ?_
 ·show Kj _ (.osl 2 1 2 0 (i+1+3)) (Ld (Xo l W H (i+1)))
  rw [Xu,hFl]
  refine Jv (.inl rfl) (by omega) (fun h=>by omega) fun j hj=>?_
  rw [Nat.zero_add]
  exact (Xe (l:=Kv ((Xo l W H (i+1)).getD (j / 2) (0,0))) (KC _) _).sees _
 by_cases p1:XJ (Xp (Xo l W H (i+1)))
 rotate_left
 ·have hr2:=hr (fun h=>p1 h.1)
  rcases hABF with ⟨h,_⟩ | ⟨_,rfl,rfl,rfl⟩
  ·exact absurd h.1 p1
  have a3:=Jx l 3 ((W:Int) - 1) hl (by omega)
  have a4:=Jx l 4 ((W:Int) - 1) hl (by omega)
  have a7:=Jx l 7 4 hl (by omega)
  simp (disch:=omega) only [decide_eq_false p1,ZO,X4,List.cons_append,List.nil_append,↓XK,wG,seval]
  refine X0 a3 rfl ?_
  simp (disch:=omega) only [ZO,X4,List.cons_append,List.nil_append,↓XK,wG,seval]
  refine X0 a4 rfl ?_
  simp (disch:=omega) only [ZO,X4,List.cons_append,List.nil_append,↓XK,wG,seval]
  refine X0 a7 rfl ?_
  simp (disch:=omega) only [ZO,X4,List.cons_append,List.nil_append,↓XK,wG,seval]
  refine QS hr2 ⟨Zj rfl rfl,trivial⟩ ?_
  simp (disch:=omega) only [Lq,QC,Jp,J4,KP,Q2,X4,List.cons_append,List.nil_append,↓XK,wG,seval]
  exact Ah rfl V5 rfl rfl rfl sR (hR.trans rfl)
 simp (disch:=omega) only [decide_eq_true p1,ZO,X4,List.cons_append,List.nil_append,↓XK,wG,seval]
 refine JF k2 rfl ⟨?_,trivial⟩ (Ar _) ?_
 ·show Kj _ (.osl 3 i 2 0 (4+i)) (Ld (Xs l W H (i+1)))
  rw [Xu,hSl,show i+1+3=4+i by omega]
  refine Jv (.inl rfl) (by omega) (fun h=>by omega) fun j hj=>?_
  rw [Nat.zero_add]
  exact (Xe (l:=Kv ((Xs l W H (i+1)).getD (j / 2) (0,0))) (KC _) _).sees _
 by_cases p2:XJ (Xp (Xs l W H (i+1)))
 rotate_left
 ·have hr2:=hr (fun h=>p2 h.2)
  rcases hABF with ⟨h,_⟩ | ⟨_,rfl,rfl,rfl⟩
  ·exact absurd h.2 p2
  have a3:=Jx l 3 ((W:Int) - 1) hl (by omega)
  have a4:=Jx l 4 ((W:Int) - 1) hl (by omega)
  have a7:=Jx l 7 4 hl (by omega)
  simp (disch:=omega) only [decide_eq_false p2,ZO,X4,List.cons_append,List.nil_append,↓XK,wG,seval]
  refine X0 a3 rfl ?_
  simp (disch:=omega) only [ZO,X4,List.cons_append,List.nil_append,↓XK,wG,seval]
  refine X0 a4 rfl ?_
  simp (disch:=omega) only [ZO,X4,List.cons_append,List.nil_append,↓XK,wG,seval]
  refine X0 a7 rfl ?_
  simp (disch:=omega) only [ZO,X4,List.cons_append,List.nil_append,↓XK,wG,seval]
  refine QS hr2 ⟨Zj rfl rfl,trivial⟩ ?_
  simp (disch:=omega) only [Lq,QC,Jp,J4,KP,Q2,X4,List.cons_append,List.nil_append,↓XK,wG,seval]
  exact Ah rfl V5 rfl rfl rfl sR (hR.trans rfl)
 clear hr
 rcases hABF with ⟨_,rfl,rfl,rfl⟩ | ⟨h,_⟩
 rotate_left
 ·exact absurd ⟨p1,p2⟩ h
 have a7:=Jx l 7 4 hl (by omega)
 have a8:=Jx l 8 9 hl (by omega)
 have a9:=Jx l 9 9 hl (by omega)
 have b7:=XM l 7 4 (by omega)
 have b8:=XM l 8 9 (by omega)
 have b9:=XM l 9 9 (by omega)
 have e7:Ab.atF l 7 4=(D6 l:Int):=by unfold D6; omega
 have hD:Cx l=(Ab.atF l 8 9 - 4,Ab.atF l 9 9 - 4):=rfl
 simp (disch:=omega) only [decide_eq_true p2,ZO,X4,List.cons_append,List.nil_append,↓XK,wG,seval]
 refine X0 a7 rfl ?_
 simp (disch:=omega) only [e7,ZO,X4,List.cons_append,List.nil_append,↓XK,wG,seval]
 refine X0 a8 rfl ?_
 simp (disch:=omega) only [ZO,X4,List.cons_append,List.nil_append,↓XK,wG,seval]
 refine X0 a9 rfl ?_
 simp (disch:=omega) only [ZO,X4,List.cons_append,List.nil_append,↓XK,wG,seval]
 have hSN:Kg l W H (i+1) (i+1)=Xs l W H (i+1):=rfl
 rw [← hSN] at hSl n2
 have hST:Xz l W H (i+1)=(Kg l W H (i+1) (i+1)).map (Ol (D6 l) (Cx l)):=rfl
 have n3:=Dk l W H (i+1) (by omega) (by omega) (by omega)
 have hTl:(Xz l W H (i+1)).length=4+i:=by rw [hST,List.length_map,hSl]; omega
 have q4:D6 l≤3:=by omega
 generalize Kg l W H (i+1) (i+1)=S at *
 have bD:(-4≤(Cx l).1∧(Cx l).1≤4)∧-4≤(Cx l).2∧(Cx l).2≤4:=by rw [hD]; omega
 have hAt:Qp l=v0.sub (ZB (Jd l) (Qc (Cx l))):=rfl
 have hT:Jd l=XY ((4 - D6 l) % 4) Qm:=rfl
 have hPF:Jj l (i+1)=⟨0,1,1,(i+1+2:Nat),(i+1:Nat),Jd l,Qp l,Qp l⟩:=rfl
 have hps:=Iv l
 rw [hPF] at hR
 have m1:=V8 (Xo l W H (i+1)) l 10 (by omega) hl (by omega)
 have m2:=V8 (Xz l W H (i+1)) l 20 (by omega) hl (by omega)
 generalize Kk (Xo l W H (i+1)) l 10=A at *
 generalize Kk (Xz l W H (i+1)) l 20=B at *
 generalize Xo l W H (i+1)=FL at *
 generalize Qp l=at' at *
 generalize Cx l=D at *
 obtain ⟨D1,D2⟩:=D
 rw [Prod.mk.injEq] at hD
 obtain ⟨rfl,rfl⟩:=hD
 generalize D6 l=q at *
 generalize Jd l=T at *
 generalize Ab.atF l 8 9 - 4=D1 at *
 generalize Ab.atF l 9 9 - 4=D2 at *
 simp only at bD
 generalize hg:Ol q (D1,D2)=g at *
 refine Xd (fun k:Nat=>ZO l W H (i+1) (.osl 2 1 2 0 (i+1+3)) (.osl 3 i 2 0 (4+i)) .any (I q) (.ref 4 0 0) (I k) .any .any .any [.row 1 ((i+1+3)*2) (Xt Kv 2 (0,0) FL),.row i ((4+i)*2) (Xt Kv 2 (0,0) (F5 g S k)),.row 0 2 (Xk [I D1,I D2])])
  (fun k=>k≤4+i) (fun k=>4+i - k) 0 (by omega)
  (Xf rfl (by simp [ZO,Xg,X4,I]) (by simp [Xn,ZO]) (by simp [ZO,F5,I])) ?_
 intro k hk next
 by_cases hk2:k<4+i
 ·have hp:=n2 (S.getD k (0,0)) (Js (by omega))
  have hb:=Fw (S.getD k (0,0)) 7 (by omega) (by omega) q
  have c:=aI (S.getD k (0,0)) q (by omega) (by omega) (by omega)
  have u0:Xt Kv 2 (0,0) (F5 g S k) (k*2)=I (S.getD k (0,0)).1:=by rw [JQ _ _ _ _ _ (by omega),Va g S k (by omega)]; rfl
  have u1:Xt Kv 2 (0,0) (F5 g S k) (k*2+1)=I (S.getD k (0,0)).2:=by rw [Jy _ _ _ _ _ _ (by omega),Va g S k (by omega)]; rfl
  have hs:=u8 (F5 g S k) k (g (S.getD k (0,0))) (by rw [gg g S k (by omega)]; omega)
  rw [gh g S k (by omega)] at hs
  have hgk:g (S.getD k (0,0))=((KE q (S.getD k (0,0))).1+D1,(KE q (S.getD k (0,0))).2+D2):=by rw [← hg]; rfl
  rw [hgk] at hs
  generalize S.getD k (0,0)=p at *
  generalize KE q p=w at *
  refine Xi ?_
  simp (disch:=omega) only [ZO,X4,Kv,List.cons_append,List.nil_append,u0,u1,↓XK,wG,seval]
  refine X0 c rfl ?_
  simp (disch:=omega) only [ZO,X4,Kv,List.cons_append,List.nil_append,↓XK,wG,seval]
  exact next (k+1) _ (by omega) (by omega) (XD (m:=5) (Nat.zero_le _) rfl (by simp [ZO,Xg,X4,I]) (by simp [Xn,ZO]) (by simp [ZO,← hs,Kv,I]) (by simp [ZO,XA]) (by simp [ZO,XA]) (by simp [ZO,te,uG,XA]))
 obtain rfl:k=4+i:=by omega
 have hm:F5 g S (4+i)=Xz l W H (i+1):=by
  rw [hST]; unfold F5; rw [List.take_of_length_le (by omega),List.drop_eq_nil_of_le (by omega),List.append_nil]
 rw [hm]
 clear next
 generalize Xz l W H (i+1)=ST at *
 refine Run.sub (s':=ZO l W H (i+1) (Ld FL) (Ld ST) .any (I q) (.ref 4 0 0) (I (4+i:Nat)) .any .any .any [.con 1 ((i+1+3)*2) (Xt Kv 2 (0,0) FL),.con i ((4+i)*2) (Xt Kv 2 (0,0) ST),.row 0 2 (Xk [I D1,I D2])]) ?_
  (Sub.trans (Qy 2 rfl) (Sub.trans (RZ 9 (M:=(i+1+3)*2) rfl rfl (by omega) (fun h=>by omega)) (Sub.trans (Qy 3 rfl) (Sub.trans (RZ 10 (M:=(4+i)*2) rfl rfl (by omega) (fun h=>by omega)) (Xf rfl (by simp [AS.put,ZO,Xg,Xu,X4,hFl,hTl,I]) (by simp [AS.put,Xn,ZO]) (by simp [AS.put,ZO]))))))
 have o1:=Ao 1 1 ⟨by omega,by omega⟩ ⟨by omega,by omega⟩
 have v1:Rat.divInt 1 1=1:=by decide +kernel
 rw [v1] at o1
 have hrem:((4:Int) - q).tmod 4=((4 - q) % 4:Nat):=by rw [Int.tmod_eq_emod_of_nonneg (by omega)]; omega
 refine Xi ?_
 simp (disch:=omega) only [ZO,X4,List.cons_append,List.nil_append,↓XK,wG,seval]
 refine X0 m1 rfl ?_
 simp (disch:=omega) only [ZO,X4,List.cons_append,List.nil_append,↓XK,wG,seval]
 refine X0 m2 rfl ?_
 simp (disch:=omega) only [ZO,X4,Zl,QC,J4,KP,Q2,List.cons_append,List.nil_append,↓XK,wG,seval]
 refine X0 o1 rfl ?_
 simp (disch:=omega) only [X4,Xu,↓XK,wG,seval]
 have wst:WeakL [.bool (sg 1),X3 (X6 (Rat.num 1).natAbs),.bool false,X3 (X6 (qd 1)),.bool false,.sl 0 0 (fun _=>.any) false,.bool false,.sl 0 0 (fun _=>.any) false] (vC Qm):=by
  obtain ⟨w1,w2,w3,w4,w5,w6,w7,w8,_⟩:=Co
  exact ⟨Weak.rfl' _,Weak.rfl' _,Weak.rfl' _,Weak.rfl' _,w5,w6,w7,w8,trivial⟩
 refine Xd (fun j:Nat=>ZO l W H (i+1) .any .any .any (I q) (.ref 4 0 0) .any (.ref 5 0 0) (.ref 6 0 0) (I j) [.con 1 ((i+1+3)*2) (Xt Kv 2 (0,0) FL),.con i ((4+i)*2) (Xt Kv 2 (0,0) ST),.row 0 2 (Xk [I D1,I D2]),.row 0 79 (Xk (QC A ++ (QC B ++ Ok))),.row 0 8 (Xk (vC (XY j Qm)))])
  (fun j=>j≤(4 - q) % 4) (fun j=>(4 - q) % 4 - j) 0 (by omega)
  (Sub.trans (RX 6 (vC Qm) rfl rfl wst) (Xf rfl (by simp [ZO,Xg,X4,I]) (by simp [Xn,ZO]) (by simp [ZO,J4,KP,Q2,Ok,ZD,QC,Xu,XR,X4,XY,I]))) ?_
 intro j hj next
 have hvq:vb (XY j Qm)≤10:=by rw [Gd]; exact FB
 have hqs:XY (j+1) Qm=QO (XY j Qm):=rfl
 by_cases hj2:j<(4 - q) % 4
 ·have nx:=next (j+1)
  rw [hqs] at nx
  generalize XY j Qm=V at *
  have q1:=QG V
  have c:=Ep V.y (by unfold rm; omega)
  refine Xi ?_
  simp (disch:=omega) only [ZO,X4,vC,hrem,List.cons_append,List.nil_append,↓XK,wG,seval]
  refine X0 c rfl ?_
  simp (disch:=omega) only [X4,↓XK,wG,seval]
  have hV:vC (QO V)=[.bool (sg (-V.y)),X3 (X6 (-V.y).num.natAbs),.bool false,X3 (X6 (qd (-V.y))),.bool (sg V.x),X3 (X6 V.x.num.natAbs),.bool false,X3 (X6 (qd V.x))]:=rfl
  exact nx _ (by omega) (by omega) (Xf rfl (by simp [ZO,Xg,X4,I]) (by simp [Xn,ZO]) (by simp [ZO,J4,KP,Q2,Ok,ZD,QC,Xu,XR,X4,hV,I]))
 obtain rfl:j=(4 - q) % 4:=by omega
 rw [← hT] at hvq ⊢
 clear next
 have c1:=MV D1 D2 ⟨by omega,by omega⟩ ⟨by omega,by omega⟩
 have hpv:(⟨(D1:Rat),(D2:Rat)⟩:V2)=Qc (D1,D2):=rfl
 rw [hpv] at c1
 have vq:vb (Qc (D1,D2))≤3:=by
  have q1:=Z8 D1 3 (by omega) (QJ ⟨by omega,by omega⟩)
  have q2:=Z8 D2 3 (by omega) (QJ ⟨by omega,by omega⟩)
  unfold vb Qc
  simp only
  omega
 have c2:=LD T (Qc (D1,D2)) (by unfold vm; omega) (by unfold vm; omega)
 have vr:=Ez T (Qc (D1,D2))
 have vz:=GQ
 have c3:=ZN v0 (ZB T (Qc (D1,D2))) (by unfold rm; omega) (by unfold rm; omega)
 rw [← hAt] at c3
 refine Xi ?_
 simp (disch:=omega) only [ZO,X4,vC,hrem,List.cons_append,List.nil_append,↓XK,wG,seval]
 refine X0 c1 rfl ?_
 simp (disch:=omega) only [X4,vA,vC,↓XK,wG,seval]
 refine X0 c2 rfl ?_
 simp (disch:=omega) only [X4,vA,vC,↓XK,wG,seval]
 refine QS c3 ⟨Ji (Sf _),Weak.rfl' _,trivial⟩ ?_
 simp (disch:=omega) only [X4,vA,vC,QC,Ok,ZD,J4,KP,Q2,List.cons_append,List.nil_append,↓XK,wG,seval]
 exact Ah rfl V5 rfl rfl rfl sR (hR.trans rfl)
theorem SV (k m:Int) (h:0≤k∧k<m):Zn k m=k:=by
 unfold Zn
 rw [if_neg (by omega),Int.tmod_eq_emod_of_nonneg h.1,Int.emod_eq_of_lt h.1 h.2]
theorem EM (L:List Int) (j:Nat) (m:Int) (h:j<L.length) (hb:0≤L.getD j 0∧L.getD j 0<m):Ab.atF L (j:Nat) m=L.getD j 0:=by
 unfold Ab.atF
 rw [if_neg (by omega),Int.toNat_natCast,SV _ _ hb]
theorem q9 (l:List Int) (W H:Nat) (hW:4≤W∧W≤7) (hH:3≤H∧H≤6):Gi (GW l W H):=fun x hx=>by
 have b3:=XM l 3 ((W:Int) - 1) (by omega)
 have b4:=XM l 4 ((W:Int) - 1) (by omega)
 have b7:=XM l 7 4 (by omega)
 simp only [GW,List.mem_cons,List.not_mem_nil,or_false] at hx
 rcases hx with rfl | rfl | rfl | rfl | rfl | rfl | rfl | rfl <;> exact ⟨by omega,by omega⟩
theorem gH (l:List Int) (hl:Gi l):∃ (L:List Int) (W H M:Nat),Gi L∧(4≤W∧W≤7)∧(3≤H∧H≤6)∧(1≤M∧M≤3)∧XJ (Xp (Xo L W H M))∧XJ (Xp (Xs L W H M)) ∧
  Fn Tryz.prog 28 [X3 l] (.agg (Lq (Kk (Xo L W H M) L 10) (Kk (Xz L W H M) L 20) (Jj L M))):=by
 have b0:=XM l 0 4 (by omega)
 have b1:=XM l 1 4 (by omega)
 have b2:=XM l 2 3 (by omega)
 obtain ⟨W,hW⟩:∃ W:Nat,(4:Int)+Ab.atF l 0 4=W:=⟨(4+Ab.atF l 0 4).toNat,by omega⟩
 obtain ⟨H,hH⟩:∃ H:Nat,(3:Int)+Ab.atF l 1 4=H:=⟨(3+Ab.atF l 1 4).toNat,by omega⟩
 obtain ⟨M,hM⟩:∃ M:Nat,(1:Int)+Ab.atF l 2 3=M:=⟨(1+Ab.atF l 2 3).toNat,by omega⟩
 by_cases hv:XJ (Xp (Xo l W H M))∧XJ (Xp (Xs l W H M))
 ·obtain ⟨A,B,F,hf,h⟩:=Iu l hl W H M hW hH hM (Kk [] [] 0) (Kk [] [] 0) Cs (fun h=>absurd hv h)
  rcases h with ⟨_,rfl,rfl,rfl⟩ | ⟨h,_⟩
  ·exact ⟨l,W,H,M,hl,by omega,by omega,by omega,hv.1,hv.2,hf⟩
  ·exact absurd hv h
 have b3:=XM l 3 ((W:Int) - 1) (by omega)
 have b4:=XM l 4 ((W:Int) - 1) (by omega)
 have b7:=XM l 7 4 (by omega)
 have hl2:=q9 l W H (by omega) (by omega)
 have a0:Ab.atF (GW l W H) 0 4=(W:Int) - 4:=EM _ 0 _ (by simp [GW]) (by show 0≤(W:Int) - 4∧(W:Int) - 4<4; omega)
 have a1:Ab.atF (GW l W H) 1 4=(H:Int) - 3:=EM _ 1 _ (by simp [GW]) (by show 0≤(H:Int) - 3∧(H:Int) - 3<4; omega)
 have a2:Ab.atF (GW l W H) 2 3=0:=EM _ 2 _ (by simp [GW]) (by show 0≤(0:Int)∧(0:Int)<3; omega)
 have a3:Ab.atF (GW l W H) 3 ((W:Int) - 1)=Ab.atF l 3 ((W:Int) - 1):=EM _ 3 _ (by simp [GW]) b3
 have a4:Ab.atF (GW l W H) 4 ((W:Int) - 1)=Ab.atF l 4 ((W:Int) - 1):=EM _ 4 _ (by simp [GW]) b4
 have c0:Xj (GW l W H) W H 1 0=(1+Ab.atF l 3 ((W:Int) - 1),0):=by
  unfold Xj; rw [if_neg (by omega)]; exact congrArg (fun z:Int=>((1:Int)+z,(0:Int))) a3
 have c1:Xj (GW l W H) W H 1 1=(1+Ab.atF l 4 ((W:Int) - 1),(H:Int)):=by
  unfold Xj; rw [if_pos rfl]; exact congrArg (fun z:Int=>((1:Int)+z,(H:Int))) a4
 have p1:XJ (Xp (Xo (GW l W H) W H 1)):=by
  have e:Xo (GW l W H) W H 1=gT (1+Ab.atF l 3 ((W:Int) - 1)) (1+Ab.atF l 4 ((W:Int) - 1)) H:=by
   show (0,0) :: [Xj (GW l W H) W H 1 0,Xj (GW l W H) W H 1 1] ++ [(0,(H:Int))]=_
   rw [c0,c1]; rfl
  rw [e]
  exact gU _ _ _ (by omega) (by omega) (by omega)
 have p2:XJ (Xp (Xs (GW l W H) W H 1)):=by
  have e:Xs (GW l W H) W H 1=gV W (1+Ab.atF l 3 ((W:Int) - 1)) (1+Ab.atF l 4 ((W:Int) - 1)) H:=by
   show [Xj (GW l W H) W H 1 0,((W:Int),0),((W:Int),(H:Int))] ++ [Xj (GW l W H) W H 1 1]=_
   rw [c0,c1]; rfl
  rw [e]
  exact gW _ _ _ _ (by omega) (by omega) (by omega) (by omega)
 obtain ⟨A,B,F,hf,h⟩:=Iu (GW l W H) hl2 W H 1 (by rw [a0]; omega) (by rw [a1]; omega) (by rw [a2]; rfl) (Kk [] [] 0) (Kk [] [] 0) Cs (fun h=>absurd ⟨p1,p2⟩ h)
 rcases h with ⟨_,rfl,rfl,rfl⟩ | ⟨h,_⟩
 rotate_left
 ·exact absurd ⟨p1,p2⟩ h
 obtain ⟨A,B,F,hf2,h⟩:=Iu l hl W H M hW hH hM _ _ _ (fun _=>hf)
 rcases h with ⟨h,_⟩ | ⟨_,rfl,rfl,rfl⟩
 ·exact absurd h hv
 ·exact ⟨GW l W H,W,H,1,hl2,by omega,by omega,by omega,p1,p2,hf2⟩
def T8 (t u:V2):Int:=if QZ t.x u.x≠0 then QZ t.x u.x else QZ t.y u.y
theorem dZ (t u:V2):T8 t u<0↔ZH t u:=by
 have h1:=ZV t.x u.x; have h2:=ZV t.y u.y
 have h3:=gR t.x u.x
 unfold T8 ZH
 by_cases h:QZ t.x u.x=0
 ·rw [if_neg (by simp [h])]
  have e:=h3.1 h
  rw [h2]
  constructor
  ·intro hh; exact .inr ⟨e,hh⟩
  ·rintro (hh | hh)
   ·rw [e] at hh; exact absurd hh (Rat.lt_irrefl)
   ·exact hh.2
 ·rw [if_pos h,h1]
  constructor
  ·intro hh; exact .inl hh
  ·rintro (hh | hh)
   ·exact hh
   ·exact absurd (h3.2 hh.1) h
theorem tZ (a b:Int):Fn Tryz.prog 200 [.sl 2 2 (Xk [I a,I b]) false] (I (if a≠0 then a else b)):=by
 refine Fn.intro (fn:=Tryz.f200) Tryz.call200 Tryz.func200 rfl mixed 6 [6,7,8] [] [] (by kernel_rfl) (Nat.le_of_ble_eq_true rfl) (by
  intro x hx
  rw [List.mem_singleton.1 hx]
  exact QP fun j hj=>Xe (l:=[I a,I b]) (by simp [X9]) _) (Xi ?_)
 simp (disch:=omega) only [AS.start,↓XK,wG,seval]
 refine G9 ?_
 refine Xi ?_
 by_cases h:a=0
 rotate_left
 ·simp (disch:=omega) only [eq_false h,Int.reduceAdd,↓XK,wG,seval]
  exact Xx (v:=I a) rfl rfl (X9 _) (by rw [if_pos h])
 simp (disch:=omega) only [eq_true h,Int.reduceAdd,↓XK,wG,seval]
 refine Es ?_
 refine Xi ?_
 by_cases h2:b=0
 rotate_left
 ·simp (disch:=omega) only [eq_false h2,Int.reduceAdd,↓XK,wG,seval]
  exact Xx (v:=I b) rfl rfl (X9 _) (by rw [if_neg (by simp [h])])
 simp (disch:=omega) only [eq_true h2,Int.reduceAdd,↓XK,wG,seval]
 refine Es ?_
 refine Xi ?_
 simp (disch:=omega) only [Int.reduceAdd,↓XK,wG,seval]
 exact Xx (v:=I 0) rfl rfl (X9 _) (by rw [if_neg (by simp [h]),h2])
theorem Ph (t u:V2) (ht:vb t≤vm) (hu:vb u≤vm):Fn Tryz.prog 135 [vA t,vA u] (I (T8 t u)):=by
 have q1:=QL t; have q2:=QG t; have q3:=QL u; have q4:=QG u
 have c1:=Qw t.x u.x (by unfold rm; unfold vm at *; omega) (by unfold rm; unfold vm at *; omega)
 have c2:=Qw t.y u.y (by unfold rm; unfold vm at *; omega) (by unfold rm; unfold vm at *; omega)
 have c3:=tZ (QZ t.x u.x) (QZ t.y u.y)
 have hc:T8 t u=if QZ t.x u.x≠0 then QZ t.x u.x else QZ t.y u.y:=rfl
 rw [← hc] at c3
 generalize T8 t u=R at *
 refine Fr Tryz.call135 Tryz.func135 5 [] [1,20000002,20000003] [] ?_
 simp (disch:=omega) only [AS.start,vA,vC,↓XK,wG,seval]
 refine X0 c1 rfl ?_
 simp (disch:=omega) only [↓XK,wG,seval]
 refine X0 c2 rfl ?_
 simp (disch:=omega) only [↓XK,wG,seval]
 refine X0 c3 rfl ?_
 simp (disch:=omega) only [↓XK,wG,seval]
 exact Xx rfl rfl (X9 _) rfl
def aC (L:List V2) (j:Nat):List V2:=(L.set (j+1) (L.getD j v0)).set j (L.getD (j+1) v0)
def AU:List V2→Nat→List V2
 | L,0=>L
 | L,j+1=>if ZH (L.getD (j+1) v0) (L.getD j v0) then AU (aC L j) j else L
def Ai (L:List V2):Nat→List V2
 | 0=>L
 | k+1=>AU (Ai L k) (k+1)
theorem Oe (L:List V2) (j:Nat):(aC L j).length=L.length:=by simp [aC]
theorem PC:∀ (j:Nat) (L:List V2),(AU L j).length=L.length
 | 0,_=>rfl
 | j+1,L=>by
  unfold AU
  split
  ·rw [PC j,Oe]
  ·rfl
theorem AN (L:List V2):∀ k,(Ai L k).length=L.length
 | 0=>rfl
 | k+1=>by show (AU (Ai L k) (k+1)).length=_; rw [PC,AN L k]
theorem VK {L:List V2} {j:Nat} (h:j+1<L.length) (x:V2) (hx:x∈aC L j):x∈L:=by
 unfold aC at hx
 rcases List.mem_or_eq_of_mem_set hx with hx | rfl
 ·rcases List.mem_or_eq_of_mem_set hx with hx | rfl
  ·exact hx
  ·exact Js (by omega)
 ·exact Js h
theorem PD:∀ (j:Nat) (L:List V2),j<L.length→∀ x∈AU L j,x∈L
 | 0,_,_,x,h=>h
 | j+1,L,hj,x,h=>by
  unfold AU at h
  split at h
  ·exact VK hj x (PD j (aC L j) (by rw [Oe]; omega) x h)
  ·exact h
theorem IY (L:List V2):∀ k,k<L.length→∀ x∈Ai L k,x∈L
 | 0,_,x,h=>h
 | k+1,hk,x,h=>IY L k (by omega) x (PD (k+1) (Ai L k) (by rw [AN]; exact hk) x h)
theorem su (l:List V2) (k:Nat) (x:V2) (hk:k<l.length):H7 (Xt vC 8 v0 l) (k*8) (vC x)=Xt vC 8 v0 (l.set k x):=by
 funext j
 rw [S6]
 have e:(l.set k x).getD k v0=x:=by rw [List.getD_eq_getElem?_getD,List.getElem?_set_self hk]; rfl
 have hl:(vC x).length=8:=rfl
 unfold Xt
 by_cases h:k*8≤j∧j<k*8+(vC x).length
 ·rw [if_pos h]
  rw [hl] at h
  rw [show j / 8=k by omega,e,show j % 8=j - k*8 by omega]
 ·rw [if_neg h]
  rw [hl] at h
  have:(l.set k x).getD (j / 8) v0=l.getD (j / 8) v0:=by rw [List.getD_eq_getElem?_getD,List.getElem?_set_ne (by omega),List.getD_eq_getElem?_getD]
  rw [this]
theorem oD {P:Program} {fn:Func} {str hcs:List Nat} {b:Nat} {H:List AO} {s:AS} (hr:fn.results=#[]) (hH:s.h=H):RetE (FU P fn str hcs b (.tup []) H) s :=
 ⟨.tup [],by show KO P fn s=_; simp [KO,hr,J2,ZA],rfl,hH⟩
theorem Yy (o0 o1 o2 o3 o4 o5 o6 o7:AO) (v:Nat) (L:List V2) (hL:∀ x∈L,vb x≤vm) (hn:L.length<1000) :
  HCall Tryz.prog 233 [.osl 8 v 8 0 L.length,I 0,I L.length,.fn 135 []] [o0,o1,o2,o3,o4,o5,o6,o7,.row v (L.length*8) (Xt vC 8 v0 L)] (.tup []) [o0,o1,o2,o3,o4,o5,o6,o7,.row v (L.length*8) (Xt vC 8 v0 (Ai L (L.length - 1)))]:=by
 refine HCall.intro (fn:=Tryz.f233) Tryz.call233 Tryz.func233 rfl mixed 10 [] [4,5008,5013,6,7009,7013] [] (by kernel_rfl) (Nat.le_of_ble_eq_true rfl) (Xi ?_)
 simp (disch:=omega) only [AS.start,↓XK,wG,seval]
 refine Xd (fun k:Nat=>⟨10,[],[.osl 8 v 8 0 L.length,I 0,I L.length,.fn 135 [],.any,.any,.any,.any,I (k+1:Nat),.any],[],[o0,o1,o2,o3,o4,o5,o6,o7,.row v (L.length*8) (Xt vC 8 v0 (Ai L k))]⟩) (fun k=>k≤L.length - 1) (fun k=>L.length - k) 0 (by omega)
  (Ku (by simp [Xg,I]) rfl) ?_
 intro k hk next
 by_cases hk2:k+1<L.length
 rotate_left
 ·obtain rfl:k=L.length - 1:=by omega
  refine Xi ?_
  simp (disch:=omega) only [↓XK,wG,seval]
  exact oD rfl rfl
 have hml:=IY L k (by omega)
 have hll:=AN L k
 have nx:=next (k+1)
 rw [show Ai L (k+1)=AU (Ai L k) (k+1) from rfl] at nx
 generalize Ai L k=M at *
 refine Xi ?_
 simp (disch:=omega) only [↓XK,wG,seval]
 refine Xd (fun p:Nat×List V2=>⟨10,[],[.osl 8 v 8 0 L.length,I 0,I L.length,.fn 135 [],.any,.any,.any,.any,I (k+1:Nat),I p.1],[],[o0,o1,o2,o3,o4,o5,o6,o7,.row v (L.length*8) (Xt vC 8 v0 p.2)]⟩) (fun p=>p.1≤k+1∧p.2.length=L.length∧(∀ x∈p.2,vb x≤vm)∧AU p.2 p.1=AU M (k+1)) (fun p=>p.1) (k+1,M) ⟨by simp,hll,fun x hx=>hL x (hml x hx),rfl⟩
  (Ku (by simp [Xg,I]) rfl) ?_
 rintro ⟨j,C⟩ ⟨h1,h2,h3,h4⟩ nextj
 replace h1:j≤k+1:=h1
 replace h2:C.length=L.length:=h2
 replace h3:∀ x∈C,vb x≤vm:=h3
 replace h4:AU C j=AU M (k+1):=h4
 match j,h1,h4,nextj with
 | 0,h1,h4,nextj =>
  refine Xi ?_
  simp (disch:=omega) only [↓XK,wG,seval]
  have h5:C=AU M (k+1):=h4
  rw [← h5] at nx
  exact nx _ (by omega) (by omega) (Ku (by simp [Xg,I]) rfl)
 | j+1,h1,h4,nextj =>
  have c:=Ph (C.getD (j+1) v0) (C.getD j v0) (h3 _ (Js (by omega))) (h3 _ (Js (by omega)))
  have a1:=Jy vC 8 v0 C (j+1)
  have a2:=JQ vC 8 v0 C (j+1) (by omega)
  have b1:=Jy vC 8 v0 C j
  have b2:=JQ vC 8 v0 C j (by omega)
  have hj1:(((j+1:Nat):Int) - 1).toNat=j:=by omega
  have hneg:=dZ (C.getD (j+1) v0) (C.getD j v0)
  by_cases hb:ZH (C.getD (j+1) v0) (C.getD j v0)
  rotate_left
  ·have hlt:=mt hneg.1 hb
   have h5:C=AU M (k+1):=by rw [← h4]; unfold AU; rw [if_neg hb]
   rw [← h5] at nx
   clear h4 h5 hb hneg nextj
   generalize C.getD (j+1) v0=x at *
   generalize C.getD j v0=y at *
   generalize T8 x y=d at *
   refine Xi ?_
   simp (disch:=omega) only [hj1,a1,a2,b1,b2,vC,↓XK,wG,seval]
   refine X0 c rfl ?_
   simp (disch:=omega) only [eq_false hlt,↓XK,wG,seval]
   exact nx _ (by omega) (by omega) (Ku (by simp [Xg,I]) rfl)
  have hlt:=hneg.2 hb
  have e1:=su C (j+1) (C.getD j v0) (by omega)
  have e2:=su (C.set (j+1) (C.getD j v0)) j (C.getD (j+1) v0) (by rw [List.length_set]; omega)
  have hsw:(C.set (j+1) (C.getD j v0)).set j (C.getD (j+1) v0)=aC C j:=rfl
  rw [hsw,← e1] at e2
  have h5:AU (aC C j) j=AU M (k+1):=by rw [← h4]; exact (if_pos hb).symm
  have nx2:=nextj (j,aC C j)
  have h6:∀ x∈aC C j,vb x≤vm:=fun x hx=>h3 x (VK (by omega) x hx)
  have h7:=Oe C j
  generalize aC C j=D at *
  clear h4 hb hneg nextj hsw e1
  generalize C.getD (j+1) v0=x at *
  generalize C.getD j v0=y at *
  generalize T8 x y=d at *
  refine Xi ?_
  simp (disch:=omega) only [hj1,a1,a2,b1,b2,vC,↓XK,wG,seval]
  refine X0 c rfl ?_
  simp (disch:=omega) only [hj1,a1,a2,b1,b2,vC,eq_true hlt,↓XK,wG,seval]
  exact nx2 _ ⟨by show j≤k+1; omega,by show D.length=_; omega,h6,h5⟩ (by show j<j+1; omega) (Ku (by simp [Xg,I]) (by rw [← e2]; rfl))
end
end Go.Ab.N
namespace Go.Ab.N
open Go Go.RowKit Go.Proofs
open Go.Shelf
noncomputable section
set_option maxRecDepth 10000
set_option maxHeartbeats 4000000
open Classical
def vO:Go.Shelf.Ren:=⟨fun k=>if k=125 then 199 else if k=128 then 241 else 242,fun t=>if t=46 then 187 else if t=51 then 218 else if t=53 then 197 else t,fun x=>x⟩
theorem tP:Lays.n125 Tryz.prog vO where
 mixed:=mixed
 f125:=Tryz.func199.trans (congrArg some rfl)
 f128:=Tryz.func241.trans (congrArg some rfl)
 f129:=Tryz.func242.trans (congrArg some rfl)
 t3:=Tryz.underlying3
 a3:=Tryz.isAgg3
 z3:=Tryz.sizeOf3
 v3:=Tryz.zeroValue3
 t4:=Tryz.underlying4
 a4:=Tryz.isAgg4
 z4:=Tryz.sizeOf4
 v4:=Tryz.zeroValue4
 t5:=Tryz.underlying5
 a5:=Tryz.isAgg5
 z5:=Tryz.sizeOf5
 v5:=Tryz.zeroValue5
 t9:=Tryz.underlying9
 a9:=Tryz.isAgg9
 z9:=Tryz.sizeOf9
 v9:=Tryz.zeroValue9
 t46:=Tryz.underlying187
 a46:=Tryz.isAgg187
 z46:=Tryz.sizeOf187
 v46:=Tryz.zeroValue187
 t51:=Tryz.underlying218
 a51:=Tryz.isAgg218
 z51:=Tryz.sizeOf218
 v51:=Tryz.zeroValue218
 t53:=Tryz.underlying197
 a53:=Tryz.isAgg197
 z53:=Tryz.sizeOf197
 v53:=Tryz.zeroValue197
theorem qw (n:Nat) (h:n<1000000):Fn Tryz.prog 199 [.int .u64 n] (I (Lib.bitLen n)):=by
 refine ⟨⟨Tryz.call199,?_⟩,fun a ha=>by rw [List.mem_singleton.1 ha]; exact Jf _ _⟩
 rintro w S vs hS ⟨hv1,hv2⟩
 have hx:=hv2 0 (by simp)
 have h3:vs.size=1:=hv1
 have e1:vs=#[vs.getD 0 undef]:=by
  apply Array.ext
  ·simp [h3]
  ·intro j g1 g2
   match j,g1 with
   | 0,_=>simp [Array.getD,h3]
   | j+1,g=>omega
 rw [e1]
 generalize vs.getD 0 undef=x at *
 replace hx:Rep (.bare w S) x (.int .u64 n):=hx
 cases hx
 have key:=Any.bits_Len tP (n:Int) w (by omega) (by omega)
 refine key.mono ?_
 rintro e w' ⟨rfl,rfl⟩
 rw [Int.toNat_natCast]
 exact ⟨_,S,rfl,.int _ _,hS,Ext.refl _⟩
theorem rS {P:Program} {fn:Func} {str hcs:List Nat} {b:Nat} {H:List AO} {s:AS} (hr:fn.results=#[]) (hH:s.h=H):RetOk (FU P fn str hcs b (.tup []) H) s :=
 ⟨.tup [],by show KO P fn s=_; simp [KO,hr,J2,ZA],rfl,hH⟩
theorem ul {o0 o1 o2 o3 o4 o5 o6 o7 o8:AO} (h:∀ o∈[o0,o1,o2,o3,o4,o5,o6,o7],o≠.unborn) (h5:o8≠.unborn) (id:Nat):[o0,o1,o2,o3,o4,o5,o6,o7,o8][id]?≠some .unborn:=by
 intro hh
 have:=List.mem_of_getElem? hh
 rw [show [o0,o1,o2,o3,o4,o5,o6,o7,o8]=[o0,o1,o2,o3,o4,o5,o6,o7] ++ [o8] from rfl,List.mem_append,List.mem_singleton] at this
 rcases this with g | g
 ·exact h _ g rfl
 ·exact h5 g.symm
theorem rL (o0 o1 o2 o3 o4 o5 o6 o7:AO) (hu:∀ o∈[o0,o1,o2,o3,o4,o5,o6,o7],o≠.unborn) (v lim:Nat) (L:List V2) (hL:∀ x∈L,vb x≤vm) (hn:L.length≤12) :
  HCall Tryz.prog 198 [.osl 8 v 8 0 L.length,I 0,I L.length,I lim,.fn 135 []] [o0,o1,o2,o3,o4,o5,o6,o7,.row v (L.length*8) (Xt vC 8 v0 L)] (.tup []) [o0,o1,o2,o3,o4,o5,o6,o7,.row v (L.length*8) (Xt vC 8 v0 (Ai L (L.length - 1)))]:=by
 have c:=Yy o0 o1 o2 o3 o4 o5 o6 o7 v L hL (by omega)
 refine HCall.intro (fn:=Tryz.f198) Tryz.call198 Tryz.func198 rfl mixed 21 [] [] [4] (by kernel_rfl) (Nat.le_of_ble_eq_true rfl) (Xi ?_)
 simp (disch:=omega) only [AS.start,↓XK,wG,seval]
 refine G9 ?_
 refine Xi ?_
 simp (disch:=omega) only [↓XK,wG,seval]
 refine KI rfl c (KJ (id:=8) (o:=.row v (L.length*8) (Xt vC 8 v0 L)) rfl (by simp) (by simp)) (ul hu (by simp)) (Qn _) ?_
 simp (disch:=omega) only [↓XK,wG,seval]
 exact rS rfl rfl
theorem mM (o0 o1 o2 o3 o4 o5 o6 o7:AO) (hu:∀ o∈[o0,o1,o2,o3,o4,o5,o6,o7],o≠.unborn) (v:Nat) (L:List V2) (hL:∀ x∈L,vb x≤vm) (hn:L.length≤12) :
  HCall Tryz.prog 134 [.osl 8 v 8 0 L.length,.fn 135 []] [o0,o1,o2,o3,o4,o5,o6,o7,.row v (L.length*8) (Xt vC 8 v0 L)] (.tup []) [o0,o1,o2,o3,o4,o5,o6,o7,.row v (L.length*8) (Xt vC 8 v0 (Ai L (L.length - 1)))]:=by
 have c:=rL o0 o1 o2 o3 o4 o5 o6 o7 hu v (Lib.bitLen L.length) L hL hn
 have cl:=qw L.length (by omega)
 have hw:IntKind.u64.wrap (L.length:Int)=L.length:=by rw [IntKind.wrap_u64]; omega
 generalize Lib.bitLen L.length=lim at *
 refine HCall.intro (fn:=Tryz.f134) Tryz.call134 Tryz.func134 rfl mixed 5 [] [] [1] (by kernel_rfl) (Nat.le_of_ble_eq_true rfl) (Xi ?_)
 simp (disch:=omega) only [AS.start,hw,↓XK,wG,seval]
 refine X0 cl rfl ?_
 simp (disch:=omega) only [↓XK,wG,seval]
 refine KI rfl c (KJ (id:=8) (o:=.row v (L.length*8) (Xt vC 8 v0 L)) rfl (by simp) (by simp)) (ul hu (by simp)) (Qn _) ?_
 simp (disch:=omega) only [↓XK,wG,seval]
 exact oD rfl rfl
end
end Go.Ab.N
