/- Own texts. -/
import Derived.Test.YtefjhgcndhepeaaGreatC12
import Derived.Test.YtefjhgcndhepeaaGreatC6
import Derived.Test.YtefjhgcndhepeaaGreatC7
import Derived.Shelf.Small.Bits
set_option linter.unusedSimpArgs false
set_option linter.unusedVariables false
open Nat renaming reducePow → Y1, reduceLT → Y2, reduceLeDiff → Y3, reduceEqDiff → Y4, reduceAdd → Y5, reduceMul → Y6, reduceSub → Y7, reduceBEq → Y8, reduceDiv → Y9, reduceMod → YA
namespace Go.Ab.N
open Go Go.RowKit Go.Proofs
noncomputable section
set_option maxRecDepth 10000
set_option maxHeartbeats 4000000
open Classical
def Nj (a b:PV) (e:Rat) (f:FV) (i j k:Nat) (t:V2):Prop:=k≠0∧k<a.rim.length∧k<b.rim.length∧Dy a b (QD i j k v0)∧t∈J9 a b (QD i j k v0) k∧G6 a b e i j k t=true∧f=Jx a b (QD i j k t) e
theorem aM (a b:PV) (e:Rat) (i j k:Nat) (L:List V2) (f:FV):f∈ZE a b e i j k L↔∃ t,t∈L∧G6 a b e i j k t=true∧f=Jx a b (QD i j k t) e:=by
 unfold ZE
 rw [List.mem_map]
 constructor
 ·rintro ⟨t,h,rfl⟩
  rw [List.mem_filter] at h
  exact ⟨t,h.1,h.2,rfl⟩
 ·rintro ⟨t,h1,h2,rfl⟩
  exact ⟨t,List.mem_filter.2 ⟨h1,h2⟩,rfl⟩
theorem Ny (a b:PV) (e:Rat) (i j:Nat) (f:FV):∀ n,n<a.rim.length→n<b.rim.length→(f∈Kp a b e i j n↔∃ k t,k≤n∧Nj a b e f i j k t)
 | 0,_,_=>by simp [Kp,Nj]
 | n+1,h1,h2=>by
  have ih:=Ny a b e i j f n (by omega) (by omega)
  unfold Kp
  rw [List.mem_append,ih]
  have hk:f∈Do a b e i j (n+1)↔∃ t,Nj a b e f i j (n+1) t:=by
   unfold Do
   by_cases hp:Dy a b (QD i j (n+1) v0)
   ·rw [if_pos hp,aM]
    exact ⟨fun ⟨t,q1,q2,q3⟩=>⟨t,by omega,h1,h2,hp,q1,q2,q3⟩,fun ⟨t,_,_,_,_,q1,q2,q3⟩=>⟨t,q1,q2,q3⟩⟩
   ·rw [if_neg hp]
    exact ⟨fun h=>absurd h List.not_mem_nil,fun ⟨t,_,_,_,q,_⟩=>absurd q hp⟩
  rw [hk]
  constructor
  ·rintro (⟨k,t,q1,q2⟩ | ⟨t,q⟩)
   ·exact ⟨k,t,by omega,q2⟩
   ·exact ⟨n+1,t,Nat.le_refl _,q⟩
  ·rintro ⟨k,t,q1,q2⟩
   by_cases hk:k=n+1
   ·subst hk; exact .inr ⟨t,q2⟩
   ·exact .inl ⟨k,t,by omega,q2⟩
theorem Nx (a b:PV) (e:Rat) (i:Nat) (f:FV) (ha:0<a.rim.length) (hb:0<b.rim.length):∀ n,f∈K0 a b e i n↔∃ j k t,j<n∧Nj a b e f i j k t
 | 0=>by simp [K0]
 | n+1=>by
  have ih:=Nx a b e i f ha hb n
  unfold K0
  rw [List.mem_append,ih,Ny a b e i n f _ (by omega) (by omega)]
  constructor
  ·rintro (⟨j,k,t,q1,q2⟩ | ⟨k,t,q1,q2⟩)
   ·exact ⟨j,k,t,by omega,q2⟩
   ·exact ⟨n,k,t,by omega,q2⟩
  ·rintro ⟨j,k,t,q1,q2⟩
   by_cases hj:j=n
   ·subst hj; exact .inr ⟨k,t,by have:=q2.2.1; have:=q2.2.2.1; omega,q2⟩
   ·exact .inl ⟨j,k,t,by omega,q2⟩
theorem Nw (a b:PV) (e:Rat) (f:FV) (ha:0<a.rim.length) (hb:0<b.rim.length):∀ n,f∈JK a b e n↔∃ i j k t,i<n∧j<b.rim.length∧Nj a b e f i j k t
 | 0=>by simp [JK]
 | n+1=>by
  have ih:=Nw a b e f ha hb n
  unfold JK
  rw [List.mem_append,ih,Nx a b e n f ha hb]
  constructor
  ·rintro (⟨i,j,k,t,q1,q2⟩ | ⟨j,k,t,q1,q2⟩)
   ·exact ⟨i,j,k,t,by omega,q2⟩
   ·exact ⟨n,j,k,t,by omega,q1,q2⟩
  ·rintro ⟨i,j,k,t,q1,q2,q3⟩
   by_cases hi:i=n
   ·subst hi; exact .inr ⟨j,k,t,q2,q3⟩
   ·exact .inl ⟨i,j,k,t,by omega,q2,q3⟩
theorem DB (a b:PV) (e:Rat) (f:FV) (ha:0<a.rim.length) (hb:0<b.rim.length):f∈BU a b e↔∃ i j k t,i<a.rim.length∧j<b.rim.length∧Nj a b e f i j k t:=Nw a b e f ha hb _
def Ex (n m:Nat) (W:List FV) (f:FV):Bool:=W.any fun g=>decide (EZ n m f g)
def G5 (a b:PV) (e:Rat):List FV:=(BU a b e).filter fun f=>!Ex a.rim.length b.rim.length (BU a b e) f
theorem fF (l:List FV) (i:Nat):∀ j,j<29→Xs XJ 29 fv0 l (i*29+j)=(XJ (l.getD i fv0)).getD j .any:=fun j hj=>Kg _ _ _ _ _ _ hj
theorem rU (l:List FV) (i:Nat):Xs XJ 29 fv0 l (i*29)=(XJ (l.getD i fv0)).getD 0 .any:=Kv _ _ _ _ _ (by omega)
theorem iD (n m:Nat) (W:List FV) (f:FV) (j:Nat) (h:j<W.length):Ex n m (W.take (j+1)) f=(Ex n m (W.take j) f || decide (EZ n m f (W.getD j fv0))):=by
 unfold Ex
 rw [Q3 W fv0 j h,List.any_append]; simp
theorem Ni (n m:Nat) (W:List FV) (i:Nat) (h:i<W.length):(W.take (i+1)).filter (fun f=>!Ex n m W f)=(W.take i).filter (fun f=>!Ex n m W f) ++ (if Ex n m W (W.getD i fv0)=true then [] else [W.getD i fv0]):=by
 rw [Q3 W fv0 i h,List.filter_append]
 congr 1
 cases hq:Ex n m W (W.getD i fv0) with
 | true=>rw [if_pos rfl,List.filter_cons_of_neg (by rw [hq]; decide)]; rfl
 | false=>rw [if_neg (by decide),List.filter_cons_of_pos (by rw [hq]; rfl)]; rfl
theorem IW (a b:PV) (e:Rat) (ha:a.rim.length≤12) (hb:b.rim.length≤12) (h1:0<a.rim.length) (h2:0<b.rim.length):(BU a b e).length≤24000:=by
 have hk:∀ i j n,n≤12→(Kp a b e i j n).length≤12*n:=fun i j n=>by
  induction n with
  | zero=>intro _; simp [Kp]
  | succ n ih =>
   intro hn
   have h3:=ih (by omega)
   unfold Kp
   rw [List.length_append]
   have:(Do a b e i j (n+1)).length≤n+1:=by
    unfold Do
    split
    ·exact Nat.le_trans (Hb ..) (BT ..)
    ·simp
   omega
 have hj:∀ i n,(K0 a b e i n).length≤144*n:=fun i n=>by
  induction n with
  | zero=>simp [K0]
  | succ n ih =>
   unfold K0
   rw [List.length_append]
   have:=hk i n (min a.rim.length b.rim.length - 1) (by omega)
   omega
 have hi:∀ n,(JK a b e n).length≤1728*n:=fun n=>by
  induction n with
  | zero=>simp [JK]
  | succ n ih =>
   unfold JK
   rw [List.length_append]
   have:=hj n b.rim.length
   omega
 have:=hi a.rim.length
 unfold BU; omega
theorem G7 {a b:PV} {ta tb:Rat} (ha:GP a ta) (hb:GP b tb) {f:FV} (h:f∈BU a b (ta+tb)):f.near∧vb f.turn≤26∧vb f.lo≤200∧vb f.hi≤200:=by
 have la:=(JV _ ha.poly).1
 have lb:=(JV _ hb.poly).1
 have ea:(Xz a.rim).length=a.rim.length:=by simp [Xz]
 have eb:(Xz b.rim).length=b.rim.length:=by simp [Xz]
 rw [ea] at la
 rw [eb] at lb
 have qa:=ha.qt; have q2:=hb.qt
 have qe:=K2 ta tb
 obtain ⟨i,j,k,t,h1,h2,_,h3,h4,_,h5,_,rfl⟩:=(DB a b (ta+tb) f (by omega) (by omega)).1 h
 have ht:=Bo a b (QD i j k v0) ha.even.near hb.even.near k t h5
 obtain ⟨m1,m2⟩:=FO a b (QD i j k t) ha.even.near hb.even.near (ta+tb) (by show vb t≤60; omega)
 exact ⟨⟨⟨by show (-1000000:Int)≤(i:Int); omega,by show (i:Int)≤1000000; omega⟩,⟨by show (-1000000:Int)≤(j:Int); omega,by show (j:Int)≤1000000; omega⟩,by show (-1000000:Int)≤(k:Int); omega,by show (k:Int)≤1000000; omega⟩,ht,by show vb (Xv a.rim b.rim (QD i j k t) (ta+tb)).1≤200; omega,by show vb (Xv a.rim b.rim (QD i j k t) (ta+tb)).2.1≤200; omega⟩
theorem Va (a b:PV) {ta tb:Rat} (ha:GP a ta) (hb:GP b tb):Fn Tryz.prog 30 [QP a,QP b] (G8 (G5 a b (ta+tb))):=by
 have la:=(JV _ ha.poly).1
 have lb:=(JV _ hb.poly).1
 have ea:(Xz a.rim).length=a.rim.length:=by simp [Xz]
 have eb:(Xz b.rim).length=b.rim.length:=by simp [Xz]
 rw [ea] at la
 rw [eb] at lb
 have c1:=Vb a b ha hb
 have hfin:=fun f=>@G7 a b ta tb ha hb f
 have hl:=IW a b (ta+tb) la.2 lb.2 (by omega) (by omega)
 unfold G5
 generalize BU a b (ta+tb)=W at *
 have ba:XI 3 (.con 0 25 (Xn (XG a)))=True:=eq_true (fun j _=>X5 (Xb (Xy a) j))
 have bb:XI 3 (.con 0 25 (Xn (XG b)))=True:=eq_true (fun j _=>X5 (Xb (Xy b) j))
 have bd:∀ v n l,XI 3 (.row v n (Xs XJ 29 fv0 l))=True:=fun v n l=>eq_true fun j _=>X5 (Xb (XN _) _)
 refine Fr Tryz.call30 Tryz.func30 10 [] [10,110000002,110000003] [] ?_
 simp (disch:=omega) only [AS.start,QP,XG,↓Xu,wG,seval]
 refine X0 c1 rfl ?_
 simp (disch:=omega) only [XH,↓Xu,wG,seval]
 refine Xe (fun i:Nat=>⟨10,[],[.any,.any,.ref 0 0 0,.ref 1 0 0,.any,G8 W,.osl 2 ((W.take i).filter (fun f=>!Ex a.rim.length b.rim.length W f)).length 29 0 ((W.take i).filter (fun f=>!Ex a.rim.length b.rim.length W f)).length,I i,.any,.any],[],[.con 0 25 (Xn (XG a)),.con 0 25 (Xn (XG b)),.row ((W.take i).filter (fun f=>!Ex a.rim.length b.rim.length W f)).length (((W.take i).filter (fun f=>!Ex a.rim.length b.rim.length W f)).length*29) (Xs XJ 29 fv0 ((W.take i).filter (fun f=>!Ex a.rim.length b.rim.length W f)))]⟩) (fun i=>i≤W.length∧((W.take i).filter (fun f=>!Ex a.rim.length b.rim.length W f)).length≤i) (fun i=>W.length - i) 0 ⟨by omega,by simp⟩
  (Sub.trans (XX 0 rfl) (Sub.trans (XX 1 rfl) (Sub.trans (Q5 6 29 (Xs XJ 29 fv0 []) rfl) (Xi rfl (by simp [AS.put,Xf,XH,I]) (by simp [AS.put,Xq]) (by simp [AS.put,XG,Xd,Xm,X3,I]))))) ?_
 rintro i ⟨hi,hil⟩ next
 by_cases hi2:i<W.length
 rotate_left
 ·obtain rfl:i=W.length:=by omega
  rw [List.take_length]
  refine Xl ?_
  simp (disch:=omega) only [XH,XG,Xd,↓Xu,wG,seval]
  exact OL _ rfl rfl rfl
 have nx:=next (i+1)
 rw [Ni _ _ W i hi2] at nx
 generalize (W.take i).filter (fun f=>!Ex a.rim.length b.rim.length W f)=D at *
 obtain ⟨n1,n2,n3,n4⟩:=hfin _ (QS (d:=fv0) hi2)
 have v1:=fF W i
 have v2:=rU W i
 have hBe:Ex a.rim.length b.rim.length W (W.getD i fv0)=Ex a.rim.length b.rim.length (W.take W.length) (W.getD i fv0):=by rw [List.take_length]
 rw [hBe] at nx
 generalize W.getD i fv0=f at *
 refine Xl ?_
 simp (disch:=omega) only [XH,XG,Xd,↓Xu,wG,seval]
 refine Xe (fun j:Nat=>⟨10,[],[.any,.any,.ref 0 0 0,.ref 1 0 0,.any,G8 W,.osl 2 D.length 29 0 D.length,I i,.bool (Ex a.rim.length b.rim.length (W.take j) f),I j],[],[.con 0 25 (Xn (XG a)),.con 0 25 (Xn (XG b)),.row D.length (D.length*29) (Xs XJ 29 fv0 D)]⟩) (fun j=>j≤W.length) (fun j=>W.length - j) 0 (by omega)
  (Jm (by simp [Xf,XH,Ex,I]) (by simp [XG,Xd,Xm,X3,I])) ?_
 intro j hj nextj
 by_cases hj2:j<W.length
 rotate_left
 ·obtain rfl:j=W.length:=by omega
  generalize Ex a.rim.length b.rim.length (W.take W.length) f=q at *
  refine Xl ?_
  cases q with
  | true =>
   rw [if_pos rfl,List.append_nil] at nx
   simp (disch:=omega) only [XH,XG,Xd,Bool.not_true,↓Xu,wG,seval]
   exact nx _ ⟨by omega,by omega⟩ (by omega) (Jm (by simp [Xf,XH,I]) (by simp [XG,Xd,Xm,X3,I]))
  | false =>
   rw [if_neg (by decide)] at nx
   have hap:=XR XJ 29 fv0 D f (by omega)
   have hDl:(D ++ [f]).length=D.length+1:=by simp
   simp (disch:=omega) only [XH,v1,v2,XJ,XG,Xd,Bool.not_false,↓Xu,wG,seval]
   exact ⟨Is f,nx _ ⟨by omega,by omega⟩ (by omega) (Jm (by simp [Xf,XH,hDl,I]) (by rw [hDl,← hap]; rfl))⟩
 obtain ⟨m1,m2,m3,m4⟩:=hfin _ (QS (d:=fv0) hj2)
 have cp:=ol a b f (W.getD j fv0) ⟨by omega,by omega⟩ ⟨by omega,by omega⟩ n1 m1 (by unfold vm; omega) (by unfold vm; omega)
 have w1:=fF W j
 have w2:=rU W j
 have nx2:=nextj (j+1)
 rw [iD _ _ W f j hj2] at nx2
 generalize W.getD j fv0=g at *
 generalize Ex a.rim.length b.rim.length (W.take j) f=q at *
 refine Xl ?_
 cases q with
 | true =>
  simp (disch:=omega) only [XH,XG,Xd,↓Xu,wG,seval]
  exact nx2 _ (by omega) (by omega) (Jm (by simp [Xf,XH,I]) (by simp [XG,Xd,Xm,X3,I]))
 | false =>
  simp (disch:=omega) only [XH,v1,v2,w1,w2,XJ,XG,Xd,↓Xu,wG,seval]
  refine X0 cp rfl ?_
  simp (disch:=omega) only [XH,XG,Xd,↓Xu,wG,seval]
  exact nx2 _ (by omega) (by omega) (Jm (by simp [Xf,XH,I]) (by simp [XG,Xd,Xm,X3,I]))
def Ze:Nat→Int×Int→Int×Int
 | 0,p=>p
 | i+1,p=>(-(Ze i p).2,(Ze i p).1)
theorem GK (p:Int×Int) (c:Int) (h1:-c≤p.1∧p.1≤c) (h2:-c≤p.2∧p.2≤c):∀ i,(-c≤(Ze i p).1∧(Ze i p).1≤c)∧(-c≤(Ze i p).2∧(Ze i p).2≤c)
 | 0=>⟨h1,h2⟩
 | i+1=>by
  have ih:=GK p c h1 h2 i
  unfold Ze
  simp only
  omega
theorem dl (p:Int×Int) (q:Nat) (h1:-1000≤p.1∧p.1≤1000) (h2:-1000≤p.2∧p.2≤1000) (hq:q≤4):Fn Tryz.prog 101 [.agg (Kq p),I q] (.agg (Kq (Ze q p))):=by
 obtain ⟨R,hR⟩:∃ R,R=AV.agg (Kq (Ze q p)):=⟨_,rfl⟩
 have sR:Settled R:=hR▸Qn (KB _)
 rw [← hR]
 refine Fq Tryz.call101 Tryz.func101 6 [] [] [] (by simp [X9,Qn (KB p)]) (Xl ?_)
 simp (disch:=omega) only [AS.start,Kq,↓Xu,wG,seval]
 refine Xe (fun i:Nat=>⟨6,[],[.any,I q,.ref 0 0 0,.any,.ref 1 0 0,I i],[],[.row 0 2 (Xn (Kq (Ze i p))),.row 0 2 (Xn [I 0,I 0])]⟩) (fun i=>i≤q) (fun i=>q - i) 0 (by omega)
  (Jm (by simp [Xf,I]) rfl) ?_
 intro i hi next
 have hb:=GK p 1000 h1 h2 i
 by_cases hi2:i<q
 ·refine Xl ?_
  simp (disch:=omega) only [Kq,↓Xu,wG,seval]
  exact next (i+1) _ (by omega) (by omega) (Jm (by simp [Xf,I]) (by simp [Kq,Ze,I]))
 ·obtain rfl:i=q:=by omega
  refine Xl ?_
  simp (disch:=omega) only [Kq,↓Xu,wG,seval]
  exact Zm rfl iI rfl rfl rfl sR (hR.trans rfl)
theorem Mn (l:List (Int×Int)) (hn:QW l) (hl:l.length<1000000):Fn Tryz.prog 100 [Dz l] (.bool (decide (XM (Xz l)))):=by
 have hrl:(Xz l).length=l.length:=by simp [Xz]
 have cv:=Dc (Xz l) (fun i=>Nat.le_trans (EK hn i) (by omega)) (by omega)
 refine Fr Tryz.call100 Tryz.func100 5 [] [5] [] ?_
 simp (disch:=omega) only [AS.start,Xd,↓Xu,wG,seval]
 refine Xe (fun k:Nat=>⟨5,[],[Dz l,.any,.any,.osl 0 k 8 0 k,I k],[],[.row k (k*8) (Xs vC 8 v0 (Xz (l.take k)))]⟩) (fun k=>k≤l.length) (fun k=>l.length - k) 0 (by omega)
  (Sub.trans (Q5 3 8 (Xs vC 8 v0 []) rfl) (Xi rfl (by simp [AS.put,Xf,Xd,I]) (by simp [AS.put,Xq]) (by simp [AS.put,Xz]))) ?_
 intro k hk next
 by_cases hk2:k<l.length
 rotate_left
 ·obtain rfl:k=l.length:=by omega
  rw [List.take_length]
  refine Xl ?_
  simp (disch:=omega) only [Xd,↓Xu,wG,seval]
  refine JS cv rfl ⟨?_,trivial⟩ (Ay _) ?_
  ·show JR _ (.osl 0 l.length 8 0 l.length) (Xp (Xz l))
   rw [X4,hrl]
   refine Qx (.inl rfl) (by omega) (fun h=>by rw [h]) fun j hj=>?_
   rw [Nat.zero_add]
   exact (Xb (l:=vC ((Xz l).getD (j / 8) v0)) (by simp [vC,X6,X2]) _).sees _
  simp (disch:=omega) only [↓Xu,wG,seval]
  exact Xt rfl rfl (X2 _) rfl
 have hc:=DV hn k
 have c1:=KR (l.getD k (0,0)).1 (l.getD k (0,0)).2 ⟨by omega,by omega⟩ ⟨by omega,by omega⟩
 have p1:Xs Kq 2 (0,0) l (k*2)=I (l.getD k (0,0)).1:=Kv _ _ _ _ _ (by omega)
 have p2:Xs Kq 2 (0,0) l (k*2+1)=I (l.getD k (0,0)).2:=Kg _ _ _ _ _ _ (by omega)
 have hap:=XR vC 8 v0 (Xz (l.take k)) (Jv (l.getD k (0,0))) (by omega)
 have htk:Xz (l.take k) ++ [Jv (l.getD k (0,0))]=Xz (l.take (k+1)):=by unfold Xz; rw [Q3 l (0,0) k hk2,List.map_append]; rfl
 have hkl:(Xz (l.take k)).length=k:=by simp [Xz]; omega
 rw [htk,hkl] at hap
 have hpv:(⟨((l.getD k (0,0)).1:Rat),((l.getD k (0,0)).2:Rat)⟩:V2)=Jv (l.getD k (0,0)):=rfl
 rw [hpv] at c1
 refine Xl ?_
 simp (disch:=omega) only [Xd,p1,p2,↓Xu,wG,seval]
 refine X0 c1 rfl ?_
 simp (disch:=omega) only [↓Xu,wG,seval]
 exact ⟨Zg _,next (k+1) _ (by omega) (by omega) (Jm (by simp [Xf,Xd,I]) (by rw [← hap]; rfl))⟩
def Mt (l:List Int) (at' k:Nat):Bool:=decide (Ab.atF l (at'+2+k:Nat) 16=15)
def Fs (l:List Int) (at' k:Nat):Int:=if 11<Ab.atF l (at'+2+k:Nat) 16 then Ab.atF l (at'+2+k:Nat) 16 - 11 else 0
def ZF (rim:List (Int×Int)) (l:List Int) (at':Nat):PV:=⟨Ab.atF l at' 900,Ab.atF l at' 5,rim,(List.range rim.length).map (Mt l at'),(List.range rim.length).map (Fs l at'),
 RQ.of (Rat.divInt (Ab.atF l (at'+1:Nat) 3) 4),RQ.of (Rat.divInt 1 1),RQ.of (Rat.divInt (1+Ab.atF l at' 3) 1),RQ.of (Rat.divInt 100 1),RQ.of (Rat.divInt 1 2)⟩
theorem Tb {m:Nat} {s:AS} (id i:Nat) (b:AV) {ver n:Nat} {f:Nat→AV} (ho:s.h[id]?=some (.row ver n f)) (h:ZQ s.h (f i) b):Sub m s { s with h:=s.h.set id (.row ver n (C0 f i b)) } :=
 ZM id (C0 f i b) ho fun j hj=>by
  unfold C0
  by_cases e:j=i
  ·rw [if_pos e,e]; exact h
  ·rw [if_neg e]; exact QZ _ _
def Jl:List AV:=[I 0,I 0,.sl 0 0 (fun _=>.any) true,.sl 0 0 (fun _=>.any) true,.sl 0 0 (fun _=>.any) true,.bool false,.sl 0 0 (fun _=>.any) true,.bool false,.sl 0 0 (fun _=>.any) true,.bool false,.sl 0 0 (fun _=>.any) true,.bool false,.sl 0 0 (fun _=>.any) true,
 .bool false,.sl 0 0 (fun _=>.any) true,.bool false,.sl 0 0 (fun _=>.any) true,.bool false,.sl 0 0 (fun _=>.any) true,.bool false,.sl 0 0 (fun _=>.any) true,.bool false,.sl 0 0 (fun _=>.any) true,.bool false,.sl 0 0 (fun _=>.any) true]
def Gf (id home:Int) (rim:List (Int×Int)) (k:Nat) (t u h s r:Rat):List AV:=[I id,I home,Dz rim,.osl 2 k 1 0 k,.osl 3 k 1 0 k] ++ (qC t ++ (qC u ++ (qC h ++ (qC s ++ qC r))))
theorem LF {α:Type} (f:Nat→α) (k:Nat):(List.range (k+1)).map f=(List.range k).map f ++ [f k]:=by rw [List.range_succ,List.map_append]; rfl
theorem Wl (rim:List (Int×Int)) (l:List Int) (at':Nat) (hr:rim.length<1000) (hl:C2 l) (ha:at'<1000):Fn Tryz.prog 102 [Dz rim,X7 l,I at'] (QP (ZF rim l at')):=by
 obtain ⟨V,hV⟩:∃ V,V=QP (ZF rim l at'):=⟨_,rfl⟩
 rw [← hV]
 have c1:=Qs l at' 900 hl (by omega)
 have c2:=Qs l at' 5 hl (by omega)
 have c3:=Qs l (at'+1:Nat) 3 hl (by omega)
 have c4:=Qs l at' 3 hl (by omega)
 have b3:=XB l (at'+1:Nat) 3 (by omega)
 have b4:=XB l at' 3 (by omega)
 have q1:=QV (Ab.atF l (at'+1:Nat) 3) 4 ⟨by omega,by omega⟩ ⟨by omega,by omega⟩
 have q2:=QV 1 1 ⟨by omega,by omega⟩ ⟨by omega,by omega⟩
 have q3:=QV (1+Ab.atF l at' 3) 1 ⟨by omega,by omega⟩ ⟨by omega,by omega⟩
 have q4:=QV 100 1 ⟨by omega,by omega⟩ ⟨by omega,by omega⟩
 have q5:=QV 1 2 ⟨by omega,by omega⟩ ⟨by omega,by omega⟩
 unfold ZF at hV
 generalize Rat.divInt (Ab.atF l (at'+1:Nat) 3) 4=t at *
 generalize Rat.divInt 1 1=u at *
 generalize Rat.divInt (1+Ab.atF l at' 3) 1=h at *
 generalize Rat.divInt 100 1=s at *
 generalize Rat.divInt 1 2=r at *
 generalize Ab.atF l at' 900=id at *
 generalize Ab.atF l at' 5=home at *
 rw [Int.natCast_add] at c3
 refine Fr Tryz.call102 Tryz.func102 11 [] [1] [] ?_
 simp (disch:=omega) only [AS.start,Xd,↓Xu,wG,seval]
 refine X0 c1 rfl ?_
 simp (disch:=omega) only [↓Xu,wG,seval]
 refine X0 c2 rfl ?_
 simp (disch:=omega) only [↓Xu,wG,seval]
 refine X0 c3 rfl ?_
 simp (disch:=omega) only [↓Xu,wG,seval]
 refine X0 q1 rfl ?_
 simp (disch:=omega) only [↓Xu,wG,seval]
 refine X0 q2 rfl ?_
 simp (disch:=omega) only [↓Xu,wG,seval]
 refine X0 c4 rfl ?_
 simp (disch:=omega) only [↓Xu,wG,seval]
 refine X0 q3 rfl ?_
 simp (disch:=omega) only [↓Xu,wG,seval]
 refine X0 q4 rfl ?_
 simp (disch:=omega) only [↓Xu,wG,seval]
 refine X0 q5 rfl ?_
 simp (disch:=omega) only [↓Xu,wG,seval]
 refine Xe (fun k:Nat=>⟨11,[],[Dz rim,X7 l,I at',.any,.any,.any,.ref 0 0 0,.ref 1 0 0,I k,.any,.any],[],[.row 0 25 (Xn Jl),.row 0 25 (Xn (Gf id home rim k t u h s r)),.row k k (Q7 AV.bool false ((List.range k).map (Mt l at'))),.row k k (Q7 I 0 ((List.range k).map (Fs l at')))]⟩) (fun k=>k≤rim.length) (fun k=>rim.length - k) 0 (by omega)
  (Sub.trans (IK (Q7 AV.bool false [])) (Sub.trans (IK (Q7 I 0 [])) (Sub.trans (Tb 1 3 (.osl 2 0 1 0 0) rfl (Bp rfl)) (Sub.trans (Tb 1 4 (.osl 3 0 1 0 0) rfl (Bp rfl)) (Jm (by simp [Xf,Xd,X3,I]) (by simp [Jl,Gf,qC,Pp,Xd,X3,I,sg])))))) ?_
 intro k hk next
 by_cases hk2:k<rim.length
 rotate_left
 ·obtain rfl:k=rim.length:=by omega
  refine Xl ?_
  simp (disch:=omega) only [Jl,Gf,qC,Xd,X3,↓Xu,wG,seval]
  subst hV
  refine E7 (L:=Gf id home rim rim.length t u h s r) rfl Ge rfl rfl rfl ?_
  have h2:∀ H:List AO,H[2]?=some (.row rim.length rim.length (Q7 AV.bool false ((List.range rim.length).map (Mt l at'))))→JR H (.osl 2 rim.length 1 0 rim.length) (A9 ((List.range rim.length).map (Mt l at'))):=fun H ho=>by
   rw [Xm,List.length_map,List.length_range]
   refine Qx (.inl ho) (by omega) (fun h=>h) fun j hj=>?_
   rw [Nat.zero_add]
   exact (X2 _).sees _
  have h3:∀ H:List AO,H[3]?=some (.row rim.length rim.length (Q7 I 0 ((List.range rim.length).map (Fs l at'))))→JR H (.osl 3 rim.length 1 0 rim.length) (X7 ((List.range rim.length).map (Fs l at'))):=fun H ho=>by
   rw [X3,List.length_map,List.length_range]
   refine Qx (.inl ho) (by omega) (fun h=>h) fun j hj=>?_
   rw [Nat.zero_add]
   exact (X9 _).sees _
  exact ZK ⟨(X9 _).sees _,(X9 _).sees _,(Jd _).sees _,h2 _ rfl,h3 _ rfl,(X2 _).sees _,(X6 _).sees _,(X2 _).sees _,(X6 _).sees _,(X2 _).sees _,(X6 _).sees _,(X2 _).sees _,(X6 _).sees _,(X2 _).sees _,(X6 _).sees _,(X2 _).sees _,(X6 _).sees _,(X2 _).sees _,(X6 _).sees _,(X2 _).sees _,(X6 _).sees _,(X2 _).sees _,(X6 _).sees _,(X2 _).sees _,(X6 _).sees _,trivial⟩
 have c5:=Qs l (at'+2+k:Nat) 16 hl (by omega)
 have b5:=XB l (at'+2+k:Nat) 16 (by omega)
 have nx:=next (k+1)
 rw [LF,LF] at nx
 have e1:Mt l at' k=decide (Ab.atF l (at'+2+k:Nat) 16=15):=rfl
 have e2:Fs l at' k=if 11<Ab.atF l (at'+2+k:Nat) 16 then Ab.atF l (at'+2+k:Nat) 16 - 11 else 0:=rfl
 rw [e1,e2] at nx
 generalize Ab.atF l (at'+2+k:Nat) 16=n at *
 rw [show ((at'+2+k:Nat):Int)=(at':Int)+2+k by omega] at c5
 have hW:((List.range k).map (Mt l at')).length=k:=by simp
 have hM:((List.range k).map (Fs l at')).length=k:=by simp
 generalize (List.range k).map (Mt l at')=W at *
 generalize (List.range k).map (Fs l at')=M at *
 have hap1:=L0 AV.bool false W (decide (n=15))
 rw [hW,Nat.mul_one] at hap1
 refine Xl ?_
 simp (disch:=omega) only [Gf,qC,Xd,X3,List.cons_append,List.nil_append,↓Xu,wG,seval]
 refine X0 c5 rfl ?_
 by_cases hn:11<n
 ·have hap2:=CQ M (n - 11)
  rw [if_pos hn] at nx
  rw [hM] at hap2
  simp (disch:=omega) only [Gf,qC,Xd,X3,List.cons_append,List.nil_append,↓Xu,wG,seval]
  exact nx _ (by omega) (by omega) (Jm (by simp [Xf,Xd,X3,I]) (by rw [← hap1,← hap2]; simp [Jl,Gf,qC,Xd,X3,I,sg]))
 ·have hap2:=CQ M 0
  rw [if_neg hn] at nx
  rw [hM] at hap2
  simp (disch:=omega) only [Gf,qC,Xd,X3,List.cons_append,List.nil_append,↓Xu,wG,seval]
  exact nx _ (by omega) (by omega) (Jm (by simp [Xf,Xd,X3,I]) (by rw [← hap1,← hap2]; simp [Jl,Gf,qC,Xd,X3,I,sg,show ¬ n=15 by omega]))
structure Iso (g h:V2→V2):Prop where
 sub:∀ a b,(g a).sub (g b)=h (a.sub b)
 cr:∀ u v,Qe (h u) (h v)=Qe u v
 dt:∀ u v,XS (h u) (h v)=XS u v
 tn:∀ u,(h u).turned=h u.turned
theorem lI (g:V2→V2) (L:List V2) (h:0<L.length) (i:Nat):atF (L.map g) i=g (atF L i):=by
 unfold atF
 have hlt:=Nat.mod_lt i h
 rw [List.length_map,List.getD_eq_getElem?_getD,List.getElem?_map,List.getD_eq_getElem?_getD,List.getElem?_eq_getElem hlt]; rfl
theorem iH {g h:V2→V2} (I:Iso g h) (a b c:V2):Ji (g a) (g b) (g c)=Ji a b c:=by unfold Ji; rw [I.sub,I.sub,I.cr]
theorem W7 (n a b:V2):XS n a - XS n b=XS n (a.sub b):=by unfold XS V2.sub; grind
theorem sb {g h:V2→V2} (I:Iso g h) (n a b:V2):(XS (h n) (g a)<XS (h n) (g b))↔(XS n a<XS n b):=by
 have e1:=W7 (h n) (g a) (g b)
 have e2:=W7 n a b
 rw [I.sub,I.dt] at e1
 constructor <;> intro hh <;> grind
theorem RS {g h:V2→V2} (I:Iso g h) (n a b c d:V2):Ko (h n) (g a) (g b) (g c) (g d)=Ko n a b c d:=by
 unfold Ko HJ
 simp only [sb I]
theorem iG {g h:V2→V2} (I:Iso g h) (a b c d:V2) (i:Nat):Ds (g a) (g b) (g c) (g d) i=h (Ds a b c d i):=by
 unfold Ds
 split <;> simp only [I.sub,I.tn]
theorem RT {g h:V2→V2} (I:Iso g h) (L:List V2) (hp:XM L) (ha:ZC (L.map g)=ZC L):XM (L.map g):=by
 obtain ⟨h1,h2,h3⟩:=hp
 have hl:0<L.length:=by omega
 have hat:=lI g L hl
 refine ⟨by rw [List.length_map]; exact h1,fun i hi=>?_,by rw [ha]; exact h3⟩
 rw [List.length_map] at hi
 obtain ⟨k1,k2⟩:=h2 i hi
 refine ⟨fun hb=>k1 ?_,fun k hk hg=>k2 k (by rw [List.length_map] at hk; exact hk) ?_⟩
 ·unfold FU at hb ⊢
  rw [hat,hat,hat,iH I] at hb
  exact hb
 ·obtain ⟨q1,q2,q3⟩:=hg
  rw [List.length_map] at q1 q2
  refine ⟨q1,q2,fun j hj=>?_⟩
  have:=q3 j hj
  rw [hat,hat,hat,hat,iG I,RS I] at this
  exact this
theorem quart_iso:Iso Bi Bi:=⟨fun a b=>by unfold Bi V2.sub; rw [V2.ext']; exact ⟨by simp only; grind,rfl⟩,fun u v=>by unfold Bi Qe; grind,fun u v=>by unfold Bi XS; grind,fun u=>by unfold Bi V2.turned; rfl⟩
theorem lx (t:V2):Iso (fun a=>a.add t) id:=⟨fun a b=>by unfold V2.add V2.sub; rw [V2.ext']; exact ⟨by simp only [id]; grind,by simp only [id]; grind⟩,fun _ _=>rfl,fun _ _=>rfl,fun _=>rfl⟩
theorem Gg (g:V2→V2) (L:List V2) (i:Nat) (h:i<L.length):(L.map g).getD i v0=g (L.getD i v0):=by
 rw [List.getD_eq_getElem?_getD,List.getElem?_map,List.getD_eq_getElem?_getD,List.getElem?_eq_getElem h]; rfl
theorem Uc (L:List V2) (h:0<L.length):ZC (L.map Bi)=ZC L:=by
 have key:∀ n,n≤L.length→KW (L.map Bi) n=KW L n:=fun n=>by
  induction n with
  | zero=>intro _; rfl
  | succ n ih =>
   intro hn
   unfold KW
   rw [ih (by omega),List.length_map,Gg _ _ _ (by omega),Gg _ _ _ (Nat.mod_lt _ h),quart_iso.cr]
 unfold ZC
 rw [List.length_map,key _ (Nat.le_refl _)]
theorem fy (t:V2) (L:List V2) (h:0<L.length):ZC (L.map fun a=>a.add t)=ZC L:=by
 have key:∀ n,n≤L.length→KW (L.map fun a=>a.add t) n=KW L n+Qe t ((L.getD (n % L.length) v0).sub (L.getD 0 v0)):=fun n=>by
  induction n with
  | zero=>intro _; rw [Nat.zero_mod]; unfold KW Qe V2.sub; grind
  | succ n ih =>
   intro hn
   have hm:n % L.length=n:=Nat.mod_eq_of_lt (by omega)
   unfold KW
   rw [ih (by omega),List.length_map,Gg _ _ _ (by omega),Gg _ _ _ (Nat.mod_lt _ h),hm]
   generalize L.getD n v0=p
   generalize L.getD ((n+1) % L.length) v0=q
   generalize L.getD 0 v0=o
   unfold Qe V2.sub V2.add
   grind
 unfold ZC
 rw [List.length_map,key _ (Nat.le_refl _),Nat.mod_self]
 have:Qe t ((L.getD 0 v0).sub (L.getD 0 v0))=0:=by unfold Qe V2.sub; grind
 rw [this,Rat.add_zero]
theorem HM (L:List V2) (hp:XM L):∀ q,XM (L.map (JF q))
 | 0=>by
  have:L.map (JF 0)=L:=by
   have e:JF 0=id:=rfl
   rw [e,List.map_id]
  rw [this]; exact hp
 | q+1=>by
  have ih:=HM L hp q
  have e:L.map (JF (q+1))=(L.map (JF q)).map Bi:=by rw [List.map_map]; rfl
  rw [e]
  exact RT quart_iso _ ih (Uc _ (by have:=ih.1; omega))
theorem jr (t:V2) (L:List V2) (hp:XM L):XM (L.map fun a=>a.add t):=RT (lx t) L hp (fy t L (by have:=hp.1; omega))
def sr (q:Nat) (d p:Int×Int):Int×Int:=((Ze q p).1+d.1,(Ze q p).2+d.2)
theorem ju (q:Nat) (p:Int×Int):Jv (Ze q p)=JF q (Jv p):=by
 induction q with
 | zero=>rfl
 | succ q ih =>
  show (⟨((-(Ze q p).2:Int):Rat),((Ze q p).1:Rat)⟩:V2)=Bi (JF q (Jv p))
  rw [← ih]
  unfold Jv Bi
  rw [V2.ext']
  exact ⟨by simp,rfl⟩
theorem ou (R:List (Int×Int)) (q:Nat) (d:Int×Int) (h:XM (Xz R)):XM (Xz (R.map (sr q d))):=by
 have h1:=jr (Jv d) _ (HM _ h q)
 have e:Xz (R.map (sr q d))=((Xz R).map (JF q)).map fun a=>a.add (Jv d):=by
  unfold Xz
  rw [List.map_map,List.map_map,List.map_map]
  refine List.map_congr_left fun p _=>?_
  show Jv (sr q d p)=(JF q (Jv p)).add (Jv d)
  rw [← ju]
  unfold sr Jv V2.add
  rw [V2.ext']
  exact ⟨by simp,by simp⟩
 rw [e]; exact h1
end
end Go.Ab.N
namespace Go.Ab.N
open Go Go.RowKit Go.Proofs
noncomputable section
set_option maxRecDepth 10000
set_option maxHeartbeats 4000000
def uw (L:List V2) (i k:Nat):Bool:=decide (1<(k+L.length - i) % L.length) && decide ((k+L.length - i) % L.length<L.length - 1) &&
 (List.range 5).all fun j=>!Ko (Ds (atF L i) (atF L (i+1)) (atF L k) (atF L (k+1)) j) (atF L i) (atF L (i+1)) (atF L k) (atF L (k+1))
def E0 (L:List V2):Bool:=decide (3≤L.length) && decide (L.length≤12) && ((List.range L.length).all fun i=>!decide (Ji (atF L i) (atF L (i+1)) (atF L (i+2))=0) && (List.range L.length).all fun k=>!uw L i k) && decide (0<(ZC L).num.sign)
theorem E5 (L:List V2) (h:E0 L=true):XM L:=by
 unfold E0 at h
 simp only [Bool.and_eq_true,decide_eq_true_eq,List.all_eq_true,List.mem_range,Bool.not_eq_true',decide_eq_false_iff_not] at h
 obtain ⟨⟨⟨h1,h2⟩,h3⟩,h4⟩:=h
 refine ⟨⟨h1,h2⟩,fun i hi=>⟨(h3 i hi).1,fun k hk hg=>?_⟩,h4⟩
 have:=(h3 i hi).2 k hk
 obtain ⟨q1,q2,q3⟩:=hg
 unfold uw at this
 rw [decide_eq_true q1,decide_eq_true q2,Bool.true_and,Bool.true_and] at this
 rw [List.all_eq_true.2] at this
 ·cases this
 ·intro j hj
  rw [q3 j (List.mem_range.1 hj)]; rfl
def jz (x y h:Int):List (Int×Int):=[(0,0),(x,0),(y,h),(0,h)]
def jB (w x y h:Int):List (Int×Int):=[(x,0),(w,0),(w,h),(y,h)]
theorem oC:((List.range 4).all fun h=>(List.range 6).all fun x=>(List.range 6).all fun y=>E0 (Xz (jz (1+x) (1+y) (3+h))))=true:=by decide +kernel
theorem oD:((List.range 4).all fun w=>(List.range 4).all fun h=>(List.range 6).all fun x=>(List.range 6).all fun y=>!(decide (x<w+3) && decide (y<w+3)) || E0 (Xz (jB (4+w) (1+x) (1+y) (3+h))))=true:=by decide +kernel
theorem jA (x y h:Int) (hx:1≤x∧x≤6) (hy:1≤y∧y≤6) (hh:3≤h∧h≤6):XM (Xz (jz x y h)):=by
 have h1:=oC
 simp only [List.all_eq_true,List.mem_range] at h1
 have h2:=h1 (h - 3).toNat (by omega) (x - 1).toNat (by omega) (y - 1).toNat (by omega)
 rw [show (1:Int)+((x - 1).toNat:Nat)=x by omega,show (1:Int)+((y - 1).toNat:Nat)=y by omega,show (3:Int)+((h - 3).toNat:Nat)=h by omega] at h2
 exact E5 _ h2
theorem jC (w x y h:Int) (hw:4≤w∧w≤7) (hx:1≤x∧x<w) (hy:1≤y∧y<w) (hh:3≤h∧h≤6):XM (Xz (jB w x y h)):=by
 have h1:=oD
 simp only [List.all_eq_true,List.mem_range] at h1
 have h2:=h1 (w - 4).toNat (by omega) (h - 3).toNat (by omega) (x - 1).toNat (by omega) (y - 1).toNat (by omega)
 rw [show (4:Int)+((w - 4).toNat:Nat)=w by omega,show (1:Int)+((x - 1).toNat:Nat)=x by omega,show (1:Int)+((y - 1).toNat:Nat)=y by omega,show (3:Int)+((h - 3).toNat:Nat)=h by omega] at h2
 rw [Bool.or_eq_true] at h2
 rcases h2 with h2 | h2
 ·rw [decide_eq_true (show (x - 1).toNat<(w - 4).toNat+3 by omega),decide_eq_true (show (y - 1).toNat<(w - 4).toNat+3 by omega)] at h2
  cases h2
 ·exact E5 _ h2
end
end Go.Ab.N
namespace Go.Ab.N
open Go Go.RowKit Go.Proofs
noncomputable section
set_option maxRecDepth 10000
set_option maxHeartbeats 4000000
open Classical
theorem IU {a b:List (Int×Int)} {f:FV} {e:Rat} (h:(Xv a b f e).2.2=true) :
  Zd a.length b.length f∧Jy f.turn∧Xv a b f e=((At a b f f.M.toNat).sub ⟨e,e⟩,(As a b f f.M.toNat).add ⟨e,e⟩,true)∧(At a b f f.M.toNat).x - e≤(As a b f f.M.toNat).x+e∧(At a b f f.M.toNat).y - e≤(As a b f f.M.toNat).y+e:=by
 by_cases g:Zd a.length b.length f∧Jy f.turn
 ·by_cases g2:((As a b f f.M.toNat).add ⟨e,e⟩).x<((At a b f f.M.toNat).sub ⟨e,e⟩).x∨((As a b f f.M.toNat).add ⟨e,e⟩).y<((At a b f f.M.toNat).sub ⟨e,e⟩).y
  ·exfalso
   unfold Xv at h; rw [if_pos g] at h; simp only at h; rw [if_pos g2] at h; cases h
  ·refine ⟨g.1,g.2,?_,?_⟩
   ·unfold Xv; rw [if_pos g]; simp only; rw [if_neg g2]
   ·simp only [not_or,Rat.not_lt] at g2; exact g2
 ·unfold Xv at h; rw [if_neg g] at h; cases h
theorem Fm {p:V2→Bool}:∀ {s:List V2},(G4 p s).2=true↔∃ x∈s,p x=true
 | []=>by simp [G4]
 | x :: l=>by
  have ih:=Fm (p:=p) (s:=l)
  show ((if p x=true then (x,true) else G4 p l).2=true)↔_
  by_cases h:p x=true
  ·rw [if_pos h]; simp [h]
  ·rw [if_neg h,ih]; simp [h]
theorem C4 (a b:PV) (f:FV) (e:Rat):Zv a b f e=0↔Zd a.rim.length b.rim.length f∧Dy a b f∧Ow a b f∧((Xv a.rim b.rim f e).2.2=true∧(Xv a.rim b.rim f e).1=f.lo∧(Xv a.rim b.rim f e).2.1=f.hi)∧KT a b f e=true:=by
 unfold Zv
 by_cases h1:Zd a.rim.length b.rim.length f
 rotate_left
 ·rw [if_neg h1]; exact ⟨fun h=>absurd h (by decide),fun h=>absurd h.1 h1⟩
 rw [if_pos h1]
 by_cases h2:Dy a b f
 rotate_left
 ·rw [if_neg h2]; exact ⟨fun h=>absurd h (by decide),fun h=>absurd h.2.1 h2⟩
 rw [if_pos h2]
 by_cases h3:Ow a b f
 rotate_left
 ·rw [if_neg h3]; exact ⟨fun h=>absurd h (by decide),fun h=>absurd h.2.2.1 h3⟩
 rw [if_pos h3]
 by_cases h4:(Xv a.rim b.rim f e).2.2=true∧(Xv a.rim b.rim f e).1=f.lo∧(Xv a.rim b.rim f e).2.1=f.hi
 rotate_left
 ·rw [if_neg h4]; exact ⟨fun h=>absurd h (by decide),fun h=>absurd h.2.2.2.1 h4⟩
 rw [if_pos h4]
 by_cases h5:KT a b f e=true
 ·rw [if_pos h5]; exact ⟨fun _=>⟨h1,h2,h3,h4,h5⟩,fun _=>rfl⟩
 ·rw [if_neg h5]; exact ⟨fun h=>absurd h (by decide),fun h=>absurd h.2.2.2.2 h5⟩
theorem HA {a b:PV} {e:Rat} {f:FV} (h:f∈BU a b e) (ha:0<a.rim.length) (hb:0<b.rim.length):Zv a b f e=0:=by
 obtain ⟨i,j,k,t,hi,hj,k0,kn,km,hp,ht,ho,rfl⟩:=(DB a b e f ha hb).1 h
 unfold G6 at ho
 rw [Bool.and_eq_true] at ho
 obtain ⟨o1,o2⟩:=ho
 rw [AJ] at ht
 obtain ⟨k',q1,q2,q3⟩:=ht
 rw [C4]
 refine ⟨?_,hp,⟨k',?_,q2,q3⟩,⟨o1,rfl,rfl⟩,o2⟩
 ·show (0≤(i:Int)∧(i:Int)<a.rim.length)∧(0≤(j:Int)∧(j:Int)<b.rim.length)∧1≤(k:Int)∧(k:Int)<a.rim.length∧(k:Int)<b.rim.length
  omega
 ·show k'<((k:Nat):Int).toNat
  omega
theorem im (f g:FV) (hf:f.fine) (hg:g.fine):Fn Tryz.prog 32 [Jz f,Jz g] (.bool (decide (f=g))):=by
 obtain ⟨V,hV⟩:∃ V,V=decide (f=g):=⟨_,rfl⟩
 rw [← hV]
 rw [decide_eq_decide.2 (io f g)] at hV
 have fin:∀ {s:AS} {v:Bool},s.get 4=.bool v→v=V→RetOk (QJ Tryz.prog Tryz.f32 [] [] (.bool V)) s:=fun h e=>Xt rfl h (X2 _) (by rw [e])
 obtain ⟨f1,f2,f3⟩:=hf
 obtain ⟨g1,g2,g3⟩:=hg
 have c1:=AW f.turn g.turn (by unfold vm; omega) (by unfold vm; omega)
 have c2:=IA f.lo g.lo (by unfold vm; omega) (by unfold vm; omega)
 have c3:=IA f.hi g.hi (by unfold vm; omega) (by unfold vm; omega)
 refine Fv Tryz.call32 Tryz.func32 5 [] [] [] ?_
 by_cases h:f.A=g.A∧f.B=g.B∧f.EA=g.EA∧f.EB=g.EB∧f.M=g.M
 rotate_left
 ·have hv:false=V:=by rw [hV]; exact (decide_eq_false fun hh=>h hh.1).symm
  rcases (show f.A≠g.A∨(f.A=g.A∧f.B≠g.B)∨(f.A=g.A∧f.B=g.B∧f.EA≠g.EA)∨(f.A=g.A∧f.B=g.B∧f.EA=g.EA∧f.EB≠g.EB)∨(f.A=g.A∧f.B=g.B∧f.EA=g.EA∧f.EB=g.EB∧f.M≠g.M) by omega) with q | ⟨q1,q⟩ | ⟨q1,q2,q⟩ | ⟨q1,q2,q3,q⟩ | ⟨q1,q2,q3,q4,q⟩
  ·simp only [AS.start,Jz,XJ,eq_false q,↓X1,wF,seval]
   exact fin rfl hv
  ·simp only [AS.start,Jz,XJ,eq_true q1,eq_false q,↓X1,wF,seval]
   exact fin rfl hv
  ·simp only [AS.start,Jz,XJ,eq_true q1,eq_true q2,eq_false q,↓X1,wF,seval]
   exact fin rfl hv
  ·simp only [AS.start,Jz,XJ,eq_true q1,eq_true q2,eq_true q3,eq_false q,↓X1,wF,seval]
   exact fin rfl hv
  ·simp only [AS.start,Jz,XJ,eq_true q1,eq_true q2,eq_true q3,eq_true q4,eq_false q,↓X1,wF,seval]
   exact fin rfl hv
 have e:V=decide (f.turn=g.turn∧f.lo=g.lo∧f.hi=g.hi):=by rw [hV]; exact decide_eq_decide.2 ⟨fun hh=>hh.2,fun hh=>⟨h,hh⟩⟩
 clear hV
 simp (disch:=omega) only [AS.start,Jz,XJ,↓Xu,wG,seval]
 refine X0 c1 rfl ?_
 by_cases n1:f.turn=g.turn
 rotate_left
 ·simp (disch:=omega) only [decide_eq_false n1,↓Xu,wG,seval]
  exact fin rfl (by rw [e]; exact (decide_eq_false fun hh=>n1 hh.1).symm)
 simp (disch:=omega) only [decide_eq_true n1,↓Xu,wG,seval]
 refine X0 c2 rfl ?_
 by_cases n2:f.lo=g.lo
 rotate_left
 ·simp (disch:=omega) only [decide_eq_false n2,↓Xu,wG,seval]
  exact fin rfl (by rw [e]; exact (decide_eq_false fun hh=>n2 hh.2.1).symm)
 simp (disch:=omega) only [decide_eq_true n2,↓Xu,wG,seval]
 refine X0 c3 rfl ?_
 simp (disch:=omega) only [↓Xu,wG,seval]
 exact fin rfl (by rw [e]; exact decide_eq_decide.2 ⟨fun hh=>⟨n1,n2,hh⟩,fun hh=>hh.2.2⟩)
theorem Wm (R:List (Int×Int)) (l:List Int) (p:Nat) (hn:QW R) (hp:XM (Xz R)):GP (ZF R l p) (Rat.divInt (Ab.atF l (p+1:Nat) 3) 4)∧(ZF R l p).small∧qb (Rat.divInt (Ab.atF l (p+1:Nat) 3) 4)≤3:=by
 have b1:=XB l (p+1:Nat) 3 (by omega)
 have b2:=XB l p 3 (by omega)
 have q:=BJ (Ab.atF l (p+1:Nat) 3) 4 ⟨by omega,by omega⟩ ⟨by omega,by omega⟩
 have hl:R.length≤12:=by have:=hp.1; simp [Xz] at this; omega
 have z:=fun (n m:Int) (h1:KM n) (h2:KM m)=>ka n m h1 h2
 refine ⟨⟨⟨by show R.length<_; omega,by simp [ZF],by simp [ZF],hn⟩,hp,rfl,by omega⟩,⟨by show R.length<_; omega,by simp [ZF]; omega,by simp [ZF]; omega,?_,?_,?_,?_,?_⟩,q⟩
 ·exact Nat.le_trans (z (Ab.atF l (p+1:Nat) 3) 4 ⟨by omega,by omega⟩ ⟨by omega,by omega⟩) (by omega)
 ·exact Nat.le_trans (z 1 1 ⟨by omega,by omega⟩ ⟨by omega,by omega⟩) (by omega)
 ·exact Nat.le_trans (z (1+Ab.atF l p 3) 1 ⟨by omega,by omega⟩ ⟨by omega,by omega⟩) (by omega)
 ·exact Nat.le_trans (z 100 1 ⟨by omega,by omega⟩ ⟨by omega,by omega⟩) (by omega)
 ·exact Nat.le_trans (z 1 2 ⟨by omega,by omega⟩ ⟨by omega,by omega⟩) (by omega)
theorem Rx:fv0.fine:=by
 have:=CL
 exact ⟨by show vb v0≤_; omega,by show vb v0≤_; omega,by show vb v0≤_; omega⟩
theorem Hc {α:Type} (C:α→List AV) (s:Nat) (d:α) (hs:0<s) (hC:∀ a,(C a).length=s):∀ (L:List α) (j:Nat),j<L.length*s→Xn (L.flatMap C) j=Xs C s d L j
 | [],j,h=>by simp at h
 | a :: L,j,h=>by
  unfold Xs Xn
  rw [List.flatMap_cons,List.getD_eq_getElem?_getD]
  by_cases hj:j<s
  ·rw [Nat.div_eq_of_lt hj,Nat.mod_eq_of_lt hj,List.getElem?_append_left (by rw [hC]; exact hj),← List.getD_eq_getElem?_getD]; rfl
  ·obtain ⟨i,rfl⟩:∃ i,j=s+i:=⟨j - s,by omega⟩
   have hi:i<L.length*s:=by
    rw [List.length_cons,Nat.succ_mul] at h; omega
   have ih:=Hc C s d hs hC L i hi
   unfold Xs Xn at ih
   rw [Nat.add_div_left i hs,Nat.add_mod_left,List.getElem?_append_right (by rw [hC]; omega),hC,Nat.add_sub_cancel_left,← List.getD_eq_getElem?_getD,ih]; rfl
def QC (l:List Int) (W H M k:Nat):Int×Int:=(1+Ab.atF l (3+k:Nat) ((W:Int) - 1),if k=M then (H:Int) else k)
def JT (l:List Int) (W H M:Nat):List (Int×Int):=(List.range (M+1)).map (QC l W H M)
def Jf (l:List Int) (W H M:Nat):List (Int×Int):=(0,0) :: JT l W H M ++ [(0,(H:Int))]
def Zn (l:List Int) (W H M i:Nat):List (Int×Int):=[QC l W H M 0,((W:Int),0),((W:Int),(H:Int))] ++ (List.range i).map fun i=>QC l W H M (M - i)
def JB (l:List Int) (W H M:Nat):List (Int×Int):=Zn l W H M M
def PW (l:List Int):Int×Int:=(Ab.atF l 8 9 - 4,Ab.atF l 9 9 - 4)
def cH (l:List Int):Nat:=(Ab.atF l 7 4).toNat
def Am (l:List Int) (W H M:Nat):List (Int×Int):=(JB l W H M).map (sr (cH l) (PW l))
def DY (l:List Int):V2:=JF ((4 - cH l) % 4) JQ
def DX (l:List Int):V2:=v0.sub (Co (DY l) (Jv (PW l)))
def Iy (l:List Int) (M:Nat):FV:=⟨0,1,1,(M+2:Nat),M,DY l,DX l,DX l⟩
def kT (a b:PV) (f:FV):List AV:=XG a ++ (XG b ++ XJ f)
def Zq:List AV:=[I 0,I 0,I 0,I 0,I 0] ++ (XP ++ (XP ++ XP))
theorem R8 (l:List Int) (W H M k:Nat) (h:k≤M):(JT l W H M).getD k (0,0)=QC l W H M k:=EL _ _ _ _ (by omega)
theorem R9 (l:List Int) (W H M k:Nat) (hW:4≤W∧W≤7) (hH:H≤6) (hk:k≤3):(1≤(QC l W H M k).1∧(QC l W H M k).1<W)∧0≤(QC l W H M k).2∧(QC l W H M k).2≤6:=by
 have:=XB l (3+k:Nat) ((W:Int) - 1) (by omega)
 unfold QC
 simp only
 refine ⟨by omega,?_⟩
 split <;> omega
theorem mG (C:List (Int×Int)) (x y:Int×Int) (j:Nat) (h:j<C.length):(x :: C ++ [y]).getD (j+1) (0,0)=C.getD j (0,0):=by
 rw [List.getD_eq_getElem?_getD,List.getD_eq_getElem?_getD,List.cons_append,List.getElem?_cons_succ,List.getElem?_append_left h]
theorem aL (C:List (Int×Int)) (h:Int) (j:Nat) (hj:j<(C.length+2)*2):QR ((1+C.length)*2) (QR 2 (Xn [I 0,I 0]) (C.length*2) (Xs Kq 2 (0,0) C)) 2 (Xn [I 0,I h]) j=Xs Kq 2 (0,0) ((0,0) :: C ++ [(0,h)]) j:=by
 unfold QR Xs
 by_cases h1:j<(1+C.length)*2
 ·rw [if_pos h1]
  by_cases h2:j<2
  ·rw [if_pos h2]
   match j,h2 with
   | 0,_=>rfl
   | 1,_=>rfl
  ·rw [if_neg h2,if_pos (by omega)]
   obtain ⟨i,rfl⟩:∃ i,j=i+2:=⟨j - 2,by omega⟩
   rw [show (i+2) / 2=i / 2+1 by omega,show (i+2) % 2=i % 2 by omega,show i+2 - 2=i by omega,mG C (0,0) (0,h) (i / 2) (by omega)]
 ·rw [if_neg h1,if_pos (by omega)]
  have e:((0,0) :: C ++ [(0,h)]).getD (j / 2) (0,0)=(0,h):=by
   rw [show j / 2=C.length+1 by omega,List.getD_eq_getElem?_getD,List.cons_append,List.getElem?_cons_succ,List.getElem?_append_right (Nat.le_refl _),Nat.sub_self]; rfl
  rw [e]
  obtain ⟨i,hi,rfl⟩:∃ i,i<2∧j=(1+C.length)*2+i:=⟨j - (1+C.length)*2,by omega,by omega⟩
  rw [Nat.add_sub_cancel_left,show ((1+C.length)*2+i) % 2=i by omega]
  match i,hi with
  | 0,_=>rfl
  | 1,_=>rfl
theorem Vl (a b c d:Int×Int) (j:Nat) (hj:j<8):QR 6 (Xn (Kq a ++ (Kq b ++ Kq c))) 2 (Xn (Kq d)) j=Xs Kq 2 (0,0) [a,b,c,d] j:=by
 match j,hj with
 | 0,_=>rfl
 | 1,_=>rfl
 | 2,_=>rfl
 | 3,_=>rfl
 | 4,_=>rfl
 | 5,_=>rfl
 | 6,_=>rfl
 | 7,_=>rfl
def Gh (g:Int×Int→Int×Int) (S:List (Int×Int)) (k:Nat):List (Int×Int):=(S.take k).map g ++ S.drop k
theorem Wo (g:Int×Int→Int×Int) (S:List (Int×Int)) (k:Nat) (h:k<S.length):(Gh g S k).getD k (0,0)=S.getD k (0,0):=by
 unfold Gh
 rw [List.getD_eq_getElem?_getD,List.getElem?_append_right (by simp; omega),List.getD_eq_getElem?_getD]
 simp [Nat.min_eq_left (Nat.le_of_lt h)]
theorem iT (g:Int×Int→Int×Int) (S:List (Int×Int)) (k:Nat) (h:k≤S.length):(Gh g S k).length=S.length:=by unfold Gh; simp; omega
theorem iU (g:Int×Int→Int×Int) (S:List (Int×Int)) (k:Nat) (h:k<S.length):(Gh g S k).set k (g (S.getD k (0,0)))=Gh g S (k+1):=by
 refine List.ext_getElem? fun j=>?_
 unfold Gh
 rw [List.getElem?_set]
 by_cases hj:k=j
 ·subst hj
  rw [if_pos rfl,if_pos (by simp; omega),List.getElem?_append_left (by simp; omega),List.getElem?_map,List.getElem?_take,if_pos (by omega),List.getElem?_eq_getElem h,List.getD_eq_getElem?_getD,List.getElem?_eq_getElem h]; rfl
 ·rw [if_neg hj]
  by_cases hlt:j<k
  ·rw [List.getElem?_append_left (by simp; omega),List.getElem?_append_left (by simp; omega),List.getElem?_map,List.getElem?_map,List.getElem?_take,List.getElem?_take,if_pos hlt,if_pos (by omega)]
  ·rw [List.getElem?_append_right (by simp; omega),List.getElem?_append_right (by simp; omega),List.getElem?_drop,List.getElem?_drop]
   congr 1
   simp; omega
theorem uS (l:List (Int×Int)) (k:Nat) (x:Int×Int) (hk:k<l.length):C0 (C0 (Xs Kq 2 (0,0) l) (k*2) (I x.1)) (k*2+1) (I x.2)=Xs Kq 2 (0,0) (l.set k x):=by
 funext j
 have e:(l.set k x).getD k (0,0)=x:=by rw [List.getD_eq_getElem?_getD,List.getElem?_set_self hk]; rfl
 unfold C0 Xs
 by_cases h1:j=k*2+1
 ·rw [if_pos h1,h1,show (k*2+1) / 2=k by omega,show (k*2+1) % 2=1 by omega,e]; rfl
 ·rw [if_neg h1]
  by_cases h2:j=k*2
  ·rw [if_pos h2,h2,show (k*2) / 2=k by omega,show (k*2) % 2=0 by omega,e]; rfl
  ·rw [if_neg h2]
   have:(l.set k x).getD (j / 2) (0,0)=l.getD (j / 2) (0,0):=by rw [List.getD_eq_getElem?_getD,List.getElem?_set_ne (by omega),List.getD_eq_getElem?_getD]
   rw [this]
theorem Fi (l:List Int) (W H M:Nat) (hW:4≤W∧W≤7) (hH:H≤6) (hM:M≤3) (k:Nat) (hk:k≤M):(0≤(QC l W H M k).1∧(QC l W H M k).1≤7)∧0≤(QC l W H M k).2∧(QC l W H M k).2≤7:=by
 have:=R9 l W H M k hW hH (by omega)
 omega
theorem Lp (l:List Int) (W H M:Nat) (hW:4≤W∧W≤7) (hH:H≤6) (hM:M≤3):QW (Jf l W H M):=fun c hc=>by
 unfold Jf at hc
 rw [List.mem_append,List.mem_cons,List.mem_singleton] at hc
 rcases hc with (rfl | hc) | rfl
 ·exact ⟨⟨by decide,by decide⟩,⟨by decide,by decide⟩⟩
 ·obtain ⟨k,hk,rfl⟩:=List.mem_map.1 hc
  have:=Fi l W H M hW hH hM k (by have:=List.mem_range.1 hk; omega)
  omega
 ·show (-65536≤(0:Int)∧(0:Int)≤65536)∧(-65536≤(H:Int)∧(H:Int)≤65536)
  omega
theorem HW (l:List Int) (W H M:Nat) (hW:4≤W∧W≤7) (hH:H≤6) (hM:M≤3):∀ c∈JB l W H M,(0≤c.1∧c.1≤7)∧0≤c.2∧c.2≤7:=fun c hc=>by
 unfold JB Zn at hc
 simp only [List.mem_append,List.mem_cons,List.not_mem_nil,or_false,List.mem_map,List.mem_range] at hc
 rcases hc with (rfl | rfl | rfl) | ⟨k,hk,rfl⟩
 ·exact Fi l W H M hW hH hM 0 (by omega)
 ·show (0≤(W:Int)∧(W:Int)≤7)∧0≤(0:Int)∧(0:Int)≤7
  omega
 ·show (0≤(W:Int)∧(W:Int)≤7)∧0≤(H:Int)∧(H:Int)≤7
  omega
 ·exact Fi l W H M hW hH hM (M - k) (by omega)
theorem I1 (l:List Int) (W H M:Nat) (hW:4≤W∧W≤7) (hH:H≤6) (hM:M≤3):QW (Am l W H M):=fun c hc=>by
 obtain ⟨p,hp,rfl⟩:=List.mem_map.1 hc
 have h1:=HW l W H M hW hH hM p hp
 have h2:=GK p 7 (by omega) (by omega) (cH l)
 have b8:=XB l 8 9 (by omega)
 have b9:=XB l 9 9 (by omega)
 show (-65536≤(Ze (cH l) p).1+(Ab.atF l 8 9 - 4)∧(Ze (cH l) p).1+(Ab.atF l 8 9 - 4)≤65536)∧(-65536≤(Ze (cH l) p).2+(Ab.atF l 9 9 - 4)∧(Ze (cH l) p).2+(Ab.atF l 9 9 - 4)≤65536)
 omega
theorem LL (l:List Int):vb (DY l)≤10∧vb (DX l)≤100:=by
 have h1:vb (DY l)≤10:=by unfold DY; rw [CK]; exact Ei
 have b8:=XB l 8 9 (by omega)
 have b9:=XB l 9 9 (by omega)
 have h2:vb (Jv (PW l))≤3:=by
  have q1:=Z7 (PW l).1 3 (by omega) (Qy (by unfold PW; simp only; exact ⟨by omega,by omega⟩))
  have q2:=Z7 (PW l).2 3 (by omega) (Qy (by unfold PW; simp only; exact ⟨by omega,by omega⟩))
  unfold vb Jv
  simp only
  omega
 have h3:=Dk (DY l) (Jv (PW l))
 have h4:=Km v0 (Co (DY l) (Jv (PW l)))
 have:=CL
 refine ⟨h1,?_⟩
 unfold DX
 omega
def I7 (l:List Int) (W H:Nat):List Int:=[(W:Int) - 4,(H:Int) - 3,0,Ab.atF l 3 ((W:Int) - 1),Ab.atF l 4 ((W:Int) - 1),0,0,Ab.atF l 7 4]
def AE (l:List Int) (W H M:Nat) (x9 x10 x11 x12 x13 x14 x16 x17 x18:AV) (r:List AO):AS:=⟨20,[],[X7 l,.any,.ref 0 0 0,I W,I H,I M,.osl 1 (M+1) 2 0 (M+1),.any,.any,x9,x10,x11,x12,x13,x14,.any,x16,x17,x18,.any],[],[.row 0 79 (Xn (Jl ++ (Jl ++ Zq))),.row (M+1) ((M+1)*2) (Xs Kq 2 (0,0) (JT l W H M))] ++ r⟩
theorem Pe (l:List Int) (W H M i:Nat):Zn l W H M (i+1)=Zn l W H M i ++ [QC l W H M (M - i)]:=by
 unfold Zn; rw [LF,List.append_assoc]
theorem HV (l:List Int) (W H M i:Nat):(Zn l W H M i).length=3+i:=by simp [Zn]; omega
theorem SX (a b:PV) (f:FV):∀ x∈kT a b f,Settled x:=fun x h=>by
 unfold kT at h
 rw [List.mem_append,List.mem_append] at h
 rcases h with h | h | h
 ·exact Xy a x h
 ·exact Xy b x h
 ·exact XN f x h
theorem u6 (m v n:Nat) (L:List (Int×Int)):XI m (.row v n (Xs Kq 2 (0,0) L))=True:=eq_true fun j _=>X5 (Xb (KB _) _)
theorem T1 (f:Nat→AV) (t:Bool):Settled (.sl 0 0 f t):=J8 fun j hj=>absurd hj (Nat.not_lt_zero j)
theorem vE (m v n:Nat):XI m (.row v n (Xn (Jl ++ (Jl ++ Zq))))=True:=eq_true fun j _=>X5 (Xb (l:=Jl ++ (Jl ++ Zq)) (by simp [Jl,Zq,XP,X9,X2,T1]) _)
theorem LK (l:List Int) (hl:C2 l) (W H M:Nat) (hW:(4:Int)+Ab.atF l 0 4=W) (hH:(3:Int)+Ab.atF l 1 4=H) (hM:(1:Int)+Ab.atF l 2 3=M) (A' B':PV) (F':FV)
  (hr:¬ (XM (Xz (Jf l W H M))∧XM (Xz (JB l W H M)))→Fn Tryz.prog 28 [X7 (I7 l W H)] (.agg (kT A' B' F'))) :
  ∃ A B F,Fn Tryz.prog 28 [X7 l] (.agg (kT A B F))∧(((XM (Xz (Jf l W H M))∧XM (Xz (JB l W H M)))∧A=ZF (Jf l W H M) l 10∧B=ZF (Am l W H M) l 20∧F=Iy l M) ∨
   (¬ (XM (Xz (Jf l W H M))∧XM (Xz (JB l W H M)))∧A=A'∧B=B'∧F=F')):=by
 obtain ⟨A,B,F,hABF⟩:∃ A B F,(((XM (Xz (Jf l W H M))∧XM (Xz (JB l W H M)))∧A=ZF (Jf l W H M) l 10∧B=ZF (Am l W H M) l 20∧F=Iy l M) ∨
   (¬ (XM (Xz (Jf l W H M))∧XM (Xz (JB l W H M)))∧A=A'∧B=B'∧F=F')):=by
  by_cases h:XM (Xz (Jf l W H M))∧XM (Xz (JB l W H M))
  ·exact ⟨_,_,_,.inl ⟨h,rfl,rfl,rfl⟩⟩
  ·exact ⟨_,_,_,.inr ⟨h,rfl,rfl,rfl⟩⟩
 refine ⟨A,B,F,?_,hABF⟩
 obtain ⟨R,hR⟩:∃ R,R=AV.agg (kT A B F):=⟨_,rfl⟩
 have sR:Settled R:=hR▸Qn (SX A B F)
 rw [← hR]
 have b0:=XB l 0 4 (by omega)
 have b1:=XB l 1 4 (by omega)
 have b2:=XB l 2 3 (by omega)
 have c0:=Qs l 0 4 hl (by omega)
 have c1:=Qs l 1 4 hl (by omega)
 have c2:=Qs l 2 3 hl (by omega)
 refine Fr Tryz.call28 Tryz.func28 20 [] [37,380000013,380000017] [] ?_
 simp (disch:=omega) only [AS.start,X3,↓Xu,wG,seval]
 refine X0 c0 rfl ?_
 simp (disch:=omega) only [X3,hW,↓Xu,wG,seval]
 refine X0 c1 rfl ?_
 simp (disch:=omega) only [X3,hH,↓Xu,wG,seval]
 refine X0 c2 rfl ?_
 simp (disch:=omega) only [X3,hM,↓Xu,wG,seval]
 refine Xe (fun k:Nat=>⟨20,[],[X7 l,.any,.ref 0 0 0,I W,I H,I M,.osl 1 k 2 0 k,I k,.any,.any,.any,.any,.any,.any,.any,.any,.any,.any,.any,.any],[],[.row 0 79 (Xn (Jl ++ (Jl ++ Zq))),.row k (k*2) (Xs Kq 2 (0,0) ((JT l W H M).take k))]⟩) (fun k=>k≤M+1) (fun k=>M+1 - k) 0 (by omega)
  (Sub.trans (Q5 6 2 (Xs Kq 2 (0,0) []) rfl) (Xi rfl (by simp [AS.put,Xf,X3,I]) (by simp [AS.put,Xq]) (by simp [AS.put,Jl,Zq,XP,I]))) ?_
 intro k hk next
 by_cases hk2:k<M+1
 ·have c3:=Qs l (3+k:Nat) ((W:Int) - 1) hl (by omega)
  have b3:=XB l (3+k:Nat) ((W:Int) - 1) (by omega)
  have htk:(JT l W H M).take (k+1)=(JT l W H M).take k ++ [QC l W H M k]:=by rw [Q3 _ (0,0) k (by simp [JT]; omega),R8 _ _ _ _ _ (by omega)]
  have nx:=next (k+1)
  rw [htk] at nx
  have hcl:((JT l W H M).take k).length=k:=by simp [JT]; omega
  have hcp:QC l W H M k=(1+Ab.atF l (3+k:Nat) ((W:Int) - 1),if k=M then (H:Int) else k):=rfl
  rw [hcp] at nx
  generalize Ab.atF l (3+k:Nat) ((W:Int) - 1)=x at *
  rw [Int.natCast_add] at c3
  change Fn _ _ [X7 l,I ((3:Int)+k),_] _ at c3
  generalize (JT l W H M).take k=C at *
  by_cases he:k=M
  ·rw [if_pos he] at nx
   have hap:=XR Kq 2 (0,0) C (1+x,(H:Int)) (by omega)
   rw [hcl] at hap
   refine Xl ?_
   simp (disch:=omega) only [X3,↓Xu,wG,seval]
   refine X0 c3 rfl ?_
   simp (disch:=omega) only [X3,↓Xu,wG,seval]
   exact ⟨EG (1+x,(H:Int)),nx _ (by omega) (by omega) (Jm (by simp [Xf,X3,I]) (by rw [← hap]; simp [Kq,I]))⟩
  ·rw [if_neg he] at nx
   have hap:=XR Kq 2 (0,0) C (1+x,(k:Int)) (by omega)
   rw [hcl] at hap
   refine Xl ?_
   simp (disch:=omega) only [X3,↓Xu,wG,seval]
   refine X0 c3 rfl ?_
   simp (disch:=omega) only [X3,↓Xu,wG,seval]
   exact ⟨EG (1+x,(k:Int)),nx _ (by omega) (by omega) (Jm (by simp [Xf,X3,I]) (by rw [← hap]; simp [Kq,I]))⟩
 obtain rfl:k=M+1:=by omega
 have htk:(JT l W H M).take (M+1)=JT l W H M:=List.take_of_length_le (by simp [JT])
 rw [htk]
 have hCl:(JT l W H M).length=M+1:=by simp [JT]
 have hq:∀ k,k≤M→Xs Kq 2 (0,0) (JT l W H M) (k*2)=I (QC l W H M k).1∧Xs Kq 2 (0,0) (JT l W H M) (k*2+1)=I (QC l W H M k).2:=fun k hk=>by
  rw [Kv Kq 2 (0,0) (JT l W H M) k (by omega),Kg Kq 2 (0,0) (JT l W H M) k 1 (by omega),R8 _ _ _ _ _ hk]
  exact ⟨rfl,rfl⟩
 have q0:Xs Kq 2 (0,0) (JT l W H M) 0=I (QC l W H M 0).1:=(hq 0 (by omega)).1
 have q1:Xs Kq 2 (0,0) (JT l W H M) 1=I (QC l W H M 0).2:=(hq 0 (by omega)).2
 have hF:Jf l W H M=(0,0) :: JT l W H M ++ [(0,(H:Int))]:=rfl
 have hfr:=aL (JT l W H M) H
 rw [← hF,hCl] at hfr
 have hFl:(Jf l W H M).length=M+3:=by rw [hF]; simp [hCl]
 have hSl:(JB l W H M).length=M+3:=by unfold JB; rw [HV]; omega
 have hcr:=R9 l W H M
 have n1:=Lp l W H M (by omega) (by omega) (by omega)
 have n2:=HW l W H M (by omega) (by omega) (by omega)
 refine Xl ?_
 simp (disch:=omega) only [X3,q0,q1,↓Xu,wG,seval]
 refine ⟨fun j _=>T7 _ _ _ _ _ (by omega) fun a=>⟨rfl,by simp [Kq,I,AV.one]⟩,EG (0,(H:Int)),?_⟩
 refine Xe (fun i:Nat=>match i with
  | 0=>AE l W H M (.osl 2 1 2 0 (M+3)) (.sl 3 6 (Xn [I (QC l W H M 0).1,I (QC l W H M 0).2,I W,I 0,I W,I H]) true) (I M) .any .any .any .any .any .any [.row 1 ((M+3)*2) (Xs Kq 2 (0,0) (Jf l W H M))]
  | i+1=>AE l W H M (.osl 2 1 2 0 (M+3)) (.osl 3 i 2 0 (4+i)) (I (M - (i+1):Nat)) .any .any .any .any .any .any [.row 1 ((M+3)*2) (Xs Kq 2 (0,0) (Jf l W H M)),.row i ((4+i)*2) (Xs Kq 2 (0,0) (Zn l W H M (i+1)))])
  (fun i=>i≤M) (fun i=>M - i) 0 (by omega)
  (Sub.trans (Qr 2 ((M+3)*2) (Xs Kq 2 (0,0) (Jf l W H M)) rfl (by omega) (fun j hj=>hfr j (by omega))) (Xi rfl (by simp [AE,Xf,X3,I]; omega) (by simp [Xq,AE]) (by simp [AE,Jl,Zq,XP,I]))) ?_
 intro i hi next
 match i,hi,next with
 | 0,hi,next =>
  have ho:=Vl (QC l W H M 0) ((W:Int),0) ((W:Int),(H:Int)) (QC l W H M M)
  have w1:=(hq M (by omega)).1
  have w2:=(hq M (by omega)).2
  refine Xl ?_
  simp (disch:=omega) only [AE,X3,List.cons_append,List.nil_append,w1,w2,↓Xu,wG,seval]
  exact ⟨EG (QC l W H M M),next 1 _ (by omega) (by omega) (Sub.trans (Qr 3 8 (Xs Kq 2 (0,0) (Zn l W H M 1)) rfl (by omega) (fun j hj=>ho j hj)) (Xi rfl (by simp [AE,Xf,X3,I]; omega) (by simp [Xq,AE]) (by simp [AE])))⟩
 | i+1,hi,next =>
 by_cases hi2:i+1<M
 ·have w1:=(hq (M - (i+1)) (by omega)).1
  have w2:=(hq (M - (i+1)) (by omega)).2
  have hs:=Pe l W H M (i+1)
  have hap:=XR Kq 2 (0,0) (Zn l W H M (i+1)) (QC l W H M (M - (i+1))) (by omega)
  rw [HV,show 3+(i+1)=4+i by omega] at hap
  refine Xl ?_
  simp (disch:=omega) only [AE,X3,List.cons_append,List.nil_append,w1,w2,↓Xu,wG,seval]
  exact ⟨EG (QC l W H M (M - (i+1))),next (i+2) _ (by omega) (by omega) (Xi rfl (by simp [AE,Xf,X3,I]; omega) (by simp [Xq,AE]) (by rw [← hs] at hap; simp [AE,← hap,Kq,I,show 4+i+1=4+(i+1) by omega]))⟩
 obtain rfl:M=i+1:=by omega
 clear next
 have k1:=Mn (Jf l W H (i+1)) n1 (by omega)
 have k2:=Mn (JB l W H (i+1)) (fun c hc=>by have:=n2 c hc; omega) (by omega)
 refine Xl ?_
 simp (disch:=omega) only [AE,X3,List.cons_append,List.nil_append,↓Xu,wG,seval]
 refine JS k1 rfl ⟨?_,trivial⟩ (Ay _) ?_
 ·show JR _ (.osl 2 1 2 0 (i+1+3)) (Dz (Jf l W H (i+1)))
  rw [Xd,hFl]
  refine Qx (.inl rfl) (by omega) (fun h=>by omega) fun j hj=>?_
  rw [Nat.zero_add]
  exact (Xb (l:=Kq ((Jf l W H (i+1)).getD (j / 2) (0,0))) (KB _) _).sees _
 by_cases p1:XM (Xz (Jf l W H (i+1)))
 rotate_left
 ·have hr2:=hr (fun h=>p1 h.1)
  rcases hABF with ⟨h,_⟩ | ⟨_,rfl,rfl,rfl⟩
  ·exact absurd h.1 p1
  have a3:=Qs l 3 ((W:Int) - 1) hl (by omega)
  have a4:=Qs l 4 ((W:Int) - 1) hl (by omega)
  have a7:=Qs l 7 4 hl (by omega)
  simp (disch:=omega) only [decide_eq_false p1,AE,X3,List.cons_append,List.nil_append,↓Xu,wG,seval]
  refine X0 a3 rfl ?_
  simp (disch:=omega) only [AE,X3,List.cons_append,List.nil_append,↓Xu,wG,seval]
  refine X0 a4 rfl ?_
  simp (disch:=omega) only [AE,X3,List.cons_append,List.nil_append,↓Xu,wG,seval]
  refine X0 a7 rfl ?_
  simp (disch:=omega) only [AE,X3,List.cons_append,List.nil_append,↓Xu,wG,seval]
  refine XW hr2 ⟨A6 rfl rfl,trivial⟩ ?_
  simp (disch:=omega) only [kT,XG,XJ,Jl,Zq,XP,X3,List.cons_append,List.nil_append,↓Xu,wG,seval]
  exact Zm rfl Wj rfl rfl rfl sR (hR.trans rfl)
 simp (disch:=omega) only [decide_eq_true p1,AE,X3,List.cons_append,List.nil_append,↓Xu,wG,seval]
 refine JS k2 rfl ⟨?_,trivial⟩ (Ay _) ?_
 ·show JR _ (.osl 3 i 2 0 (4+i)) (Dz (JB l W H (i+1)))
  rw [Xd,hSl,show i+1+3=4+i by omega]
  refine Qx (.inl rfl) (by omega) (fun h=>by omega) fun j hj=>?_
  rw [Nat.zero_add]
  exact (Xb (l:=Kq ((JB l W H (i+1)).getD (j / 2) (0,0))) (KB _) _).sees _
 by_cases p2:XM (Xz (JB l W H (i+1)))
 rotate_left
 ·have hr2:=hr (fun h=>p2 h.2)
  rcases hABF with ⟨h,_⟩ | ⟨_,rfl,rfl,rfl⟩
  ·exact absurd h.2 p2
  have a3:=Qs l 3 ((W:Int) - 1) hl (by omega)
  have a4:=Qs l 4 ((W:Int) - 1) hl (by omega)
  have a7:=Qs l 7 4 hl (by omega)
  simp (disch:=omega) only [decide_eq_false p2,AE,X3,List.cons_append,List.nil_append,↓Xu,wG,seval]
  refine X0 a3 rfl ?_
  simp (disch:=omega) only [AE,X3,List.cons_append,List.nil_append,↓Xu,wG,seval]
  refine X0 a4 rfl ?_
  simp (disch:=omega) only [AE,X3,List.cons_append,List.nil_append,↓Xu,wG,seval]
  refine X0 a7 rfl ?_
  simp (disch:=omega) only [AE,X3,List.cons_append,List.nil_append,↓Xu,wG,seval]
  refine XW hr2 ⟨A6 rfl rfl,trivial⟩ ?_
  simp (disch:=omega) only [kT,XG,XJ,Jl,Zq,XP,X3,List.cons_append,List.nil_append,↓Xu,wG,seval]
  exact Zm rfl Wj rfl rfl rfl sR (hR.trans rfl)
 clear hr
 rcases hABF with ⟨_,rfl,rfl,rfl⟩ | ⟨h,_⟩
 rotate_left
 ·exact absurd ⟨p1,p2⟩ h
 have a7:=Qs l 7 4 hl (by omega)
 have a8:=Qs l 8 9 hl (by omega)
 have a9:=Qs l 9 9 hl (by omega)
 have b7:=XB l 7 4 (by omega)
 have b8:=XB l 8 9 (by omega)
 have b9:=XB l 9 9 (by omega)
 have e7:Ab.atF l 7 4=(cH l:Int):=by unfold cH; omega
 have hD:PW l=(Ab.atF l 8 9 - 4,Ab.atF l 9 9 - 4):=rfl
 simp (disch:=omega) only [decide_eq_true p2,AE,X3,List.cons_append,List.nil_append,↓Xu,wG,seval]
 refine X0 a7 rfl ?_
 simp (disch:=omega) only [e7,AE,X3,List.cons_append,List.nil_append,↓Xu,wG,seval]
 refine X0 a8 rfl ?_
 simp (disch:=omega) only [AE,X3,List.cons_append,List.nil_append,↓Xu,wG,seval]
 refine X0 a9 rfl ?_
 simp (disch:=omega) only [AE,X3,List.cons_append,List.nil_append,↓Xu,wG,seval]
 have hSN:Zn l W H (i+1) (i+1)=JB l W H (i+1):=rfl
 rw [← hSN] at hSl n2
 have hST:Am l W H (i+1)=(Zn l W H (i+1) (i+1)).map (sr (cH l) (PW l)):=rfl
 have n3:=I1 l W H (i+1) (by omega) (by omega) (by omega)
 have hTl:(Am l W H (i+1)).length=4+i:=by rw [hST,List.length_map,hSl]; omega
 have q4:cH l≤3:=by omega
 generalize Zn l W H (i+1) (i+1)=S at *
 have bD:(-4≤(PW l).1∧(PW l).1≤4)∧-4≤(PW l).2∧(PW l).2≤4:=by rw [hD]; omega
 have hAt:DX l=v0.sub (Co (DY l) (Jv (PW l))):=rfl
 have hT:DY l=JF ((4 - cH l) % 4) JQ:=rfl
 have hPF:Iy l (i+1)=⟨0,1,1,(i+1+2:Nat),(i+1:Nat),DY l,DX l,DX l⟩:=rfl
 have hps:=LL l
 rw [hPF] at hR
 have m1:=Wl (Jf l W H (i+1)) l 10 (by omega) hl (by omega)
 have m2:=Wl (Am l W H (i+1)) l 20 (by omega) hl (by omega)
 generalize ZF (Jf l W H (i+1)) l 10=A at *
 generalize ZF (Am l W H (i+1)) l 20=B at *
 generalize Jf l W H (i+1)=FL at *
 generalize DX l=at' at *
 generalize PW l=D at *
 obtain ⟨D1,D2⟩:=D
 rw [Prod.mk.injEq] at hD
 obtain ⟨rfl,rfl⟩:=hD
 generalize cH l=q at *
 generalize DY l=T at *
 generalize Ab.atF l 8 9 - 4=D1 at *
 generalize Ab.atF l 9 9 - 4=D2 at *
 simp only at bD
 generalize hg:sr q (D1,D2)=g at *
 refine Xe (fun k:Nat=>AE l W H (i+1) (.osl 2 1 2 0 (i+1+3)) (.osl 3 i 2 0 (4+i)) .any (I q) (.ref 4 0 0) (I k) .any .any .any [.row 1 ((i+1+3)*2) (Xs Kq 2 (0,0) FL),.row i ((4+i)*2) (Xs Kq 2 (0,0) (Gh g S k)),.row 0 2 (Xn [I D1,I D2])])
  (fun k=>k≤4+i) (fun k=>4+i - k) 0 (by omega)
  (Xi rfl (by simp [AE,Xf,X3,I]) (by simp [Xq,AE]) (by simp [AE,Gh,I])) ?_
 intro k hk next
 by_cases hk2:k<4+i
 ·have hp:=n2 (S.getD k (0,0)) (QS (by omega))
  have hb:=GK (S.getD k (0,0)) 7 (by omega) (by omega) q
  have c:=dl (S.getD k (0,0)) q (by omega) (by omega) (by omega)
  have u0:Xs Kq 2 (0,0) (Gh g S k) (k*2)=I (S.getD k (0,0)).1:=by rw [Kv _ _ _ _ _ (by omega),Wo g S k (by omega)]; rfl
  have u1:Xs Kq 2 (0,0) (Gh g S k) (k*2+1)=I (S.getD k (0,0)).2:=by rw [Kg _ _ _ _ _ _ (by omega),Wo g S k (by omega)]; rfl
  have hs:=uS (Gh g S k) k (g (S.getD k (0,0))) (by rw [iT g S k (by omega)]; omega)
  rw [iU g S k (by omega)] at hs
  have hgk:g (S.getD k (0,0))=((Ze q (S.getD k (0,0))).1+D1,(Ze q (S.getD k (0,0))).2+D2):=by rw [← hg]; rfl
  rw [hgk] at hs
  generalize S.getD k (0,0)=p at *
  generalize Ze q p=w at *
  refine Xl ?_
  simp (disch:=omega) only [AE,X3,Kq,List.cons_append,List.nil_append,u0,u1,↓Xu,wG,seval]
  refine X0 c rfl ?_
  simp (disch:=omega) only [AE,X3,Kq,List.cons_append,List.nil_append,↓Xu,wG,seval]
  exact next (k+1) _ (by omega) (by omega) (XE (m:=5) (Nat.zero_le _) rfl (by simp [AE,Xf,X3,I]) (by simp [Xq,AE]) (by simp [AE,← hs,Kq,I]) (by simp [AE,XA]) (by simp [AE,XA]) (by simp [AE,u6,vE,XA]))
 obtain rfl:k=4+i:=by omega
 have hm:Gh g S (4+i)=Am l W H (i+1):=by
  rw [hST]; unfold Gh; rw [List.take_of_length_le (by omega),List.drop_eq_nil_of_le (by omega),List.append_nil]
 rw [hm]
 clear next
 generalize Am l W H (i+1)=ST at *
 refine Run.sub (s':=AE l W H (i+1) (Dz FL) (Dz ST) .any (I q) (.ref 4 0 0) (I (4+i:Nat)) .any .any .any [.con 1 ((i+1+3)*2) (Xs Kq 2 (0,0) FL),.con i ((4+i)*2) (Xs Kq 2 (0,0) ST),.row 0 2 (Xn [I D1,I D2])]) ?_
  (Sub.trans (XX 2 rfl) (Sub.trans (Mj 9 (M:=(i+1+3)*2) rfl rfl (by omega) (fun h=>by omega)) (Sub.trans (XX 3 rfl) (Sub.trans (Mj 10 (M:=(4+i)*2) rfl rfl (by omega) (fun h=>by omega)) (Xi rfl (by simp [AS.put,AE,Xf,Xd,X3,hFl,hTl,I]) (by simp [AS.put,Xq,AE]) (by simp [AS.put,AE]))))))
 have o1:=QV 1 1 ⟨by omega,by omega⟩ ⟨by omega,by omega⟩
 have v1:Rat.divInt 1 1=1:=by decide +kernel
 rw [v1] at o1
 have hrem:((4:Int) - q).tmod 4=((4 - q) % 4:Nat):=by rw [Int.tmod_eq_emod_of_nonneg (by omega)]; omega
 refine Xl ?_
 simp (disch:=omega) only [AE,X3,List.cons_append,List.nil_append,↓Xu,wG,seval]
 refine X0 m1 rfl ?_
 simp (disch:=omega) only [AE,X3,List.cons_append,List.nil_append,↓Xu,wG,seval]
 refine X0 m2 rfl ?_
 simp (disch:=omega) only [AE,X3,QP,XG,Jl,Zq,XP,List.cons_append,List.nil_append,↓Xu,wG,seval]
 refine X0 o1 rfl ?_
 simp (disch:=omega) only [X3,Xd,↓Xu,wG,seval]
 have wst:WeakL [.bool (sg 1),X7 (X8 (Rat.num 1).natAbs),.bool false,X7 (X8 (qd 1)),.bool false,.sl 0 0 (fun _=>.any) false,.bool false,.sl 0 0 (fun _=>.any) false] (vC JQ):=by
  obtain ⟨w1,w2,w3,w4,w5,w6,w7,w8,_⟩:=Zp
  exact ⟨Weak.rfl' _,Weak.rfl' _,Weak.rfl' _,Weak.rfl' _,w5,w6,w7,w8,trivial⟩
 refine Xe (fun j:Nat=>AE l W H (i+1) .any .any .any (I q) (.ref 4 0 0) .any (.ref 5 0 0) (.ref 6 0 0) (I j) [.con 1 ((i+1+3)*2) (Xs Kq 2 (0,0) FL),.con i ((4+i)*2) (Xs Kq 2 (0,0) ST),.row 0 2 (Xn [I D1,I D2]),.row 0 79 (Xn (XG A ++ (XG B ++ FI))),.row 0 8 (Xn (vC (JF j JQ)))])
  (fun j=>j≤(4 - q) % 4) (fun j=>(4 - q) % 4 - j) 0 (by omega)
  (Sub.trans (Ef 6 (vC JQ) rfl rfl wst) (Xi rfl (by simp [AE,Xf,X3,I]) (by simp [Xq,AE]) (by simp [AE,Jl,Zq,XP,FI,Zt,XG,Xd,Xm,X3,JF,I]))) ?_
 intro j hj next
 have hvq:vb (JF j JQ)≤10:=by rw [CK]; exact Ei
 have hqs:JF (j+1) JQ=Bi (JF j JQ):=rfl
 by_cases hj2:j<(4 - q) % 4
 ·have nx:=next (j+1)
  rw [hqs] at nx
  generalize JF j JQ=V at *
  have q1:=Qm V
  have c:=KE V.y (by unfold rm; omega)
  refine Xl ?_
  simp (disch:=omega) only [AE,X3,vC,hrem,List.cons_append,List.nil_append,↓Xu,wG,seval]
  refine X0 c rfl ?_
  simp (disch:=omega) only [X3,↓Xu,wG,seval]
  have hV:vC (Bi V)=[.bool (sg (-V.y)),X7 (X8 (-V.y).num.natAbs),.bool false,X7 (X8 (qd (-V.y))),.bool (sg V.x),X7 (X8 V.x.num.natAbs),.bool false,X7 (X8 (qd V.x))]:=rfl
  exact nx _ (by omega) (by omega) (Xi rfl (by simp [AE,Xf,X3,I]) (by simp [Xq,AE]) (by simp [AE,Jl,Zq,XP,FI,Zt,XG,Xd,Xm,X3,hV,I]))
 obtain rfl:j=(4 - q) % 4:=by omega
 rw [← hT] at hvq ⊢
 clear next
 have c1:=KR D1 D2 ⟨by omega,by omega⟩ ⟨by omega,by omega⟩
 have hpv:(⟨(D1:Rat),(D2:Rat)⟩:V2)=Jv (D1,D2):=rfl
 rw [hpv] at c1
 have vq:vb (Jv (D1,D2))≤3:=by
  have q1:=Z7 D1 3 (by omega) (Qy ⟨by omega,by omega⟩)
  have q2:=Z7 D2 3 (by omega) (Qy ⟨by omega,by omega⟩)
  unfold vb Jv
  simp only
  omega
 have c2:=Cn T (Jv (D1,D2)) (by unfold vm; omega) (by unfold vm; omega)
 have vr:=Dk T (Jv (D1,D2))
 have vz:=CL
 have c3:=JW v0 (Co T (Jv (D1,D2))) (by unfold rm; omega) (by unfold rm; omega)
 rw [← hAt] at c3
 refine Xl ?_
 simp (disch:=omega) only [AE,X3,vC,hrem,List.cons_append,List.nil_append,↓Xu,wG,seval]
 refine X0 c1 rfl ?_
 simp (disch:=omega) only [X3,vA,vC,↓Xu,wG,seval]
 refine X0 c2 rfl ?_
 simp (disch:=omega) only [X3,vA,vC,↓Xu,wG,seval]
 refine XW c3 ⟨XO (CM _),Weak.rfl' _,trivial⟩ ?_
 simp (disch:=omega) only [X3,vA,vC,XG,FI,Zt,Jl,Zq,XP,List.cons_append,List.nil_append,↓Xu,wG,seval]
 exact Zm rfl Wj rfl rfl rfl sR (hR.trans rfl)
theorem Ud (k m:Int) (h:0≤k∧k<m):J5 k m=k:=by
 unfold J5
 rw [if_neg (by omega),Int.tmod_eq_emod_of_nonneg h.1,Int.emod_eq_of_lt h.1 h.2]
theorem FS (L:List Int) (j:Nat) (m:Int) (h:j<L.length) (hb:0≤L.getD j 0∧L.getD j 0<m):Ab.atF L (j:Nat) m=L.getD j 0:=by
 unfold Ab.atF
 rw [if_neg (by omega),Int.toNat_natCast,Ud _ _ hb]
theorem rV (l:List Int) (W H:Nat) (hW:4≤W∧W≤7) (hH:3≤H∧H≤6):C2 (I7 l W H):=fun x hx=>by
 have b3:=XB l 3 ((W:Int) - 1) (by omega)
 have b4:=XB l 4 ((W:Int) - 1) (by omega)
 have b7:=XB l 7 4 (by omega)
 simp only [I7,List.mem_cons,List.not_mem_nil,or_false] at hx
 rcases hx with rfl | rfl | rfl | rfl | rfl | rfl | rfl | rfl <;> exact ⟨by omega,by omega⟩
theorem jm (l:List Int) (hl:C2 l):∃ (L:List Int) (W H M:Nat),C2 L∧(4≤W∧W≤7)∧(3≤H∧H≤6)∧(1≤M∧M≤3)∧XM (Xz (Jf L W H M))∧XM (Xz (JB L W H M)) ∧
  Fn Tryz.prog 28 [X7 l] (.agg (kT (ZF (Jf L W H M) L 10) (ZF (Am L W H M) L 20) (Iy L M))):=by
 have b0:=XB l 0 4 (by omega)
 have b1:=XB l 1 4 (by omega)
 have b2:=XB l 2 3 (by omega)
 obtain ⟨W,hW⟩:∃ W:Nat,(4:Int)+Ab.atF l 0 4=W:=⟨(4+Ab.atF l 0 4).toNat,by omega⟩
 obtain ⟨H,hH⟩:∃ H:Nat,(3:Int)+Ab.atF l 1 4=H:=⟨(3+Ab.atF l 1 4).toNat,by omega⟩
 obtain ⟨M,hM⟩:∃ M:Nat,(1:Int)+Ab.atF l 2 3=M:=⟨(1+Ab.atF l 2 3).toNat,by omega⟩
 by_cases hv:XM (Xz (Jf l W H M))∧XM (Xz (JB l W H M))
 ·obtain ⟨A,B,F,hf,h⟩:=LK l hl W H M hW hH hM (ZF [] [] 0) (ZF [] [] 0) fv0 (fun h=>absurd hv h)
  rcases h with ⟨_,rfl,rfl,rfl⟩ | ⟨h,_⟩
  ·exact ⟨l,W,H,M,hl,by omega,by omega,by omega,hv.1,hv.2,hf⟩
  ·exact absurd hv h
 have b3:=XB l 3 ((W:Int) - 1) (by omega)
 have b4:=XB l 4 ((W:Int) - 1) (by omega)
 have b7:=XB l 7 4 (by omega)
 have hl2:=rV l W H (by omega) (by omega)
 have a0:Ab.atF (I7 l W H) 0 4=(W:Int) - 4:=FS _ 0 _ (by simp [I7]) (by show 0≤(W:Int) - 4∧(W:Int) - 4<4; omega)
 have a1:Ab.atF (I7 l W H) 1 4=(H:Int) - 3:=FS _ 1 _ (by simp [I7]) (by show 0≤(H:Int) - 3∧(H:Int) - 3<4; omega)
 have a2:Ab.atF (I7 l W H) 2 3=0:=FS _ 2 _ (by simp [I7]) (by show 0≤(0:Int)∧(0:Int)<3; omega)
 have a3:Ab.atF (I7 l W H) 3 ((W:Int) - 1)=Ab.atF l 3 ((W:Int) - 1):=FS _ 3 _ (by simp [I7]) b3
 have a4:Ab.atF (I7 l W H) 4 ((W:Int) - 1)=Ab.atF l 4 ((W:Int) - 1):=FS _ 4 _ (by simp [I7]) b4
 have c0:QC (I7 l W H) W H 1 0=(1+Ab.atF l 3 ((W:Int) - 1),0):=by
  unfold QC; rw [if_neg (by omega)]; exact congrArg (fun z:Int=>((1:Int)+z,(0:Int))) a3
 have c1:QC (I7 l W H) W H 1 1=(1+Ab.atF l 4 ((W:Int) - 1),(H:Int)):=by
  unfold QC; rw [if_pos rfl]; exact congrArg (fun z:Int=>((1:Int)+z,(H:Int))) a4
 have p1:XM (Xz (Jf (I7 l W H) W H 1)):=by
  have e:Jf (I7 l W H) W H 1=jz (1+Ab.atF l 3 ((W:Int) - 1)) (1+Ab.atF l 4 ((W:Int) - 1)) H:=by
   show (0,0) :: [QC (I7 l W H) W H 1 0,QC (I7 l W H) W H 1 1] ++ [(0,(H:Int))]=_
   rw [c0,c1]; rfl
  rw [e]
  exact jA _ _ _ (by omega) (by omega) (by omega)
 have p2:XM (Xz (JB (I7 l W H) W H 1)):=by
  have e:JB (I7 l W H) W H 1=jB W (1+Ab.atF l 3 ((W:Int) - 1)) (1+Ab.atF l 4 ((W:Int) - 1)) H:=by
   show [QC (I7 l W H) W H 1 0,((W:Int),0),((W:Int),(H:Int))] ++ [QC (I7 l W H) W H 1 1]=_
   rw [c0,c1]; rfl
  rw [e]
  exact jC _ _ _ _ (by omega) (by omega) (by omega) (by omega)
 obtain ⟨A,B,F,hf,h⟩:=LK (I7 l W H) hl2 W H 1 (by rw [a0]; omega) (by rw [a1]; omega) (by rw [a2]; rfl) (ZF [] [] 0) (ZF [] [] 0) fv0 (fun h=>absurd ⟨p1,p2⟩ h)
 rcases h with ⟨_,rfl,rfl,rfl⟩ | ⟨h,_⟩
 rotate_left
 ·exact absurd ⟨p1,p2⟩ h
 obtain ⟨A,B,F,hf2,h⟩:=LK l hl W H M hW hH hM _ _ _ (fun _=>hf)
 rcases h with ⟨h,_⟩ | ⟨_,rfl,rfl,rfl⟩
 ·exact absurd h hv
 ·exact ⟨I7 l W H,W,H,1,hl2,by omega,by omega,by omega,p1,p2,hf2⟩
theorem oh (l:List Int) (hl:C2 l):∃ (A B:PV) (F:FV) (ta tb:Rat),Fn Tryz.prog 28 [X7 l] (.agg (kT A B F))∧GP A ta∧GP B tb∧A.small∧B.small∧qb ta≤3∧qb tb≤3∧vb F.turn≤10∧vb F.lo≤100∧vb F.hi≤100:=by
 obtain ⟨L,W,H,M,hL,hW,hH,hM,p1,p2,hf⟩:=jm l hl
 have g1:=Wm (Jf L W H M) L 10 (Lp L W H M hW (by omega) (by omega)) p1
 have g2:=Wm (Am L W H M) L 20 (I1 L W H M hW (by omega) (by omega)) (ou _ _ _ p2)
 have hs:=LL L
 exact ⟨_,_,_,_,_,hf,g1.1,g2.1,g1.2.1,g2.2.1,g1.2.2,g2.2.2,hs.1,hs.2,hs.2⟩
def Ur (t u:V2):Int:=if Qj t.x u.x≠0 then Qj t.x u.x else Qj t.y u.y
theorem gb (t u:V2):Ur t u<0↔Zu t u:=by
 have h1:=K7 t.x u.x; have h2:=K7 t.y u.y
 have h3:=Ss t.x u.x
 unfold Ur Zu
 by_cases h:Qj t.x u.x=0
 ·rw [if_neg (by simp [h])]
  have e:=h3.1 h
  rw [h2]
  constructor
  ·intro hh; exact .inr ⟨e,hh⟩
  ·rintro (hh | hh)
   ·rw [e] at hh; exact absurd hh (Rat.lt_irrefl)
   ·exact hh.2
 ·rw [if_pos h,h1]
  constructor
  ·intro hh; exact .inl hh
  ·rintro (hh | hh)
   ·exact hh
   ·exact absurd (h3.2 hh.1) h
theorem uQ (a b:Int):Fn Tryz.prog 200 [.sl 2 2 (Xn [I a,I b]) false] (I (if a≠0 then a else b)):=by
 refine Fn.intro (fn:=Tryz.f200) Tryz.call200 Tryz.func200 rfl mixed 6 [6,7,8] [] [] (by kernel_rfl) (Nat.le_of_ble_eq_true rfl) (by
  intro x hx
  rw [List.mem_singleton.1 hx]
  exact J8 fun j hj=>Xb (l:=[I a,I b]) (by simp [X9]) _) (Xl ?_)
 simp (disch:=omega) only [AS.start,↓Xu,wG,seval]
 refine Hq ?_
 refine Xl ?_
 by_cases h:a=0
 rotate_left
 ·simp (disch:=omega) only [eq_false h,Int.reduceAdd,↓Xu,wG,seval]
  exact Xt (v:=I a) rfl rfl (X9 _) (by rw [if_pos h])
 simp (disch:=omega) only [eq_true h,Int.reduceAdd,↓Xu,wG,seval]
 refine FD ?_
 refine Xl ?_
 by_cases h2:b=0
 rotate_left
 ·simp (disch:=omega) only [eq_false h2,Int.reduceAdd,↓Xu,wG,seval]
  exact Xt (v:=I b) rfl rfl (X9 _) (by rw [if_neg (by simp [h])])
 simp (disch:=omega) only [eq_true h2,Int.reduceAdd,↓Xu,wG,seval]
 refine FD ?_
 refine Xl ?_
 simp (disch:=omega) only [Int.reduceAdd,↓Xu,wG,seval]
 exact Xt (v:=I 0) rfl rfl (X9 _) (by rw [if_neg (by simp [h]),h2])
theorem Rs (t u:V2) (ht:vb t≤vm) (hu:vb u≤vm):Fn Tryz.prog 135 [vA t,vA u] (I (Ur t u)):=by
 have q1:=Qv t; have q2:=Qm t; have q3:=Qv u; have q4:=Qm u
 have c1:=KA t.x u.x (by unfold rm; unfold vm at *; omega) (by unfold rm; unfold vm at *; omega)
 have c2:=KA t.y u.y (by unfold rm; unfold vm at *; omega) (by unfold rm; unfold vm at *; omega)
 have c3:=uQ (Qj t.x u.x) (Qj t.y u.y)
 have hc:Ur t u=if Qj t.x u.x≠0 then Qj t.x u.x else Qj t.y u.y:=rfl
 rw [← hc] at c3
 generalize Ur t u=R at *
 refine Fr Tryz.call135 Tryz.func135 5 [] [1,20000002,20000003] [] ?_
 simp (disch:=omega) only [AS.start,vA,vC,↓Xu,wG,seval]
 refine X0 c1 rfl ?_
 simp (disch:=omega) only [↓Xu,wG,seval]
 refine X0 c2 rfl ?_
 simp (disch:=omega) only [↓Xu,wG,seval]
 refine X0 c3 rfl ?_
 simp (disch:=omega) only [↓Xu,wG,seval]
 exact Xt rfl rfl (X9 _) rfl
def de (L:List V2) (j:Nat):List V2:=(L.set (j+1) (L.getD j v0)).set j (L.getD (j+1) v0)
def BX:List V2→Nat→List V2
 | L,0=>L
 | L,j+1=>if Zu (L.getD (j+1) v0) (L.getD j v0) then BX (de L j) j else L
def Bc (L:List V2):Nat→List V2
 | 0=>L
 | k+1=>BX (Bc L k) (k+1)
theorem Pk (L:List V2) (j:Nat):(de L j).length=L.length:=by simp [de]
theorem RI:∀ (j:Nat) (L:List V2),(BX L j).length=L.length
 | 0,_=>rfl
 | j+1,L=>by
  unfold BX
  split
  ·rw [RI j,Pk]
  ·rfl
theorem BQ (L:List V2):∀ k,(Bc L k).length=L.length
 | 0=>rfl
 | k+1=>by show (BX (Bc L k) (k+1)).length=_; rw [RI,BQ L k]
theorem WT {L:List V2} {j:Nat} (h:j+1<L.length) (x:V2) (hx:x∈de L j):x∈L:=by
 unfold de at hx
 rcases List.mem_or_eq_of_mem_set hx with hx | rfl
 ·rcases List.mem_or_eq_of_mem_set hx with hx | rfl
  ·exact hx
  ·exact QS (by omega)
 ·exact QS h
theorem RJ:∀ (j:Nat) (L:List V2),j<L.length→∀ x∈BX L j,x∈L
 | 0,_,_,x,h=>h
 | j+1,L,hj,x,h=>by
  unfold BX at h
  split at h
  ·exact WT hj x (RJ j (de L j) (by rw [Pk]; omega) x h)
  ·exact h
theorem Me (L:List V2):∀ k,k<L.length→∀ x∈Bc L k,x∈L
 | 0,_,x,h=>h
 | k+1,hk,x,h=>Me L k (by omega) x (RJ (k+1) (Bc L k) (by rw [BQ]; exact hk) x h)
theorem tA (l:List V2) (k:Nat) (x:V2) (hk:k<l.length):Ih (Xs vC 8 v0 l) (k*8) (vC x)=Xs vC 8 v0 (l.set k x):=by
 funext j
 rw [Tj]
 have e:(l.set k x).getD k v0=x:=by rw [List.getD_eq_getElem?_getD,List.getElem?_set_self hk]; rfl
 have hl:(vC x).length=8:=rfl
 unfold Xs
 by_cases h:k*8≤j∧j<k*8+(vC x).length
 ·rw [if_pos h]
  rw [hl] at h
  rw [show j / 8=k by omega,e,show j % 8=j - k*8 by omega]
 ·rw [if_neg h]
  rw [hl] at h
  have:(l.set k x).getD (j / 8) v0=l.getD (j / 8) v0:=by rw [List.getD_eq_getElem?_getD,List.getElem?_set_ne (by omega),List.getD_eq_getElem?_getD]
  rw [this]
theorem qq {P:Program} {fn:Func} {str hcs:List Nat} {b:Nat} {H:List AO} {s:AS} (hr:fn.results=#[]) (hH:s.h=H):RetE (DL P fn str hcs b (.tup []) H) s :=
 ⟨.tup [],by show Z9 P fn s=_; simp [Z9,hr,J7,Ag],rfl,hH⟩
theorem aX (o0 o1 o2 o3 o4 o5 o6 o7:AO) (v:Nat) (L:List V2) (hL:∀ x∈L,vb x≤vm) (hn:L.length<1000) :
  HCall Tryz.prog 233 [.osl 8 v 8 0 L.length,I 0,I L.length,.fn 135 []] [o0,o1,o2,o3,o4,o5,o6,o7,.row v (L.length*8) (Xs vC 8 v0 L)] (.tup []) [o0,o1,o2,o3,o4,o5,o6,o7,.row v (L.length*8) (Xs vC 8 v0 (Bc L (L.length - 1)))]:=by
 refine HCall.intro (fn:=Tryz.f233) Tryz.call233 Tryz.func233 rfl mixed 10 [] [4,5008,5013,6,7009,7013] [] (by kernel_rfl) (Nat.le_of_ble_eq_true rfl) (Xl ?_)
 simp (disch:=omega) only [AS.start,↓Xu,wG,seval]
 refine Xe (fun k:Nat=>⟨10,[],[.osl 8 v 8 0 L.length,I 0,I L.length,.fn 135 [],.any,.any,.any,.any,I (k+1:Nat),.any],[],[o0,o1,o2,o3,o4,o5,o6,o7,.row v (L.length*8) (Xs vC 8 v0 (Bc L k))]⟩) (fun k=>k≤L.length - 1) (fun k=>L.length - k) 0 (by omega)
  (Jm (by simp [Xf,I]) rfl) ?_
 intro k hk next
 by_cases hk2:k+1<L.length
 rotate_left
 ·obtain rfl:k=L.length - 1:=by omega
  refine Xl ?_
  simp (disch:=omega) only [↓Xu,wG,seval]
  exact qq rfl rfl
 have hml:=Me L k (by omega)
 have hll:=BQ L k
 have nx:=next (k+1)
 rw [show Bc L (k+1)=BX (Bc L k) (k+1) from rfl] at nx
 generalize Bc L k=M at *
 refine Xl ?_
 simp (disch:=omega) only [↓Xu,wG,seval]
 refine Xe (fun p:Nat×List V2=>⟨10,[],[.osl 8 v 8 0 L.length,I 0,I L.length,.fn 135 [],.any,.any,.any,.any,I (k+1:Nat),I p.1],[],[o0,o1,o2,o3,o4,o5,o6,o7,.row v (L.length*8) (Xs vC 8 v0 p.2)]⟩) (fun p=>p.1≤k+1∧p.2.length=L.length∧(∀ x∈p.2,vb x≤vm)∧BX p.2 p.1=BX M (k+1)) (fun p=>p.1) (k+1,M) ⟨by simp,hll,fun x hx=>hL x (hml x hx),rfl⟩
  (Jm (by simp [Xf,I]) rfl) ?_
 rintro ⟨j,C⟩ ⟨h1,h2,h3,h4⟩ nextj
 replace h1:j≤k+1:=h1
 replace h2:C.length=L.length:=h2
 replace h3:∀ x∈C,vb x≤vm:=h3
 replace h4:BX C j=BX M (k+1):=h4
 match j,h1,h4,nextj with
 | 0,h1,h4,nextj =>
  refine Xl ?_
  simp (disch:=omega) only [↓Xu,wG,seval]
  have h5:C=BX M (k+1):=h4
  rw [← h5] at nx
  exact nx _ (by omega) (by omega) (Jm (by simp [Xf,I]) rfl)
 | j+1,h1,h4,nextj =>
  have c:=Rs (C.getD (j+1) v0) (C.getD j v0) (h3 _ (QS (by omega))) (h3 _ (QS (by omega)))
  have a1:=Kg vC 8 v0 C (j+1)
  have a2:=Kv vC 8 v0 C (j+1) (by omega)
  have b1:=Kg vC 8 v0 C j
  have b2:=Kv vC 8 v0 C j (by omega)
  have hj1:(((j+1:Nat):Int) - 1).toNat=j:=by omega
  have hneg:=gb (C.getD (j+1) v0) (C.getD j v0)
  by_cases hb:Zu (C.getD (j+1) v0) (C.getD j v0)
  rotate_left
  ·have hlt:=mt hneg.1 hb
   have h5:C=BX M (k+1):=by rw [← h4]; unfold BX; rw [if_neg hb]
   rw [← h5] at nx
   clear h4 h5 hb hneg nextj
   generalize C.getD (j+1) v0=x at *
   generalize C.getD j v0=y at *
   generalize Ur x y=d at *
   refine Xl ?_
   simp (disch:=omega) only [hj1,a1,a2,b1,b2,vC,↓Xu,wG,seval]
   refine X0 c rfl ?_
   simp (disch:=omega) only [eq_false hlt,↓Xu,wG,seval]
   exact nx _ (by omega) (by omega) (Jm (by simp [Xf,I]) rfl)
  have hlt:=hneg.2 hb
  have e1:=tA C (j+1) (C.getD j v0) (by omega)
  have e2:=tA (C.set (j+1) (C.getD j v0)) j (C.getD (j+1) v0) (by rw [List.length_set]; omega)
  have hsw:(C.set (j+1) (C.getD j v0)).set j (C.getD (j+1) v0)=de C j:=rfl
  rw [hsw,← e1] at e2
  have h5:BX (de C j) j=BX M (k+1):=by rw [← h4]; exact (if_pos hb).symm
  have nx2:=nextj (j,de C j)
  have h6:∀ x∈de C j,vb x≤vm:=fun x hx=>h3 x (WT (by omega) x hx)
  have h7:=Pk C j
  generalize de C j=D at *
  clear h4 hb hneg nextj hsw e1
  generalize C.getD (j+1) v0=x at *
  generalize C.getD j v0=y at *
  generalize Ur x y=d at *
  refine Xl ?_
  simp (disch:=omega) only [hj1,a1,a2,b1,b2,vC,↓Xu,wG,seval]
  refine X0 c rfl ?_
  simp (disch:=omega) only [hj1,a1,a2,b1,b2,vC,eq_true hlt,↓Xu,wG,seval]
  exact nx2 _ ⟨by show j≤k+1; omega,by show D.length=_; omega,h6,h5⟩ (by show j<j+1; omega) (Jm (by simp [Xf,I]) (by rw [← e2]; rfl))
end
end Go.Ab.N
namespace Go.Ab.N
open Go Go.RowKit Go.Proofs
open Go.Shelf
noncomputable section
set_option maxRecDepth 10000
set_option maxHeartbeats 4000000
open Classical
def wL:Go.Shelf.Ren:=⟨fun k=>if k=125 then 199 else if k=128 then 241 else 242,fun t=>if t=46 then 187 else if t=51 then 218 else if t=53 then 197 else t,fun x=>x⟩
theorem uD:Lays.n125 Tryz.prog wL where
 mixed:=mixed
 f125:=Tryz.func199.trans (congrArg some rfl)
 f128:=Tryz.func241.trans (congrArg some rfl)
 f129:=Tryz.func242.trans (congrArg some rfl)
 t3:=Tryz.underlying3
 a3:=Tryz.isAgg3
 z3:=Tryz.sizeOf3
 v3:=Tryz.zeroValue3
 t4:=Tryz.underlying4
 a4:=Tryz.isAgg4
 z4:=Tryz.sizeOf4
 v4:=Tryz.zeroValue4
 t5:=Tryz.underlying5
 a5:=Tryz.isAgg5
 z5:=Tryz.sizeOf5
 v5:=Tryz.zeroValue5
 t9:=Tryz.underlying9
 a9:=Tryz.isAgg9
 z9:=Tryz.sizeOf9
 v9:=Tryz.zeroValue9
 t46:=Tryz.underlying187
 a46:=Tryz.isAgg187
 z46:=Tryz.sizeOf187
 v46:=Tryz.zeroValue187
 t51:=Tryz.underlying218
 a51:=Tryz.isAgg218
 z51:=Tryz.sizeOf218
 v51:=Tryz.zeroValue218
 t53:=Tryz.underlying197
 a53:=Tryz.isAgg197
 z53:=Tryz.sizeOf197
 v53:=Tryz.zeroValue197
theorem sk (n:Nat) (h:n<1000000):Fn Tryz.prog 199 [.int .u64 n] (I (Lib.bitLen n)):=by
 refine ⟨⟨Tryz.call199,?_⟩,fun a ha=>by rw [List.mem_singleton.1 ha]; exact Jw _ _⟩
 rintro w S vs hS ⟨hv1,hv2⟩
 have hx:=hv2 0 (by simp)
 have h3:vs.size=1:=hv1
 have e1:vs=#[vs.getD 0 undef]:=by
  apply Array.ext
  ·simp [h3]
  ·intro j g1 g2
   match j,g1 with
   | 0,_=>simp [Array.getD,h3]
   | j+1,g=>omega
 rw [e1]
 generalize vs.getD 0 undef=x at *
 replace hx:Rep (.bare w S) x (.int .u64 n):=hx
 cases hx
 have key:=Any.bits_Len uD (n:Int) w (by omega) (by omega)
 refine key.mono ?_
 rintro e w' ⟨rfl,rfl⟩
 rw [Int.toNat_natCast]
 exact ⟨_,S,rfl,.int _ _,hS,Ext.refl _⟩
theorem sS {P:Program} {fn:Func} {str hcs:List Nat} {b:Nat} {H:List AO} {s:AS} (hr:fn.results=#[]) (hH:s.h=H):RetOk (DL P fn str hcs b (.tup []) H) s :=
 ⟨.tup [],by show Z9 P fn s=_; simp [Z9,hr,J7,Ag],rfl,hH⟩
theorem vd {o0 o1 o2 o3 o4 o5 o6 o7 o8:AO} (h:∀ o∈[o0,o1,o2,o3,o4,o5,o6,o7],o≠.unborn) (h5:o8≠.unborn) (id:Nat):[o0,o1,o2,o3,o4,o5,o6,o7,o8][id]?≠some .unborn:=by
 intro hh
 have:=List.mem_of_getElem? hh
 rw [show [o0,o1,o2,o3,o4,o5,o6,o7,o8]=[o0,o1,o2,o3,o4,o5,o6,o7] ++ [o8] from rfl,List.mem_append,List.mem_singleton] at this
 rcases this with g | g
 ·exact h _ g rfl
 ·exact h5 g.symm
theorem sF (o0 o1 o2 o3 o4 o5 o6 o7:AO) (hu:∀ o∈[o0,o1,o2,o3,o4,o5,o6,o7],o≠.unborn) (v lim:Nat) (L:List V2) (hL:∀ x∈L,vb x≤vm) (hn:L.length≤12) :
  HCall Tryz.prog 198 [.osl 8 v 8 0 L.length,I 0,I L.length,I lim,.fn 135 []] [o0,o1,o2,o3,o4,o5,o6,o7,.row v (L.length*8) (Xs vC 8 v0 L)] (.tup []) [o0,o1,o2,o3,o4,o5,o6,o7,.row v (L.length*8) (Xs vC 8 v0 (Bc L (L.length - 1)))]:=by
 have c:=aX o0 o1 o2 o3 o4 o5 o6 o7 v L hL (by omega)
 refine HCall.intro (fn:=Tryz.f198) Tryz.call198 Tryz.func198 rfl mixed 21 [] [] [4] (by kernel_rfl) (Nat.le_of_ble_eq_true rfl) (Xl ?_)
 simp (disch:=omega) only [AS.start,↓Xu,wG,seval]
 refine Hq ?_
 refine Xl ?_
 simp (disch:=omega) only [↓Xu,wG,seval]
 refine KP rfl c (Zj (id:=8) (o:=.row v (L.length*8) (Xs vC 8 v0 L)) rfl (by simp) (by simp)) (vd hu (by simp)) (XZ _) ?_
 simp (disch:=omega) only [↓Xu,wG,seval]
 exact sS rfl rfl
theorem oX (o0 o1 o2 o3 o4 o5 o6 o7:AO) (hu:∀ o∈[o0,o1,o2,o3,o4,o5,o6,o7],o≠.unborn) (v:Nat) (L:List V2) (hL:∀ x∈L,vb x≤vm) (hn:L.length≤12) :
  HCall Tryz.prog 134 [.osl 8 v 8 0 L.length,.fn 135 []] [o0,o1,o2,o3,o4,o5,o6,o7,.row v (L.length*8) (Xs vC 8 v0 L)] (.tup []) [o0,o1,o2,o3,o4,o5,o6,o7,.row v (L.length*8) (Xs vC 8 v0 (Bc L (L.length - 1)))]:=by
 have c:=sF o0 o1 o2 o3 o4 o5 o6 o7 hu v (Lib.bitLen L.length) L hL hn
 have cl:=sk L.length (by omega)
 have hw:IntKind.u64.wrap (L.length:Int)=L.length:=by rw [IntKind.wrap_u64]; omega
 generalize Lib.bitLen L.length=lim at *
 refine HCall.intro (fn:=Tryz.f134) Tryz.call134 Tryz.func134 rfl mixed 5 [] [] [1] (by kernel_rfl) (Nat.le_of_ble_eq_true rfl) (Xl ?_)
 simp (disch:=omega) only [AS.start,hw,↓Xu,wG,seval]
 refine X0 cl rfl ?_
 simp (disch:=omega) only [↓Xu,wG,seval]
 refine KP rfl c (Zj (id:=8) (o:=.row v (L.length*8) (Xs vC 8 v0 L)) rfl (by simp) (by simp)) (vd hu (by simp)) (XZ _) ?_
 simp (disch:=omega) only [↓Xu,wG,seval]
 exact qq rfl rfl
end
end Go.Ab.N
