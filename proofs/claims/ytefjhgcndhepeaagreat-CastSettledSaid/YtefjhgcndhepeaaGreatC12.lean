/- Contracts of functions of these chapters, for every argument that fits, and what they need. -/
import Derived.Test.YtefjhgcndhepeaaGreatC11
import Derived.Test.YtefjhgcndhepeaaGreatC7
import Derived.Test.YtefjhgcndhepeaaGreatC6
set_option linter.unusedSimpArgs false
set_option linter.unusedVariables false
open Nat renaming reducePow → Y1, reduceLT → Y2, reduceLeDiff → Y3, reduceEqDiff → Y4, reduceAdd → Y5, reduceMul → Y6, reduceSub → Y7, reduceBEq → Y8, reduceDiv → Y9, reduceMod → YA
namespace Go.Ab.N
open Go Go.RowKit Go.Proofs
noncomputable section
set_option maxRecDepth 10000
set_option maxHeartbeats 4000000
open Classical
theorem qS {a b:List (Int×Int)} (ha:QY a) (hb:QY b) (f:FV) (ht:vb f.turn≤60) (k:Nat):vb (Ae a b f k)≤150:=by
 have h1:=KA ha (xK a.length f k)
 have h2:=KA hb ((f.EB+1 - k) % b.length).toNat
 unfold Ae
 have h3:=Dd f.turn (JA (b.getD ((f.EB+1 - k) % b.length).toNat (0,0)))
 have h4:=Kd (JA (a.getD (xK a.length f k) (0,0))) (M0 f.turn (JA (b.getD ((f.EB+1 - k) % b.length).toNat (0,0))))
 omega
theorem IF (a b:PV) (f:FV) (na:QY a.rim) (nb:QY b.rim) (e:Rat) (ht:vb f.turn≤60):vb (XV a.rim b.rim f e).1≤155+qb e∧vb (XV a.rim b.rim f e).2.1≤155+qb e:=by
 have z:=DZ
 have d:=qS na nb f ht
 have h1:vb (BB a.rim b.rim f f.M.toNat)≤150:=Nat.max_le.2 ⟨LJ _ 150 (fun j=>Nat.le_trans (QB _) (d j)) _,LJ _ 150 (fun j=>Nat.le_trans (Qu _) (d j)) _⟩
 have h2:vb (Bz a.rim b.rim f f.M.toNat)≤150:=Nat.max_le.2 ⟨LI _ 150 (fun j=>Nat.le_trans (QB _) (d j)) _,LI _ 150 (fun j=>Nat.le_trans (Qu _) (d j)) _⟩
 have h3:=Kd (BB a.rim b.rim f f.M.toNat) ⟨e,e⟩
 have h4:=Ck (Bz a.rim b.rim f f.M.toNat) ⟨e,e⟩
 have h5:vb ⟨e,e⟩=qb e:=by unfold vb; simp
 unfold XV
 split
 ·simp only
  split
  ·exact ⟨by show vb v0≤_; omega,by show vb v0≤_; omega⟩
  ·exact ⟨by simp only; omega,by simp only; omega⟩
 ·exact ⟨by show vb v0≤_; omega,by show vb v0≤_; omega⟩
theorem Fl {a b:PV} {f:FV} {ta tb:Rat} (ha:GP a ta) (hb:GP b tb) (hf:f.fine):(QU a b f (ta+tb)).fine:=by
 have:=ha.qt; have:=hb.qt
 have qe:=Jx ta tb
 obtain ⟨h1,h2⟩:=IF a b f ha.even.near hb.even.near (ta+tb) hf.turn
 exact ⟨hf.turn,by show vb (XV a.rim b.rim f (ta+tb)).1≤300; omega,by show vb (XV a.rim b.rim f (ta+tb)).2.1≤300; omega⟩
theorem HM (a b:PV) (f:FV) {ta tb:Rat} (ha:GP a ta) (hb:GP b tb) (hf:f.fine) :
  Fn Tryz.prog 36 [Qd a,Qd b,Ke f] (.tup [Ke (JE a b f (ta+tb)).1,I (JE a b f (ta+tb)).2]) ∧
  Fn Tryz.prog 37 [Qd a,Qd b,Ke f] (.tup [Ke (JE a b f (ta+tb)).1,I (JE a b f (ta+tb)).2]):=by
 obtain ⟨s1,s2⟩:=Gm a b f ha hb hf
 have hg:=Fl ha hb hf
 have k1:=GQ a b _ ha hb hg
 have k2:=HD a b _ ha hb hg
 obtain ⟨R,hR⟩:∃ R,R=JE a b f (ta+tb):=⟨_,rfl⟩
 rw [← hR]
 unfold JE at hR
 generalize QU a b f (ta+tb)=G at *
 generalize Kj a b G (ta+tb)=k at *
 constructor
 refine Fq Tryz.call36 Tryz.func36 10 [] [] [] (by simp [Xu,XE]) (X0 1000 ?_)
 rotate_left
 refine Fq Tryz.call37 Tryz.func37 10 [] [] [] (by simp [Xu,XE]) (X0 1000 ?_)
 all_goals
  simp (disch:=omega) only [AS.start,Qd,XD,Ke,Qc,↓Xo,wD,↓X2,wA,seval,wE]
  first | refine X1 s1 rfl ?_ | refine X1 s2 rfl ?_
  simp (disch:=omega) only [Ke,Qc,↓Xo,wD,↓X2,wA,seval,wE]
  first | refine X1 k1 rfl ?_ | refine X1 k2 rfl ?_
  by_cases g3:k=0
  rotate_left
  ·simp (disch:=omega) only [↓Xo,wD,↓X2,wA,seval,wE]
   rw [if_neg g3] at hR
   subst hR
   exact QJ rfl (Xp (L:=De) Ht rfl rfl rfl) (by unfold Qp; rfl) (Xr (XE _) (XP Gx)) ((X8 _).sees _)
  simp (disch:=omega) only [↓Xo,wD,↓X2,wA,seval,wE]
  rw [if_pos g3] at hR
  subst hR
  exact QJ rfl (Xp (L:=Qc G) Ht rfl rfl rfl) (by unfold Qp; rfl) (Qy (XE _) rfl) ((X8 _).sees _)
theorem tO (f g:FV):f=g↔(f.A=g.A∧f.B=g.B∧f.EA=g.EA∧f.EB=g.EB∧f.M=g.M)∧f.turn=g.turn∧f.lo=g.lo∧f.hi=g.hi:=by
 obtain ⟨a,b,c,d,e,t,l,h⟩:=f
 obtain ⟨a',b',c',d',e',t',l',h'⟩:=g
 simp [and_assoc]
theorem vT {V:Bool} {P:Prop} (h:V=true↔P) (p:P):true=V:=(h.2 p).symm
theorem vN {V:Bool} {P:Prop} (h:V=true↔P) (p:¬ P):false=V:=by
 cases V with
 | true=>exact absurd (h.1 rfl) p
 | false=>rfl
theorem vI {V:Bool} {P Q:Prop} [Decidable Q] (h:V=true↔P) (e:P↔Q):decide Q=V:=by
 by_cases q:Q
 ·rw [decide_eq_true q]; exact vT h (e.2 q)
 ·rw [decide_eq_false q]; exact vN h fun p=>q (e.1 p)
def Ak (t u:V2):Prop:=t.x<u.x∨(t.x=u.x∧t.y<u.y)
theorem iM (a b:Rat):XX a b=0↔a=b:=by
 have h1:=Bh a b; have h2:=G5 a b
 exact ⟨fun h=>Rat.le_antisymm (h1.1 (by omega)) (h2.1 (by omega)),fun h=>by subst h; have:=h1.2 Rat.le_refl; have:=h2.2 Rat.le_refl; omega⟩
def S8 (n m:Nat) (f g:FV):Prop:=f.M<g.M∧(f.EA - g.EA) % n+f.M≤g.M∧(g.EB - (f.EA - g.EA) % n) % m=f.EB∧f.turn=g.turn
structure FV.near (f:FV):Prop where
 ea:-1000000≤f.EA∧f.EA≤1000000
 eb:-1000000≤f.EB∧f.EB≤1000000
 m:-1000000≤f.M∧f.M≤1000000
def Bb (t:V2):V2:=⟨-t.y,t.x⟩
def Ku:Nat→V2→V2
 | 0,t=>t
 | i+1,t=>Bb (Ku i t)
theorem jB (t:V2):vb (Bb t)=vb t:=by unfold vb Bb; simp only [BH]; exact Nat.max_comm _ _
theorem Hc (t:V2):∀ i,vb (Ku i t)=vb t
 | 0=>rfl
 | i+1=>(jB _).trans (Hc t i)
def MN (t:V2):List V2→List V2
 | []=>[t]
 | x :: l=>if Ak t x then t :: x :: l else x :: MN t l
def dK (t:V2) (l:List V2):List V2:=if t∈l then l else MN t l
def Z1 (a b:PV) (f:FV):Nat→List V2
 | 0=>[]
 | k+1=>if (Ex a b f k).2=true then dK (Ex a b f k).1 (Z1 a b f k) else Z1 a b f k
theorem Lq (t x:V2):∀ l,x∈MN t l↔x=t∨x∈l
 | []=>by simp [MN]
 | y :: l=>by
  have ih:=Lq t x l
  unfold MN
  split
  ·simp
  ·rw [List.mem_cons,ih,List.mem_cons]
   constructor
   ·rintro (h | h | h)
    ·exact .inr (.inl h)
    ·exact .inl h
    ·exact .inr (.inr h)
   ·rintro (h | h | h)
    ·exact .inr (.inl h)
    ·exact .inl h
    ·exact .inr (.inr h)
theorem Ry (t:V2):∀ l,(MN t l).length=l.length+1
 | []=>rfl
 | y :: l=>by
  have ih:=Ry t l
  unfold MN
  split
  ·simp
  ·simp [ih]
theorem dM (t x:V2) (l:List V2):x∈dK t l↔x=t∨x∈l:=by
 unfold dK
 split
 ·rename_i h
  exact ⟨fun hx=>.inr hx,fun hx=>by rcases hx with rfl | hx; exact h; exact hx⟩
 ·exact Lq t x l
theorem BP (a b:PV) (f:FV) (t:V2):∀ n,t∈Z1 a b f n↔∃ k,k<n∧(Ex a b f k).2=true∧(Ex a b f k).1=t
 | 0=>by simp [Z1]
 | n+1=>by
  have ih:=BP a b f t n
  unfold Z1
  split
  ·rename_i h
   rw [dM,ih]
   constructor
   ·rintro (h1 | ⟨k,h1,h2⟩)
    ·exact ⟨n,by omega,h,h1.symm⟩
    ·exact ⟨k,by omega,h2⟩
   ·rintro ⟨k,h1,h2,h3⟩
    by_cases hk:k=n
    ·subst hk; exact .inl h3.symm
    ·exact .inr ⟨k,by omega,h2,h3⟩
  ·rename_i h
   rw [ih]
   constructor
   ·rintro ⟨k,h1,h2⟩; exact ⟨k,by omega,h2⟩
   ·rintro ⟨k,h1,h2,h3⟩
    by_cases hk:k=n
    ·subst hk; exact absurd h2 h
    ·exact ⟨k,by omega,h2,h3⟩
theorem Fr (a b:PV) (f:FV):∀ n,(Z1 a b f n).length≤n
 | 0=>Nat.le_refl _
 | n+1=>by
  have ih:=Fr a b f n
  unfold Z1 dK
  split
  ·split
   ·omega
   ·rw [Ry]; omega
  ·omega
theorem Gr (a b:PV) (f:FV) (ha:QY a.rim) (hb:QY b.rim) (n:Nat):∀ t∈Z1 a b f n,vb t≤26:=fun t ht=>by
 obtain ⟨k,_,_,h⟩:=(BP a b f t n).1 ht
 rw [← h]; exact CI ha hb _ _
def Rl (l:List FV):AV:=sd Qc 29 fv0 l
theorem QG (l:List FV):Rl l=.sl l.length (l.length*29) (Xw Qc 29 fv0 l) false:=nrfl rfl
theorem KV (l:List FV):Settled (Rl l):=J0 fun j _=>Xd (Qj _) _
def JY (i j k:Nat) (t:V2):FV:=⟨0,1,i,j,k,t,v0,v0⟩
def Lh (a b:PV) (e:Rat) (i j k:Nat) (t:V2):Bool:=(XV a.rim b.rim (JY i j k t) e).2.2 && ZY a b (QU a b (JY i j k t) e) e
def Cq (a b:PV) (e:Rat) (i j k:Nat) (L:List V2):List FV:=(L.filter (Lh a b e i j k)).map fun t=>QU a b (JY i j k t) e
def EH (a b:PV) (e:Rat) (i j k:Nat):List FV:=if G1 a b (JY i j k v0) then Cq a b e i j k (Z1 a b (JY i j k v0) k) else []
def Ag (a b:PV) (e:Rat) (i j:Nat):Nat→List FV
 | 0=>[]
 | k+1=>Ag a b e i j k ++ EH a b e i j (k+1)
def ZH (a b:PV) (e:Rat) (i:Nat):Nat→List FV
 | 0=>[]
 | j+1=>ZH a b e i j ++ Ag a b e i j (min a.rim.length b.rim.length - 1)
def Zn (a b:PV) (e:Rat):Nat→List FV
 | 0=>[]
 | i+1=>Zn a b e i ++ ZH a b e i b.rim.length
def Dk (a b:PV) (e:Rat):List FV:=Zn a b e a.rim.length
theorem Uj (a b:PV) (e:Rat) (i j k:Nat) (L:List V2) (n:Nat) (h:n<L.length):Cq a b e i j k (L.take (n+1))=Cq a b e i j k (L.take n) ++ (if Lh a b e i j k (L.getD n v0)=true then [QU a b (JY i j k (L.getD n v0)) e] else []):=by
 unfold Cq
 rw [Qq L v0 n h,List.filter_append,List.map_append]
 congr 1
 by_cases hq:Lh a b e i j k (L.getD n v0)=true
 ·rw [if_pos hq,List.filter_cons_of_pos hq]; rfl
 ·rw [if_neg hq,List.filter_cons_of_neg hq]; rfl
theorem Nf (a b:PV) (e:Rat) (i j k:Nat) (L:List V2):(Cq a b e i j k L).length≤L.length:=by
 unfold Cq; rw [List.length_map]; exact List.length_filter_le _ _
theorem rJ {l:List AV} (h:∀ x∈l,x.one=true):∀ j,j<l.length→(l.getD j .any).one=true:=fun j hj=>by
 rw [List.getD_eq_getElem?_getD,List.getElem?_eq_getElem hj]; exact h _ (List.getElem_mem _)
theorem VK (f:FV):∀ j,j<29→((Qc f).getD j .any).one=true:=rJ (l:=Qc f) (by simp [Qc,AV.one,X4,I])
theorem mV {P:Program} {fn:Func} {str hcs:List Nat} {s:AS} {t id ver:Nat} (L:List FV) (hr:fn.results=#[.tmp t]) (hs:s.get t=.osl id ver 29 0 L.length) (ho:s.h[id]?=some (.row ver (L.length*29) (Xw Qc 29 fv0 L))):RetOk (Qt P fn str hcs (Rl L)) s:=by
 refine At hr ?_
 rw [hs,QG]
 refine Qz (.inl ho) (by omega) (fun h=>by rw [h]) fun j hj=>?_
 rw [Nat.zero_add]
 exact (Xd (Qj _) _).sees _
theorem SR {m:Nat} {s:AS} (id:Nat) {ver n:Nat} {l:List AV} (l':List AV) (ho:s.h[id]?=some (.row ver n (Xq l))) (hn:n=l.length) (h:WeakL l l'):Sub m s { s with h:=s.h.set id (.row ver n (Xq l')) } :=
 Zv id (Xq l') ho fun j hj c v _ _ hv=>(WeakL.spec h).2 j (by omega) v hv
theorem ck (i j k:Nat):WeakL ([I 0,I 1,I i,I j,I k] ++ (Zd ++ (Zd ++ Zd))) (Qc (JY i j k v0)):=by
 obtain ⟨w1,w2,w3,w4,w5,w6,w7,w8,_⟩:=Zb
 exact ⟨Weak.rfl' _,Weak.rfl' _,Weak.rfl' _,Weak.rfl' _,Weak.rfl' _,w1,w2,w3,w4,w5,w6,w7,w8,w1,w2,w3,w4,w5,w6,w7,w8,w1,w2,w3,w4,w5,w6,w7,w8,trivial⟩
def Nd (a b:PV) (e:Rat) (f:FV) (i j k:Nat) (t:V2):Prop:=k≠0∧k<a.rim.length∧k<b.rim.length∧G1 a b (JY i j k v0)∧t∈Z1 a b (JY i j k v0) k∧Lh a b e i j k t=true∧f=QU a b (JY i j k t) e
theorem ag (a b:PV) (e:Rat) (i j k:Nat) (L:List V2) (f:FV):f∈Cq a b e i j k L↔∃ t,t∈L∧Lh a b e i j k t=true∧f=QU a b (JY i j k t) e:=by
 unfold Cq
 rw [List.mem_map]
 constructor
 ·rintro ⟨t,h,rfl⟩
  rw [List.mem_filter] at h
  exact ⟨t,h.1,h.2,rfl⟩
 ·rintro ⟨t,h1,h2,rfl⟩
  exact ⟨t,List.mem_filter.2 ⟨h1,h2⟩,rfl⟩
theorem Ns (a b:PV) (e:Rat) (i j:Nat) (f:FV):∀ n,n<a.rim.length→n<b.rim.length→(f∈Ag a b e i j n↔∃ k t,k≤n∧Nd a b e f i j k t)
 | 0,_,_=>by simp [Ag,Nd]
 | n+1,h1,h2=>by
  have ih:=Ns a b e i j f n (by omega) (by omega)
  unfold Ag
  rw [List.mem_append,ih]
  have hk:f∈EH a b e i j (n+1)↔∃ t,Nd a b e f i j (n+1) t:=by
   unfold EH
   by_cases hp:G1 a b (JY i j (n+1) v0)
   ·rw [if_pos hp,ag]
    exact ⟨fun ⟨t,q1,q2,q3⟩=>⟨t,by omega,h1,h2,hp,q1,q2,q3⟩,fun ⟨t,_,_,_,_,q1,q2,q3⟩=>⟨t,q1,q2,q3⟩⟩
   ·rw [if_neg hp]
    exact ⟨fun h=>absurd h List.not_mem_nil,fun ⟨t,_,_,_,q,_⟩=>absurd q hp⟩
  rw [hk]
  constructor
  ·rintro (⟨k,t,q1,q2⟩ | ⟨t,q⟩)
   ·exact ⟨k,t,by omega,q2⟩
   ·exact ⟨n+1,t,Nat.le_refl _,q⟩
  ·rintro ⟨k,t,q1,q2⟩
   by_cases hk:k=n+1
   ·subst hk; exact .inr ⟨t,q2⟩
   ·exact .inl ⟨k,t,by omega,q2⟩
theorem Nr (a b:PV) (e:Rat) (i:Nat) (f:FV) (ha:0<a.rim.length) (hb:0<b.rim.length):∀ n,f∈ZH a b e i n↔∃ j k t,j<n∧Nd a b e f i j k t
 | 0=>by simp [ZH]
 | n+1=>by
  have ih:=Nr a b e i f ha hb n
  unfold ZH
  rw [List.mem_append,ih,Ns a b e i n f _ (by omega) (by omega)]
  constructor
  ·rintro (⟨j,k,t,q1,q2⟩ | ⟨k,t,q1,q2⟩)
   ·exact ⟨j,k,t,by omega,q2⟩
   ·exact ⟨n,k,t,by omega,q2⟩
  ·rintro ⟨j,k,t,q1,q2⟩
   by_cases hj:j=n
   ·subst hj; exact .inr ⟨k,t,by have:=q2.2.1; have:=q2.2.2.1; omega,q2⟩
   ·exact .inl ⟨j,k,t,by omega,q2⟩
theorem Nq (a b:PV) (e:Rat) (f:FV) (ha:0<a.rim.length) (hb:0<b.rim.length):∀ n,f∈Zn a b e n↔∃ i j k t,i<n∧j<b.rim.length∧Nd a b e f i j k t
 | 0=>by simp [Zn]
 | n+1=>by
  have ih:=Nq a b e f ha hb n
  unfold Zn
  rw [List.mem_append,ih,Nr a b e n f ha hb]
  constructor
  ·rintro (⟨i,j,k,t,q1,q2⟩ | ⟨j,k,t,q1,q2⟩)
   ·exact ⟨i,j,k,t,by omega,q2⟩
   ·exact ⟨n,j,k,t,by omega,q1,q2⟩
  ·rintro ⟨i,j,k,t,q1,q2,q3⟩
   by_cases hi:i=n
   ·subst hi; exact .inr ⟨j,k,t,q2,q3⟩
   ·exact .inl ⟨i,j,k,t,by omega,q2,q3⟩
theorem IH (a b:PV) (e:Rat) (f:FV) (ha:0<a.rim.length) (hb:0<b.rim.length):f∈Dk a b e↔∃ i j k t,i<a.rim.length∧j<b.rim.length∧Nd a b e f i j k t:=Nq a b e f ha hb _
def Rv (n m:Nat) (W:List FV) (f:FV):Bool:=W.any fun g=>decide (S8 n m f g)
def Re (a b:PV) (e:Rat):List FV:=(Dk a b e).filter fun f=>!Rv a.rim.length b.rim.length (Dk a b e) f
theorem fF (l:List FV) (i:Nat):∀ j,j<29→Xw Qc 29 fv0 l (i*29+j)=(Qc (l.getD i fv0)).getD j .any:=fun j hj=>JR _ _ _ _ _ _ hj
theorem um (l:List FV) (i:Nat):Xw Qc 29 fv0 l (i*29)=(Qc (l.getD i fv0)).getD 0 .any:=K6 _ _ _ _ _ (by omega)
theorem ac (n m:Nat) (W:List FV) (i:Nat) (h:i<W.length):(W.take (i+1)).filter (fun f=>!Rv n m W f)=(W.take i).filter (fun f=>!Rv n m W f) ++ (if Rv n m W (W.getD i fv0)=true then [] else [W.getD i fv0]):=by
 rw [Qq W fv0 i h,List.filter_append]
 congr 1
 cases hq:Rv n m W (W.getD i fv0) with
 | true=>rw [if_pos rfl,List.filter_cons_of_neg (by rw [hq]; decide)]; rfl
 | false=>rw [if_neg (by decide),List.filter_cons_of_pos (by rw [hq]; rfl)]; rfl
theorem Pl (a b:PV) (e:Rat) (ha:a.rim.length≤12) (hb:b.rim.length≤12) (h1:0<a.rim.length) (h2:0<b.rim.length):(Dk a b e).length≤24000:=by
 have hk:∀ i j n,n≤12→(Ag a b e i j n).length≤12*n:=fun i j n=>by
  induction n with
  | zero=>intro _; simp [Ag]
  | succ n ih =>
   intro hn
   have h3:=ih (by omega)
   unfold Ag
   rw [List.length_append]
   have:(EH a b e i j (n+1)).length≤n+1:=by
    unfold EH
    split
    ·exact Nat.le_trans (Nf ..) (Fr ..)
    ·simp
   omega
 have hj:∀ i n,(ZH a b e i n).length≤144*n:=fun i n=>by
  induction n with
  | zero=>simp [ZH]
  | succ n ih =>
   unfold ZH
   rw [List.length_append]
   have:=hk i n (min a.rim.length b.rim.length - 1) (by omega)
   omega
 have hi:∀ n,(Zn a b e n).length≤1728*n:=fun n=>by
  induction n with
  | zero=>simp [Zn]
  | succ n ih =>
   unfold Zn
   rw [List.length_append]
   have:=hj n b.rim.length
   omega
 have:=hi a.rim.length
 unfold Dk; omega
theorem Rg {a b:PV} {ta tb:Rat} (ha:GP a ta) (hb:GP b tb) {f:FV} (h:f∈Dk a b (ta+tb)):f.near∧vb f.turn≤26∧vb f.lo≤200∧vb f.hi≤200:=by
 have la:=(KR _ ha.poly).1
 have lb:=(KR _ hb.poly).1
 have ea:(XB a.rim).length=a.rim.length:=by simp [XB]
 have eb:(XB b.rim).length=b.rim.length:=by simp [XB]
 rw [ea] at la
 rw [eb] at lb
 have qa:=ha.qt; have q2:=hb.qt
 have qe:=Jx ta tb
 obtain ⟨i,j,k,t,h1,h2,_,h3,h4,_,h5,_,rfl⟩:=(IH a b (ta+tb) f (by omega) (by omega)).1 h
 have ht:=Gr a b (JY i j k v0) ha.even.near hb.even.near k t h5
 obtain ⟨m1,m2⟩:=IF a b (JY i j k t) ha.even.near hb.even.near (ta+tb) (by show vb t≤60; omega)
 exact ⟨⟨⟨by show (-1000000:Int)≤(i:Int); omega,by show (i:Int)≤1000000; omega⟩,⟨by show (-1000000:Int)≤(j:Int); omega,by show (j:Int)≤1000000; omega⟩,by show (-1000000:Int)≤(k:Int); omega,by show (k:Int)≤1000000; omega⟩,ht,by show vb (XV a.rim b.rim (JY i j k t) (ta+tb)).1≤200; omega,by show vb (XV a.rim b.rim (JY i j k t) (ta+tb)).2.1≤200; omega⟩
def Z0:Nat→Int×Int→Int×Int
 | 0,p=>p
 | i+1,p=>(-(Z0 i p).2,(Z0 i p).1)
theorem Gq (p:Int×Int) (c:Int) (h1:-c≤p.1∧p.1≤c) (h2:-c≤p.2∧p.2≤c):∀ i,(-c≤(Z0 i p).1∧(Z0 i p).1≤c)∧(-c≤(Z0 i p).2∧(Z0 i p).2≤c)
 | 0=>⟨h1,h2⟩
 | i+1=>by
  have ih:=Gq p c h1 h2 i
  unfold Z0
  simp only
  omega
theorem bQ (p:Int×Int) (q:Nat) (h1:-1000≤p.1∧p.1≤1000) (h2:-1000≤p.2∧p.2≤1000) (hq:q≤4):Fn Tryz.prog 101 [.agg (KJ p),I q] (.agg (KJ (Z0 q p))):=by
 obtain ⟨R,hR⟩:∃ R,R=AV.agg (KJ (Z0 q p)):=⟨_,rfl⟩
 have sR:Settled R:=hR▸Q6 (Kp _)
 rw [← hR]
 refine Fq Tryz.call101 Tryz.func101 6 [] [] [] (by simp [X8,Q6 (Kp p)]) (X0 1000 ?_)
 simp (disch:=omega) only [AS.start,KJ,↓Xo,wD,↓X2,wA,seval,wE]
 refine Xe (fun i:Nat=>⟨6,[],[.any,I q,.ref 0 0 0,.any,.ref 1 0 0,I i],[],[.row 0 2 (Xq (KJ (Z0 i p))),.row 0 2 (Xq [I 0,I 0])]⟩) (fun i=>i≤q) (fun i=>q - i) 0 (by omega)
  (Xa rfl (by simp [Xh,I]) (by simp [Xi]) rfl) ?_
 intro i hi next
 have hb:=Gq p 1000 h1 h2 i
 by_cases hi2:i<q
 ·refine X0 1000 ?_
  simp (disch:=omega) only [KJ,↓Xo,wD,↓X2,wA,seval,wE]
  exact next (i+1) _ (by omega) (by omega) (Xa rfl (by simp [Xh,I]) (by simp [Xi]) (by simp [KJ,Z0,I]))
 ·obtain rfl:i=q:=by omega
  refine X0 1000 ?_
  simp (disch:=omega) only [KJ,↓Xo,wD,↓X2,wA,seval,wE]
  exact Zg rfl gP rfl rfl rfl sR (hR.trans rfl)
theorem Mg (l:List (Int×Int)) (hn:QY l) (hl:l.length<1000000):Fn Tryz.prog 100 [BT l] (.bool (decide (XN (XB l)))):=by
 have hrl:(XB l).length=l.length:=by simp [XB]
 have cv:=Gc (XB l) (fun i=>Nat.le_trans (Eo hn i) (by omega)) (by omega)
 refine Fq Tryz.call100 Tryz.func100 5 [] [5] [] (by simp [Qw]) (X0 1000 ?_)
 simp (disch:=omega) only [AS.start,Xg,↓Xo,wD,↓X2,wA,seval,wE]
 refine Xe (fun k:Nat=>⟨5,[],[BT l,.any,.any,.osl 0 k 8 0 k,I k],[],[.row k (k*8) (Xw vC 8 v0 (XB (l.take k)))]⟩) (fun k=>k≤l.length) (fun k=>l.length - k) 0 (by omega)
  (Sub.trans (Qg 3 8 (Xw vC 8 v0 []) rfl) (Xa rfl (by simp [AS.put,Xh,Xg,I]) (by simp [AS.put,Xi]) (by simp [AS.put,XB]))) ?_
 intro k hk next
 by_cases hk2:k<l.length
 rotate_left
 ·obtain rfl:k=l.length:=by omega
  rw [List.take_length]
  refine X0 1000 ?_
  simp (disch:=omega) only [Xg,↓Xo,wD,↓X2,wA,seval,wE]
  refine JI cv rfl ⟨?_,trivial⟩ (An _) ?_
  ·show JS _ (.osl 0 l.length 8 0 l.length) (Xt (XB l))
   rw [X5,hrl]
   refine Qz (.inl rfl) (by omega) (fun h=>by rw [h]) fun j hj=>?_
   rw [Nat.zero_add]
   exact (Xd (l:=vC ((XB l).getD (j / 8) v0)) (by simp [vC,X7,X3]) _).sees _
  simp (disch:=omega) only [↓Xo,wD,↓X2,wA,seval,wE]
  exact Xs rfl rfl (X3 _) rfl
 have hc:=DI hn k
 have c1:=As (l.getD k (0,0)).1 (l.getD k (0,0)).2 ⟨by omega,by omega⟩ ⟨by omega,by omega⟩
 have p1:Xw KJ 2 (0,0) l (k*2)=I (l.getD k (0,0)).1:=K6 _ _ _ _ _ (by omega)
 have p2:Xw KJ 2 (0,0) l (k*2+1)=I (l.getD k (0,0)).2:=JR _ _ _ _ _ _ (by omega)
 have hap:=Q0 vC 8 v0 (XB (l.take k)) (JA (l.getD k (0,0))) (by omega)
 have htk:XB (l.take k) ++ [JA (l.getD k (0,0))]=XB (l.take (k+1)):=by unfold XB; rw [Qq l (0,0) k hk2,List.map_append]; rfl
 have hkl:(XB (l.take k)).length=k:=by simp [XB]; omega
 rw [htk,hkl] at hap
 have hpv:(⟨((l.getD k (0,0)).1:Rat),((l.getD k (0,0)).2:Rat)⟩:V2)=JA (l.getD k (0,0)):=rfl
 rw [hpv] at c1
 refine X0 1000 ?_
 simp (disch:=omega) only [Xg,p1,p2,↓Xo,wD,↓X2,wA,seval,wE]
 refine X1 c1 rfl ?_
 simp (disch:=omega) only [↓Xo,wD,↓X2,wA,seval,wE]
 exact ⟨BQ _,next (k+1) _ (by omega) (by omega) (Xa rfl (by simp [Xh,Xg,I]) (by simp [Xi]) (by rw [← hap]; rfl))⟩
def Mm (l:List Int) (at' k:Nat):Bool:=decide (Ab.atF l (at'+2+k:Nat) 16=15)
def F9 (l:List Int) (at' k:Nat):Int:=if 11<Ab.atF l (at'+2+k:Nat) 16 then Ab.atF l (at'+2+k:Nat) 16 - 11 else 0
def Zo (rim:List (Int×Int)) (l:List Int) (at':Nat):PV:=⟨Ab.atF l at' 900,Ab.atF l at' 5,rim,(List.range rim.length).map (Mm l at'),(List.range rim.length).map (F9 l at'),
 RQ.of (Rat.divInt (Ab.atF l (at'+1:Nat) 3) 4),RQ.of (Rat.divInt 1 1),RQ.of (Rat.divInt (1+Ab.atF l at' 3) 1),RQ.of (Rat.divInt 100 1),RQ.of (Rat.divInt 1 2)⟩
theorem SQ {m:Nat} {s:AS} (id i:Nat) (b:AV) {ver n:Nat} {f:Nat→AV} (ho:s.h[id]?=some (.row ver n f)) (h:ZR s.h (f i) b):Sub m s { s with h:=s.h.set id (.row ver n (CF f i b)) } :=
 Zv id (CF f i b) ho fun j hj=>by
  unfold CF
  by_cases e:j=i
  ·rw [if_pos e,e]; exact h
  ·rw [if_neg e]; exact J1 _ _
def Ja:List AV:=[I 0,I 0,.sl 0 0 (fun _=>.any) true,.sl 0 0 (fun _=>.any) true,.sl 0 0 (fun _=>.any) true,.bool false,.sl 0 0 (fun _=>.any) true,.bool false,.sl 0 0 (fun _=>.any) true,.bool false,.sl 0 0 (fun _=>.any) true,.bool false,.sl 0 0 (fun _=>.any) true,
 .bool false,.sl 0 0 (fun _=>.any) true,.bool false,.sl 0 0 (fun _=>.any) true,.bool false,.sl 0 0 (fun _=>.any) true,.bool false,.sl 0 0 (fun _=>.any) true,.bool false,.sl 0 0 (fun _=>.any) true,.bool false,.sl 0 0 (fun _=>.any) true]
def FN (id home:Int) (rim:List (Int×Int)) (k:Nat) (t u h s r:Rat):List AV:=[I id,I home,BT rim,.osl 2 k 1 0 k,.osl 3 k 1 0 k] ++ (qC t ++ (qC u ++ (qC h ++ (qC s ++ qC r))))
theorem Lv {α:Type} (f:Nat→α) (k:Nat):(List.range (k+1)).map f=(List.range k).map f ++ [f k]:=by rw [List.range_succ,List.map_append]; rfl
theorem VR (rim:List (Int×Int)) (l:List Int) (at':Nat) (hr:rim.length<1000) (hl:Fy l) (ha:at'<1000):Fn Tryz.prog 102 [BT rim,X9 l,I at'] (Qd (Zo rim l at')):=by
 obtain ⟨V,hV⟩:∃ V,V=Qd (Zo rim l at'):=⟨_,rfl⟩
 rw [← hV]
 have c1:=JO l at' 900 hl (by omega)
 have c2:=JO l at' 5 hl (by omega)
 have c3:=JO l (at'+1:Nat) 3 hl (by omega)
 have c4:=JO l at' 3 hl (by omega)
 have b3:=Q1 l (at'+1:Nat) 3 (by omega)
 have b4:=Q1 l at' 3 (by omega)
 have q1:=Jr (Ab.atF l (at'+1:Nat) 3) 4 ⟨by omega,by omega⟩ ⟨by omega,by omega⟩
 have q2:=Jr 1 1 ⟨by omega,by omega⟩ ⟨by omega,by omega⟩
 have q3:=Jr (1+Ab.atF l at' 3) 1 ⟨by omega,by omega⟩ ⟨by omega,by omega⟩
 have q4:=Jr 100 1 ⟨by omega,by omega⟩ ⟨by omega,by omega⟩
 have q5:=Jr 1 2 ⟨by omega,by omega⟩ ⟨by omega,by omega⟩
 unfold Zo at hV
 generalize Rat.divInt (Ab.atF l (at'+1:Nat) 3) 4=t at *
 generalize Rat.divInt 1 1=u at *
 generalize Rat.divInt (1+Ab.atF l at' 3) 1=h at *
 generalize Rat.divInt 100 1=s at *
 generalize Rat.divInt 1 2=r at *
 generalize Ab.atF l at' 900=id at *
 generalize Ab.atF l at' 5=home at *
 rw [Int.natCast_add] at c3
 refine Fq Tryz.call102 Tryz.func102 11 [] [1] [] (by simp [X8,Qw,X7]) (X0 1000 ?_)
 simp (disch:=omega) only [AS.start,Xg,↓Xo,wD,↓X2,wA,seval,wE]
 refine X1 c1 rfl ?_
 simp (disch:=omega) only [↓Xo,wD,↓X2,wA,seval,wE]
 refine X1 c2 rfl ?_
 simp (disch:=omega) only [↓Xo,wD,↓X2,wA,seval,wE]
 refine X1 c3 rfl ?_
 simp (disch:=omega) only [↓Xo,wD,↓X2,wA,seval,wE]
 refine X1 q1 rfl ?_
 simp (disch:=omega) only [↓Xo,wD,↓X2,wA,seval,wE]
 refine X1 q2 rfl ?_
 simp (disch:=omega) only [↓Xo,wD,↓X2,wA,seval,wE]
 refine X1 c4 rfl ?_
 simp (disch:=omega) only [↓Xo,wD,↓X2,wA,seval,wE]
 refine X1 q3 rfl ?_
 simp (disch:=omega) only [↓Xo,wD,↓X2,wA,seval,wE]
 refine X1 q4 rfl ?_
 simp (disch:=omega) only [↓Xo,wD,↓X2,wA,seval,wE]
 refine X1 q5 rfl ?_
 simp (disch:=omega) only [↓Xo,wD,↓X2,wA,seval,wE]
 refine Xe (fun k:Nat=>⟨11,[],[BT rim,X9 l,I at',.any,.any,.any,.ref 0 0 0,.ref 1 0 0,I k,.any,.any],[],[.row 0 25 (Xq Ja),.row 0 25 (Xq (FN id home rim k t u h s r)),.row k k (Q4 AV.bool false ((List.range k).map (Mm l at'))),.row k k (Q4 I 0 ((List.range k).map (F9 l at')))]⟩) (fun k=>k≤rim.length) (fun k=>rim.length - k) 0 (by omega)
  (Sub.trans (Ix (Q4 AV.bool false [])) (Sub.trans (Ix (Q4 I 0 [])) (Sub.trans (SQ 1 3 (.osl 2 0 1 0 0) rfl (Bi rfl)) (Sub.trans (SQ 1 4 (.osl 3 0 1 0 0) rfl (Bi rfl)) (Xa rfl (by simp [Xh,Xg,X4,I]) (by simp [Xi]) (by simp [Ja,FN,qC,P6,Xg,X4,I,sg])))))) ?_
 intro k hk next
 by_cases hk2:k<rim.length
 rotate_left
 ·obtain rfl:k=rim.length:=by omega
  refine X0 1000 ?_
  simp (disch:=omega) only [Ja,FN,qC,Xg,X4,↓Xo,wD,↓X2,wA,seval,wE]
  subst hV
  refine Ge (L:=FN id home rim rim.length t u h s r) rfl Np rfl rfl rfl ?_
  have h2:∀ H:List AO,H[2]?=some (.row rim.length rim.length (Q4 AV.bool false ((List.range rim.length).map (Mm l at'))))→JS H (.osl 2 rim.length 1 0 rim.length) (JG ((List.range rim.length).map (Mm l at'))):=fun H ho=>by
   rw [Xn,List.length_map,List.length_range]
   refine Qz (.inl ho) (by omega) (fun h=>h) fun j hj=>?_
   rw [Nat.zero_add]
   exact (X3 _).sees _
  have h3:∀ H:List AO,H[3]?=some (.row rim.length rim.length (Q4 I 0 ((List.range rim.length).map (F9 l at'))))→JS H (.osl 3 rim.length 1 0 rim.length) (X9 ((List.range rim.length).map (F9 l at'))):=fun H ho=>by
   rw [X4,List.length_map,List.length_range]
   refine Qz (.inl ho) (by omega) (fun h=>h) fun j hj=>?_
   rw [Nat.zero_add]
   exact (X8 _).sees _
  exact A7 ⟨(X8 _).sees _,(X8 _).sees _,(Qw _).sees _,h2 _ rfl,h3 _ rfl,(X3 _).sees _,(X7 _).sees _,(X3 _).sees _,(X7 _).sees _,(X3 _).sees _,(X7 _).sees _,(X3 _).sees _,(X7 _).sees _,(X3 _).sees _,(X7 _).sees _,(X3 _).sees _,(X7 _).sees _,(X3 _).sees _,(X7 _).sees _,(X3 _).sees _,(X7 _).sees _,(X3 _).sees _,(X7 _).sees _,(X3 _).sees _,(X7 _).sees _,trivial⟩
 have c5:=JO l (at'+2+k:Nat) 16 hl (by omega)
 have b5:=Q1 l (at'+2+k:Nat) 16 (by omega)
 have nx:=next (k+1)
 rw [Lv,Lv] at nx
 have e1:Mm l at' k=decide (Ab.atF l (at'+2+k:Nat) 16=15):=rfl
 have e2:F9 l at' k=if 11<Ab.atF l (at'+2+k:Nat) 16 then Ab.atF l (at'+2+k:Nat) 16 - 11 else 0:=rfl
 rw [e1,e2] at nx
 generalize Ab.atF l (at'+2+k:Nat) 16=n at *
 rw [show ((at'+2+k:Nat):Int)=(at':Int)+2+k by omega] at c5
 have hW:((List.range k).map (Mm l at')).length=k:=by simp
 have hM:((List.range k).map (F9 l at')).length=k:=by simp
 generalize (List.range k).map (Mm l at')=W at *
 generalize (List.range k).map (F9 l at')=M at *
 have hap1:=IL AV.bool false W (decide (n=15))
 rw [hW,Nat.mul_one] at hap1
 refine X0 1000 ?_
 simp (disch:=omega) only [FN,qC,Xg,X4,List.cons_append,List.nil_append,↓Xo,wD,↓X2,wA,seval,wE]
 refine X1 c5 rfl ?_
 by_cases hn:11<n
 ·have hap2:=CJ M (n - 11)
  rw [if_pos hn] at nx
  rw [hM] at hap2
  simp (disch:=omega) only [FN,qC,Xg,X4,List.cons_append,List.nil_append,↓Xo,wD,↓X2,wA,seval,wE]
  exact nx _ (by omega) (by omega) (Xa rfl (by simp [Xh,Xg,X4,I]) (by simp [Xi]) (by rw [← hap1,← hap2]; simp [Ja,FN,qC,Xg,X4,I,sg]))
 ·have hap2:=CJ M 0
  rw [if_neg hn] at nx
  rw [hM] at hap2
  simp (disch:=omega) only [FN,qC,Xg,X4,List.cons_append,List.nil_append,↓Xo,wD,↓X2,wA,seval,wE]
  exact nx _ (by omega) (by omega) (Xa rfl (by simp [Xh,Xg,X4,I]) (by simp [Xi]) (by rw [← hap1,← hap2]; simp [Ja,FN,qC,Xg,X4,I,sg,show ¬ n=15 by omega]))
structure Iso (g h:V2→V2):Prop where
 sub:∀ a b,(g a).sub (g b)=h (a.sub b)
 cr:∀ u v,Qv (h u) (h v)=Qv u v
 dt:∀ u v,Q9 (h u) (h v)=Q9 u v
 tn:∀ u,(h u).turned=h u.turned
theorem kZ (g:V2→V2) (L:List V2) (h:0<L.length) (i:Nat):atF (L.map g) i=g (atF L i):=by
 unfold atF
 have hlt:=Nat.mod_lt i h
 rw [List.length_map,List.getD_eq_getElem?_getD,List.getElem?_map,List.getD_eq_getElem?_getD,List.getElem?_eq_getElem hlt]; rfl
theorem gO {g h:V2→V2} (I:Iso g h) (a b c:V2):Jj (g a) (g b) (g c)=Jj a b c:=by unfold Jj; rw [I.sub,I.sub,I.cr]
theorem VB (n a b:V2):Q9 n a - Q9 n b=Q9 n (a.sub b):=by unfold Q9 V2.sub; grind
theorem rq {g h:V2→V2} (I:Iso g h) (n a b:V2):(Q9 (h n) (g a)<Q9 (h n) (g b))↔(Q9 n a<Q9 n b):=by
 have e1:=VB (h n) (g a) (g b)
 have e2:=VB n a b
 rw [I.sub,I.dt] at e1
 constructor <;> intro hh <;> grind
theorem RF {g h:V2→V2} (I:Iso g h) (n a b c d:V2):Kh (h n) (g a) (g b) (g c) (g d)=Kh n a b c d:=by
 unfold Kh Hv
 simp only [rq I]
theorem gN {g h:V2→V2} (I:Iso g h) (a b c d:V2) (i:Nat):Dm (g a) (g b) (g c) (g d) i=h (Dm a b c d i):=by
 unfold Dm
 split <;> simp only [I.sub,I.tn]
theorem RG {g h:V2→V2} (I:Iso g h) (L:List V2) (hp:XN L) (ha:Zj (L.map g)=Zj L):XN (L.map g):=by
 obtain ⟨h1,h2,h3⟩:=hp
 have hl:0<L.length:=by omega
 have hat:=kZ g L hl
 refine ⟨by rw [List.length_map]; exact h1,fun i hi=>?_,by rw [ha]; exact h3⟩
 rw [List.length_map] at hi
 obtain ⟨k1,k2⟩:=h2 i hi
 refine ⟨fun hb=>k1 ?_,fun k hk hg=>k2 k (by rw [List.length_map] at hk; exact hk) ?_⟩
 ·unfold CK at hb ⊢
  rw [hat,hat,hat,gO I] at hb
  exact hb
 ·obtain ⟨q1,q2,q3⟩:=hg
  rw [List.length_map] at q1 q2
  refine ⟨q1,q2,fun j hj=>?_⟩
  have:=q3 j hj
  rw [hat,hat,hat,hat,gN I,RF I] at this
  exact this
theorem quart_iso:Iso Bb Bb:=⟨fun a b=>by unfold Bb V2.sub; rw [V2.ext']; exact ⟨by simp only; grind,rfl⟩,fun u v=>by unfold Bb Qv; grind,fun u v=>by unfold Bb Q9; grind,fun u=>by unfold Bb V2.turned; rfl⟩
theorem kP (t:V2):Iso (fun a=>a.add t) id:=⟨fun a b=>by unfold V2.add V2.sub; rw [V2.ext']; exact ⟨by simp only [id]; grind,by simp only [id]; grind⟩,fun _ _=>rfl,fun _ _=>rfl,fun _=>rfl⟩
theorem FO (g:V2→V2) (L:List V2) (i:Nat) (h:i<L.length):(L.map g).getD i v0=g (L.getD i v0):=by
 rw [List.getD_eq_getElem?_getD,List.getElem?_map,List.getD_eq_getElem?_getD,List.getElem?_eq_getElem h]; rfl
theorem TM (L:List V2) (h:0<L.length):Zj (L.map Bb)=Zj L:=by
 have key:∀ n,n≤L.length→KH (L.map Bb) n=KH L n:=fun n=>by
  induction n with
  | zero=>intro _; rfl
  | succ n ih =>
   intro hn
   unfold KH
   rw [ih (by omega),List.length_map,FO _ _ _ (by omega),FO _ _ _ (Nat.mod_lt _ h),quart_iso.cr]
 unfold Zj
 rw [List.length_map,key _ (Nat.le_refl _)]
theorem ek (t:V2) (L:List V2) (h:0<L.length):Zj (L.map fun a=>a.add t)=Zj L:=by
 have key:∀ n,n≤L.length→KH (L.map fun a=>a.add t) n=KH L n+Qv t ((L.getD (n % L.length) v0).sub (L.getD 0 v0)):=fun n=>by
  induction n with
  | zero=>intro _; rw [Nat.zero_mod]; unfold KH Qv V2.sub; grind
  | succ n ih =>
   intro hn
   have hm:n % L.length=n:=Nat.mod_eq_of_lt (by omega)
   unfold KH
   rw [ih (by omega),List.length_map,FO _ _ _ (by omega),FO _ _ _ (Nat.mod_lt _ h),hm]
   generalize L.getD n v0=p
   generalize L.getD ((n+1) % L.length) v0=q
   generalize L.getD 0 v0=o
   unfold Qv V2.sub V2.add
   grind
 unfold Zj
 rw [List.length_map,key _ (Nat.le_refl _),Nat.mod_self]
 have:Qv t ((L.getD 0 v0).sub (L.getD 0 v0))=0:=by unfold Qv V2.sub; grind
 rw [this,Rat.add_zero]
theorem Hz (L:List V2) (hp:XN L):∀ q,XN (L.map (Ku q))
 | 0=>by
  have:L.map (Ku 0)=L:=by
   have e:Ku 0=id:=rfl
   rw [e,List.map_id]
  rw [this]; exact hp
 | q+1=>by
  have ih:=Hz L hp q
  have e:L.map (Ku (q+1))=(L.map (Ku q)).map Bb:=by rw [List.map_map]; rfl
  rw [e]
  exact RG quart_iso _ ih (TM _ (by have:=ih.1; omega))
theorem iG (t:V2) (L:List V2) (hp:XN L):XN (L.map fun a=>a.add t):=RG (kP t) L hp (ek t L (by have:=hp.1; omega))
def rE (q:Nat) (d p:Int×Int):Int×Int:=((Z0 q p).1+d.1,(Z0 q p).2+d.2)
theorem iI (q:Nat) (p:Int×Int):JA (Z0 q p)=Ku q (JA p):=by
 induction q with
 | zero=>rfl
 | succ q ih =>
  show (⟨((-(Z0 q p).2:Int):Rat),((Z0 q p).1:Rat)⟩:V2)=Bb (Ku q (JA p))
  rw [← ih]
  unfold JA Bb
  rw [V2.ext']
  exact ⟨by simp,rfl⟩
theorem nF (R:List (Int×Int)) (q:Nat) (d:Int×Int) (h:XN (XB R)):XN (XB (R.map (rE q d))):=by
 have h1:=iG (JA d) _ (Hz _ h q)
 have e:XB (R.map (rE q d))=((XB R).map (Ku q)).map fun a=>a.add (JA d):=by
  unfold XB
  rw [List.map_map,List.map_map,List.map_map]
  refine List.map_congr_left fun p _=>?_
  show JA (rE q d p)=(Ku q (JA p)).add (JA d)
  rw [← iI]
  unfold rE JA V2.add
  rw [V2.ext']
  exact ⟨by simp,by simp⟩
 rw [e]; exact h1
end
end Go.Ab.N
namespace Go.Ab.N
open Go Go.RowKit Go.Proofs
noncomputable section
set_option maxRecDepth 10000
set_option maxHeartbeats 4000000
def tP (L:List V2) (i k:Nat):Bool:=decide (1<(k+L.length - i) % L.length) && decide ((k+L.length - i) % L.length<L.length - 1) &&
 (List.range 5).all fun j=>!Kh (Dm (atF L i) (atF L (i+1)) (atF L k) (atF L (k+1)) j) (atF L i) (atF L (i+1)) (atF L k) (atF L (k+1))
def G9 (L:List V2):Bool:=decide (3≤L.length) && decide (L.length≤12) && ((List.range L.length).all fun i=>!decide (Jj (atF L i) (atF L (i+1)) (atF L (i+2))=0) && (List.range L.length).all fun k=>!tP L i k) && decide (0<(Zj L).num.sign)
theorem HE (L:List V2) (h:G9 L=true):XN L:=by
 unfold G9 at h
 simp only [Bool.and_eq_true,decide_eq_true_eq,List.all_eq_true,List.mem_range,Bool.not_eq_true',decide_eq_false_iff_not] at h
 obtain ⟨⟨⟨h1,h2⟩,h3⟩,h4⟩:=h
 refine ⟨⟨h1,h2⟩,fun i hi=>⟨(h3 i hi).1,fun k hk hg=>?_⟩,h4⟩
 have:=(h3 i hi).2 k hk
 obtain ⟨q1,q2,q3⟩:=hg
 unfold tP at this
 rw [decide_eq_true q1,decide_eq_true q2,Bool.true_and,Bool.true_and] at this
 rw [List.all_eq_true.2] at this
 ·cases this
 ·intro j hj
  rw [q3 j (List.mem_range.1 hj)]; rfl
def iO (x y h:Int):List (Int×Int):=[(0,0),(x,0),(y,h),(0,h)]
def iQ (w x y h:Int):List (Int×Int):=[(x,0),(w,0),(w,h),(y,h)]
theorem nI:((List.range 4).all fun h=>(List.range 6).all fun x=>(List.range 6).all fun y=>G9 (XB (iO (1+x) (1+y) (3+h))))=true:=by decide +kernel
theorem nJ:((List.range 4).all fun w=>(List.range 4).all fun h=>(List.range 6).all fun x=>(List.range 6).all fun y=>!(decide (x<w+3) && decide (y<w+3)) || G9 (XB (iQ (4+w) (1+x) (1+y) (3+h))))=true:=by decide +kernel
theorem iP (x y h:Int) (hx:1≤x∧x≤6) (hy:1≤y∧y≤6) (hh:3≤h∧h≤6):XN (XB (iO x y h)):=by
 have h1:=nI
 simp only [List.all_eq_true,List.mem_range] at h1
 have h2:=h1 (h - 3).toNat (by omega) (x - 1).toNat (by omega) (y - 1).toNat (by omega)
 rw [show (1:Int)+((x - 1).toNat:Nat)=x by omega,show (1:Int)+((y - 1).toNat:Nat)=y by omega,show (3:Int)+((h - 3).toNat:Nat)=h by omega] at h2
 exact HE _ h2
theorem iR (w x y h:Int) (hw:4≤w∧w≤7) (hx:1≤x∧x<w) (hy:1≤y∧y<w) (hh:3≤h∧h≤6):XN (XB (iQ w x y h)):=by
 have h1:=nJ
 simp only [List.all_eq_true,List.mem_range] at h1
 have h2:=h1 (w - 4).toNat (by omega) (h - 3).toNat (by omega) (x - 1).toNat (by omega) (y - 1).toNat (by omega)
 rw [show (4:Int)+((w - 4).toNat:Nat)=w by omega,show (1:Int)+((x - 1).toNat:Nat)=x by omega,show (1:Int)+((y - 1).toNat:Nat)=y by omega,show (3:Int)+((h - 3).toNat:Nat)=h by omega] at h2
 rw [Bool.or_eq_true] at h2
 rcases h2 with h2 | h2
 ·rw [decide_eq_true (show (x - 1).toNat<(w - 4).toNat+3 by omega),decide_eq_true (show (y - 1).toNat<(w - 4).toNat+3 by omega)] at h2
  cases h2
 ·exact HE _ h2
end
end Go.Ab.N
namespace Go.Ab.N
open Go Go.RowKit Go.Proofs
noncomputable section
set_option maxRecDepth 10000
set_option maxHeartbeats 4000000
open Classical
def PV.alike (p q:PV):Prop:=p.rim=q.rim∧p.worn=q.worn∧p.marks=q.marks
theorem lS (a b:PV) (f:FV) (e:Rat):Kj a b f e=0↔Db a.rim.length b.rim.length f∧G1 a b f∧MD a b f∧((XV a.rim b.rim f e).2.2=true∧(XV a.rim b.rim f e).1=f.lo∧(XV a.rim b.rim f e).2.1=f.hi)∧ZY a b f e=true:=by
 unfold Kj
 by_cases h1:Db a.rim.length b.rim.length f
 rotate_left
 ·rw [if_neg h1]; exact ⟨fun h=>absurd h (by decide),fun h=>absurd h.1 h1⟩
 rw [if_pos h1]
 by_cases h2:G1 a b f
 rotate_left
 ·rw [if_neg h2]; exact ⟨fun h=>absurd h (by decide),fun h=>absurd h.2.1 h2⟩
 rw [if_pos h2]
 by_cases h3:MD a b f
 rotate_left
 ·rw [if_neg h3]; exact ⟨fun h=>absurd h (by decide),fun h=>absurd h.2.2.1 h3⟩
 rw [if_pos h3]
 by_cases h4:(XV a.rim b.rim f e).2.2=true∧(XV a.rim b.rim f e).1=f.lo∧(XV a.rim b.rim f e).2.1=f.hi
 rotate_left
 ·rw [if_neg h4]; exact ⟨fun h=>absurd h (by decide),fun h=>absurd h.2.2.2.1 h4⟩
 rw [if_pos h4]
 by_cases h5:ZY a b f e=true
 ·rw [if_pos h5]; exact ⟨fun _=>⟨h1,h2,h3,h4,h5⟩,fun _=>rfl⟩
 ·rw [if_neg h5]; exact ⟨fun h=>absurd h (by decide),fun h=>absurd h.2.2.2.2 h5⟩
theorem PL {a b:PV} {e:Rat} {f:FV} (h:f∈Dk a b e) (ha:0<a.rim.length) (hb:0<b.rim.length):Kj a b f e=0:=by
 obtain ⟨i,j,k,t,hi,hj,k0,kn,km,hp,ht,ho,rfl⟩:=(IH a b e f ha hb).1 h
 unfold Lh at ho
 rw [Bool.and_eq_true] at ho
 obtain ⟨o1,o2⟩:=ho
 rw [BP] at ht
 obtain ⟨k',q1,q2,q3⟩:=ht
 rw [lS]
 refine ⟨?_,hp,⟨k',?_,q2,q3⟩,⟨o1,rfl,rfl⟩,o2⟩
 ·show (0≤(i:Int)∧(i:Int)<a.rim.length)∧(0≤(j:Int)∧(j:Int)<b.rim.length)∧1≤(k:Int)∧(k:Int)<a.rim.length∧(k:Int)<b.rim.length
  omega
 ·show k'<((k:Nat):Int).toNat
  omega
theorem gU {a b ca cb:PV} {f:FV} {ta tb sa sb:Rat} (h:Kj a b f (ta+tb)=0) (h1:a=Ba a ca∧ta≤sa) (h2:b=Ba b cb∧tb≤sb):DG a b f ca cb ta tb sa sb=(QU ca cb f (sa+sb),0):=by
 unfold DG; rw [if_pos ⟨h1,h2⟩,if_pos h]
theorem Rj (f g:FV) (hf:f.fine) (hg:g.fine):Fn Tryz.prog 32 [Ke f,Ke g] (.bool (decide (f=g))):=by
 obtain ⟨V,hV⟩:∃ V,V=decide (f=g):=⟨_,rfl⟩
 rw [← hV]
 rw [decide_eq_decide.2 (tO f g)] at hV
 have fin:∀ {s:AS} {v:Bool},s.get 4=.bool v→v=V→RetOk (Qt Tryz.prog Tryz.f32 [] [] (.bool V)) s:=fun h e=>Xs rfl h (X3 _) (by rw [e])
 obtain ⟨f1,f2,f3⟩:=hf
 obtain ⟨g1,g2,g3⟩:=hg
 have c1:=AQ f.turn g.turn (by unfold vm; omega) (by unfold vm; omega)
 have c2:=Iq f.lo g.lo (by unfold vm; omega) (by unfold vm; omega)
 have c3:=Iq f.hi g.hi (by unfold vm; omega) (by unfold vm; omega)
 refine Fq Tryz.call32 Tryz.func32 5 [] [] [] (by simp [XE]) (X0 1000 ?_)
 by_cases h:f.A=g.A∧f.B=g.B∧f.EA=g.EA∧f.EB=g.EB∧f.M=g.M
 rotate_left
 ·have hv:false=V:=by rw [hV]; exact (decide_eq_false fun hh=>h hh.1).symm
  rcases (show f.A≠g.A∨(f.A=g.A∧f.B≠g.B)∨(f.A=g.A∧f.B=g.B∧f.EA≠g.EA)∨(f.A=g.A∧f.B=g.B∧f.EA=g.EA∧f.EB≠g.EB)∨(f.A=g.A∧f.B=g.B∧f.EA=g.EA∧f.EB=g.EB∧f.M≠g.M) by omega) with q | ⟨q1,q⟩ | ⟨q1,q2,q⟩ | ⟨q1,q2,q3,q⟩ | ⟨q1,q2,q3,q4,q⟩
  ·simp only [AS.start,Ke,Qc,eq_false q,↓X2,wA,seval,wE]
   exact fin rfl hv
  ·simp only [AS.start,Ke,Qc,eq_true q1,eq_false q,↓X2,wA,seval,wE]
   exact fin rfl hv
  ·simp only [AS.start,Ke,Qc,eq_true q1,eq_true q2,eq_false q,↓X2,wA,seval,wE]
   exact fin rfl hv
  ·simp only [AS.start,Ke,Qc,eq_true q1,eq_true q2,eq_true q3,eq_false q,↓X2,wA,seval,wE]
   exact fin rfl hv
  ·simp only [AS.start,Ke,Qc,eq_true q1,eq_true q2,eq_true q3,eq_true q4,eq_false q,↓X2,wA,seval,wE]
   exact fin rfl hv
 have e:V=decide (f.turn=g.turn∧f.lo=g.lo∧f.hi=g.hi):=by rw [hV]; exact decide_eq_decide.2 ⟨fun hh=>hh.2,fun hh=>⟨h,hh⟩⟩
 clear hV
 simp (disch:=omega) only [AS.start,Ke,Qc,↓Xo,wD,↓X2,wA,seval,wE]
 refine X1 c1 rfl ?_
 by_cases n1:f.turn=g.turn
 rotate_left
 ·simp (disch:=omega) only [decide_eq_false n1,↓Xo,wD,↓X2,wA,seval,wE]
  exact fin rfl (by rw [e]; exact (decide_eq_false fun hh=>n1 hh.1).symm)
 simp (disch:=omega) only [decide_eq_true n1,↓Xo,wD,↓X2,wA,seval,wE]
 refine X1 c2 rfl ?_
 by_cases n2:f.lo=g.lo
 rotate_left
 ·simp (disch:=omega) only [decide_eq_false n2,↓Xo,wD,↓X2,wA,seval,wE]
  exact fin rfl (by rw [e]; exact (decide_eq_false fun hh=>n2 hh.2.1).symm)
 simp (disch:=omega) only [decide_eq_true n2,↓Xo,wD,↓X2,wA,seval,wE]
 refine X1 c3 rfl ?_
 simp (disch:=omega) only [↓Xo,wD,↓X2,wA,seval,wE]
 exact fin rfl (by rw [e]; exact decide_eq_decide.2 ⟨fun hh=>⟨n1,n2,hh⟩,fun hh=>hh.2.2⟩)
theorem PI {p:PV} (hp:p.small) (id home:Int) {a q:Rat} (ha:qb a≤10000) (hq:qb q≤10000):(Ad p id home (a+q)).small:=by
 have h1:=RQ.of_sz (a+q)
 have h2:=Jx a q
 exact ⟨hp.rim,hp.worn,hp.marks,by show (RQ.of (a+q)).sz≤_; omega,hp.light,hp.heavy,hp.strength,hp.rough⟩
theorem GP.cast {p:PV} {t:Rat} (h:GP p t) (q:Rat) (hq:qb (t+q)≤20) (i o:Int):GP (Ad p i o (t+q)) (t+q):=⟨⟨h.even.rim,h.even.worn,h.even.marks,h.even.near⟩,h.poly,rfl,hq⟩
theorem PH (p:PV) (i o:Int) (t:Rat):(Ad p i o t).alike p:=⟨rfl,rfl,rfl⟩
def I7 (n:Int):Rat:=Rat.divInt (Jh n 6) 4
theorem HS (n:Int):0≤I7 n:=by
 have h:=AD n 6 (by omega)
 unfold I7
 generalize Jh n 6=k at *
 rcases (show k=0∨k=1∨k=2∨k=3∨k=4∨k=5 by omega) with rfl | rfl | rfl | rfl | rfl | rfl <;> decide +kernel
theorem V0 (n:Int):qb (I7 n)≤3:=by
 have h:=AD n 6 (by omega)
 exact CZ _ _ ⟨by omega,by omega⟩ ⟨by omega,by omega⟩
theorem N1 {p:PV} {t:Rat} (h:GP p t) (hs:p.small) (hq:qb t≤12) (n:Int) (hn:Zz n) :
  Fn Tryz.prog 23 [Qd p,I n] (Qd (EF p t n))∧GP (EF p t n) (t+I7 n)∧(EF p t n).small∧(EF p t n).alike p∧Ba p (EF p t n)=p∧qb (t+I7 n)≤qb t+4:=by
 have h3:=V0 n
 have h4:=Jx t (I7 n)
 refine ⟨YD p n hn h.tol (by omega),h.cast _ (show qb (t+I7 n)≤20 by omega) _ _,PI hs _ _ (by omega) (show qb (I7 n)≤10000 by omega),PH _ _ _ _,?_,by omega⟩
 unfold Ba EF Ad
 have:=h.tol
 cases p; rfl
theorem VS (R:List (Int×Int)) (l:List Int) (p:Nat) (hn:QY R) (hp:XN (XB R)):GP (Zo R l p) (Rat.divInt (Ab.atF l (p+1:Nat) 3) 4)∧(Zo R l p).small∧qb (Rat.divInt (Ab.atF l (p+1:Nat) 3) 4)≤3:=by
 have b1:=Q1 l (p+1:Nat) 3 (by omega)
 have b2:=Q1 l p 3 (by omega)
 have q:=CZ (Ab.atF l (p+1:Nat) 3) 4 ⟨by omega,by omega⟩ ⟨by omega,by omega⟩
 have hl:R.length≤12:=by have:=hp.1; simp [XB] at this; omega
 have z:=fun (n m:Int) (h1:Zz n) (h2:Zz m)=>DV n m h1 h2
 refine ⟨⟨⟨by show R.length<_; omega,by simp [Zo],by simp [Zo],hn⟩,hp,rfl,by omega⟩,⟨by show R.length<_; omega,by simp [Zo]; omega,by simp [Zo]; omega,?_,?_,?_,?_,?_⟩,q⟩
 ·exact Nat.le_trans (z (Ab.atF l (p+1:Nat) 3) 4 ⟨by omega,by omega⟩ ⟨by omega,by omega⟩) (by omega)
 ·exact Nat.le_trans (z 1 1 ⟨by omega,by omega⟩ ⟨by omega,by omega⟩) (by omega)
 ·exact Nat.le_trans (z (1+Ab.atF l p 3) 1 ⟨by omega,by omega⟩ ⟨by omega,by omega⟩) (by omega)
 ·exact Nat.le_trans (z 100 1 ⟨by omega,by omega⟩ ⟨by omega,by omega⟩) (by omega)
 ·exact Nat.le_trans (z 1 2 ⟨by omega,by omega⟩ ⟨by omega,by omega⟩) (by omega)
theorem Rk:fv0.fine:=by
 have:=DZ
 exact ⟨by show vb v0≤_; omega,by show vb v0≤_; omega,by show vb v0≤_; omega⟩
theorem SB {a b:PV} {f:FV} {ta tb:Rat} (ha:GP a ta) (hb:GP b tb) (hf:f.fine):(JE a b f (ta+tb)).1.fine:=by
 unfold JE
 split
 ·exact Fl ha hb hf
 ·exact Rk
end
end Go.Ab.N
