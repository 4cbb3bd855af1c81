/- Contracts of functions of these chapters, for every argument that fits, and what they need. -/
import Derived.Test.YtefjhgcndhepeaaGreatC11
import Derived.Test.YtefjhgcndhepeaaGreatC7
import Derived.Test.YtefjhgcndhepeaaGreatC6
set_option linter.unusedSimpArgs false
set_option linter.unusedVariables false
open Nat renaming reducePow → Y1, reduceLT → Y2, reduceLeDiff → Y3, reduceEqDiff → Y4, reduceAdd → Y5, reduceMul → Y6, reduceSub → Y7, reduceBEq → Y8, reduceDiv → Y9, reduceMod → YA
namespace Go.Ab.N
open Go Go.RowKit Go.Proofs
noncomputable section
set_option maxRecDepth 10000
set_option maxHeartbeats 4000000
open Classical
theorem rj {a b:List (Int×Int)} (ha:J0 a) (hb:J0 b) (f:FV) (ht:vb f.turn≤60) (k:Nat):vb (Ae a b f k)≤150:=by
 have h1:=KB ha (xK a.length f k)
 have h2:=KB hb ((f.EB+1 - k) % b.length).toNat
 unfold Ae
 have h3:=Dl f.turn (JB (b.getD ((f.EB+1 - k) % b.length).toNat (0,0)))
 have h4:=Kd (JB (a.getD (xK a.length f k) (0,0))) (M5 f.turn (JB (b.getD ((f.EB+1 - k) % b.length).toNat (0,0))))
 omega
theorem IL (a b:PV) (f:FV) (na:J0 a.rim) (nb:J0 b.rim) (e:Rat) (ht:vb f.turn≤60):vb (XJ a.rim b.rim f e).1≤155+qb e∧vb (XJ a.rim b.rim f e).2.1≤155+qb e:=by
 have z:=F1
 have d:=rj na nb f ht
 have h1:vb (AL a.rim b.rim f f.M.toNat)≤150:=Nat.max_le.2 ⟨LR _ 150 (fun j=>Nat.le_trans (Qw _) (d j)) _,LR _ 150 (fun j=>Nat.le_trans (Qq _) (d j)) _⟩
 have h2:vb (AK a.rim b.rim f f.M.toNat)≤150:=Nat.max_le.2 ⟨LQ _ 150 (fun j=>Nat.le_trans (Qw _) (d j)) _,LQ _ 150 (fun j=>Nat.le_trans (Qq _) (d j)) _⟩
 have h3:=Kd (AL a.rim b.rim f f.M.toNat) ⟨e,e⟩
 have h4:=Bc (AK a.rim b.rim f f.M.toNat) ⟨e,e⟩
 have h5:vb ⟨e,e⟩=qb e:=by unfold vb; simp
 unfold XJ
 split
 ·simp only
  split
  ·exact ⟨by show vb v0≤_; omega,by show vb v0≤_; omega⟩
  ·exact ⟨by simp only; omega,by simp only; omega⟩
 ·exact ⟨by show vb v0≤_; omega,by show vb v0≤_; omega⟩
theorem V7 {a b:PV} {f:FV} {ta tb:Rat} (ha:GP a ta) (hb:GP b tb) (hf:f.fine):(Ql a b f (ta+tb)).fine:=by
 have:=ha.qt; have:=hb.qt
 have qe:=Jy ta tb
 obtain ⟨h1,h2⟩:=IL a b f ha.even.near hb.even.near (ta+tb) hf.turn
 exact ⟨hf.turn,by show vb (XJ a.rim b.rim f (ta+tb)).1≤300; omega,by show vb (XJ a.rim b.rim f (ta+tb)).2.1≤300; omega⟩
theorem ug (f g:FV):f=g↔(f.A=g.A∧f.B=g.B∧f.EA=g.EA∧f.EB=g.EB∧f.M=g.M)∧f.turn=g.turn∧f.lo=g.lo∧f.hi=g.hi:=by
 obtain ⟨a,b,c,d,e,t,l,h⟩:=f
 obtain ⟨a',b',c',d',e',t',l',h'⟩:=g
 simp [and_assoc]
theorem UQ (f g:FV) (hf:f.fine) (hg:g.fine):Fn Tryz.prog 35 [Ke f,Ke g] (.bool (decide (f=g))):=by
 obtain ⟨V,hV⟩:∃ V,V=decide (f=g):=⟨_,rfl⟩
 rw [← hV]
 rw [decide_eq_decide.2 (ug f g)] at hV
 have fin:∀ {s:AS} {v:Bool},s.get 4=.bool v→v=V→RetOk (Qr Tryz.prog Tryz.f35 [] [] (.bool V)) s:=fun h e=>Xr rfl h (X3 _) (by rw [e])
 obtain ⟨f1,f2,f3⟩:=hf
 obtain ⟨g1,g2,g3⟩:=hg
 have c1:=BM f.turn g.turn (by unfold vm; omega) (by unfold vm; omega)
 have c2:=Db f.lo g.lo (by unfold vm; omega) (by unfold vm; omega)
 have c3:=Db f.hi g.hi (by unfold vm; omega) (by unfold vm; omega)
 refine Fq Tryz.call35 Tryz.func35 5 [] [] [] (by simp [XK]) (X0 1000 ?_)
 by_cases h:f.A=g.A∧f.B=g.B∧f.EA=g.EA∧f.EB=g.EB∧f.M=g.M
 rotate_left
 ·have hv:false=V:=by rw [hV]; exact (decide_eq_false fun hh=>h hh.1).symm
  rcases (show f.A≠g.A∨(f.A=g.A∧f.B≠g.B)∨(f.A=g.A∧f.B=g.B∧f.EA≠g.EA)∨(f.A=g.A∧f.B=g.B∧f.EA=g.EA∧f.EB≠g.EB)∨(f.A=g.A∧f.B=g.B∧f.EA=g.EA∧f.EB=g.EB∧f.M≠g.M) by omega) with q | ⟨q1,q⟩ | ⟨q1,q2,q⟩ | ⟨q1,q2,q3,q⟩ | ⟨q1,q2,q3,q4,q⟩
  ·simp only [AS.start,Ke,Q8,eq_false q,↓X2,wA,seval,wE]
   exact fin rfl hv
  ·simp only [AS.start,Ke,Q8,eq_true q1,eq_false q,↓X2,wA,seval,wE]
   exact fin rfl hv
  ·simp only [AS.start,Ke,Q8,eq_true q1,eq_true q2,eq_false q,↓X2,wA,seval,wE]
   exact fin rfl hv
  ·simp only [AS.start,Ke,Q8,eq_true q1,eq_true q2,eq_true q3,eq_false q,↓X2,wA,seval,wE]
   exact fin rfl hv
  ·simp only [AS.start,Ke,Q8,eq_true q1,eq_true q2,eq_true q3,eq_true q4,eq_false q,↓X2,wA,seval,wE]
   exact fin rfl hv
 have e:V=decide (f.turn=g.turn∧f.lo=g.lo∧f.hi=g.hi):=by rw [hV]; exact decide_eq_decide.2 ⟨fun hh=>hh.2,fun hh=>⟨h,hh⟩⟩
 clear hV
 simp (disch:=omega) only [AS.start,Ke,Q8,↓Xo,wD,↓X2,wA,seval,wE]
 refine X1 c1 rfl ?_
 by_cases n1:f.turn=g.turn
 rotate_left
 ·simp (disch:=omega) only [decide_eq_false n1,↓Xo,wD,↓X2,wA,seval,wE]
  exact fin rfl (by rw [e]; exact (decide_eq_false fun hh=>n1 hh.1).symm)
 simp (disch:=omega) only [decide_eq_true n1,↓Xo,wD,↓X2,wA,seval,wE]
 refine X1 c2 rfl ?_
 by_cases n2:f.lo=g.lo
 rotate_left
 ·simp (disch:=omega) only [decide_eq_false n2,↓Xo,wD,↓X2,wA,seval,wE]
  exact fin rfl (by rw [e]; exact (decide_eq_false fun hh=>n2 hh.2.1).symm)
 simp (disch:=omega) only [decide_eq_true n2,↓Xo,wD,↓X2,wA,seval,wE]
 refine X1 c3 rfl ?_
 simp (disch:=omega) only [↓Xo,wD,↓X2,wA,seval,wE]
 exact fin rfl (by rw [e]; exact decide_eq_decide.2 ⟨fun hh=>⟨n1,n2,hh⟩,fun hh=>hh.2.2⟩)
theorem vT {V:Bool} {P:Prop} (h:V=true↔P) (p:P):true=V:=(h.2 p).symm
theorem vN {V:Bool} {P:Prop} (h:V=true↔P) (p:¬ P):false=V:=by
 cases V with
 | true=>exact absurd (h.1 rfl) p
 | false=>rfl
theorem vI {V:Bool} {P Q:Prop} [Decidable Q] (h:V=true↔P) (e:P↔Q):decide Q=V:=by
 by_cases q:Q
 ·rw [decide_eq_true q]; exact vT h (e.2 q)
 ·rw [decide_eq_false q]; exact vN h fun p=>q (e.1 p)
def Am (t u:V2):Prop:=t.x<u.x∨(t.x=u.x∧t.y<u.y)
theorem ja (a b:Rat):XV a b=0↔a=b:=by
 have h1:=A4 a b; have h2:=D8 a b
 exact ⟨fun h=>Rat.le_antisymm (h1.1 (by omega)) (h2.1 (by omega)),fun h=>by subst h; have:=h1.2 Rat.le_refl; have:=h2.2 Rat.le_refl; omega⟩
def Ah (n m:Nat) (f g:FV):Prop:=f.M<g.M∧(f.EA - g.EA) % n+f.M≤g.M∧(g.EB - (f.EA - g.EA) % n) % m=f.EB∧f.turn=g.turn
structure FV.near (f:FV):Prop where
 ea:-1000000≤f.EA∧f.EA≤1000000
 eb:-1000000≤f.EB∧f.EB≤1000000
 m:-1000000≤f.M∧f.M≤1000000
theorem nT (a b:PV) (f g:FV) (ha:0<a.rim.length∧a.rim.length<1000000) (hb:0<b.rim.length∧b.rim.length<1000000) (nf:f.near) (ng:g.near) (hf:vb f.turn≤vm) (hg:vb g.turn≤vm) :
  Fn Tryz.prog 53 [Qf a,Qf b,Ke f,Ke g] (.bool (decide (Ah a.rim.length b.rim.length f g))):=by
 obtain ⟨V,hV⟩:∃ V,V=decide (Ah a.rim.length b.rim.length f g):=⟨_,rfl⟩
 rw [← hV]
 replace hV:=(Bool.eq_iff_iff.1 hV).trans decide_eq_true_iff
 have fin:∀ {s:AS} {v:Bool},s.get 8=.bool v→v=V→RetOk (Qr Tryz.prog Tryz.f53 [2,30000005,30000006,30000007] [] (.bool V)) s:=fun h e=>Xr rfl h (X3 _) (by rw [e])
 obtain ⟨f1,f2,f3⟩:=nf
 obtain ⟨g1,g2,g3⟩:=ng
 have d0:=Int.emod_nonneg (f.EA - g.EA) (show (a.rim.length:Int)≠0 by omega)
 have d1:=Int.emod_lt_of_pos (f.EA - g.EA) (show (0:Int)<a.rim.length by omega)
 have c1:=QS (f.EA - g.EA) a.rim.length ha.1 (by omega) (by omega)
 have c2:=QS (g.EB - (f.EA - g.EA) % a.rim.length) b.rim.length hb.1 (by omega) (by omega)
 have c3:=BM f.turn g.turn hf hg
 unfold Ah at hV
 generalize (f.EA - g.EA) % (a.rim.length:Int)=d at *
 generalize (g.EB - d) % (b.rim.length:Int)=r at *
 refine Fq Tryz.call53 Tryz.func53 10 [] [2,30000005,30000006,30000007] [] (by simp [Xu,XK]) (X0 1000 ?_)
 simp (disch:=omega) only [AS.start,Qf,XD,Ke,Q8,↓Xo,wD,↓X2,wA,seval,wE]
 refine X1 c1 rfl ?_
 by_cases h1:f.M<g.M
 rotate_left
 ·simp (disch:=omega) only [↓Xo,wD,↓X2,wA,seval,wE]
  exact fin rfl (vN hV (fun hh=>h1 hh.1))
 by_cases h2:d+f.M≤g.M
 rotate_left
 ·simp (disch:=omega) only [↓Xo,wD,↓X2,wA,seval,wE]
  exact fin rfl (vN hV (fun hh=>h2 hh.2.1))
 simp (disch:=omega) only [↓Xo,wD,↓X2,wA,seval,wE]
 refine X1 c2 rfl ?_
 by_cases h3:r=f.EB
 rotate_left
 ·simp (disch:=omega) only [↓Xo,wD,↓X2,wA,seval,wE]
  exact fin rfl (vN hV (fun hh=>h3 hh.2.2.1))
 simp (disch:=omega) only [↓Xo,wD,↓X2,wA,seval,wE]
 refine X1 c3 rfl ?_
 simp (disch:=omega) only [↓Xo,wD,↓X2,wA,seval,wE]
 exact fin rfl (vI hV ⟨fun hh=>hh.2.2.2,fun hh=>⟨h1,h2,h3,hh⟩⟩)
def Bg (t:V2):V2:=⟨-t.y,t.x⟩
def Ku:Nat→V2→V2
 | 0,t=>t
 | i+1,t=>Bg (Ku i t)
theorem jS (t:V2):vb (Bg t)=vb t:=by unfold vb Bg; simp only [BK]; exact Nat.max_comm _ _
theorem Hl (t:V2):∀ i,vb (Ku i t)=vb t
 | 0=>rfl
 | i+1=>(jS _).trans (Hl t i)
def MT (t:V2):List V2→List V2
 | []=>[t]
 | x :: l=>if Am t x then t :: x :: l else x :: MT t l
def dZ (t:V2) (l:List V2):List V2:=if t∈l then l else MT t l
def Z0 (a b:PV) (f:FV):Nat→List V2
 | 0=>[]
 | k+1=>if (EI a b f k).2=true then dZ (EI a b f k).1 (Z0 a b f k) else Z0 a b f k
theorem Lx (t x:V2):∀ l,x∈MT t l↔x=t∨x∈l
 | []=>by simp [MT]
 | y :: l=>by
  have ih:=Lx t x l
  unfold MT
  split
  ·simp
  ·rw [List.mem_cons,ih,List.mem_cons]
   constructor
   ·rintro (h | h | h)
    ·exact .inr (.inl h)
    ·exact .inl h
    ·exact .inr (.inr h)
   ·rintro (h | h | h)
    ·exact .inr (.inl h)
    ·exact .inl h
    ·exact .inr (.inr h)
theorem RE (t:V2):∀ l,(MT t l).length=l.length+1
 | []=>rfl
 | y :: l=>by
  have ih:=RE t l
  unfold MT
  split
  ·simp
  ·simp [ih]
theorem e6 (t x:V2) (l:List V2):x∈dZ t l↔x=t∨x∈l:=by
 unfold dZ
 split
 ·rename_i h
  exact ⟨fun hx=>.inr hx,fun hx=>by rcases hx with rfl | hx; exact h; exact hx⟩
 ·exact Lx t x l
theorem AE (a b:PV) (f:FV) (t:V2):∀ n,t∈Z0 a b f n↔∃ k,k<n∧(EI a b f k).2=true∧(EI a b f k).1=t
 | 0=>by simp [Z0]
 | n+1=>by
  have ih:=AE a b f t n
  unfold Z0
  split
  ·rename_i h
   rw [e6,ih]
   constructor
   ·rintro (h1 | ⟨k,h1,h2⟩)
    ·exact ⟨n,by omega,h,h1.symm⟩
    ·exact ⟨k,by omega,h2⟩
   ·rintro ⟨k,h1,h2,h3⟩
    by_cases hk:k=n
    ·subst hk; exact .inl h3.symm
    ·exact .inr ⟨k,by omega,h2,h3⟩
  ·rename_i h
   rw [ih]
   constructor
   ·rintro ⟨k,h1,h2⟩; exact ⟨k,by omega,h2⟩
   ·rintro ⟨k,h1,h2,h3⟩
    by_cases hk:k=n
    ·subst hk; exact absurd h2 h
    ·exact ⟨k,by omega,h2,h3⟩
theorem FC (a b:PV) (f:FV):∀ n,(Z0 a b f n).length≤n
 | 0=>Nat.le_refl _
 | n+1=>by
  have ih:=FC a b f n
  unfold Z0 dZ
  split
  ·split
   ·omega
   ·rw [RE]; omega
  ·omega
theorem GE (a b:PV) (f:FV) (ha:J0 a.rim) (hb:J0 b.rim) (n:Nat):∀ t∈Z0 a b f n,vb t≤26:=fun t ht=>by
 obtain ⟨k,_,_,h⟩:=(AE a b f t n).1 ht
 rw [← h]; exact CO ha hb _ _
def OD (l:List FV):AV:=sL Q8 29 BD l
theorem Q5 (l:List FV):OD l=.sl l.length (l.length*29) (Xw Q8 29 BD l) false:=nrfl rfl
theorem KV (l:List FV):Settled (OD l):=J2 fun j _=>Xd (Qe _) _
def JI (i j k:Nat) (t:V2):FV:=⟨0,1,i,j,k,t,v0,v0⟩
def Hw (a b:PV) (e:Rat) (i j k:Nat) (t:V2):Bool:=(XJ a.rim b.rim (JI i j k t) e).2.2 && Zz a b (Ql a b (JI i j k t) e) e
def Cv (a b:PV) (e:Rat) (i j k:Nat) (L:List V2):List FV:=(L.filter (Hw a b e i j k)).map fun t=>Ql a b (JI i j k t) e
def ES (a b:PV) (e:Rat) (i j k:Nat):List FV:=if Gg a b (JI i j k v0) then Cv a b e i j k (Z0 a b (JI i j k v0) k) else []
def Ag (a b:PV) (e:Rat) (i j:Nat):Nat→List FV
 | 0=>[]
 | k+1=>Ag a b e i j k ++ ES a b e i j (k+1)
def ZI (a b:PV) (e:Rat) (i:Nat):Nat→List FV
 | 0=>[]
 | j+1=>ZI a b e i j ++ Ag a b e i j (min a.rim.length b.rim.length - 1)
def Zo (a b:PV) (e:Rat):Nat→List FV
 | 0=>[]
 | i+1=>Zo a b e i ++ ZI a b e i b.rim.length
def BZ (a b:PV) (e:Rat):List FV:=Zo a b e a.rim.length
theorem Uq (a b:PV) (e:Rat) (i j k:Nat) (L:List V2) (n:Nat) (h:n<L.length):Cv a b e i j k (L.take (n+1))=Cv a b e i j k (L.take n) ++ (if Hw a b e i j k (L.getD n v0)=true then [Ql a b (JI i j k (L.getD n v0)) e] else []):=by
 unfold Cv
 rw [Qs L v0 n h,List.filter_append,List.map_append]
 congr 1
 by_cases hq:Hw a b e i j k (L.getD n v0)=true
 ·rw [if_pos hq,List.filter_cons_of_pos hq]; rfl
 ·rw [if_neg hq,List.filter_cons_of_neg hq]; rfl
theorem Nj (a b:PV) (e:Rat) (i j k:Nat) (L:List V2):(Cv a b e i j k L).length≤L.length:=by
 unfold Cv; rw [List.length_map]; exact List.length_filter_le _ _
theorem sc {l:List AV} (h:∀ x∈l,x.one=true):∀ j,j<l.length→(l.getD j .any).one=true:=fun j hj=>by
 rw [List.getD_eq_getElem?_getD,List.getElem?_eq_getElem hj]; exact h _ (List.getElem_mem _)
theorem VT (f:FV):∀ j,j<29→((Q8 f).getD j .any).one=true:=sc (l:=Q8 f) (by simp [Q8,AV.one,X4,I])
theorem nz {P:Program} {fn:Func} {str hcs:List Nat} {s:AS} {t id ver:Nat} (L:List FV) (hr:fn.results=#[.tmp t]) (hs:s.get t=.osl id ver 29 0 L.length) (ho:s.h[id]?=some (.row ver (L.length*29) (Xw Q8 29 BD L))):RetOk (Qr P fn str hcs (OD L)) s:=by
 refine Av hr ?_
 rw [hs,Q5]
 refine QB (.inl ho) (by omega) (fun h=>by rw [h]) fun j hj=>?_
 rw [Nat.zero_add]
 exact (Xd (Qe _) _).sees _
theorem SY {m:Nat} {s:AS} (id:Nat) {ver n:Nat} {l:List AV} (l':List AV) (ho:s.h[id]?=some (.row ver n (Xp l))) (hn:n=l.length) (h:WeakL l l'):Sub m s { s with h:=s.h.set id (.row ver n (Xp l')) } :=
 Zv id (Xp l') ho fun j hj c v _ _ hv=>(WeakL.spec h).2 j (by omega) v hv
theorem cO (i j k:Nat):WeakL ([I 0,I 1,I i,I j,I k] ++ (Zd ++ (Zd ++ Zd))) (Q8 (JI i j k v0)):=by
 obtain ⟨w1,w2,w3,w4,w5,w6,w7,w8,_⟩:=Za
 exact ⟨Weak.rfl' _,Weak.rfl' _,Weak.rfl' _,Weak.rfl' _,Weak.rfl' _,w1,w2,w3,w4,w5,w6,w7,w8,w1,w2,w3,w4,w5,w6,w7,w8,w1,w2,w3,w4,w5,w6,w7,w8,trivial⟩
def Ni (a b:PV) (e:Rat) (f:FV) (i j k:Nat) (t:V2):Prop:=k≠0∧k<a.rim.length∧k<b.rim.length∧Gg a b (JI i j k v0)∧t∈Z0 a b (JI i j k v0) k∧Hw a b e i j k t=true∧f=Ql a b (JI i j k t) e
theorem aw (a b:PV) (e:Rat) (i j k:Nat) (L:List V2) (f:FV):f∈Cv a b e i j k L↔∃ t,t∈L∧Hw a b e i j k t=true∧f=Ql a b (JI i j k t) e:=by
 unfold Cv
 rw [List.mem_map]
 constructor
 ·rintro ⟨t,h,rfl⟩
  rw [List.mem_filter] at h
  exact ⟨t,h.1,h.2,rfl⟩
 ·rintro ⟨t,h1,h2,rfl⟩
  exact ⟨t,List.mem_filter.2 ⟨h1,h2⟩,rfl⟩
theorem Nx (a b:PV) (e:Rat) (i j:Nat) (f:FV):∀ n,n<a.rim.length→n<b.rim.length→(f∈Ag a b e i j n↔∃ k t,k≤n∧Ni a b e f i j k t)
 | 0,_,_=>by simp [Ag,Ni]
 | n+1,h1,h2=>by
  have ih:=Nx a b e i j f n (by omega) (by omega)
  unfold Ag
  rw [List.mem_append,ih]
  have hk:f∈ES a b e i j (n+1)↔∃ t,Ni a b e f i j (n+1) t:=by
   unfold ES
   by_cases hp:Gg a b (JI i j (n+1) v0)
   ·rw [if_pos hp,aw]
    exact ⟨fun ⟨t,q1,q2,q3⟩=>⟨t,by omega,h1,h2,hp,q1,q2,q3⟩,fun ⟨t,_,_,_,_,q1,q2,q3⟩=>⟨t,q1,q2,q3⟩⟩
   ·rw [if_neg hp]
    exact ⟨fun h=>absurd h List.not_mem_nil,fun ⟨t,_,_,_,q,_⟩=>absurd q hp⟩
  rw [hk]
  constructor
  ·rintro (⟨k,t,q1,q2⟩ | ⟨t,q⟩)
   ·exact ⟨k,t,by omega,q2⟩
   ·exact ⟨n+1,t,Nat.le_refl _,q⟩
  ·rintro ⟨k,t,q1,q2⟩
   by_cases hk:k=n+1
   ·subst hk; exact .inr ⟨t,q2⟩
   ·exact .inl ⟨k,t,by omega,q2⟩
theorem Nw (a b:PV) (e:Rat) (i:Nat) (f:FV) (ha:0<a.rim.length) (hb:0<b.rim.length):∀ n,f∈ZI a b e i n↔∃ j k t,j<n∧Ni a b e f i j k t
 | 0=>by simp [ZI]
 | n+1=>by
  have ih:=Nw a b e i f ha hb n
  unfold ZI
  rw [List.mem_append,ih,Nx a b e i n f _ (by omega) (by omega)]
  constructor
  ·rintro (⟨j,k,t,q1,q2⟩ | ⟨k,t,q1,q2⟩)
   ·exact ⟨j,k,t,by omega,q2⟩
   ·exact ⟨n,k,t,by omega,q2⟩
  ·rintro ⟨j,k,t,q1,q2⟩
   by_cases hj:j=n
   ·subst hj; exact .inr ⟨k,t,by have:=q2.2.1; have:=q2.2.2.1; omega,q2⟩
   ·exact .inl ⟨j,k,t,by omega,q2⟩
theorem Nv (a b:PV) (e:Rat) (f:FV) (ha:0<a.rim.length) (hb:0<b.rim.length):∀ n,f∈Zo a b e n↔∃ i j k t,i<n∧j<b.rim.length∧Ni a b e f i j k t
 | 0=>by simp [Zo]
 | n+1=>by
  have ih:=Nv a b e f ha hb n
  unfold Zo
  rw [List.mem_append,ih,Nw a b e n f ha hb]
  constructor
  ·rintro (⟨i,j,k,t,q1,q2⟩ | ⟨j,k,t,q1,q2⟩)
   ·exact ⟨i,j,k,t,by omega,q2⟩
   ·exact ⟨n,j,k,t,by omega,q1,q2⟩
  ·rintro ⟨i,j,k,t,q1,q2,q3⟩
   by_cases hi:i=n
   ·subst hi; exact .inr ⟨j,k,t,q2,q3⟩
   ·exact .inl ⟨i,j,k,t,by omega,q2,q3⟩
theorem Dx (a b:PV) (e:Rat) (f:FV) (ha:0<a.rim.length) (hb:0<b.rim.length):f∈BZ a b e↔∃ i j k t,i<a.rim.length∧j<b.rim.length∧Ni a b e f i j k t:=Nv a b e f ha hb _
def OH (n m:Nat) (W:List FV) (f:FV):Bool:=W.any fun g=>decide (Ah n m f g)
def ER (a b:PV) (e:Rat):List FV:=(BZ a b e).filter fun f=>!OH a.rim.length b.rim.length (BZ a b e) f
theorem fF (l:List FV) (i:Nat):∀ j,j<29→Xw Q8 29 BD l (i*29+j)=(Q8 (l.getD i BD)).getD j .any:=fun j hj=>JS _ _ _ _ _ _ hj
theorem uP (l:List FV) (i:Nat):Xw Q8 29 BD l (i*29)=(Q8 (l.getD i BD)).getD 0 .any:=K6 _ _ _ _ _ (by omega)
theorem au (n m:Nat) (W:List FV) (i:Nat) (h:i<W.length):(W.take (i+1)).filter (fun f=>!OH n m W f)=(W.take i).filter (fun f=>!OH n m W f) ++ (if OH n m W (W.getD i BD)=true then [] else [W.getD i BD]):=by
 rw [Qs W BD i h,List.filter_append]
 congr 1
 cases hq:OH n m W (W.getD i BD) with
 | true=>rw [if_pos rfl,List.filter_cons_of_neg (by rw [hq]; decide)]; rfl
 | false=>rw [if_neg (by decide),List.filter_cons_of_pos (by rw [hq]; rfl)]; rfl
theorem Pu (a b:PV) (e:Rat) (ha:a.rim.length≤12) (hb:b.rim.length≤12) (h1:0<a.rim.length) (h2:0<b.rim.length):(BZ a b e).length≤24000:=by
 have hk:∀ i j n,n≤12→(Ag a b e i j n).length≤12*n:=fun i j n=>by
  induction n with
  | zero=>intro _; simp [Ag]
  | succ n ih =>
   intro hn
   have h3:=ih (by omega)
   unfold Ag
   rw [List.length_append]
   have:(ES a b e i j (n+1)).length≤n+1:=by
    unfold ES
    split
    ·exact Nat.le_trans (Nj ..) (FC ..)
    ·simp
   omega
 have hj:∀ i n,(ZI a b e i n).length≤144*n:=fun i n=>by
  induction n with
  | zero=>simp [ZI]
  | succ n ih =>
   unfold ZI
   rw [List.length_append]
   have:=hk i n (min a.rim.length b.rim.length - 1) (by omega)
   omega
 have hi:∀ n,(Zo a b e n).length≤1728*n:=fun n=>by
  induction n with
  | zero=>simp [Zo]
  | succ n ih =>
   unfold Zo
   rw [List.length_append]
   have:=hj n b.rim.length
   omega
 have:=hi a.rim.length
 unfold BZ; omega
theorem Rp {a b:PV} {ta tb:Rat} (ha:GP a ta) (hb:GP b tb) {f:FV} (h:f∈BZ a b (ta+tb)):f.near∧vb f.turn≤26∧vb f.lo≤200∧vb f.hi≤200:=by
 have la:=(KR _ ha.poly).1
 have lb:=(KR _ hb.poly).1
 have ea:(XB a.rim).length=a.rim.length:=by simp [XB]
 have eb:(XB b.rim).length=b.rim.length:=by simp [XB]
 rw [ea] at la
 rw [eb] at lb
 have qa:=ha.qt; have q2:=hb.qt
 have qe:=Jy ta tb
 obtain ⟨i,j,k,t,h1,h2,_,h3,h4,_,h5,_,rfl⟩:=(Dx a b (ta+tb) f (by omega) (by omega)).1 h
 have ht:=GE a b (JI i j k v0) ha.even.near hb.even.near k t h5
 obtain ⟨m1,m2⟩:=IL a b (JI i j k t) ha.even.near hb.even.near (ta+tb) (by show vb t≤60; omega)
 exact ⟨⟨⟨by show (-1000000:Int)≤(i:Int); omega,by show (i:Int)≤1000000; omega⟩,⟨by show (-1000000:Int)≤(j:Int); omega,by show (j:Int)≤1000000; omega⟩,by show (-1000000:Int)≤(k:Int); omega,by show (k:Int)≤1000000; omega⟩,ht,by show vb (XJ a.rim b.rim (JI i j k t) (ta+tb)).1≤200; omega,by show vb (XJ a.rim b.rim (JI i j k t) (ta+tb)).2.1≤200; omega⟩
def KZ:Nat→Int×Int→Int×Int
 | 0,p=>p
 | i+1,p=>(-(KZ i p).2,(KZ i p).1)
theorem GD (p:Int×Int) (c:Int) (h1:-c≤p.1∧p.1≤c) (h2:-c≤p.2∧p.2≤c):∀ i,(-c≤(KZ i p).1∧(KZ i p).1≤c)∧(-c≤(KZ i p).2∧(KZ i p).2≤c)
 | 0=>⟨h1,h2⟩
 | i+1=>by
  have ih:=GD p c h1 h2 i
  unfold KZ
  simp only
  omega
theorem cH (p:Int×Int) (q:Nat) (h1:-1000≤p.1∧p.1≤1000) (h2:-1000≤p.2∧p.2≤1000) (hq:q≤4):Fn Tryz.prog 101 [.agg (KJ p),I q] (.agg (KJ (KZ q p))):=by
 obtain ⟨R,hR⟩:∃ R,R=AV.agg (KJ (KZ q p)):=⟨_,rfl⟩
 have sR:Settled R:=hR▸Q7 (Kp _)
 rw [← hR]
 refine Fq Tryz.call101 Tryz.func101 6 [] [] [] (by simp [X8,Q7 (Kp p)]) (X0 1000 ?_)
 simp (disch:=omega) only [AS.start,KJ,↓Xo,wD,↓X2,wA,seval,wE]
 refine Xe (fun i:Nat=>⟨6,[],[.any,I q,.ref 0 0 0,.any,.ref 1 0 0,I i],[],[.row 0 2 (Xp (KJ (KZ i p))),.row 0 2 (Xp [I 0,I 0])]⟩) (fun i=>i≤q) (fun i=>q - i) 0 (by omega)
  (Xa rfl (by simp [Xh,I]) (by simp [Xi]) rfl) ?_
 intro i hi next
 have hb:=GD p 1000 h1 h2 i
 by_cases hi2:i<q
 ·refine X0 1000 ?_
  simp (disch:=omega) only [KJ,↓Xo,wD,↓X2,wA,seval,wE]
  exact next (i+1) _ (by omega) (by omega) (Xa rfl (by simp [Xh,I]) (by simp [Xi]) (by simp [KJ,KZ,I]))
 ·obtain rfl:i=q:=by omega
  refine X0 1000 ?_
  simp (disch:=omega) only [KJ,↓Xo,wD,↓X2,wA,seval,wE]
  exact Zh rfl ie rfl rfl rfl sR (hR.trans rfl)
theorem Ml (l:List (Int×Int)) (hn:J0 l) (hl:l.length<1000000):Fn Tryz.prog 100 [BW l] (.bool (decide (XO (XB l)))):=by
 have hrl:(XB l).length=l.length:=by simp [XB]
 have cv:=Gr (XB l) (fun i=>Nat.le_trans (Ex hn i) (by omega)) (by omega)
 refine Fq Tryz.call100 Tryz.func100 5 [] [5] [] (by simp [Qy]) (X0 1000 ?_)
 simp (disch:=omega) only [AS.start,Xg,↓Xo,wD,↓X2,wA,seval,wE]
 refine Xe (fun k:Nat=>⟨5,[],[BW l,.any,.any,.osl 0 k 8 0 k,I k],[],[.row k (k*8) (Xw vC 8 v0 (XB (l.take k)))]⟩) (fun k=>k≤l.length) (fun k=>l.length - k) 0 (by omega)
  (Sub.trans (Qi 3 8 (Xw vC 8 v0 []) rfl) (Xa rfl (by simp [AS.put,Xh,Xg,I]) (by simp [AS.put,Xi]) (by simp [AS.put,XB]))) ?_
 intro k hk next
 by_cases hk2:k<l.length
 rotate_left
 ·obtain rfl:k=l.length:=by omega
  rw [List.take_length]
  refine X0 1000 ?_
  simp (disch:=omega) only [Xg,↓Xo,wD,↓X2,wA,seval,wE]
  refine JH cv rfl ⟨?_,trivial⟩ (Ap _) ?_
  ·show JT _ (.osl 0 l.length 8 0 l.length) (Xt (XB l))
   rw [X5,hrl]
   refine QB (.inl rfl) (by omega) (fun h=>by rw [h]) fun j hj=>?_
   rw [Nat.zero_add]
   exact (Xd (l:=vC ((XB l).getD (j / 8) v0)) (by simp [vC,X7,X3]) _).sees _
  simp (disch:=omega) only [↓Xo,wD,↓X2,wA,seval,wE]
  exact Xr rfl rfl (X3 _) rfl
 have hc:=DQ hn k
 have c1:=Au (l.getD k (0,0)).1 (l.getD k (0,0)).2 ⟨by omega,by omega⟩ ⟨by omega,by omega⟩
 have p1:Xw KJ 2 (0,0) l (k*2)=I (l.getD k (0,0)).1:=K6 _ _ _ _ _ (by omega)
 have p2:Xw KJ 2 (0,0) l (k*2+1)=I (l.getD k (0,0)).2:=JS _ _ _ _ _ _ (by omega)
 have hap:=Q0 vC 8 v0 (XB (l.take k)) (JB (l.getD k (0,0))) (by omega)
 have htk:XB (l.take k) ++ [JB (l.getD k (0,0))]=XB (l.take (k+1)):=by unfold XB; rw [Qs l (0,0) k hk2,List.map_append]; rfl
 have hkl:(XB (l.take k)).length=k:=by simp [XB]; omega
 rw [htk,hkl] at hap
 have hpv:(⟨((l.getD k (0,0)).1:Rat),((l.getD k (0,0)).2:Rat)⟩:V2)=JB (l.getD k (0,0)):=rfl
 rw [hpv] at c1
 refine X0 1000 ?_
 simp (disch:=omega) only [Xg,p1,p2,↓Xo,wD,↓X2,wA,seval,wE]
 refine X1 c1 rfl ?_
 simp (disch:=omega) only [↓Xo,wD,↓X2,wA,seval,wE]
 exact ⟨BT _,next (k+1) _ (by omega) (by omega) (Xa rfl (by simp [Xh,Xg,I]) (by simp [Xi]) (by rw [← hap]; rfl))⟩
def Mt (l:List Int) (at' k:Nat):Bool:=decide (Ab.atF l (at'+2+k:Nat) 16=15)
def Fm (l:List Int) (at' k:Nat):Int:=if 11<Ab.atF l (at'+2+k:Nat) 16 then Ab.atF l (at'+2+k:Nat) 16 - 11 else 0
def Zp (rim:List (Int×Int)) (l:List Int) (at':Nat):PV:=⟨Ab.atF l at' 900,Ab.atF l at' 5,rim,(List.range rim.length).map (Mt l at'),(List.range rim.length).map (Fm l at'),
 RQ.of (Rat.divInt (Ab.atF l (at'+1:Nat) 3) 4),RQ.of (Rat.divInt 1 1),RQ.of (Rat.divInt (1+Ab.atF l at' 3) 1),RQ.of (Rat.divInt 100 1),RQ.of (Rat.divInt 1 2)⟩
theorem SX {m:Nat} {s:AS} (id i:Nat) (b:AV) {ver n:Nat} {f:Nat→AV} (ho:s.h[id]?=some (.row ver n f)) (h:ZS s.h (f i) b):Sub m s { s with h:=s.h.set id (.row ver n (CL f i b)) } :=
 Zv id (CL f i b) ho fun j hj=>by
  unfold CL
  by_cases e:j=i
  ·rw [if_pos e,e]; exact h
  ·rw [if_neg e]; exact J3 _ _
def Jc:List AV:=[I 0,I 0,.sl 0 0 (fun _=>.any) true,.sl 0 0 (fun _=>.any) true,.sl 0 0 (fun _=>.any) true,.bool false,.sl 0 0 (fun _=>.any) true,.bool false,.sl 0 0 (fun _=>.any) true,.bool false,.sl 0 0 (fun _=>.any) true,.bool false,.sl 0 0 (fun _=>.any) true,
 .bool false,.sl 0 0 (fun _=>.any) true,.bool false,.sl 0 0 (fun _=>.any) true,.bool false,.sl 0 0 (fun _=>.any) true,.bool false,.sl 0 0 (fun _=>.any) true,.bool false,.sl 0 0 (fun _=>.any) true,.bool false,.sl 0 0 (fun _=>.any) true]
def G3 (id home:Int) (rim:List (Int×Int)) (k:Nat) (t u h s r:Rat):List AV:=[I id,I home,BW rim,.osl 2 k 1 0 k,.osl 3 k 1 0 k] ++ (qC t ++ (qC u ++ (qC h ++ (qC s ++ qC r))))
theorem LC {α:Type} (f:Nat→α) (k:Nat):(List.range (k+1)).map f=(List.range k).map f ++ [f k]:=by rw [List.range_succ,List.map_append]; rfl
theorem W0 (rim:List (Int×Int)) (l:List Int) (at':Nat) (hr:rim.length<1000) (hl:FJ l) (ha:at'<1000):Fn Tryz.prog 102 [BW rim,X9 l,I at'] (Qf (Zp rim l at')):=by
 obtain ⟨V,hV⟩:∃ V,V=Qf (Zp rim l at'):=⟨_,rfl⟩
 rw [← hV]
 have c1:=JP l at' 900 hl (by omega)
 have c2:=JP l at' 5 hl (by omega)
 have c3:=JP l (at'+1:Nat) 3 hl (by omega)
 have c4:=JP l at' 3 hl (by omega)
 have b3:=Q1 l (at'+1:Nat) 3 (by omega)
 have b4:=Q1 l at' 3 (by omega)
 have q1:=Jt (Ab.atF l (at'+1:Nat) 3) 4 ⟨by omega,by omega⟩ ⟨by omega,by omega⟩
 have q2:=Jt 1 1 ⟨by omega,by omega⟩ ⟨by omega,by omega⟩
 have q3:=Jt (1+Ab.atF l at' 3) 1 ⟨by omega,by omega⟩ ⟨by omega,by omega⟩
 have q4:=Jt 100 1 ⟨by omega,by omega⟩ ⟨by omega,by omega⟩
 have q5:=Jt 1 2 ⟨by omega,by omega⟩ ⟨by omega,by omega⟩
 unfold Zp at hV
 generalize Rat.divInt (Ab.atF l (at'+1:Nat) 3) 4=t at *
 generalize Rat.divInt 1 1=u at *
 generalize Rat.divInt (1+Ab.atF l at' 3) 1=h at *
 generalize Rat.divInt 100 1=s at *
 generalize Rat.divInt 1 2=r at *
 generalize Ab.atF l at' 900=id at *
 generalize Ab.atF l at' 5=home at *
 rw [Int.natCast_add] at c3
 refine Fq Tryz.call102 Tryz.func102 11 [] [1] [] (by simp [X8,Qy,X7]) (X0 1000 ?_)
 simp (disch:=omega) only [AS.start,Xg,↓Xo,wD,↓X2,wA,seval,wE]
 refine X1 c1 rfl ?_
 simp (disch:=omega) only [↓Xo,wD,↓X2,wA,seval,wE]
 refine X1 c2 rfl ?_
 simp (disch:=omega) only [↓Xo,wD,↓X2,wA,seval,wE]
 refine X1 c3 rfl ?_
 simp (disch:=omega) only [↓Xo,wD,↓X2,wA,seval,wE]
 refine X1 q1 rfl ?_
 simp (disch:=omega) only [↓Xo,wD,↓X2,wA,seval,wE]
 refine X1 q2 rfl ?_
 simp (disch:=omega) only [↓Xo,wD,↓X2,wA,seval,wE]
 refine X1 c4 rfl ?_
 simp (disch:=omega) only [↓Xo,wD,↓X2,wA,seval,wE]
 refine X1 q3 rfl ?_
 simp (disch:=omega) only [↓Xo,wD,↓X2,wA,seval,wE]
 refine X1 q4 rfl ?_
 simp (disch:=omega) only [↓Xo,wD,↓X2,wA,seval,wE]
 refine X1 q5 rfl ?_
 simp (disch:=omega) only [↓Xo,wD,↓X2,wA,seval,wE]
 refine Xe (fun k:Nat=>⟨11,[],[BW rim,X9 l,I at',.any,.any,.any,.ref 0 0 0,.ref 1 0 0,I k,.any,.any],[],[.row 0 25 (Xp Jc),.row 0 25 (Xp (G3 id home rim k t u h s r)),.row k k (Q4 AV.bool false ((List.range k).map (Mt l at'))),.row k k (Q4 I 0 ((List.range k).map (Fm l at')))]⟩) (fun k=>k≤rim.length) (fun k=>rim.length - k) 0 (by omega)
  (Sub.trans (ID (Q4 AV.bool false [])) (Sub.trans (ID (Q4 I 0 [])) (Sub.trans (SX 1 3 (.osl 2 0 1 0 0) rfl (Bm rfl)) (Sub.trans (SX 1 4 (.osl 3 0 1 0 0) rfl (Bm rfl)) (Xa rfl (by simp [Xh,Xg,X4,I]) (by simp [Xi]) (by simp [Jc,G3,qC,Pf,Xg,X4,I,sg])))))) ?_
 intro k hk next
 by_cases hk2:k<rim.length
 rotate_left
 ·obtain rfl:k=rim.length:=by omega
  refine X0 1000 ?_
  simp (disch:=omega) only [Jc,G3,qC,Xg,X4,↓Xo,wD,↓X2,wA,seval,wE]
  subst hV
  refine Gt (L:=G3 id home rim rim.length t u h s r) rfl Nt rfl rfl rfl ?_
  have h2:∀ H:List AO,H[2]?=some (.row rim.length rim.length (Q4 AV.bool false ((List.range rim.length).map (Mt l at'))))→JT H (.osl 2 rim.length 1 0 rim.length) (JG ((List.range rim.length).map (Mt l at'))):=fun H ho=>by
   rw [Xm,List.length_map,List.length_range]
   refine QB (.inl ho) (by omega) (fun h=>h) fun j hj=>?_
   rw [Nat.zero_add]
   exact (X3 _).sees _
  have h3:∀ H:List AO,H[3]?=some (.row rim.length rim.length (Q4 I 0 ((List.range rim.length).map (Fm l at'))))→JT H (.osl 3 rim.length 1 0 rim.length) (X9 ((List.range rim.length).map (Fm l at'))):=fun H ho=>by
   rw [X4,List.length_map,List.length_range]
   refine QB (.inl ho) (by omega) (fun h=>h) fun j hj=>?_
   rw [Nat.zero_add]
   exact (X8 _).sees _
  exact A7 ⟨(X8 _).sees _,(X8 _).sees _,(Qy _).sees _,h2 _ rfl,h3 _ rfl,(X3 _).sees _,(X7 _).sees _,(X3 _).sees _,(X7 _).sees _,(X3 _).sees _,(X7 _).sees _,(X3 _).sees _,(X7 _).sees _,(X3 _).sees _,(X7 _).sees _,(X3 _).sees _,(X7 _).sees _,(X3 _).sees _,(X7 _).sees _,(X3 _).sees _,(X7 _).sees _,(X3 _).sees _,(X7 _).sees _,(X3 _).sees _,(X7 _).sees _,trivial⟩
 have c5:=JP l (at'+2+k:Nat) 16 hl (by omega)
 have b5:=Q1 l (at'+2+k:Nat) 16 (by omega)
 have nx:=next (k+1)
 rw [LC,LC] at nx
 have e1:Mt l at' k=decide (Ab.atF l (at'+2+k:Nat) 16=15):=rfl
 have e2:Fm l at' k=if 11<Ab.atF l (at'+2+k:Nat) 16 then Ab.atF l (at'+2+k:Nat) 16 - 11 else 0:=rfl
 rw [e1,e2] at nx
 generalize Ab.atF l (at'+2+k:Nat) 16=n at *
 rw [show ((at'+2+k:Nat):Int)=(at':Int)+2+k by omega] at c5
 have hW:((List.range k).map (Mt l at')).length=k:=by simp
 have hM:((List.range k).map (Fm l at')).length=k:=by simp
 generalize (List.range k).map (Mt l at')=W at *
 generalize (List.range k).map (Fm l at')=M at *
 have hap1:=IV AV.bool false W (decide (n=15))
 rw [hW,Nat.mul_one] at hap1
 refine X0 1000 ?_
 simp (disch:=omega) only [G3,qC,Xg,X4,List.cons_append,List.nil_append,↓Xo,wD,↓X2,wA,seval,wE]
 refine X1 c5 rfl ?_
 by_cases hn:11<n
 ·have hap2:=CP M (n - 11)
  rw [if_pos hn] at nx
  rw [hM] at hap2
  simp (disch:=omega) only [G3,qC,Xg,X4,List.cons_append,List.nil_append,↓Xo,wD,↓X2,wA,seval,wE]
  exact nx _ (by omega) (by omega) (Xa rfl (by simp [Xh,Xg,X4,I]) (by simp [Xi]) (by rw [← hap1,← hap2]; simp [Jc,G3,qC,Xg,X4,I,sg]))
 ·have hap2:=CP M 0
  rw [if_neg hn] at nx
  rw [hM] at hap2
  simp (disch:=omega) only [G3,qC,Xg,X4,List.cons_append,List.nil_append,↓Xo,wD,↓X2,wA,seval,wE]
  exact nx _ (by omega) (by omega) (Xa rfl (by simp [Xh,Xg,X4,I]) (by simp [Xi]) (by rw [← hap1,← hap2]; simp [Jc,G3,qC,Xg,X4,I,sg,show ¬ n=15 by omega]))
structure Iso (g h:V2→V2):Prop where
 sub:∀ a b,(g a).sub (g b)=h (a.sub b)
 cr:∀ u v,Qx (h u) (h v)=Qx u v
 dt:∀ u v,Qb (h u) (h v)=Qb u v
 tn:∀ u,(h u).turned=h u.turned
theorem ls (g:V2→V2) (L:List V2) (h:0<L.length) (i:Nat):atF (L.map g) i=g (atF L i):=by
 unfold atF
 have hlt:=Nat.mod_lt i h
 rw [List.length_map,List.getD_eq_getElem?_getD,List.getElem?_map,List.getD_eq_getElem?_getD,List.getElem?_eq_getElem hlt]; rfl
theorem ic {g h:V2→V2} (I:Iso g h) (a b c:V2):Jl (g a) (g b) (g c)=Jl a b c:=by unfold Jl; rw [I.sub,I.sub,I.cr]
theorem VK (n a b:V2):Qb n a - Qb n b=Qb n (a.sub b):=by unfold Qb V2.sub; grind
theorem rM {g h:V2→V2} (I:Iso g h) (n a b:V2):(Qb (h n) (g a)<Qb (h n) (g b))↔(Qb n a<Qb n b):=by
 have e1:=VK (h n) (g a) (g b)
 have e2:=VK n a b
 rw [I.sub,I.dt] at e1
 constructor <;> intro hh <;> grind
theorem RL {g h:V2→V2} (I:Iso g h) (n a b c d:V2):Kh (h n) (g a) (g b) (g c) (g d)=Kh n a b c d:=by
 unfold Kh HE
 simp only [rM I]
theorem ib {g h:V2→V2} (I:Iso g h) (a b c d:V2) (i:Nat):Ds (g a) (g b) (g c) (g d) i=h (Ds a b c d i):=by
 unfold Ds
 split <;> simp only [I.sub,I.tn]
theorem RM {g h:V2→V2} (I:Iso g h) (L:List V2) (hp:XO L) (ha:Zk (L.map g)=Zk L):XO (L.map g):=by
 obtain ⟨h1,h2,h3⟩:=hp
 have hl:0<L.length:=by omega
 have hat:=ls g L hl
 refine ⟨by rw [List.length_map]; exact h1,fun i hi=>?_,by rw [ha]; exact h3⟩
 rw [List.length_map] at hi
 obtain ⟨k1,k2⟩:=h2 i hi
 refine ⟨fun hb=>k1 ?_,fun k hk hg=>k2 k (by rw [List.length_map] at hk; exact hk) ?_⟩
 ·unfold CQ at hb ⊢
  rw [hat,hat,hat,ic I] at hb
  exact hb
 ·obtain ⟨q1,q2,q3⟩:=hg
  rw [List.length_map] at q1 q2
  refine ⟨q1,q2,fun j hj=>?_⟩
  have:=q3 j hj
  rw [hat,hat,hat,hat,ib I,RL I] at this
  exact this
theorem quart_iso:Iso Bg Bg:=⟨fun a b=>by unfold Bg V2.sub; rw [V2.ext']; exact ⟨by simp only; grind,rfl⟩,fun u v=>by unfold Bg Qx; grind,fun u v=>by unfold Bg Qb; grind,fun u=>by unfold Bg V2.turned; rfl⟩
theorem ld (t:V2):Iso (fun a=>a.add t) id:=⟨fun a b=>by unfold V2.add V2.sub; rw [V2.ext']; exact ⟨by simp only [id]; grind,by simp only [id]; grind⟩,fun _ _=>rfl,fun _ _=>rfl,fun _=>rfl⟩
theorem G4 (g:V2→V2) (L:List V2) (i:Nat) (h:i<L.length):(L.map g).getD i v0=g (L.getD i v0):=by
 rw [List.getD_eq_getElem?_getD,List.getElem?_map,List.getD_eq_getElem?_getD,List.getElem?_eq_getElem h]; rfl
theorem TT (L:List V2) (h:0<L.length):Zk (L.map Bg)=Zk L:=by
 have key:∀ n,n≤L.length→KH (L.map Bg) n=KH L n:=fun n=>by
  induction n with
  | zero=>intro _; rfl
  | succ n ih =>
   intro hn
   unfold KH
   rw [ih (by omega),List.length_map,G4 _ _ _ (by omega),G4 _ _ _ (Nat.mod_lt _ h),quart_iso.cr]
 unfold Zk
 rw [List.length_map,key _ (Nat.le_refl _)]
theorem eK (t:V2) (L:List V2) (h:0<L.length):Zk (L.map fun a=>a.add t)=Zk L:=by
 have key:∀ n,n≤L.length→KH (L.map fun a=>a.add t) n=KH L n+Qx t ((L.getD (n % L.length) v0).sub (L.getD 0 v0)):=fun n=>by
  induction n with
  | zero=>intro _; rw [Nat.zero_mod]; unfold KH Qx V2.sub; grind
  | succ n ih =>
   intro hn
   have hm:n % L.length=n:=Nat.mod_eq_of_lt (by omega)
   unfold KH
   rw [ih (by omega),List.length_map,G4 _ _ _ (by omega),G4 _ _ _ (Nat.mod_lt _ h),hm]
   generalize L.getD n v0=p
   generalize L.getD ((n+1) % L.length) v0=q
   generalize L.getD 0 v0=o
   unfold Qx V2.sub V2.add
   grind
 unfold Zk
 rw [List.length_map,key _ (Nat.le_refl _),Nat.mod_self]
 have:Qx t ((L.getD 0 v0).sub (L.getD 0 v0))=0:=by unfold Qx V2.sub; grind
 rw [this,Rat.add_zero]
theorem HJ (L:List V2) (hp:XO L):∀ q,XO (L.map (Ku q))
 | 0=>by
  have:L.map (Ku 0)=L:=by
   have e:Ku 0=id:=rfl
   rw [e,List.map_id]
  rw [this]; exact hp
 | q+1=>by
  have ih:=HJ L hp q
  have e:L.map (Ku (q+1))=(L.map (Ku q)).map Bg:=by rw [List.map_map]; rfl
  rw [e]
  exact RM quart_iso _ ih (TT _ (by have:=ih.1; omega))
theorem iW (t:V2) (L:List V2) (hp:XO L):XO (L.map fun a=>a.add t):=RM (ld t) L hp (eK t L (by have:=hp.1; omega))
def rX (q:Nat) (d p:Int×Int):Int×Int:=((KZ q p).1+d.1,(KZ q p).2+d.2)
theorem iY (q:Nat) (p:Int×Int):JB (KZ q p)=Ku q (JB p):=by
 induction q with
 | zero=>rfl
 | succ q ih =>
  show (⟨((-(KZ q p).2:Int):Rat),((KZ q p).1:Rat)⟩:V2)=Bg (Ku q (JB p))
  rw [← ih]
  unfold JB Bg
  rw [V2.ext']
  exact ⟨by simp,rfl⟩
theorem nW (R:List (Int×Int)) (q:Nat) (d:Int×Int) (h:XO (XB R)):XO (XB (R.map (rX q d))):=by
 have h1:=iW (JB d) _ (HJ _ h q)
 have e:XB (R.map (rX q d))=((XB R).map (Ku q)).map fun a=>a.add (JB d):=by
  unfold XB
  rw [List.map_map,List.map_map,List.map_map]
  refine List.map_congr_left fun p _=>?_
  show JB (rX q d p)=(Ku q (JB p)).add (JB d)
  rw [← iY]
  unfold rX JB V2.add
  rw [V2.ext']
  exact ⟨by simp,by simp⟩
 rw [e]; exact h1
end
end Go.Ab.N
namespace Go.Ab.N
open Go Go.RowKit Go.Proofs
noncomputable section
set_option maxRecDepth 10000
set_option maxHeartbeats 4000000
def uh (L:List V2) (i k:Nat):Bool:=decide (1<(k+L.length - i) % L.length) && decide ((k+L.length - i) % L.length<L.length - 1) &&
 (List.range 5).all fun j=>!Kh (Ds (atF L i) (atF L (i+1)) (atF L k) (atF L (k+1)) j) (atF L i) (atF L (i+1)) (atF L k) (atF L (k+1))
def Gn (L:List V2):Bool:=decide (3≤L.length) && decide (L.length≤12) && ((List.range L.length).all fun i=>!decide (Jl (atF L i) (atF L (i+1)) (atF L (i+2))=0) && (List.range L.length).all fun k=>!uh L i k) && decide (0<(Zk L).num.sign)
theorem HN (L:List V2) (h:Gn L=true):XO L:=by
 unfold Gn at h
 simp only [Bool.and_eq_true,decide_eq_true_eq,List.all_eq_true,List.mem_range,Bool.not_eq_true',decide_eq_false_iff_not] at h
 obtain ⟨⟨⟨h1,h2⟩,h3⟩,h4⟩:=h
 refine ⟨⟨h1,h2⟩,fun i hi=>⟨(h3 i hi).1,fun k hk hg=>?_⟩,h4⟩
 have:=(h3 i hi).2 k hk
 obtain ⟨q1,q2,q3⟩:=hg
 unfold uh at this
 rw [decide_eq_true q1,decide_eq_true q2,Bool.true_and,Bool.true_and] at this
 rw [List.all_eq_true.2] at this
 ·cases this
 ·intro j hj
  rw [q3 j (List.mem_range.1 hj)]; rfl
def jc (x y h:Int):List (Int×Int):=[(0,0),(x,0),(y,h),(0,h)]
def je (w x y h:Int):List (Int×Int):=[(x,0),(w,0),(w,h),(y,h)]
theorem nZ:((List.range 4).all fun h=>(List.range 6).all fun x=>(List.range 6).all fun y=>Gn (XB (jc (1+x) (1+y) (3+h))))=true:=by decide +kernel
theorem o9:((List.range 4).all fun w=>(List.range 4).all fun h=>(List.range 6).all fun x=>(List.range 6).all fun y=>!(decide (x<w+3) && decide (y<w+3)) || Gn (XB (je (4+w) (1+x) (1+y) (3+h))))=true:=by decide +kernel
theorem jd (x y h:Int) (hx:1≤x∧x≤6) (hy:1≤y∧y≤6) (hh:3≤h∧h≤6):XO (XB (jc x y h)):=by
 have h1:=nZ
 simp only [List.all_eq_true,List.mem_range] at h1
 have h2:=h1 (h - 3).toNat (by omega) (x - 1).toNat (by omega) (y - 1).toNat (by omega)
 rw [show (1:Int)+((x - 1).toNat:Nat)=x by omega,show (1:Int)+((y - 1).toNat:Nat)=y by omega,show (3:Int)+((h - 3).toNat:Nat)=h by omega] at h2
 exact HN _ h2
theorem jf (w x y h:Int) (hw:4≤w∧w≤7) (hx:1≤x∧x<w) (hy:1≤y∧y<w) (hh:3≤h∧h≤6):XO (XB (je w x y h)):=by
 have h1:=o9
 simp only [List.all_eq_true,List.mem_range] at h1
 have h2:=h1 (w - 4).toNat (by omega) (h - 3).toNat (by omega) (x - 1).toNat (by omega) (y - 1).toNat (by omega)
 rw [show (4:Int)+((w - 4).toNat:Nat)=w by omega,show (1:Int)+((x - 1).toNat:Nat)=x by omega,show (1:Int)+((y - 1).toNat:Nat)=y by omega,show (3:Int)+((h - 3).toNat:Nat)=h by omega] at h2
 rw [Bool.or_eq_true] at h2
 rcases h2 with h2 | h2
 ·rw [decide_eq_true (show (x - 1).toNat<(w - 4).toNat+3 by omega),decide_eq_true (show (y - 1).toNat<(w - 4).toNat+3 by omega)] at h2
  cases h2
 ·exact HN _ h2
end
end Go.Ab.N
namespace Go.Ab.N
open Go Go.RowKit Go.Proofs
noncomputable section
set_option maxRecDepth 10000
set_option maxHeartbeats 4000000
open Classical
theorem Dw {a b:List (Int×Int)} {f:FV} {e:Rat} (h:(XJ a b f e).2.2=true) :
  Cp a.length b.length f∧Dk f.turn∧XJ a b f e=((AL a b f f.M.toNat).sub ⟨e,e⟩,(AK a b f f.M.toNat).add ⟨e,e⟩,true)∧(AL a b f f.M.toNat).x - e≤(AK a b f f.M.toNat).x+e∧(AL a b f f.M.toNat).y - e≤(AK a b f f.M.toNat).y+e:=by
 by_cases g:Cp a.length b.length f∧Dk f.turn
 ·by_cases g2:((AK a b f f.M.toNat).add ⟨e,e⟩).x<((AL a b f f.M.toNat).sub ⟨e,e⟩).x∨((AK a b f f.M.toNat).add ⟨e,e⟩).y<((AL a b f f.M.toNat).sub ⟨e,e⟩).y
  ·exfalso
   unfold XJ at h; rw [if_pos g] at h; simp only at h; rw [if_pos g2] at h; cases h
  ·refine ⟨g.1,g.2,?_,?_⟩
   ·unfold XJ; rw [if_pos g]; simp only; rw [if_neg g2]
   ·simp only [not_or,Rat.not_lt] at g2; exact g2
 ·unfold XJ at h; rw [if_neg g] at h; cases h
theorem F4 {a b:List (Int×Int)} {f:FV} {e e':Rat} (h:(XJ a b f e).2.2=true) (he:e≤e'):(XJ a b f e').2.2=true:=by
 obtain ⟨h1,h2,_,h4,h5⟩:=Dw h
 unfold XJ
 rw [if_pos ⟨h1,h2⟩]
 simp only
 rw [if_neg]
 rintro (g | g)
 ·have:(AK a b f f.M.toNat).x+e'<(AL a b f f.M.toNat).x - e':=g
  grind
 ·have:(AK a b f f.M.toNat).y+e'<(AL a b f f.M.toNat).y - e':=g
  grind
theorem iq {a b:PV} {f:FV} {e e':Rat} (h:(XJ a.rim b.rim f e).2.2=true) (he:e≤e'):CC (Ql a b f e')=CC (Ql a b f e):=by
 obtain ⟨_,_,h3,_⟩:=Dw h
 obtain ⟨_,_,h4,_⟩:=Dw (F4 h he)
 unfold CC Ql
 simp only [h3,h4]
 congr 1
 unfold V2.add V2.sub
 rw [V2.ext']
 exact ⟨by simp only; grind,by simp only; grind⟩
theorem Ln {p:V2→Bool}:∀ {s:List V2},(FX p s).2=true↔∃ x∈s,p x=true
 | []=>by simp [FX]
 | x :: l=>by
  have ih:=Ln (p:=p) (s:=l)
  show ((if p x=true then (x,true) else FX p l).2=true)↔_
  by_cases h:p x=true
  ·rw [if_pos h]; simp [h]
  ·rw [if_neg h,ih]; simp [h]
theorem Hp (x:Rat):0≤BX x:=by unfold BX; split <;> grind
theorem SR (n:V2):0≤KA n:=by
 have h1:=Hp n.x
 have h2:=Hp n.y
 unfold KA; grind
theorem jv {n:V2} {A B:List V2} {e e':Rat} (h:EK n A B e) (he:e'≤e):EK n A B e':=by
 unfold EK at *
 have h2:e'*KA n≤e*KA n:=Rat.mul_le_mul_of_nonneg_right he (SR n)
 exact Rat.le_trans h2 h
theorem Ym {A B:List (List V2)} {e e':Rat} (h:FK A B e=true) (he:e'≤e):FK A B e'=true:=by
 unfold FK at *
 rw [decide_eq_true_eq] at *
 intro i hi
 have h1:=h i hi
 unfold IP at *
 rw [decide_eq_true_eq] at *
 intro k hk
 have h2:=h1 k hk
 unfold Zg ZG at *
 rw [Ln] at *
 obtain ⟨x,hx,hp⟩:=h2
 exact ⟨x,hx,decide_eq_true (jv (of_decide_eq_true hp) he)⟩
def PV.alike (p q:PV):Prop:=p.rim=q.rim∧p.worn=q.worn∧p.marks=q.marks
theorem PU {a b a' b':PV} (ha:a'.alike a) (hb:b'.alike b) (f:FV) (e:Rat):JK a' b' f e=JK a b f e:=by
 obtain ⟨h1,h2,h3⟩:=ha
 obtain ⟨g1,g2,g3⟩:=hb
 cases a; cases a'; cases b; cases b'
 simp only at h1 h2 h3 g1 g2 g3
 subst h1 h2 h3 g1 g2 g3
 rfl
theorem HZ {a b a' b':PV} (ha:a'.alike a) (hb:b'.alike b) (f:FV) (e:Rat):Ql a' b' f e=Ql a b f e:=by unfold Ql; rw [ha.1,hb.1]
theorem FP (a b:PV) (f:FV) (e:Rat):JK a b f e=0↔Cp a.rim.length b.rim.length f∧Gg a b f∧MI a b f∧((XJ a.rim b.rim f e).2.2=true∧(XJ a.rim b.rim f e).1=f.lo∧(XJ a.rim b.rim f e).2.1=f.hi)∧Zz a b f e=true:=by
 unfold JK
 by_cases h1:Cp a.rim.length b.rim.length f
 rotate_left
 ·rw [if_neg h1]; exact ⟨fun h=>absurd h (by decide),fun h=>absurd h.1 h1⟩
 rw [if_pos h1]
 by_cases h2:Gg a b f
 rotate_left
 ·rw [if_neg h2]; exact ⟨fun h=>absurd h (by decide),fun h=>absurd h.2.1 h2⟩
 rw [if_pos h2]
 by_cases h3:MI a b f
 rotate_left
 ·rw [if_neg h3]; exact ⟨fun h=>absurd h (by decide),fun h=>absurd h.2.2.1 h3⟩
 rw [if_pos h3]
 by_cases h4:(XJ a.rim b.rim f e).2.2=true∧(XJ a.rim b.rim f e).1=f.lo∧(XJ a.rim b.rim f e).2.1=f.hi
 rotate_left
 ·rw [if_neg h4]; exact ⟨fun h=>absurd h (by decide),fun h=>absurd h.2.2.2.1 h4⟩
 rw [if_pos h4]
 by_cases h5:Zz a b f e=true
 ·rw [if_pos h5]; exact ⟨fun _=>⟨h1,h2,h3,h4,h5⟩,fun _=>rfl⟩
 ·rw [if_neg h5]; exact ⟨fun h=>absurd h (by decide),fun h=>absurd h.2.2.2.2 h5⟩
theorem U7 {a b:PV} {f:FV} {e e':Rat} (h:JK a b f e=0) (he:e≤e'):JK a b (Ql a b f e') e'=0:=by
 obtain ⟨h1,h2,h3,⟨h4,h5,h6⟩,h7⟩:=(FP a b f e).1 h
 rw [FP]
 refine ⟨h1,h2,h3,⟨F4 h4 he,rfl,rfl⟩,?_⟩
 unfold Zz at *
 have hm:CC (Ql a b f e')=CC f:=by
  rw [iq h4 he]; unfold CC Ql; simp only [h5,h6]
 rw [hm]
 show FK (Ki a KI v0) (Ki b f.turn (CC f)) (-e')=true
 exact Ym h7 (by grind)
theorem PW {a b:PV} {e:Rat} {f:FV} (h:f∈BZ a b e) (ha:0<a.rim.length) (hb:0<b.rim.length):JK a b f e=0:=by
 obtain ⟨i,j,k,t,hi,hj,k0,kn,km,hp,ht,ho,rfl⟩:=(Dx a b e f ha hb).1 h
 unfold Hw at ho
 rw [Bool.and_eq_true] at ho
 obtain ⟨o1,o2⟩:=ho
 rw [AE] at ht
 obtain ⟨k',q1,q2,q3⟩:=ht
 rw [FP]
 refine ⟨?_,hp,⟨k',?_,q2,q3⟩,⟨o1,rfl,rfl⟩,o2⟩
 ·show (0≤(i:Int)∧(i:Int)<a.rim.length)∧(0≤(j:Int)∧(j:Int)<b.rim.length)∧1≤(k:Int)∧(k:Int)<a.rim.length∧(k:Int)<b.rim.length
  omega
 ·show k'<((k:Nat):Int).toNat
  omega
theorem im {a b ca cb:PV} {f:FV} {ta tb sa sb:Rat} (h:JK a b f (ta+tb)=0) (h1:a=Bf a ca∧ta≤sa) (h2:b=Bf b cb∧tb≤sb):DO a b f ca cb ta tb sa sb=(Ql ca cb f (sa+sb),0):=by
 unfold DO; rw [if_pos ⟨h1,h2⟩,if_pos h]
theorem PR {p:PV} (hp:p.small) (id home:Int) {a q:Rat} (ha:qb a≤10000) (hq:qb q≤10000):(Ad p id home (a+q)).small:=by
 have h1:=RQ.of_sz (a+q)
 have h2:=Jy a q
 exact ⟨hp.rim,hp.worn,hp.marks,by show (RQ.of (a+q)).sz≤_; omega,hp.light,hp.heavy,hp.strength,hp.rough⟩
theorem GP.cast {p:PV} {t:Rat} (h:GP p t) (q:Rat) (hq:qb (t+q)≤20) (i o:Int):GP (Ad p i o (t+q)) (t+q):=⟨⟨h.even.rim,h.even.worn,h.even.marks,h.even.near⟩,h.poly,rfl,hq⟩
theorem PQ (p:PV) (i o:Int) (t:Rat):(Ad p i o t).alike p:=⟨rfl,rfl,rfl⟩
def Ig (n:Int):Rat:=Rat.divInt (Jj n 6) 4
theorem I0 (n:Int):0≤Ig n:=by
 have h:=AG n 6 (by omega)
 unfold Ig
 generalize Jj n 6=k at *
 rcases (show k=0∨k=1∨k=2∨k=3∨k=4∨k=5 by omega) with rfl | rfl | rfl | rfl | rfl | rfl <;> decide +kernel
theorem Va (n:Int):qb (Ig n)≤3:=by
 have h:=AG n 6 (by omega)
 exact D7 _ _ ⟨by omega,by omega⟩ ⟨by omega,by omega⟩
theorem N5 {p:PV} {t:Rat} (h:GP p t) (hs:p.small) (hq:qb t≤12) (n:Int) (hn:ZA n) :
  Fn Tryz.prog 23 [Qf p,I n] (Qf (EP p t n))∧GP (EP p t n) (t+Ig n)∧(EP p t n).small∧(EP p t n).alike p∧Bf p (EP p t n)=p∧qb (t+Ig n)≤qb t+4:=by
 have h3:=Va n
 have h4:=Jy t (Ig n)
 refine ⟨YN p n hn h.tol (by omega),h.cast _ (show qb (t+Ig n)≤20 by omega) _ _,PR hs _ _ (by omega) (show qb (Ig n)≤10000 by omega),PQ _ _ _ _,?_,by omega⟩
 unfold Bf EP Ad
 have:=h.tol
 cases p; rfl
theorem W1 (R:List (Int×Int)) (l:List Int) (p:Nat) (hn:J0 R) (hp:XO (XB R)):GP (Zp R l p) (Rat.divInt (Ab.atF l (p+1:Nat) 3) 4)∧(Zp R l p).small∧qb (Rat.divInt (Ab.atF l (p+1:Nat) 3) 4)≤3:=by
 have b1:=Q1 l (p+1:Nat) 3 (by omega)
 have b2:=Q1 l p 3 (by omega)
 have q:=D7 (Ab.atF l (p+1:Nat) 3) 4 ⟨by omega,by omega⟩ ⟨by omega,by omega⟩
 have hl:R.length≤12:=by have:=hp.1; simp [XB] at this; omega
 have z:=fun (n m:Int) (h1:ZA n) (h2:ZA m)=>E7 n m h1 h2
 refine ⟨⟨⟨by show R.length<_; omega,by simp [Zp],by simp [Zp],hn⟩,hp,rfl,by omega⟩,⟨by show R.length<_; omega,by simp [Zp]; omega,by simp [Zp]; omega,?_,?_,?_,?_,?_⟩,q⟩
 ·exact Nat.le_trans (z (Ab.atF l (p+1:Nat) 3) 4 ⟨by omega,by omega⟩ ⟨by omega,by omega⟩) (by omega)
 ·exact Nat.le_trans (z 1 1 ⟨by omega,by omega⟩ ⟨by omega,by omega⟩) (by omega)
 ·exact Nat.le_trans (z (1+Ab.atF l p 3) 1 ⟨by omega,by omega⟩ ⟨by omega,by omega⟩) (by omega)
 ·exact Nat.le_trans (z 100 1 ⟨by omega,by omega⟩ ⟨by omega,by omega⟩) (by omega)
 ·exact Nat.le_trans (z 1 2 ⟨by omega,by omega⟩ ⟨by omega,by omega⟩) (by omega)
end
end Go.Ab.N
