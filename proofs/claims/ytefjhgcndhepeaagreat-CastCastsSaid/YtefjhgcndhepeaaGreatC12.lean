/- Contracts of functions of these chapters, for every argument that fits, and what they need. -/
import Derived.Test.YtefjhgcndhepeaaGreatC11
import Derived.Test.YtefjhgcndhepeaaGreatC6
import Derived.Test.YtefjhgcndhepeaaGreatC7
set_option linter.unusedSimpArgs false
set_option linter.unusedVariables false
open Nat renaming reducePow → Y1, reduceLT → Y2, reduceLeDiff → Y3, reduceEqDiff → Y4, reduceAdd → Y5, reduceMul → Y6, reduceSub → Y7, reduceBEq → Y8, reduceDiv → Y9, reduceMod → YA
namespace Go.Ab.N
open Go Go.RowKit Go.Proofs
noncomputable section
set_option maxRecDepth 10000
set_option maxHeartbeats 4000000
open Classical
def EV (t:V2):List V2→List V2
 | []=>[t]
 | x :: l=>if Tc t x then t :: x :: l else x :: EV t l
def W6 (t:V2) (l:List V2):List V2:=if t∈l then l else EV t l
def JO (a b:PV) (f:FV):Nat→List V2
 | 0=>[]
 | k+1=>if (EJ a b f k).2=true then W6 (EJ a b f k).1 (JO a b f k) else JO a b f k
def Ac (t:V2) (w:List V2×Bool) (x:V2):List V2×Bool:=if w.2=false∧Tc t x then (w.1 ++ [t] ++ [x],true) else (w.1 ++ [x],w.2)
def Kv (t:V2) (w:List V2×Bool) (l:List V2):List V2×Bool:=l.foldl (Ac t) w
theorem IV (t:V2):∀ (l A:List V2),Kv t (A,true) l=(A ++ l,true)
 | [],A=>by simp [Kv]
 | x :: l,A=>by
  show Kv t (Ac t (A,true) x) l=_
  have:Ac t (A,true) x=(A ++ [x],true):=by unfold Ac; rw [if_neg (by simp)]
  rw [this,IV t l]; simp
theorem MI (t:V2):∀ (l A:List V2),(if (Kv t (A,false) l).2=true then (Kv t (A,false) l).1 else (Kv t (A,false) l).1 ++ [t])=A ++ EV t l
 | [],A=>by simp [Kv,EV]
 | x :: l,A=>by
  show (if (Kv t (Ac t (A,false) x) l).2=true then (Kv t (Ac t (A,false) x) l).1 else (Kv t (Ac t (A,false) x) l).1 ++ [t])=A ++ EV t (x :: l)
  by_cases h:Tc t x
  ·have:Ac t (A,false) x=(A ++ [t] ++ [x],true):=by unfold Ac; rw [if_pos ⟨rfl,h⟩]
   rw [this,IV]
   simp [EV,h]
  ·have:Ac t (A,false) x=(A ++ [x],false):=by unfold Ac; rw [if_neg (by simp [h])]
   rw [this,MI t l]
   simp [EV,h]
theorem PP (t x:V2):∀ l,x∈EV t l↔x=t∨x∈l
 | []=>by simp [EV]
 | y :: l=>by
  have ih:=PP t x l
  unfold EV
  split
  ·simp
  ·rw [List.mem_cons,ih,List.mem_cons]
   constructor
   ·rintro (h | h | h)
    ·exact .inr (.inl h)
    ·exact .inl h
    ·exact .inr (.inr h)
   ·rintro (h | h | h)
    ·exact .inr (.inl h)
    ·exact .inl h
    ·exact .inr (.inr h)
theorem PO (t:V2):∀ l,(EV t l).length=l.length+1
 | []=>rfl
 | y :: l=>by
  have ih:=PO t l
  unfold EV
  split
  ·simp
  ·simp [ih]
theorem bJ (t x:V2) (l:List V2):x∈W6 t l↔x=t∨x∈l:=by
 unfold W6
 split
 ·rename_i h
  exact ⟨fun hx=>.inr hx,fun hx=>by rcases hx with rfl | hx; exact h; exact hx⟩
 ·exact PP t x l
theorem Fa (a b:PV) (f:FV) (t:V2):∀ n,t∈JO a b f n↔∃ k,k<n∧(EJ a b f k).2=true∧(EJ a b f k).1=t
 | 0=>by simp [JO]
 | n+1=>by
  have ih:=Fa a b f t n
  unfold JO
  split
  ·rename_i h
   rw [bJ,ih]
   constructor
   ·rintro (h1 | ⟨k,h1,h2⟩)
    ·exact ⟨n,by omega,h,h1.symm⟩
    ·exact ⟨k,by omega,h2⟩
   ·rintro ⟨k,h1,h2,h3⟩
    by_cases hk:k=n
    ·subst hk; exact .inl h3.symm
    ·exact .inr ⟨k,by omega,h2,h3⟩
  ·rename_i h
   rw [ih]
   constructor
   ·rintro ⟨k,h1,h2⟩; exact ⟨k,by omega,h2⟩
   ·rintro ⟨k,h1,h2,h3⟩
    by_cases hk:k=n
    ·subst hk; exact absurd h2 h
    ·exact ⟨k,by omega,h2,h3⟩
theorem CW (a b:PV) (f:FV):∀ n,(JO a b f n).length≤n
 | 0=>Nat.le_refl _
 | n+1=>by
  have ih:=CW a b f n
  unfold JO W6
  split
  ·split
   ·omega
   ·rw [PO]; omega
  ·omega
theorem CX (a b:PV) (f:FV) (ha:QU a.rim) (hb:QU b.rim) (n:Nat):∀ t∈JO a b f n,vb t≤26:=fun t ht=>by
 obtain ⟨k,_,_,h⟩:=(Fa a b f t n).1 ht
 rw [← h]; exact B8 ha hb _ _
theorem Sl {H:List AO} {id ver n:Nat} {L:List V2} (ho:H[id]?=some (.con ver (L.length*8) (XB vC 8 v0 L))) (hn:n=L.length):Zo H (.osl id ver 8 0 n) (Xp L):=by
 subst hn
 rw [X5]
 exact Fb ho (Nat.le_refl _) (fun h=>by rw [h]) fun j hj=>QY _ _
theorem Uc (t:V2) (l:List V2) (i:Nat) (h:i<l.length):Kv t ([],false) (l.take (i+1))=Ac t (Kv t ([],false) (l.take i)) (l.getD i v0):=by
 unfold Kv
 rw [QH l v0 i h,List.foldl_append]; rfl
def R4 (t:V2) (L:List V2) (i:Nat):Bool:=decide (t∈L.take i)
theorem Yo (t:V2) (L:List V2) (i:Nat) (h:i<L.length):R4 t L (i+1)=(R4 t L i || decide (L.getD i v0=t)):=by
 unfold R4
 rw [QH L v0 i h,Bool.eq_iff_iff,Bool.or_eq_true,decide_eq_true_iff,decide_eq_true_iff,decide_eq_true_iff,List.mem_append,List.mem_singleton]
 exact ⟨fun h=>h.imp id Eq.symm,fun h=>h.imp id Eq.symm⟩
theorem ir (a b:PV) (f:FV) (hf:C9 a.rim.length b.rim.length f) (ha:a.even) (hb:b.even):Fn Tryz.prog 190 [Q3 a,Q3 b,Kt f] (Xp (JO a b f f.M.toNat)):=by
 obtain ⟨⟨s1,s2⟩,⟨s3,s4⟩,s5,s6,s7⟩:=hf
 obtain ⟨N,hN⟩:∃ N:Nat,f.M=N:=⟨f.M.toNat,by omega⟩
 have la:=ha.rim; have lb:=hb.rim
 rw [hN,Int.toNat_natCast]
 have ba:XI 3 (.con 0 25 (Xq (XC a)))=True:=eq_true (fun j _=>X6 (Xg (XF a) j))
 have bb:XI 3 (.con 0 25 (Xq (XC b)))=True:=eq_true (fun j _=>X6 (Xg (XF b) j))
 have bf:XI 3 (.con 0 29 (Xq (Qg f)))=True:=eq_true (fun j _=>X6 (Xg (Qt f) j))
 have bvd:∀ l:List V2,Jj 3 (.sl l.length (l.length*8) (XB vC 8 v0 l) false)=True:=fun l=>eq_true (X6 (Xd l))
 have bv:∀ l,Jj 3 (Xp l)=True:=fun l=>eq_true (X6 (Xd l))
 refine Fq Tryz.call190 Tryz.func190 15 [] [5,60000003,60000004,60000005,13,140000009,14] [] (by simp [Xu,XK]) (X1 1000 ?_)
 simp (disch:=omega) only [AS.start,Q3,XC,Kt,Qg,↓Xt,wD,↓X2,wA,seval,wE]
 refine Xe (fun k:Nat=>⟨15,[],[.any,.any,.any,.ref 0 0 0,.ref 1 0 0,.ref 2 0 0,.any,Xp (JO a b f k),I k,.any,.any,.any,.any,.any,.any],[],[.con 0 25 (Xq (XC a)),.con 0 25 (Xq (XC b)),.con 0 29 (Xq (Qg f))]⟩) (fun k=>k≤N) (fun k=>N - k) 0 (by omega)
  (Sub.trans (Qp 0 rfl) (Sub.trans (Qp 1 rfl) (Sub.trans (Qp 2 rfl) (Sub.trans (LH 7 (Xp []) (by show 7<15; omega) (by rw [X5]; exact Oz (Nat.le_refl _) (fun j hj=>absurd hj (Nat.not_lt_zero j)))) (Xa rfl (by simp [Xh,JO,I]) (by simp [Xi]) (by simp [XC,Qg,Xf,Xl,X4,I,sg])))))) ?_
 intro k hk next
 by_cases hk2:k<N
 rotate_left
 ·obtain rfl:k=N:=by omega
  refine X1 1000 ?_
  simp (disch:=omega) only [XC,Qg,X5,↓Xt,wD,↓X2,wA,seval,wE]
  exact Xs (v:=Xp (JO a b f k)) rfl rfl (Xd _) rfl
 have c1:=Qj (f.EA+(k:Int)) a.rim.length (by omega) (by omega) (by omega)
 have c2:=Qj (f.EB - (k:Int)) b.rim.length (by omega) (by omega) (by omega)
 rw [Hz _ _ _ (by omega)] at c1
 rw [Ns _ _ _ (by omega)] at c2
 have ca:=Li a b (xK a.rim.length f k) (yK b.rim.length f k) la lb ha.near hb.near
 have hsm:=B8 ha.near hb.near (xK a.rim.length f k) (yK b.rim.length f k)
 rw [show J4 a.rim b.rim (xK a.rim.length f k) (yK b.rim.length f k)=EJ a b f k from rfl] at ca hsm
 have nx:=next (k+1)
 have htn:JO a b f (k+1)=if (EJ a b f k).2=true then W6 (EJ a b f k).1 (JO a b f k) else JO a b f k:=rfl
 rw [htn] at nx
 have hts:=CX a b f ha.near hb.near k
 have htl:=CW a b f k
 generalize EJ a b f k=X at *
 generalize JO a b f k=L at *
 obtain ⟨t,ok⟩:=X
 refine X1 1000 ?_
 simp (disch:=omega) only [XC,Qg,Xf,↓Xt,wD,↓X2,wA,seval,wE]
 refine X0 c1 rfl ?_
 simp (disch:=omega) only [XC,Qg,Xf,↓Xt,wD,↓X2,wA,seval,wE]
 refine X0 c2 rfl ?_
 simp (disch:=omega) only [XC,Qg,Xf,↓Xt,wD,↓X2,wA,seval,wE]
 refine X0 ca rfl ?_
 cases ok with
 | false =>
  simp (disch:=omega) only [↓Xt,wD,↓X2,wA,seval,wE]
  exact nx _ (by omega) (by omega) (Xy (m:=3) (Nat.zero_le _) rfl (by simp [Xh,I]) (by simp [Xi]) (by simp [XC,Qg,Xf,Xl,X4,I,sg]) (by simp [Xx,bv]) (by simp [Xx]) (by simp [ba,bb,bf]))
 | true =>
  simp (disch:=omega) only [↓Xt,wD,↓X2,wA,seval,wE]
  refine Xe (fun i:Nat=>⟨15,[],[.any,.any,.any,.ref 0 0 0,.ref 1 0 0,.ref 2 0 0,.any,Xp L,I k,.ref 3 0 0,.any,.osl 4 (Kv t ([],false) (L.take i)).1.length 8 0 (Kv t ([],false) (L.take i)).1.length,.bool (R4 t L i),.bool (Kv t ([],false) (L.take i)).2,I i],[],
   [.con 0 25 (Xq (XC a)),.con 0 25 (Xq (XC b)),.con 0 29 (Xq (Qg f)),.con 0 8 (Xq (vC t)),.row (Kv t ([],false) (L.take i)).1.length ((Kv t ([],false) (L.take i)).1.length*8) (XB vC 8 v0 (Kv t ([],false) (L.take i)).1)]⟩) (fun i=>i≤L.length∧(Kv t ([],false) (L.take i)).1.length≤2*i) (fun i=>L.length - i) 0 ⟨by omega,by simp [Kv]⟩
   (Sub.trans (Qp 3 rfl) (Sub.trans (Q7 11 8 (XB vC 8 v0 []) rfl) (Xa rfl (by simp [AS.put,Xh,Kv,R4,I]) (by simp [AS.put,Xi]) (by simp [AS.put,XC,Qg,vC,qC,Xf,Xl,X4,Kv,I,sg])))) ?_
  rintro i ⟨hi,hle⟩ next2
  by_cases hi2:i<L.length
  rotate_left
  ·obtain rfl:i=L.length:=by omega
   have hB:R4 t L L.length=decide (t∈L):=by unfold R4; rw [List.take_length]
   rw [hB]
   rw [List.take_length] at *
   have hins:=MI t L []
   rw [List.nil_append] at hins
   generalize Kv t ([],false) L=W at *
   obtain ⟨A,put⟩:=W
   simp only at hle hins
   simp only [if_true] at nx
   unfold W6 at nx
   have hapt:=XQ vC 8 v0 A t (by omega)
   have hl1:(A ++ [t]).length=A.length+1:=by simp
   by_cases hm:t∈L
   ·rw [if_pos hm] at nx
    cases put
    all_goals
     refine X1 1000 ?_
     simp (disch:=omega) only [X5,vC,qC,decide_eq_true hm,Bool.not_true,Bool.not_false,↓Xt,wD,↓X2,wA,seval,wE]
    refine ⟨Z9 t,?_⟩
    all_goals
     exact nx _ (by omega) (by omega) (Xy (m:=3) (Nat.zero_le _) rfl (by simp [Xh,X5,I]) (by simp [Xi]) (by simp) (by simp [Xx,bv,bvd]) (by simp [Xx]) (by simp [ba,bb,bf]))
   ·rw [if_neg hm] at nx
    have key:∀ (s:AS) (M:List V2),M=EV t L→Sub 0 s ⟨15,[],[.any,.any,.any,.ref 0 0 0,.ref 1 0 0,.ref 2 0 0,.any,.osl 4 M.length 8 0 M.length,I (k+1:Nat),.any,.any,.any,.any,.any,.any],[],[.con 0 25 (Xq (XC a)),.con 0 25 (Xq (XC b)),.con 0 29 (Xq (Qg f)),.con 0 8 (Xq (vC t)),.row M.length (M.length*8) (XB vC 8 v0 M)]⟩→Sub 0 s
      ⟨15,[],[.any,.any,.any,.ref 0 0 0,.ref 1 0 0,.ref 2 0 0,.any,Xp (EV t L),I (k+1:Nat),.any,.any,.any,.any,.any,.any],[],[.con 0 25 (Xq (XC a)),.con 0 25 (Xq (XC b)),.con 0 29 (Xq (Qg f))]⟩:=fun s M hM h=>by
     subst hM
     exact h.trans <| Sub.trans (Qp 4 rfl) (Sub.trans (CU 7 (Xp (EV t L)) (by show 7<15; omega) (Sl rfl rfl)) (Xy (m:=3) (Nat.zero_le _) rfl (by simp [Xh]) (by simp [Xi]) (by simp) (by simp [Xx,bv]) (by simp [Xx]) (by simp [ba,bb,bf])))
    cases put
    all_goals
     refine X1 1000 ?_
     simp (disch:=omega) only [X5,vC,qC,decide_eq_false hm,Bool.not_true,Bool.not_false,↓Xt,wD,↓X2,wA,seval,wE]
    ·exact ⟨Z9 t,nx _ (by omega) (by omega) (key _ (A ++ [t]) hins (Xa rfl (by simp [Xh,X5,I,hl1]) (by simp [Xi]) (by rw [← hapt,hl1]; rfl)))⟩
    ·exact nx _ (by omega) (by omega) (key _ A hins (Xa rfl (by simp [Xh,X5,I]) (by simp [Xi]) rfl))
  have ct:=BD (L.getD i v0) t (by have:=hts (L.getD i v0) (Kb hi2); unfold vm; omega) (by simp only at hsm; unfold vm; omega)
  have cb:=Wr t (L.getD i v0) (by simp only at hsm; unfold vm; omega) (by have:=hts (L.getD i v0) (Kb hi2); unfold vm; omega)
  have nx2:=next2 (i+1)
  rw [Uc t L i hi2,Yo t L i hi2] at nx2
  have v1:=vF L i
  generalize L.getD i v0=x at *
  generalize Kv t ([],false) (L.take i)=W at *
  obtain ⟨A,put⟩:=W
  simp only at hle
  generalize R4 t L i=tw at *
  have hap1:=XQ vC 8 v0 A x (by omega)
  have hap2:=XQ vC 8 v0 A t (by omega)
  have hap3:=XQ vC 8 v0 (A ++ [t]) x (by omega)
  have hl1:(A ++ [t]).length=A.length+1:=by simp
  rw [hl1] at hap3
  have hl2:(A ++ [t] ++ [x]).length=A.length+1+1:=by simp
  have hl3:(A ++ [x]).length=A.length+1:=by simp
  refine X1 1000 ?_
  cases tw
  simp (disch:=omega) only [X5,vC,qC,v1,↓Xt,wD,↓X2,wA,seval,wE]
  refine X0 ct rfl ?_
  by_cases hx:x=t
  simp (disch:=omega) only [X5,vC,qC,v1,decide_eq_true hx,↓Xt,wD,↓X2,wA,seval,wE]
  rotate_left
  simp (disch:=omega) only [X5,vC,qC,v1,decide_eq_false hx,↓Xt,wD,↓X2,wA,seval,wE]
  rotate_left
  simp (disch:=omega) only [X5,vC,qC,v1,↓Xt,wD,↓X2,wA,seval,wE]
  all_goals
   cases put
   ·simp (disch:=omega) only [X5,vC,qC,v1,Bool.not_false,↓Xt,wD,↓X2,wA,seval,wE]
    refine X0 cb rfl ?_
    by_cases hb:Tc t x
    ·have hs:Ac t (A,false) x=(A ++ [t] ++ [x],true):=by unfold Ac; rw [if_pos ⟨rfl,hb⟩]
     rw [hs,hl2] at nx2
     simp (disch:=omega) only [X5,vC,qC,v1,decide_eq_true hb,↓Xt,wD,↓X2,wA,seval,wE]
     exact ⟨Z9 t,Z9 x,nx2 _ ⟨by omega,by omega⟩ (by omega) (Xa rfl (by first | simp [Xh,X5,hx,I] | simp [Xh,X5,I]) (by simp [Xi]) (by rw [← hap3,← hap2]; rfl))⟩
    ·have hs:Ac t (A,false) x=(A ++ [x],false):=by unfold Ac; rw [if_neg (fun h=>hb h.2)]
     rw [hs,hl3] at nx2
     simp (disch:=omega) only [X5,vC,qC,v1,decide_eq_false hb,↓Xt,wD,↓X2,wA,seval,wE]
     exact ⟨Z9 x,nx2 _ ⟨by omega,by omega⟩ (by omega) (Xa rfl (by first | simp [Xh,X5,hx,I] | simp [Xh,X5,I]) (by simp [Xi]) (by rw [← hap1]; rfl))⟩
   ·have hs:Ac t (A,true) x=(A ++ [x],true):=by unfold Ac; rw [if_neg (fun h=>Bool.noConfusion h.1)]
    rw [hs,hl3] at nx2
    simp (disch:=omega) only [X5,vC,qC,v1,Bool.not_true,↓Xt,wD,↓X2,wA,seval,wE]
    exact ⟨Z9 x,nx2 _ ⟨by omega,by omega⟩ (by omega) (Xa rfl (by first | simp [Xh,X5,hx,I] | simp [Xh,X5,I]) (by simp [Xi]) (by rw [← hap1]; rfl))⟩
def qX (l:List FV):AV:=qz Qg 29 D9 l
theorem JH (l:List FV):qX l=.sl l.length (l.length*29) (XB Qg 29 D9 l) false:=nrfl rfl
def Km (i j k:Nat) (t:V2):FV:=⟨0,1,i,j,k,t,v0,v0⟩
def IP (a b:PV) (e:Rat) (i j k:Nat) (t:V2):Bool:=(XL a.rim b.rim (Km i j k t) e).2.2 && Zr a b (Qy a b (Km i j k t) e) e
def B0 (a b:PV) (e:Rat) (i j k:Nat) (L:List V2):List FV:=(L.filter (IP a b e i j k)).map fun t=>Qy a b (Km i j k t) e
def IQ (a b:PV) (e:Rat) (i j k:Nat):List FV:=if FM a b (Km i j k v0) then B0 a b e i j k (JO a b (Km i j k v0) k) else []
def AJ (a b:PV) (e:Rat) (i j:Nat):Nat→List FV
 | 0=>[]
 | k+1=>AJ a b e i j k ++ IQ a b e i j (k+1)
def Aa (a b:PV) (e:Rat) (i:Nat):Nat→List FV
 | 0=>[]
 | j+1=>Aa a b e i j ++ AJ a b e i j (min a.rim.length b.rim.length - 1)
def ZA (a b:PV) (e:Rat):Nat→List FV
 | 0=>[]
 | i+1=>ZA a b e i ++ Aa a b e i b.rim.length
def NK (a b:PV) (e:Rat):List FV:=ZA a b e a.rim.length
theorem Tw (a b:PV) (e:Rat) (i j k:Nat) (L:List V2) (n:Nat) (h:n<L.length):B0 a b e i j k (L.take (n+1))=B0 a b e i j k (L.take n) ++ (if IP a b e i j k (L.getD n v0)=true then [Qy a b (Km i j k (L.getD n v0)) e] else []):=by
 unfold B0
 rw [QH L v0 n h,List.filter_append,List.map_append]
 congr 1
 by_cases hq:IP a b e i j k (L.getD n v0)=true
 ·rw [if_pos hq,List.filter_cons_of_pos hq]; rfl
 ·rw [if_neg hq,List.filter_cons_of_neg hq]; rfl
theorem MG (a b:PV) (e:Rat) (i j k:Nat) (L:List V2):(B0 a b e i j k L).length≤L.length:=by
 unfold B0; rw [List.length_map]; exact List.length_filter_le _ _
theorem qf {l:List AV} (h:∀ x∈l,x.one=true):∀ j,j<l.length→(l.getD j .any).one=true:=fun j hj=>by
 rw [List.getD_eq_getElem?_getD,List.getElem?_eq_getElem hj]; exact h _ (List.getElem_mem _)
theorem UV (f:FV):∀ j,j<29→((Qg f).getD j .any).one=true:=qf (l:=Qg f) (by simp [Qg,AV.one,X4,I])
theorem UW {P:Program} {fn:Func} {str hcs:List Nat} {s:AS} {t id ver:Nat} (L:List FV) (hr:fn.results=#[.tmp t]) (hs:s.get t=.osl id ver 29 0 L.length) (ho:s.h[id]?=some (.row ver (L.length*29) (XB Qg 29 D9 L))):RetOk (Qn P fn str hcs (qX L)) s:=by
 refine AR hr ?_
 rw [hs,JH]
 refine Qv (.inl ho) (by omega) (fun h=>by rw [h]) fun j hj=>?_
 rw [Nat.zero_add]
 exact (Xg (Qt _) _).sees _
theorem S9 {m:Nat} {s:AS} (id:Nat) {ver n:Nat} {l:List AV} (l':List AV) (ho:s.h[id]?=some (.row ver n (Xq l))) (hn:n=l.length) (h:WeakL l l'):Sub m s { s with h:=s.h.set id (.row ver n (Xq l')) } :=
 A3 id (Xq l') ho fun j hj c v _ _ hv=>(WeakL.spec h).2 j (by omega) v hv
theorem am (i j k:Nat):WeakL ([I 0,I 1,I i,I j,I k] ++ (Ae ++ (Ae ++ Ae))) (Qg (Km i j k v0)):=by
 obtain ⟨w1,w2,w3,w4,w5,w6,w7,w8,_⟩:=Z0
 exact ⟨Weak.rfl' _,Weak.rfl' _,Weak.rfl' _,Weak.rfl' _,Weak.rfl' _,w1,w2,w3,w4,w5,w6,w7,w8,w1,w2,w3,w4,w5,w6,w7,w8,w1,w2,w3,w4,w5,w6,w7,w8,trivial⟩
def QV (a b:PV) (D:List FV) (x6 x7 x8 x9 x10 x11:AV) (r:List AO):AS:=⟨15,[],[.any,.any,.ref 0 0 0,.ref 1 0 0,.any,.osl 2 D.length 29 0 D.length,x6,x7,x8,x9,x10,x11,.any,.any,.any],[],[.row 0 25 (Xq (XC a)),.row 0 25 (Xq (XC b)),.row D.length (D.length*29) (XB Qg 29 D9 D)] ++ r⟩
theorem TW (a b:PV) {ta tb:Rat} (ha:GP a ta) (hb:GP b tb):Fn Tryz.prog 109 [Q3 a,Q3 b] (qX (NK a b (ta+tb))):=by
 have la:=(Kd _ ha.poly).1
 have lb:=(Kd _ hb.poly).1
 have ea:(Xz a.rim).length=a.rim.length:=by simp [Xz]
 have eb:(Xz b.rim).length=b.rim.length:=by simp [Xz]
 rw [ea] at la
 rw [eb] at lb
 have qa:=ha.qt; have q2:=hb.qt
 have qe:=Jq ta tb
 generalize hT:ta+tb=e at *
 have ba:XI 3 (.row 0 25 (Xq (XC a)))=True:=eq_true (XG (XF a))
 have bb:XI 3 (.row 0 25 (Xq (XC b)))=True:=eq_true (XG (XF b))
 have bd:∀ v n l,XI 3 (.row v n (XB Qg 29 D9 l))=True:=fun v n l=>eq_true fun j _=>X6 (Xg (Qt _) _)
 refine Fq Tryz.call109 Tryz.func109 15 [] [] [] (by simp [Xu]) (X1 1000 ?_)
 simp (disch:=omega) only [AS.start,Q3,XC,↓Xt,wD,↓X2,wA,seval,wE]
 refine Xe (fun i:Nat=>QV a b (ZA a b e i) (I i) .any .any .any .any .any []) (fun i=>i≤a.rim.length∧(ZA a b e i).length≤2000*i) (fun i=>a.rim.length - i) 0 ⟨by omega,by simp [ZA]⟩
  (Sub.trans (Q7 5 29 (XB Qg 29 D9 []) rfl) (Xa rfl (by simp [AS.put,Xh,QV,ZA,I]) (by simp [AS.put,Xi,QV]) (by simp [AS.put,QV,XC,Xf,Xl,X4,ZA,I]))) ?_
 rintro i ⟨hi,hil⟩ next
 by_cases hi2:i<a.rim.length
 rotate_left
 ·obtain rfl:i=a.rim.length:=by omega
  refine X1 1000 ?_
  simp (disch:=omega) only [QV,XC,Xf,List.cons_append,List.nil_append,↓Xt,wD,↓X2,wA,seval,wE]
  exact UW _ rfl rfl rfl
 refine X1 1000 ?_
 simp (disch:=omega) only [QV,XC,Xf,List.cons_append,List.nil_append,↓Xt,wD,↓X2,wA,seval,wE]
 refine Xe (fun j:Nat=>QV a b (ZA a b e i ++ Aa a b e i j) (I i) (I j) .any .any .any .any []) (fun j=>j≤b.rim.length∧(ZA a b e i ++ Aa a b e i j).length≤2000*i+150*j) (fun j=>b.rim.length - j) 0 ⟨by omega,by simpa [Aa] using hil⟩
  (Xa rfl (by simp [Xh,QV,Aa,I]) (by simp [Xi,QV]) (by simp [QV,XC,Xf,Xl,X4,Aa,I])) ?_
 rintro j ⟨hj,hjl⟩ nextj
 by_cases hj2:j<b.rim.length
 rotate_left
 ·obtain rfl:j=b.rim.length:=by omega
  refine X1 1000 ?_
  simp (disch:=omega) only [QV,XC,Xf,List.cons_append,List.nil_append,↓Xt,wD,↓X2,wA,seval,wE]
  exact next (i+1) _ ⟨by omega,by show (ZA a b e i ++ Aa a b e i b.rim.length).length≤_; omega⟩ (by omega) (Xa rfl (by simp [Xh,QV,ZA,I]) (by simp [Xi,QV]) (by simp [QV,XC,Xf,Xl,X4,ZA,I]))
 generalize hA:ZA a b e i ++ Aa a b e i j=A at *
 refine X1 1000 ?_
 simp (disch:=omega) only [QV,XC,Xf,List.cons_append,List.nil_append,↓Xt,wD,↓X2,wA,seval,wE]
 refine Xe (fun k:Nat=>QV a b (A ++ AJ a b e i j k) (I i) (I j) (I (k+1:Nat)) .any .any .any []) (fun k=>k≤min a.rim.length b.rim.length - 1∧(A ++ AJ a b e i j k).length≤2000*i+150*j+12*k) (fun k=>min a.rim.length b.rim.length - k) 0 ⟨by omega,by simpa [AJ] using hjl⟩
  (Xa rfl (by simp [Xh,QV,AJ,I]) (by simp [Xi,QV]) (by simp [QV,XC,Xf,Xl,X4,AJ,I])) ?_
 rintro k ⟨hk,hkl⟩ nextk
 by_cases hk2:k+1<a.rim.length∧k+1<b.rim.length
 rotate_left
 ·have hke:k=min a.rim.length b.rim.length - 1:=by omega
  by_cases hn:k+1<a.rim.length
  all_goals
   refine X1 1000 ?_
   simp (disch:=omega) only [QV,XC,Xf,List.cons_append,List.nil_append,↓Xt,wD,↓X2,wA,seval,wE]
   subst hke
   exact nextj (j+1) _ ⟨by omega,by
    have e1:ZA a b e i ++ Aa a b e i (j+1)=A ++ AJ a b e i j (min a.rim.length b.rim.length - 1):=by rw [← hA,List.append_assoc]; rfl
    rw [e1]; omega⟩ (by omega) (Xa rfl (by simp [Xh,QV,Aa,hA.symm,I]) (by simp [Xi,QV]) (by simp [QV,XC,Xf,Xl,X4,Aa,hA.symm,I]))
 have hlk:AJ a b e i j (k+1)=AJ a b e i j k ++ IQ a b e i j (k+1):=rfl
 have nx:=nextk (k+1)
 rw [hlk,← List.append_assoc] at nx
 generalize A ++ AJ a b e i j k=A2 at *
 have hst:∀ t lo hi,C9 a.rim.length b.rim.length ⟨0,1,i,j,(k+1:Nat),t,lo,hi⟩:=fun t lo hi=>⟨⟨by show (0:Int)≤i; omega,by show (i:Int)<_; omega⟩,⟨by show (0:Int)≤j; omega,by show (j:Int)<_; omega⟩,by show (1:Int)≤((k+1:Nat):Int); omega,by show ((k+1:Nat):Int)<_; omega,by show ((k+1:Nat):Int)<_; omega⟩
 have cp:=G6 a b (Km i j (k+1) v0) (hst _ _ _) ha.even hb.even
 have ct:=ir a b (Km i j (k+1) v0) (hst _ _ _) ha.even hb.even
 change Fn _ _ _ (Xp (JO a b (Km i j (k+1) v0) (k+1))) at ct
 have hsm:=CX a b (Km i j (k+1) v0) ha.even.near hb.even.near (k+1)
 have hlen:=CW a b (Km i j (k+1) v0) (k+1)
 have hfk:IQ a b e i j (k+1)=if FM a b (Km i j (k+1) v0) then B0 a b e i j (k+1) (JO a b (Km i j (k+1) v0) (k+1)) else []:=rfl
 have hfl:=MG a b e i j (k+1) (JO a b (Km i j (k+1) v0) (k+1))
 rw [hfk] at nx
 generalize JO a b (Km i j (k+1) v0) (k+1)=L at *
 have wf:=am i j (k+1)
 refine X1 1000 ?_
 simp (disch:=omega) only [QV,XC,Xf,List.cons_append,List.nil_append,↓Xt,wD,↓X2,wA,seval,wE]
 refine Qq cp ⟨Weak.rfl' _,Weak.rfl' _,XS wf,trivial⟩ ?_
 by_cases hp:FM a b (Km i j (k+1) v0)
 rotate_left
 ·rw [if_neg hp,List.append_nil] at nx
  simp (disch:=omega) only [decide_eq_false hp,↓Xt,wD,↓X2,wA,seval,wE]
  exact nx _ ⟨by omega,by omega⟩ (by omega) (Xy (m:=3) (Nat.zero_le _) rfl (by simp [Xh,QV,I]) (by simp [Xi,QV]) (by simp [QV,XC,Xf,Xl,X4,I]) (by simp [QV,Xx]) (by simp [QV,Xx]) (by simp [QV,ba,bb,bd]))
 rw [if_pos hp] at nx
 simp (disch:=omega) only [decide_eq_true hp,↓Xt,wD,↓X2,wA,seval,wE]
 refine Qq ct ⟨Weak.rfl' _,Weak.rfl' _,XS wf,trivial⟩ ?_
 simp (disch:=omega) only [↓Xt,wD,↓X2,wA,seval,wE]
 refine Xe (fun w:Nat×V2×V2×V2=>QV a b (A2 ++ B0 a b e i j (k+1) (L.take w.1)) (I i) (I j) (I (k+1:Nat)) (.ref 3 0 0) (Xp L) (I w.1) [.row 0 29 (Xq (Qg ⟨0,1,i,j,(k+1:Nat),w.2.1,w.2.2.1,w.2.2.2⟩))]) (fun w=>w.1≤L.length∧(A2 ++ B0 a b e i j (k+1) (L.take w.1)).length≤2000*i+150*j+12*k+w.1) (fun w=>L.length - w.1) (0,v0,v0,v0) ⟨by simp,by simpa [B0] using hkl⟩
  (Sub.trans (S9 3 (Qg (Km i j (k+1) v0)) rfl rfl wf) (Xa rfl (by simp [Xh,QV,B0,I]) (by simp [Xi,QV]) (by simp [QV,XC,Xf,Xl,X4,B0,Km,I]))) ?_
 rintro ⟨t,T,lo,hi'⟩ ⟨ht,htl⟩ nextt
 replace ht:t≤L.length:=ht
 replace htl:(A2 ++ B0 a b e i j (k+1) (L.take t)).length≤2000*i+150*j+12*k+t:=htl
 have bL:Jj 3 (Xp L)=True:=eq_true (X6 (Xd L))
 by_cases ht2:t<L.length
 rotate_left
 ·obtain rfl:t=L.length:=by omega
  rw [List.take_length] at *
  refine X1 1000 ?_
  simp (disch:=omega) only [QV,X5,XC,Xf,List.cons_append,List.nil_append,↓Xt,wD,↓X2,wA,seval,wE]
  exact nx _ ⟨by omega,by omega⟩ (by omega) (Xy (m:=3) (Nat.zero_le _) rfl (by simp [Xh,QV,I]) (by simp [Xi,QV]) (by simp [QV,XC,Xf,Xl,X4,I]) (by simp [QV,Xx]) (by simp [QV,Xx]) (by simp [QV,ba,bb,bd]))
 have hx:=hsm (L.getD t v0) (Kb ht2)
 have htk:=Tw a b e i j (k+1) L t ht2
 have v1:=vF L t
 generalize L.getD t v0=x at *
 have ca:=GH a b ⟨0,1,i,j,(k+1:Nat),x,lo,hi'⟩ ha.even hb.even (by show vb x≤1000; omega) ha.tol hb.tol (by omega) (by omega)
 rw [hT] at ca
 have hag:XL a.rim b.rim ⟨0,1,i,j,(k+1:Nat),x,lo,hi'⟩ e=XL a.rim b.rim (Km i j (k+1) x) e:=rfl
 rw [hag] at ca
 have hfine:(Qy a b (Km i j (k+1) x) e).fine:=by
  obtain ⟨h1,h2⟩:=Ie a b (Km i j (k+1) x) ha.even.near hb.even.near e (by show vb x≤60; omega)
  exact ⟨by show vb x≤60; omega,by show vb (XL a.rim b.rim (Km i j (k+1) x) e).1≤300; omega,by show vb (XL a.rim b.rim (Km i j (k+1) x) e).2.1≤300; omega⟩
 have cc:=Hg a b _ ha hb hfine
 rw [hT] at cc
 have hok:IP a b e i j (k+1) x=((XL a.rim b.rim (Km i j (k+1) x) e).2.2 && Zr a b (Qy a b (Km i j (k+1) x) e) e):=rfl
 have hsf:Qy a b (Km i j (k+1) x) e=⟨0,1,i,j,(k+1:Nat),x,(XL a.rim b.rim (Km i j (k+1) x) e).1,(XL a.rim b.rim (Km i j (k+1) x) e).2.1⟩:=rfl
 rw [hok,hsf] at htk
 rw [hsf] at cc
 generalize XL a.rim b.rim (Km i j (k+1) x) e=G at *
 obtain ⟨g1,g2,ok⟩:=G
 simp only at htk cc ca
 have nx2:=nextt (t+1,x,g1,g2)
 rw [htk,← List.append_assoc] at nx2
 generalize A2 ++ B0 a b e i j (k+1) (L.take t)=D at *
 generalize Zr a b ⟨0,1,i,j,(k+1:Nat),x,g1,g2⟩ e=q at *
 have bq:∀ f:FV,XI 4 (.row 0 29 (Xq (Qg f)))=True:=fun f=>eq_true (XG (Qt f))
 refine X1 1000 ?_
 simp (disch:=omega) only [QV,X5,Qg,v1,XC,Xf,List.cons_append,List.nil_append,↓Xt,wD,↓X2,wA,seval,wE]
 refine X0 ca rfl ?_
 have ba4:XI 4 (.row 0 25 (Xq (XC a)))=True:=eq_true (XG (XF a))
 have bb4:XI 4 (.row 0 25 (Xq (XC b)))=True:=eq_true (XG (XF b))
 have bd4:∀ v n l,XI 4 (.row v n (XB Qg 29 D9 l))=True:=fun v n l=>eq_true fun j _=>X6 (Xg (Qt _) _)
 have bL4:Jj 4 (Xp L)=True:=eq_true (X6 (Xd L))
 cases ok with
 | false =>
  simp only [Bool.false_and,Bool.false_eq_true,if_false,List.append_nil] at nx2
  simp (disch:=omega) only [X5,↓Xt,wD,↓X2,wA,seval,wE]
  exact nx2 _ ⟨by show t+1≤L.length; omega,by show D.length≤2000*i+150*j+12*k+(t+1); omega⟩ (by show L.length - (t+1)<L.length - t; omega) (Xy (m:=4) (Nat.zero_le _) rfl (by simp [Xh,QV,X5,I]) (by simp [Xi,QV]) (by simp [QV,XC,Qg,Xf,Xl,X4,I,sg]) (by simp [QV,Xx,bL4]) (by simp [QV,Xx]) (by simp [QV,ba4,bb4,bd4,bq]))
 | true =>
  simp (disch:=omega) only [X5,↓Xt,wD,↓X2,wA,seval,wE]
  refine X0 cc rfl ?_
  cases q with
  | false =>
   simp only [Bool.and_false,Bool.false_eq_true,if_false,List.append_nil] at nx2
   simp (disch:=omega) only [X5,↓Xt,wD,↓X2,wA,seval,wE]
   exact nx2 _ ⟨by show t+1≤L.length; omega,by show D.length≤2000*i+150*j+12*k+(t+1); omega⟩ (by show L.length - (t+1)<L.length - t; omega) (Xy (m:=4) (Nat.zero_le _) rfl (by simp [Xh,QV,X5,I]) (by simp [Xi,QV]) (by simp [QV,XC,Qg,Xf,Xl,X4,I,sg]) (by simp [QV,Xx,bL4]) (by simp [QV,Xx]) (by simp [QV,ba4,bb4,bd4,bq]))
  | true =>
   simp only [Bool.and_true,if_true] at nx2
   have hap:=XQ Qg 29 D9 D ⟨0,1,i,j,(k+1:Nat),x,g1,g2⟩ (by omega)
   have hDl:(D ++ [(⟨0,1,i,j,(k+1:Nat),x,g1,g2⟩:FV)]).length=D.length+1:=by simp
   simp (disch:=omega) only [X5,↓Xt,wD,↓X2,wA,seval,wE]
   refine ⟨UV ⟨0,1,i,j,(k+1:Nat),x,g1,g2⟩,?_⟩
   exact nx2 _ ⟨by show t+1≤L.length; omega,by show (D ++ [(⟨0,1,i,j,(k+1:Nat),x,g1,g2⟩:FV)]).length≤2000*i+150*j+12*k+(t+1); omega⟩ (by show L.length - (t+1)<L.length - t; omega) (Xy (m:=4) (Nat.zero_le _) rfl (by simp [Xh,QV,X5,I]) (by simp [Xi,QV]) (by simp only [QV,hDl,← hap]; rfl) (by simp [QV,Xx,bL4]) (by simp [QV,Xx]) (by simp [QV,ba4,bb4,bd4,bq]))
def MF (a b:PV) (e:Rat) (f:FV) (i j k:Nat) (t:V2):Prop:=k≠0∧k<a.rim.length∧k<b.rim.length∧FM a b (Km i j k v0)∧t∈JO a b (Km i j k v0) k∧IP a b e i j k t=true∧f=Qy a b (Km i j k t) e
theorem Y0 (a b:PV) (e:Rat) (i j k:Nat) (L:List V2) (f:FV):f∈B0 a b e i j k L↔∃ t,t∈L∧IP a b e i j k t=true∧f=Qy a b (Km i j k t) e:=by
 unfold B0
 rw [List.mem_map]
 constructor
 ·rintro ⟨t,h,rfl⟩
  rw [List.mem_filter] at h
  exact ⟨t,h.1,h.2,rfl⟩
 ·rintro ⟨t,h1,h2,rfl⟩
  exact ⟨t,List.mem_filter.2 ⟨h1,h2⟩,rfl⟩
theorem MT (a b:PV) (e:Rat) (i j:Nat) (f:FV):∀ n,n<a.rim.length→n<b.rim.length→(f∈AJ a b e i j n↔∃ k t,k≤n∧MF a b e f i j k t)
 | 0,_,_=>by simp [AJ,MF]
 | n+1,h1,h2=>by
  have ih:=MT a b e i j f n (by omega) (by omega)
  unfold AJ
  rw [List.mem_append,ih]
  have hk:f∈IQ a b e i j (n+1)↔∃ t,MF a b e f i j (n+1) t:=by
   unfold IQ
   by_cases hp:FM a b (Km i j (n+1) v0)
   ·rw [if_pos hp,Y0]
    exact ⟨fun ⟨t,q1,q2,q3⟩=>⟨t,by omega,h1,h2,hp,q1,q2,q3⟩,fun ⟨t,_,_,_,_,q1,q2,q3⟩=>⟨t,q1,q2,q3⟩⟩
   ·rw [if_neg hp]
    exact ⟨fun h=>absurd h List.not_mem_nil,fun ⟨t,_,_,_,q,_⟩=>absurd q hp⟩
  rw [hk]
  constructor
  ·rintro (⟨k,t,q1,q2⟩ | ⟨t,q⟩)
   ·exact ⟨k,t,by omega,q2⟩
   ·exact ⟨n+1,t,Nat.le_refl _,q⟩
  ·rintro ⟨k,t,q1,q2⟩
   by_cases hk:k=n+1
   ·subst hk; exact .inr ⟨t,q2⟩
   ·exact .inl ⟨k,t,by omega,q2⟩
theorem MS (a b:PV) (e:Rat) (i:Nat) (f:FV) (ha:0<a.rim.length) (hb:0<b.rim.length):∀ n,f∈Aa a b e i n↔∃ j k t,j<n∧MF a b e f i j k t
 | 0=>by simp [Aa]
 | n+1=>by
  have ih:=MS a b e i f ha hb n
  unfold Aa
  rw [List.mem_append,ih,MT a b e i n f _ (by omega) (by omega)]
  constructor
  ·rintro (⟨j,k,t,q1,q2⟩ | ⟨k,t,q1,q2⟩)
   ·exact ⟨j,k,t,by omega,q2⟩
   ·exact ⟨n,k,t,by omega,q2⟩
  ·rintro ⟨j,k,t,q1,q2⟩
   by_cases hj:j=n
   ·subst hj; exact .inr ⟨k,t,by have:=q2.2.1; have:=q2.2.2.1; omega,q2⟩
   ·exact .inl ⟨j,k,t,by omega,q2⟩
theorem MR (a b:PV) (e:Rat) (f:FV) (ha:0<a.rim.length) (hb:0<b.rim.length):∀ n,f∈ZA a b e n↔∃ i j k t,i<n∧j<b.rim.length∧MF a b e f i j k t
 | 0=>by simp [ZA]
 | n+1=>by
  have ih:=MR a b e f ha hb n
  unfold ZA
  rw [List.mem_append,ih,MS a b e n f ha hb]
  constructor
  ·rintro (⟨i,j,k,t,q1,q2⟩ | ⟨j,k,t,q1,q2⟩)
   ·exact ⟨i,j,k,t,by omega,q2⟩
   ·exact ⟨n,j,k,t,by omega,q1,q2⟩
  ·rintro ⟨i,j,k,t,q1,q2,q3⟩
   by_cases hi:i=n
   ·subst hi; exact .inr ⟨j,k,t,q2,q3⟩
   ·exact .inl ⟨i,j,k,t,by omega,q2,q3⟩
theorem OQ (a b:PV) (e:Rat) (f:FV) (ha:0<a.rim.length) (hb:0<b.rim.length):f∈NK a b e↔∃ i j k t,i<a.rim.length∧j<b.rim.length∧MF a b e f i j k t:=MR a b e f ha hb _
def Mj (n m:Nat) (W:List FV) (f:FV):Bool:=W.any fun g=>decide (Rn n m f g)
def ME (a b:PV) (e:Rat):List FV:=(NK a b e).filter fun f=>!Mj a.rim.length b.rim.length (NK a b e) f
theorem fF (l:List FV) (i:Nat):∀ j,j<29→XB Qg 29 D9 l (i*29+j)=(Qg (l.getD i D9)).getD j .any:=fun j hj=>A0 _ _ _ _ _ _ hj
theorem sV (l:List FV) (i:Nat):XB Qg 29 D9 l (i*29)=(Qg (l.getD i D9)).getD 0 .any:=A1 _ _ _ _ _ (by omega)
theorem fi (n m:Nat) (W:List FV) (f:FV) (j:Nat) (h:j<W.length):Mj n m (W.take (j+1)) f=(Mj n m (W.take j) f || decide (Rn n m f (W.getD j D9))):=by
 unfold Mj
 rw [QH W D9 j h,List.any_append]; simp
theorem WY (n m:Nat) (W:List FV) (i:Nat) (h:i<W.length):(W.take (i+1)).filter (fun f=>!Mj n m W f)=(W.take i).filter (fun f=>!Mj n m W f) ++ (if Mj n m W (W.getD i D9)=true then [] else [W.getD i D9]):=by
 rw [QH W D9 i h,List.filter_append]
 congr 1
 cases hq:Mj n m W (W.getD i D9) with
 | true=>rw [if_pos rfl,List.filter_cons_of_neg (by rw [hq]; decide)]; rfl
 | false=>rw [if_neg (by decide),List.filter_cons_of_pos (by rw [hq]; rfl)]; rfl
theorem OP (a b:PV) (e:Rat) (ha:a.rim.length≤12) (hb:b.rim.length≤12) (h1:0<a.rim.length) (h2:0<b.rim.length):(NK a b e).length≤24000:=by
 have hk:∀ i j n,n≤12→(AJ a b e i j n).length≤12*n:=fun i j n=>by
  induction n with
  | zero=>intro _; simp [AJ]
  | succ n ih =>
   intro hn
   have h3:=ih (by omega)
   unfold AJ
   rw [List.length_append]
   have:(IQ a b e i j (n+1)).length≤n+1:=by
    unfold IQ
    split
    ·exact Nat.le_trans (MG ..) (CW ..)
    ·simp
   omega
 have hj:∀ i n,(Aa a b e i n).length≤144*n:=fun i n=>by
  induction n with
  | zero=>simp [Aa]
  | succ n ih =>
   unfold Aa
   rw [List.length_append]
   have:=hk i n (min a.rim.length b.rim.length - 1) (by omega)
   omega
 have hi:∀ n,(ZA a b e n).length≤1728*n:=fun n=>by
  induction n with
  | zero=>simp [ZA]
  | succ n ih =>
   unfold ZA
   rw [List.length_append]
   have:=hj n b.rim.length
   omega
 have:=hi a.rim.length
 unfold NK; omega
theorem PD {a b:PV} {ta tb:Rat} (ha:GP a ta) (hb:GP b tb) {f:FV} (h:f∈NK a b (ta+tb)):f.near∧vb f.turn≤26∧vb f.lo≤200∧vb f.hi≤200:=by
 have la:=(Kd _ ha.poly).1
 have lb:=(Kd _ hb.poly).1
 have ea:(Xz a.rim).length=a.rim.length:=by simp [Xz]
 have eb:(Xz b.rim).length=b.rim.length:=by simp [Xz]
 rw [ea] at la
 rw [eb] at lb
 have qa:=ha.qt; have q2:=hb.qt
 have qe:=Jq ta tb
 obtain ⟨i,j,k,t,h1,h2,_,h3,h4,_,h5,_,rfl⟩:=(OQ a b (ta+tb) f (by omega) (by omega)).1 h
 have ht:=CX a b (Km i j k v0) ha.even.near hb.even.near k t h5
 obtain ⟨m1,m2⟩:=Ie a b (Km i j k t) ha.even.near hb.even.near (ta+tb) (by show vb t≤60; omega)
 exact ⟨⟨⟨by show (-1000000:Int)≤(i:Int); omega,by show (i:Int)≤1000000; omega⟩,⟨by show (-1000000:Int)≤(j:Int); omega,by show (j:Int)≤1000000; omega⟩,by show (-1000000:Int)≤(k:Int); omega,by show (k:Int)≤1000000; omega⟩,ht,by show vb (XL a.rim b.rim (Km i j k t) (ta+tb)).1≤200; omega,by show vb (XL a.rim b.rim (Km i j k t) (ta+tb)).2.1≤200; omega⟩
theorem TV (a b:PV) {ta tb:Rat} (ha:GP a ta) (hb:GP b tb):Fn Tryz.prog 30 [Q3 a,Q3 b] (qX (ME a b (ta+tb))):=by
 have la:=(Kd _ ha.poly).1
 have lb:=(Kd _ hb.poly).1
 have ea:(Xz a.rim).length=a.rim.length:=by simp [Xz]
 have eb:(Xz b.rim).length=b.rim.length:=by simp [Xz]
 rw [ea] at la
 rw [eb] at lb
 have c1:=TW a b ha hb
 have hfin:=fun f=>@PD a b ta tb ha hb f
 have hl:=OP a b (ta+tb) la.2 lb.2 (by omega) (by omega)
 unfold ME
 generalize NK a b (ta+tb)=W at *
 have ba:XI 3 (.con 0 25 (Xq (XC a)))=True:=eq_true (fun j _=>X6 (Xg (XF a) j))
 have bb:XI 3 (.con 0 25 (Xq (XC b)))=True:=eq_true (fun j _=>X6 (Xg (XF b) j))
 have bd:∀ v n l,XI 3 (.row v n (XB Qg 29 D9 l))=True:=fun v n l=>eq_true fun j _=>X6 (Xg (Qt _) _)
 refine Fq Tryz.call30 Tryz.func30 10 [] [10,110000002,110000003] [] (by simp [Xu]) (X1 1000 ?_)
 simp (disch:=omega) only [AS.start,Q3,XC,↓Xt,wD,↓X2,wA,seval,wE]
 refine X0 c1 rfl ?_
 simp (disch:=omega) only [JH,↓Xt,wD,↓X2,wA,seval,wE]
 refine Xe (fun i:Nat=>⟨10,[],[.any,.any,.ref 0 0 0,.ref 1 0 0,.any,qX W,.osl 2 ((W.take i).filter (fun f=>!Mj a.rim.length b.rim.length W f)).length 29 0 ((W.take i).filter (fun f=>!Mj a.rim.length b.rim.length W f)).length,I i,.any,.any],[],[.con 0 25 (Xq (XC a)),.con 0 25 (Xq (XC b)),.row ((W.take i).filter (fun f=>!Mj a.rim.length b.rim.length W f)).length (((W.take i).filter (fun f=>!Mj a.rim.length b.rim.length W f)).length*29) (XB Qg 29 D9 ((W.take i).filter (fun f=>!Mj a.rim.length b.rim.length W f)))]⟩) (fun i=>i≤W.length∧((W.take i).filter (fun f=>!Mj a.rim.length b.rim.length W f)).length≤i) (fun i=>W.length - i) 0 ⟨by omega,by simp⟩
  (Sub.trans (Qp 0 rfl) (Sub.trans (Qp 1 rfl) (Sub.trans (Q7 6 29 (XB Qg 29 D9 []) rfl) (Xa rfl (by simp [AS.put,Xh,JH,I]) (by simp [AS.put,Xi]) (by simp [AS.put,XC,Xf,Xl,X4,I]))))) ?_
 rintro i ⟨hi,hil⟩ next
 by_cases hi2:i<W.length
 rotate_left
 ·obtain rfl:i=W.length:=by omega
  rw [List.take_length]
  refine X1 1000 ?_
  simp (disch:=omega) only [JH,XC,Xf,↓Xt,wD,↓X2,wA,seval,wE]
  exact UW _ rfl rfl rfl
 have nx:=next (i+1)
 rw [WY _ _ W i hi2] at nx
 generalize (W.take i).filter (fun f=>!Mj a.rim.length b.rim.length W f)=D at *
 obtain ⟨n1,n2,n3,n4⟩:=hfin _ (Kb (d:=D9) hi2)
 have v1:=fF W i
 have v2:=sV W i
 have hBe:Mj a.rim.length b.rim.length W (W.getD i D9)=Mj a.rim.length b.rim.length (W.take W.length) (W.getD i D9):=by rw [List.take_length]
 rw [hBe] at nx
 generalize W.getD i D9=f at *
 refine X1 1000 ?_
 simp (disch:=omega) only [JH,XC,Xf,↓Xt,wD,↓X2,wA,seval,wE]
 refine Xe (fun j:Nat=>⟨10,[],[.any,.any,.ref 0 0 0,.ref 1 0 0,.any,qX W,.osl 2 D.length 29 0 D.length,I i,.bool (Mj a.rim.length b.rim.length (W.take j) f),I j],[],[.con 0 25 (Xq (XC a)),.con 0 25 (Xq (XC b)),.row D.length (D.length*29) (XB Qg 29 D9 D)]⟩) (fun j=>j≤W.length) (fun j=>W.length - j) 0 (by omega)
  (Xa rfl (by simp [Xh,JH,Mj,I]) (by simp [Xi]) (by simp [XC,Xf,Xl,X4,I])) ?_
 intro j hj nextj
 by_cases hj2:j<W.length
 rotate_left
 ·obtain rfl:j=W.length:=by omega
  generalize Mj a.rim.length b.rim.length (W.take W.length) f=q at *
  refine X1 1000 ?_
  cases q with
  | true =>
   rw [if_pos rfl,List.append_nil] at nx
   simp (disch:=omega) only [JH,XC,Xf,Bool.not_true,↓Xt,wD,↓X2,wA,seval,wE]
   exact nx _ ⟨by omega,by omega⟩ (by omega) (Xa rfl (by simp [Xh,JH,I]) (by simp [Xi]) (by simp [XC,Xf,Xl,X4,I]))
  | false =>
   rw [if_neg (by decide)] at nx
   have hap:=XQ Qg 29 D9 D f (by omega)
   have hDl:(D ++ [f]).length=D.length+1:=by simp
   simp (disch:=omega) only [JH,v1,v2,Qg,XC,Xf,Bool.not_false,↓Xt,wD,↓X2,wA,seval,wE]
   exact ⟨UV f,nx _ ⟨by omega,by omega⟩ (by omega) (Xa rfl (by simp [Xh,JH,hDl,I]) (by simp [Xi]) (by rw [hDl,← hap]; rfl))⟩
 obtain ⟨m1,m2,m3,m4⟩:=hfin _ (Kb (d:=D9) hj2)
 have cp:=me a b f (W.getD j D9) ⟨by omega,by omega⟩ ⟨by omega,by omega⟩ n1 m1 (by unfold vm; omega) (by unfold vm; omega)
 have w1:=fF W j
 have w2:=sV W j
 have nx2:=nextj (j+1)
 rw [fi _ _ W f j hj2] at nx2
 generalize W.getD j D9=g at *
 generalize Mj a.rim.length b.rim.length (W.take j) f=q at *
 refine X1 1000 ?_
 cases q with
 | true =>
  simp (disch:=omega) only [JH,XC,Xf,↓Xt,wD,↓X2,wA,seval,wE]
  exact nx2 _ (by omega) (by omega) (Xa rfl (by simp [Xh,JH,I]) (by simp [Xi]) (by simp [XC,Xf,Xl,X4,I]))
 | false =>
  simp (disch:=omega) only [JH,v1,v2,w1,w2,Qg,XC,Xf,↓Xt,wD,↓X2,wA,seval,wE]
  refine X0 cp rfl ?_
  simp (disch:=omega) only [JH,XC,Xf,↓Xt,wD,↓X2,wA,seval,wE]
  exact nx2 _ (by omega) (by omega) (Xa rfl (by simp [Xh,JH,I]) (by simp [Xi]) (by simp [XC,Xf,Xl,X4,I]))
def KT:Nat→Int×Int→Int×Int
 | 0,p=>p
 | i+1,p=>(-(KT i p).2,(KT i p).1)
theorem Ge (p:Int×Int) (c:Int) (h1:-c≤p.1∧p.1≤c) (h2:-c≤p.2∧p.2≤c):∀ i,(-c≤(KT i p).1∧(KT i p).1≤c)∧(-c≤(KT i p).2∧(KT i p).2≤c)
 | 0=>⟨h1,h2⟩
 | i+1=>by
  have ih:=Ge p c h1 h2 i
  unfold KT
  simp only
  omega
theorem ac (p:Int×Int) (q:Nat) (h1:-1000≤p.1∧p.1≤1000) (h2:-1000≤p.2∧p.2≤1000) (hq:q≤4):Fn Tryz.prog 101 [.agg (KH p),I q] (.agg (KH (KT q p))):=by
 obtain ⟨R,hR⟩:∃ R,R=AV.agg (KH (KT q p)):=⟨_,rfl⟩
 have sR:Settled R:=hR▸Qd (Kj _)
 rw [← hR]
 refine Fq Tryz.call101 Tryz.func101 6 [] [] [] (by simp [X9,Qd (Kj p)]) (X1 1000 ?_)
 simp (disch:=omega) only [AS.start,KH,↓Xt,wD,↓X2,wA,seval,wE]
 refine Xe (fun i:Nat=>⟨6,[],[.any,I q,.ref 0 0 0,.any,.ref 1 0 0,I i],[],[.row 0 2 (Xq (KH (KT i p))),.row 0 2 (Xq [I 0,I 0])]⟩) (fun i=>i≤q) (fun i=>q - i) 0 (by omega)
  (Xa rfl (by simp [Xh,I]) (by simp [Xi]) rfl) ?_
 intro i hi next
 have hb:=Ge p 1000 h1 h2 i
 by_cases hi2:i<q
 ·refine X1 1000 ?_
  simp (disch:=omega) only [KH,↓Xt,wD,↓X2,wA,seval,wE]
  exact next (i+1) _ (by omega) (by omega) (Xa rfl (by simp [Xh,I]) (by simp [Xi]) (by simp [KH,KT,I]))
 ·obtain rfl:i=q:=by omega
  refine X1 1000 ?_
  simp (disch:=omega) only [KH,↓Xt,wD,↓X2,wA,seval,wE]
  exact Z7 rfl fo rfl rfl rfl sR (hR.trans rfl)
theorem LK (l:List (Int×Int)) (hn:QU l) (hl:l.length<1000000):Fn Tryz.prog 100 [C6 l] (.bool (decide (XN (Xz l)))):=by
 have hrl:(Xz l).length=l.length:=by simp [Xz]
 have cv:=FZ (Xz l) (fun i=>Nat.le_trans (Eb hn i) (by omega)) (by omega)
 refine Fq Tryz.call100 Tryz.func100 5 [] [5] [] (by simp [QG]) (X1 1000 ?_)
 simp (disch:=omega) only [AS.start,Xf,↓Xt,wD,↓X2,wA,seval,wE]
 refine Xe (fun k:Nat=>⟨5,[],[C6 l,.any,.any,.osl 0 k 8 0 k,I k],[],[.row k (k*8) (XB vC 8 v0 (Xz (l.take k)))]⟩) (fun k=>k≤l.length) (fun k=>l.length - k) 0 (by omega)
  (Sub.trans (Q7 3 8 (XB vC 8 v0 []) rfl) (Xa rfl (by simp [AS.put,Xh,Xf,I]) (by simp [AS.put,Xi]) (by simp [AS.put,Xz]))) ?_
 intro k hk next
 by_cases hk2:k<l.length
 rotate_left
 ·obtain rfl:k=l.length:=by omega
  rw [List.take_length]
  refine X1 1000 ?_
  simp (disch:=omega) only [Xf,↓Xt,wD,↓X2,wA,seval,wE]
  refine JP cv rfl ⟨?_,trivial⟩ (Bi _) ?_
  ·show JJ _ (.osl 0 l.length 8 0 l.length) (Xp (Xz l))
   rw [X5,hrl]
   refine Qv (.inl rfl) (by omega) (fun h=>by rw [h]) fun j hj=>?_
   rw [Nat.zero_add]
   exact (Xg (l:=vC ((Xz l).getD (j / 8) v0)) (by simp [vC,X7,X3]) _).sees _
  simp (disch:=omega) only [↓Xt,wD,↓X2,wA,seval,wE]
  exact Xs rfl rfl (X3 _) rfl
 have hc:=Du hn k
 have c1:=An (l.getD k (0,0)).1 (l.getD k (0,0)).2 ⟨by omega,by omega⟩ ⟨by omega,by omega⟩
 have p1:XB KH 2 (0,0) l (k*2)=I (l.getD k (0,0)).1:=A1 _ _ _ _ _ (by omega)
 have p2:XB KH 2 (0,0) l (k*2+1)=I (l.getD k (0,0)).2:=A0 _ _ _ _ _ _ (by omega)
 have hap:=XQ vC 8 v0 (Xz (l.take k)) (Js (l.getD k (0,0))) (by omega)
 have htk:Xz (l.take k) ++ [Js (l.getD k (0,0))]=Xz (l.take (k+1)):=by unfold Xz; rw [QH l (0,0) k hk2,List.map_append]; rfl
 have hkl:(Xz (l.take k)).length=k:=by simp [Xz]; omega
 rw [htk,hkl] at hap
 have hpv:(⟨((l.getD k (0,0)).1:Rat),((l.getD k (0,0)).2:Rat)⟩:V2)=Js (l.getD k (0,0)):=rfl
 rw [hpv] at c1
 refine X1 1000 ?_
 simp (disch:=omega) only [Xf,p1,p2,↓Xt,wD,↓X2,wA,seval,wE]
 refine X0 c1 rfl ?_
 simp (disch:=omega) only [↓Xt,wD,↓X2,wA,seval,wE]
 exact ⟨Z9 _,next (k+1) _ (by omega) (by omega) (Xa rfl (by simp [Xh,Xf,I]) (by simp [Xi]) (by rw [← hap]; rfl))⟩
def LU (l:List Int) (at' k:Nat):Bool:=decide (Ab.atF l (at'+2+k:Nat) 16=15)
def EY (l:List Int) (at' k:Nat):Int:=if 11<Ab.atF l (at'+2+k:Nat) 16 then Ab.atF l (at'+2+k:Nat) 16 - 11 else 0
def Zg (rim:List (Int×Int)) (l:List Int) (at':Nat):PV:=⟨Ab.atF l at' 900,Ab.atF l at' 5,rim,(List.range rim.length).map (LU l at'),(List.range rim.length).map (EY l at'),
 RQ.of (Rat.divInt (Ab.atF l (at'+1:Nat) 3) 4),RQ.of (Rat.divInt 1 1),RQ.of (Rat.divInt (1+Ab.atF l at' 3) 1),RQ.of (Rat.divInt 100 1),RQ.of (Rat.divInt 1 2)⟩
theorem S8 {m:Nat} {s:AS} (id i:Nat) (b:AV) {ver n:Nat} {f:Nat→AV} (ho:s.h[id]?=some (.row ver n f)) (h:Zo s.h (f i) b):Sub m s { s with h:=s.h.set id (.row ver n (Cs f i b)) } :=
 A3 id (Cs f i b) ho fun j hj=>by
  unfold Cs
  by_cases e:j=i
  ·rw [if_pos e,e]; exact h
  ·rw [if_neg e]; exact QY _ _
def J7:List AV:=[I 0,I 0,.sl 0 0 (fun _=>.any) true,.sl 0 0 (fun _=>.any) true,.sl 0 0 (fun _=>.any) true,.bool false,.sl 0 0 (fun _=>.any) true,.bool false,.sl 0 0 (fun _=>.any) true,.bool false,.sl 0 0 (fun _=>.any) true,.bool false,.sl 0 0 (fun _=>.any) true,
 .bool false,.sl 0 0 (fun _=>.any) true,.bool false,.sl 0 0 (fun _=>.any) true,.bool false,.sl 0 0 (fun _=>.any) true,.bool false,.sl 0 0 (fun _=>.any) true,.bool false,.sl 0 0 (fun _=>.any) true,.bool false,.sl 0 0 (fun _=>.any) true]
def Fz (id home:Int) (rim:List (Int×Int)) (k:Nat) (t u h s r:Rat):List AV:=[I id,I home,C6 rim,.osl 2 k 1 0 k,.osl 3 k 1 0 k] ++ (qC t ++ (qC u ++ (qC h ++ (qC s ++ qC r))))
theorem L6 {α:Type} (f:Nat→α) (k:Nat):(List.range (k+1)).map f=(List.range k).map f ++ [f k]:=by rw [List.range_succ,List.map_append]; rfl
theorem V4 (rim:List (Int×Int)) (l:List Int) (at':Nat) (hr:rim.length<1000) (hl:Fh l) (ha:at'<1000):Fn Tryz.prog 102 [C6 rim,X8 l,I at'] (Q3 (Zg rim l at')):=by
 obtain ⟨V,hV⟩:∃ V,V=Q3 (Zg rim l at'):=⟨_,rfl⟩
 rw [← hV]
 have c1:=JF l at' 900 hl (by omega)
 have c2:=JF l at' 5 hl (by omega)
 have c3:=JF l (at'+1:Nat) 3 hl (by omega)
 have c4:=JF l at' 3 hl (by omega)
 have b3:=XY l (at'+1:Nat) 3 (by omega)
 have b4:=XY l at' 3 (by omega)
 have q1:=Jk (Ab.atF l (at'+1:Nat) 3) 4 ⟨by omega,by omega⟩ ⟨by omega,by omega⟩
 have q2:=Jk 1 1 ⟨by omega,by omega⟩ ⟨by omega,by omega⟩
 have q3:=Jk (1+Ab.atF l at' 3) 1 ⟨by omega,by omega⟩ ⟨by omega,by omega⟩
 have q4:=Jk 100 1 ⟨by omega,by omega⟩ ⟨by omega,by omega⟩
 have q5:=Jk 1 2 ⟨by omega,by omega⟩ ⟨by omega,by omega⟩
 unfold Zg at hV
 generalize Rat.divInt (Ab.atF l (at'+1:Nat) 3) 4=t at *
 generalize Rat.divInt 1 1=u at *
 generalize Rat.divInt (1+Ab.atF l at' 3) 1=h at *
 generalize Rat.divInt 100 1=s at *
 generalize Rat.divInt 1 2=r at *
 generalize Ab.atF l at' 900=id at *
 generalize Ab.atF l at' 5=home at *
 rw [Int.natCast_add] at c3
 refine Fq Tryz.call102 Tryz.func102 11 [] [1] [] (by simp [X9,QG,X7]) (X1 1000 ?_)
 simp (disch:=omega) only [AS.start,Xf,↓Xt,wD,↓X2,wA,seval,wE]
 refine X0 c1 rfl ?_
 simp (disch:=omega) only [↓Xt,wD,↓X2,wA,seval,wE]
 refine X0 c2 rfl ?_
 simp (disch:=omega) only [↓Xt,wD,↓X2,wA,seval,wE]
 refine X0 c3 rfl ?_
 simp (disch:=omega) only [↓Xt,wD,↓X2,wA,seval,wE]
 refine X0 q1 rfl ?_
 simp (disch:=omega) only [↓Xt,wD,↓X2,wA,seval,wE]
 refine X0 q2 rfl ?_
 simp (disch:=omega) only [↓Xt,wD,↓X2,wA,seval,wE]
 refine X0 c4 rfl ?_
 simp (disch:=omega) only [↓Xt,wD,↓X2,wA,seval,wE]
 refine X0 q3 rfl ?_
 simp (disch:=omega) only [↓Xt,wD,↓X2,wA,seval,wE]
 refine X0 q4 rfl ?_
 simp (disch:=omega) only [↓Xt,wD,↓X2,wA,seval,wE]
 refine X0 q5 rfl ?_
 simp (disch:=omega) only [↓Xt,wD,↓X2,wA,seval,wE]
 refine Xe (fun k:Nat=>⟨11,[],[C6 rim,X8 l,I at',.any,.any,.any,.ref 0 0 0,.ref 1 0 0,I k,.any,.any],[],[.row 0 25 (Xq J7),.row 0 25 (Xq (Fz id home rim k t u h s r)),.row k k (Q1 AV.bool false ((List.range k).map (LU l at'))),.row k k (Q1 I 0 ((List.range k).map (EY l at')))]⟩) (fun k=>k≤rim.length) (fun k=>rim.length - k) 0 (by omega)
  (Sub.trans (I5 (Q1 AV.bool false [])) (Sub.trans (I5 (Q1 I 0 [])) (Sub.trans (S8 1 3 (.osl 2 0 1 0 0) rfl (Be rfl)) (Sub.trans (S8 1 4 (.osl 3 0 1 0 0) rfl (Be rfl)) (Xa rfl (by simp [Xh,Xf,X4,I]) (by simp [Xi]) (by simp [J7,Fz,qC,Ox,Xf,X4,I,sg])))))) ?_
 intro k hk next
 by_cases hk2:k<rim.length
 rotate_left
 ·obtain rfl:k=rim.length:=by omega
  refine X1 1000 ?_
  simp (disch:=omega) only [J7,Fz,qC,Xf,X4,↓Xt,wD,↓X2,wA,seval,wE]
  subst hV
  refine G3 (L:=Fz id home rim rim.length t u h s r) rfl MP rfl rfl rfl ?_
  have h2:∀ H:List AO,H[2]?=some (.row rim.length rim.length (Q1 AV.bool false ((List.range rim.length).map (LU l at'))))→JJ H (.osl 2 rim.length 1 0 rim.length) (Jw ((List.range rim.length).map (LU l at'))):=fun H ho=>by
   rw [Xl,List.length_map,List.length_range]
   refine Qv (.inl ho) (by omega) (fun h=>h) fun j hj=>?_
   rw [Nat.zero_add]
   exact (X3 _).sees _
  have h3:∀ H:List AO,H[3]?=some (.row rim.length rim.length (Q1 I 0 ((List.range rim.length).map (EY l at'))))→JJ H (.osl 3 rim.length 1 0 rim.length) (X8 ((List.range rim.length).map (EY l at'))):=fun H ho=>by
   rw [X4,List.length_map,List.length_range]
   refine Qv (.inl ho) (by omega) (fun h=>h) fun j hj=>?_
   rw [Nat.zero_add]
   exact (X9 _).sees _
  exact ZZ ⟨(X9 _).sees _,(X9 _).sees _,(QG _).sees _,h2 _ rfl,h3 _ rfl,(X3 _).sees _,(X7 _).sees _,(X3 _).sees _,(X7 _).sees _,(X3 _).sees _,(X7 _).sees _,(X3 _).sees _,(X7 _).sees _,(X3 _).sees _,(X7 _).sees _,(X3 _).sees _,(X7 _).sees _,(X3 _).sees _,(X7 _).sees _,(X3 _).sees _,(X7 _).sees _,(X3 _).sees _,(X7 _).sees _,(X3 _).sees _,(X7 _).sees _,trivial⟩
 have c5:=JF l (at'+2+k:Nat) 16 hl (by omega)
 have b5:=XY l (at'+2+k:Nat) 16 (by omega)
 have nx:=next (k+1)
 rw [L6,L6] at nx
 have e1:LU l at' k=decide (Ab.atF l (at'+2+k:Nat) 16=15):=rfl
 have e2:EY l at' k=if 11<Ab.atF l (at'+2+k:Nat) 16 then Ab.atF l (at'+2+k:Nat) 16 - 11 else 0:=rfl
 rw [e1,e2] at nx
 generalize Ab.atF l (at'+2+k:Nat) 16=n at *
 rw [show ((at'+2+k:Nat):Int)=(at':Int)+2+k by omega] at c5
 have hW:((List.range k).map (LU l at')).length=k:=by simp
 have hM:((List.range k).map (EY l at')).length=k:=by simp
 generalize (List.range k).map (LU l at')=W at *
 generalize (List.range k).map (EY l at')=M at *
 have hap1:=In AV.bool false W (decide (n=15))
 rw [hW,Nat.mul_one] at hap1
 refine X1 1000 ?_
 simp (disch:=omega) only [Fz,qC,Xf,X4,List.cons_append,List.nil_append,↓Xt,wD,↓X2,wA,seval,wE]
 refine X0 c5 rfl ?_
 by_cases hn:11<n
 ·have hap2:=Cv M (n - 11)
  rw [if_pos hn] at nx
  rw [hM] at hap2
  simp (disch:=omega) only [Fz,qC,Xf,X4,List.cons_append,List.nil_append,↓Xt,wD,↓X2,wA,seval,wE]
  exact nx _ (by omega) (by omega) (Xa rfl (by simp [Xh,Xf,X4,I]) (by simp [Xi]) (by rw [← hap1,← hap2]; simp [J7,Fz,qC,Xf,X4,I,sg]))
 ·have hap2:=Cv M 0
  rw [if_neg hn] at nx
  rw [hM] at hap2
  simp (disch:=omega) only [Fz,qC,Xf,X4,List.cons_append,List.nil_append,↓Xt,wD,↓X2,wA,seval,wE]
  exact nx _ (by omega) (by omega) (Xa rfl (by simp [Xh,Xf,X4,I]) (by simp [Xi]) (by rw [← hap1,← hap2]; simp [J7,Fz,qC,Xf,X4,I,sg,show ¬ n=15 by omega]))
structure Iso (g h:V2→V2):Prop where
 sub:∀ a b,(g a).sub (g b)=h (a.sub b)
 cr:∀ u v,Qs (h u) (h v)=Qs u v
 dt:∀ u v,Qa (h u) (h v)=Qa u v
 tn:∀ u,(h u).turned=h u.turned
theorem jM (g:V2→V2) (L:List V2) (h:0<L.length) (i:Nat):atF (L.map g) i=g (atF L i):=by
 unfold atF
 have hlt:=Nat.mod_lt i h
 rw [List.length_map,List.getD_eq_getElem?_getD,List.getElem?_map,List.getD_eq_getElem?_getD,List.getElem?_eq_getElem hlt]; rfl
theorem fm {g h:V2→V2} (I:Iso g h) (a b c:V2):Jd (g a) (g b) (g c)=Jd a b c:=by unfold Jd; rw [I.sub,I.sub,I.cr]
theorem UM (n a b:V2):Qa n a - Qa n b=Qa n (a.sub b):=by unfold Qa V2.sub; grind
theorem pP {g h:V2→V2} (I:Iso g h) (n a b:V2):(Qa (h n) (g a)<Qa (h n) (g b))↔(Qa n a<Qa n b):=by
 have e1:=UM (h n) (g a) (g b)
 have e2:=UM n a b
 rw [I.sub,I.dt] at e1
 constructor <;> intro hh <;> grind
theorem PS {g h:V2→V2} (I:Iso g h) (n a b c d:V2):K8 (h n) (g a) (g b) (g c) (g d)=K8 n a b c d:=by
 unfold K8 H7
 simp only [pP I]
theorem fl {g h:V2→V2} (I:Iso g h) (a b c d:V2) (i:Nat):D7 (g a) (g b) (g c) (g d) i=h (D7 a b c d i):=by
 unfold D7
 split <;> simp only [I.sub,I.tn]
theorem PT {g h:V2→V2} (I:Iso g h) (L:List V2) (hp:XN L) (ha:Zb (L.map g)=Zb L):XN (L.map g):=by
 obtain ⟨h1,h2,h3⟩:=hp
 have hl:0<L.length:=by omega
 have hat:=jM g L hl
 refine ⟨by rw [List.length_map]; exact h1,fun i hi=>?_,by rw [ha]; exact h3⟩
 rw [List.length_map] at hi
 obtain ⟨k1,k2⟩:=h2 i hi
 refine ⟨fun hb=>k1 ?_,fun k hk hg=>k2 k (by rw [List.length_map] at hk; exact hk) ?_⟩
 ·unfold Cw at hb ⊢
  rw [hat,hat,hat,fm I] at hb
  exact hb
 ·obtain ⟨q1,q2,q3⟩:=hg
  rw [List.length_map] at q1 q2
  refine ⟨q1,q2,fun j hj=>?_⟩
  have:=q3 j hj
  rw [hat,hat,hat,hat,fl I,PS I] at this
  exact this
theorem quart_iso:Iso B6 B6:=⟨fun a b=>by unfold B6 V2.sub; rw [V2.ext']; exact ⟨by simp only; grind,rfl⟩,fun u v=>by unfold B6 Qs; grind,fun u v=>by unfold B6 Qa; grind,fun u=>by unfold B6 V2.turned; rfl⟩
theorem jC (t:V2):Iso (fun a=>a.add t) id:=⟨fun a b=>by unfold V2.add V2.sub; rw [V2.ext']; exact ⟨by simp only [id]; grind,by simp only [id]; grind⟩,fun _ _=>rfl,fun _ _=>rfl,fun _=>rfl⟩
theorem FA (g:V2→V2) (L:List V2) (i:Nat) (h:i<L.length):(L.map g).getD i v0=g (L.getD i v0):=by
 rw [List.getD_eq_getElem?_getD,List.getElem?_map,List.getD_eq_getElem?_getD,List.getElem?_eq_getElem h]; rfl
theorem T3 (L:List V2) (h:0<L.length):Zb (L.map B6)=Zb L:=by
 have key:∀ n,n≤L.length→KF (L.map B6) n=KF L n:=fun n=>by
  induction n with
  | zero=>intro _; rfl
  | succ n ih =>
   intro hn
   unfold KF
   rw [ih (by omega),List.length_map,FA _ _ _ (by omega),FA _ _ _ (Nat.mod_lt _ h),quart_iso.cr]
 unfold Zb
 rw [List.length_map,key _ (Nat.le_refl _)]
theorem cG (t:V2) (L:List V2) (h:0<L.length):Zb (L.map fun a=>a.add t)=Zb L:=by
 have key:∀ n,n≤L.length→KF (L.map fun a=>a.add t) n=KF L n+Qs t ((L.getD (n % L.length) v0).sub (L.getD 0 v0)):=fun n=>by
  induction n with
  | zero=>intro _; rw [Nat.zero_mod]; unfold KF Qs V2.sub; grind
  | succ n ih =>
   intro hn
   have hm:n % L.length=n:=Nat.mod_eq_of_lt (by omega)
   unfold KF
   rw [ih (by omega),List.length_map,FA _ _ _ (by omega),FA _ _ _ (Nat.mod_lt _ h),hm]
   generalize L.getD n v0=p
   generalize L.getD ((n+1) % L.length) v0=q
   generalize L.getD 0 v0=o
   unfold Qs V2.sub V2.add
   grind
 unfold Zb
 rw [List.length_map,key _ (Nat.le_refl _),Nat.mod_self]
 have:Qs t ((L.getD 0 v0).sub (L.getD 0 v0))=0:=by unfold Qs V2.sub; grind
 rw [this,Rat.add_zero]
theorem Hb (L:List V2) (hp:XN L):∀ q,XN (L.map (Kp q))
 | 0=>by
  have:L.map (Kp 0)=L:=by
   have e:Kp 0=id:=rfl
   rw [e,List.map_id]
  rw [this]; exact hp
 | q+1=>by
  have ih:=Hb L hp q
  have e:L.map (Kp (q+1))=(L.map (Kp q)).map B6:=by rw [List.map_map]; rfl
  rw [e]
  exact PT quart_iso _ ih (T3 _ (by have:=ih.1; omega))
theorem gj (t:V2) (L:List V2) (hp:XN L):XN (L.map fun a=>a.add t):=PT (jC t) L hp (cG t L (by have:=hp.1; omega))
def pZ (q:Nat) (d p:Int×Int):Int×Int:=((KT q p).1+d.1,(KT q p).2+d.2)
theorem gl (q:Nat) (p:Int×Int):Js (KT q p)=Kp q (Js p):=by
 induction q with
 | zero=>rfl
 | succ q ih =>
  show (⟨((-(KT q p).2:Int):Rat),((KT q p).1:Rat)⟩:V2)=B6 (Kp q (Js p))
  rw [← ih]
  unfold Js B6
  rw [V2.ext']
  exact ⟨by simp,rfl⟩
theorem mh (R:List (Int×Int)) (q:Nat) (d:Int×Int) (h:XN (Xz R)):XN (Xz (R.map (pZ q d))):=by
 have h1:=gj (Js d) _ (Hb _ h q)
 have e:Xz (R.map (pZ q d))=((Xz R).map (Kp q)).map fun a=>a.add (Js d):=by
  unfold Xz
  rw [List.map_map,List.map_map,List.map_map]
  refine List.map_congr_left fun p _=>?_
  show Js (pZ q d p)=(Kp q (Js p)).add (Js d)
  rw [← gl]
  unfold pZ Js V2.add
  rw [V2.ext']
  exact ⟨by simp,by simp⟩
 rw [e]; exact h1
end
end Go.Ab.N
namespace Go.Ab.N
open Go Go.RowKit Go.Proofs
noncomputable section
set_option maxRecDepth 10000
set_option maxHeartbeats 4000000
def rP (L:List V2) (i k:Nat):Bool:=decide (1<(k+L.length - i) % L.length) && decide ((k+L.length - i) % L.length<L.length - 1) &&
 (List.range 5).all fun j=>!K8 (D7 (atF L i) (atF L (i+1)) (atF L k) (atF L (k+1)) j) (atF L i) (atF L (i+1)) (atF L k) (atF L (k+1))
def FW (L:List V2):Bool:=decide (3≤L.length) && decide (L.length≤12) && ((List.range L.length).all fun i=>!decide (Jd (atF L i) (atF L (i+1)) (atF L (i+2))=0) && (List.range L.length).all fun k=>!rP L i k) && decide (0<(Zb L).num.sign)
theorem Hh (L:List V2) (h:FW L=true):XN L:=by
 unfold FW at h
 simp only [Bool.and_eq_true,decide_eq_true_eq,List.all_eq_true,List.mem_range,Bool.not_eq_true',decide_eq_false_iff_not] at h
 obtain ⟨⟨⟨h1,h2⟩,h3⟩,h4⟩:=h
 refine ⟨⟨h1,h2⟩,fun i hi=>⟨(h3 i hi).1,fun k hk hg=>?_⟩,h4⟩
 have:=(h3 i hi).2 k hk
 obtain ⟨q1,q2,q3⟩:=hg
 unfold rP at this
 rw [decide_eq_true q1,decide_eq_true q2,Bool.true_and,Bool.true_and] at this
 rw [List.all_eq_true.2] at this
 ·cases this
 ·intro j hj
  rw [q3 j (List.mem_range.1 hj)]; rfl
def gt (x y h:Int):List (Int×Int):=[(0,0),(x,0),(y,h),(0,h)]
def gv (w x y h:Int):List (Int×Int):=[(x,0),(w,0),(w,h),(y,h)]
theorem mj:((List.range 4).all fun h=>(List.range 6).all fun x=>(List.range 6).all fun y=>FW (Xz (gt (1+x) (1+y) (3+h))))=true:=by decide +kernel
theorem ml:((List.range 4).all fun w=>(List.range 4).all fun h=>(List.range 6).all fun x=>(List.range 6).all fun y=>!(decide (x<w+3) && decide (y<w+3)) || FW (Xz (gv (4+w) (1+x) (1+y) (3+h))))=true:=by decide +kernel
theorem gu (x y h:Int) (hx:1≤x∧x≤6) (hy:1≤y∧y≤6) (hh:3≤h∧h≤6):XN (Xz (gt x y h)):=by
 have h1:=mj
 simp only [List.all_eq_true,List.mem_range] at h1
 have h2:=h1 (h - 3).toNat (by omega) (x - 1).toNat (by omega) (y - 1).toNat (by omega)
 rw [show (1:Int)+((x - 1).toNat:Nat)=x by omega,show (1:Int)+((y - 1).toNat:Nat)=y by omega,show (3:Int)+((h - 3).toNat:Nat)=h by omega] at h2
 exact Hh _ h2
theorem gw (w x y h:Int) (hw:4≤w∧w≤7) (hx:1≤x∧x<w) (hy:1≤y∧y<w) (hh:3≤h∧h≤6):XN (Xz (gv w x y h)):=by
 have h1:=ml
 simp only [List.all_eq_true,List.mem_range] at h1
 have h2:=h1 (w - 4).toNat (by omega) (h - 3).toNat (by omega) (x - 1).toNat (by omega) (y - 1).toNat (by omega)
 rw [show (4:Int)+((w - 4).toNat:Nat)=w by omega,show (1:Int)+((x - 1).toNat:Nat)=x by omega,show (1:Int)+((y - 1).toNat:Nat)=y by omega,show (3:Int)+((h - 3).toNat:Nat)=h by omega] at h2
 rw [Bool.or_eq_true] at h2
 rcases h2 with h2 | h2
 ·rw [decide_eq_true (show (x - 1).toNat<(w - 4).toNat+3 by omega),decide_eq_true (show (y - 1).toNat<(w - 4).toNat+3 by omega)] at h2
  cases h2
 ·exact Hh _ h2
end
end Go.Ab.N
namespace Go.Ab.N
open Go Go.RowKit Go.Proofs
noncomputable section
set_option maxRecDepth 10000
set_option maxHeartbeats 4000000
open Classical
theorem Id {a b:List (Int×Int)} {f:FV} {e:Rat} (h:(XL a b f e).2.2=true) :
  C9 a.length b.length f∧CV f.turn∧XL a b f e=((Ay a b f f.M.toNat).sub ⟨e,e⟩,(Ax a b f f.M.toNat).add ⟨e,e⟩,true)∧(Ay a b f f.M.toNat).x - e≤(Ax a b f f.M.toNat).x+e∧(Ay a b f f.M.toNat).y - e≤(Ax a b f f.M.toNat).y+e:=by
 by_cases g:C9 a.length b.length f∧CV f.turn
 ·by_cases g2:((Ax a b f f.M.toNat).add ⟨e,e⟩).x<((Ay a b f f.M.toNat).sub ⟨e,e⟩).x∨((Ax a b f f.M.toNat).add ⟨e,e⟩).y<((Ay a b f f.M.toNat).sub ⟨e,e⟩).y
  ·exfalso
   unfold XL at h; rw [if_pos g] at h; simp only at h; rw [if_pos g2] at h; cases h
  ·refine ⟨g.1,g.2,?_,?_⟩
   ·unfold XL; rw [if_pos g]; simp only; rw [if_neg g2]
   ·simp only [not_or,Rat.not_lt] at g2; exact g2
 ·unfold XL at h; rw [if_neg g] at h; cases h
theorem Ic {a b:List (Int×Int)} {f:FV} {e e':Rat} (h:(XL a b f e).2.2=true) (he:e≤e'):(XL a b f e').2.2=true:=by
 obtain ⟨h1,h2,_,h4,h5⟩:=Id h
 unfold XL
 rw [if_pos ⟨h1,h2⟩]
 simp only
 rw [if_neg]
 rintro (g | g)
 ·have:(Ax a b f f.M.toNat).x+e'<(Ay a b f f.M.toNat).x - e':=g
  grind
 ·have:(Ax a b f f.M.toNat).y+e'<(Ay a b f f.M.toNat).y - e':=g
  grind
theorem fx {a b:PV} {f:FV} {e e':Rat} (h:(XL a.rim b.rim f e).2.2=true) (he:e≤e'):Ck (Qy a b f e')=Ck (Qy a b f e):=by
 obtain ⟨_,_,h3,_⟩:=Id h
 obtain ⟨_,_,h4,_⟩:=Id (Ic h he)
 unfold Ck Qy
 simp only [h3,h4]
 congr 1
 unfold V2.add V2.sub
 rw [V2.ext']
 exact ⟨by simp only; grind,by simp only; grind⟩
theorem IL {p:V2→Bool}:∀ {s:List V2},(Fs p s).2=true↔∃ x∈s,p x=true
 | []=>by simp [Fs]
 | x :: l=>by
  have ih:=IL (p:=p) (s:=l)
  show ((if p x=true then (x,true) else Fs p l).2=true)↔_
  by_cases h:p x=true
  ·rw [if_pos h]; simp [h]
  ·rw [if_neg h,ih]; simp [h]
theorem GU (x:Rat):0≤BM x:=by unfold BM; split <;> grind
theorem S0 (n:V2):0≤Kx n:=by
 have h1:=GU n.x
 have h2:=GU n.y
 unfold Kx; grind
theorem gS {n:V2} {A B:List V2} {e e':Rat} (h:El n A B e) (he:e'≤e):El n A B e':=by
 unfold El at *
 have h2:e'*Kx n≤e*Kx n:=Rat.mul_le_mul_of_nonneg_right he (S0 n)
 exact Rat.le_trans h2 h
theorem Wb {A B:List (List V2)} {e e':Rat} (h:Fi A B e=true) (he:e'≤e):Fi A B e'=true:=by
 unfold Fi at *
 rw [decide_eq_true_eq] at *
 intro i hi
 have h1:=h i hi
 unfold Ii at *
 rw [decide_eq_true_eq] at *
 intro k hk
 have h2:=h1 k hk
 unfold Z6 Zx at *
 rw [IL] at *
 obtain ⟨x,hx,hp⟩:=h2
 exact ⟨x,hx,decide_eq_true (gS (of_decide_eq_true hp) he)⟩
def PV.alike (p q:PV):Prop:=p.rim=q.rim∧p.worn=q.worn∧p.marks=q.marks
theorem Pd {a b a' b':PV} (ha:a'.alike a) (hb:b'.alike b) (f:FV) (e:Rat):Kl a' b' f e=Kl a b f e:=by
 obtain ⟨h1,h2,h3⟩:=ha
 obtain ⟨g1,g2,g3⟩:=hb
 cases a; cases a'; cases b; cases b'
 simp only at h1 h2 h3 g1 g2 g3
 subst h1 h2 h3 g1 g2 g3
 rfl
theorem S5 {a b a' b':PV} (ha:a'.alike a) (hb:b'.alike b) (f:FV) (e:Rat):Qy a' b' f e=Qy a b f e:=by unfold Qy; rw [ha.1,hb.1]
theorem NT (a b:PV) (f:FV) (e:Rat):Kl a b f e=0↔C9 a.rim.length b.rim.length f∧FM a b f∧M8 a b f∧((XL a.rim b.rim f e).2.2=true∧(XL a.rim b.rim f e).1=f.lo∧(XL a.rim b.rim f e).2.1=f.hi)∧Zr a b f e=true:=by
 unfold Kl
 by_cases h1:C9 a.rim.length b.rim.length f
 rotate_left
 ·rw [if_neg h1]; exact ⟨fun h=>absurd h (by decide),fun h=>absurd h.1 h1⟩
 rw [if_pos h1]
 by_cases h2:FM a b f
 rotate_left
 ·rw [if_neg h2]; exact ⟨fun h=>absurd h (by decide),fun h=>absurd h.2.1 h2⟩
 rw [if_pos h2]
 by_cases h3:M8 a b f
 rotate_left
 ·rw [if_neg h3]; exact ⟨fun h=>absurd h (by decide),fun h=>absurd h.2.2.1 h3⟩
 rw [if_pos h3]
 by_cases h4:(XL a.rim b.rim f e).2.2=true∧(XL a.rim b.rim f e).1=f.lo∧(XL a.rim b.rim f e).2.1=f.hi
 rotate_left
 ·rw [if_neg h4]; exact ⟨fun h=>absurd h (by decide),fun h=>absurd h.2.2.2.1 h4⟩
 rw [if_pos h4]
 by_cases h5:Zr a b f e=true
 ·rw [if_pos h5]; exact ⟨fun _=>⟨h1,h2,h3,h4,h5⟩,fun _=>rfl⟩
 ·rw [if_neg h5]; exact ⟨fun h=>absurd h (by decide),fun h=>absurd h.2.2.2.2 h5⟩
theorem Ti {a b:PV} {f:FV} {e e':Rat} (h:Kl a b f e=0) (he:e≤e'):Kl a b (Qy a b f e') e'=0:=by
 obtain ⟨h1,h2,h3,⟨h4,h5,h6⟩,h7⟩:=(NT a b f e).1 h
 rw [NT]
 refine ⟨h1,h2,h3,⟨Ic h4 he,rfl,rfl⟩,?_⟩
 unfold Zr at *
 have hm:Ck (Qy a b f e')=Ck f:=by
  rw [fx h4 he]; unfold Ck Qy; simp only [h5,h6]
 rw [hm]
 show Fi (K9 a KG v0) (K9 b f.turn (Ck f)) (-e')=true
 exact Wb h7 (by grind)
theorem Pe {a b:PV} {e:Rat} {f:FV} (h:f∈NK a b e) (ha:0<a.rim.length) (hb:0<b.rim.length):Kl a b f e=0:=by
 obtain ⟨i,j,k,t,hi,hj,k0,kn,km,hp,ht,ho,rfl⟩:=(OQ a b e f ha hb).1 h
 unfold IP at ho
 rw [Bool.and_eq_true] at ho
 obtain ⟨o1,o2⟩:=ho
 rw [Fa] at ht
 obtain ⟨k',q1,q2,q3⟩:=ht
 rw [NT]
 refine ⟨?_,hp,⟨k',?_,q2,q3⟩,⟨o1,rfl,rfl⟩,o2⟩
 ·show (0≤(i:Int)∧(i:Int)<a.rim.length)∧(0≤(j:Int)∧(j:Int)<b.rim.length)∧1≤(k:Int)∧(k:Int)<a.rim.length∧(k:Int)<b.rim.length
  omega
 ·show k'<((k:Nat):Int).toNat
  omega
theorem L3 {a b ca cb:PV} {f:FV} {ta tb sa sb:Rat} (h:Kl a b f (ta+tb)=0) (h1:a=Zz a ca∧ta≤sa) (h2:b=Zz b cb∧tb≤sb):Ds a b f ca cb ta tb sa sb=(Qy ca cb f (sa+sb),0):=by
 unfold Ds; rw [if_pos ⟨h1,h2⟩,if_pos h]
theorem eN (f g:FV) (hf:f.fine) (hg:g.fine):Fn Tryz.prog 32 [Kt f,Kt g] (.bool (decide (f=g))):=by
 obtain ⟨V,hV⟩:∃ V,V=decide (f=g):=⟨_,rfl⟩
 rw [← hV]
 rw [decide_eq_decide.2 (rO f g)] at hV
 have fin:∀ {s:AS} {v:Bool},s.get 4=.bool v→v=V→RetOk (Qn Tryz.prog Tryz.f32 [] [] (.bool V)) s:=fun h e=>Xs rfl h (X3 _) (by rw [e])
 obtain ⟨f1,f2,f3⟩:=hf
 obtain ⟨g1,g2,g3⟩:=hg
 have c1:=Hd f.turn g.turn (by unfold vm; omega) (by unfold vm; omega)
 have c2:=HX f.lo g.lo (by unfold vm; omega) (by unfold vm; omega)
 have c3:=HX f.hi g.hi (by unfold vm; omega) (by unfold vm; omega)
 refine Fq Tryz.call32 Tryz.func32 5 [] [] [] (by simp [XK]) (X1 1000 ?_)
 by_cases h:f.A=g.A∧f.B=g.B∧f.EA=g.EA∧f.EB=g.EB∧f.M=g.M
 rotate_left
 ·have hv:false=V:=by rw [hV]; exact (decide_eq_false fun hh=>h hh.1).symm
  rcases (show f.A≠g.A∨(f.A=g.A∧f.B≠g.B)∨(f.A=g.A∧f.B=g.B∧f.EA≠g.EA)∨(f.A=g.A∧f.B=g.B∧f.EA=g.EA∧f.EB≠g.EB)∨(f.A=g.A∧f.B=g.B∧f.EA=g.EA∧f.EB=g.EB∧f.M≠g.M) by omega) with q | ⟨q1,q⟩ | ⟨q1,q2,q⟩ | ⟨q1,q2,q3,q⟩ | ⟨q1,q2,q3,q4,q⟩
  ·simp only [AS.start,Kt,Qg,eq_false q,↓X2,wA,seval,wE]
   exact fin rfl hv
  ·simp only [AS.start,Kt,Qg,eq_true q1,eq_false q,↓X2,wA,seval,wE]
   exact fin rfl hv
  ·simp only [AS.start,Kt,Qg,eq_true q1,eq_true q2,eq_false q,↓X2,wA,seval,wE]
   exact fin rfl hv
  ·simp only [AS.start,Kt,Qg,eq_true q1,eq_true q2,eq_true q3,eq_false q,↓X2,wA,seval,wE]
   exact fin rfl hv
  ·simp only [AS.start,Kt,Qg,eq_true q1,eq_true q2,eq_true q3,eq_true q4,eq_false q,↓X2,wA,seval,wE]
   exact fin rfl hv
 have e:V=decide (f.turn=g.turn∧f.lo=g.lo∧f.hi=g.hi):=by rw [hV]; exact decide_eq_decide.2 ⟨fun hh=>hh.2,fun hh=>⟨h,hh⟩⟩
 clear hV
 simp (disch:=omega) only [AS.start,Kt,Qg,↓Xt,wD,↓X2,wA,seval,wE]
 refine X0 c1 rfl ?_
 by_cases n1:f.turn=g.turn
 rotate_left
 ·simp (disch:=omega) only [decide_eq_false n1,↓Xt,wD,↓X2,wA,seval,wE]
  exact fin rfl (by rw [e]; exact (decide_eq_false fun hh=>n1 hh.1).symm)
 simp (disch:=omega) only [decide_eq_true n1,↓Xt,wD,↓X2,wA,seval,wE]
 refine X0 c2 rfl ?_
 by_cases n2:f.lo=g.lo
 rotate_left
 ·simp (disch:=omega) only [decide_eq_false n2,↓Xt,wD,↓X2,wA,seval,wE]
  exact fin rfl (by rw [e]; exact (decide_eq_false fun hh=>n2 hh.2.1).symm)
 simp (disch:=omega) only [decide_eq_true n2,↓Xt,wD,↓X2,wA,seval,wE]
 refine X0 c3 rfl ?_
 simp (disch:=omega) only [↓Xt,wD,↓X2,wA,seval,wE]
 exact fin rfl (by rw [e]; exact decide_eq_decide.2 ⟨fun hh=>⟨n1,n2,hh⟩,fun hh=>hh.2.2⟩)
theorem P9 {p:PV} (hp:p.small) (id home:Int) {a q:Rat} (ha:qb a≤10000) (hq:qb q≤10000):(ZP p id home (a+q)).small:=by
 have h1:=RQ.of_sz (a+q)
 have h2:=Jq a q
 exact ⟨hp.rim,hp.worn,hp.marks,by show (RQ.of (a+q)).sz≤_; omega,hp.light,hp.heavy,hp.strength,hp.rough⟩
theorem GP.cast {p:PV} {t:Rat} (h:GP p t) (q:Rat) (hq:qb (t+q)≤20) (i o:Int):GP (ZP p i o (t+q)) (t+q):=⟨⟨h.even.rim,h.even.worn,h.even.marks,h.even.near⟩,h.poly,rfl,hq⟩
theorem P8 (p:PV) (i o:Int) (t:Rat):(ZP p i o t).alike p:=⟨rfl,rfl,rfl⟩
theorem Ig (p:PV):p.alike p:=⟨rfl,rfl,rfl⟩
def Gd (n:Int):Rat:=Rat.divInt (QW n 6) 4
theorem DJ (n:Int):0≤Gd n:=by
 have h:=Zc n 6 (by omega)
 unfold Gd
 generalize QW n 6=k at *
 rcases (show k=0∨k=1∨k=2∨k=3∨k=4∨k=5 by omega) with rfl | rfl | rfl | rfl | rfl | rfl <;> decide +kernel
theorem Uf (n:Int):qb (Gd n)≤3:=by
 have h:=Zc n 6 (by omega)
 exact CK _ _ ⟨by omega,by omega⟩ ⟨by omega,by omega⟩
theorem Gs {p:PV} {t:Rat} (h:GP p t) (hs:p.small) (hq:qb t≤12) (n:Int) (hn:Z4 n) :
  Fn Tryz.prog 23 [Q3 p,I n] (Q3 (ZQ p t n))∧GP (ZQ p t n) (t+Gd n)∧(ZQ p t n).small∧(ZQ p t n).alike p∧Zz p (ZQ p t n)=p∧qb (t+Gd n)≤qb t+4:=by
 have h3:=Uf n
 have h4:=Jq t (Gd n)
 refine ⟨Wz p n hn h.tol (by omega),h.cast _ (show qb (t+Gd n)≤20 by omega) _ _,P9 hs _ _ (by omega) (show qb (Gd n)≤10000 by omega),P8 _ _ _ _,?_,by omega⟩
 unfold Zz ZQ ZP
 have:=h.tol
 cases p; rfl
theorem V5 (R:List (Int×Int)) (l:List Int) (p:Nat) (hn:QU R) (hp:XN (Xz R)):GP (Zg R l p) (Rat.divInt (Ab.atF l (p+1:Nat) 3) 4)∧(Zg R l p).small∧qb (Rat.divInt (Ab.atF l (p+1:Nat) 3) 4)≤3:=by
 have b1:=XY l (p+1:Nat) 3 (by omega)
 have b2:=XY l p 3 (by omega)
 have q:=CK (Ab.atF l (p+1:Nat) 3) 4 ⟨by omega,by omega⟩ ⟨by omega,by omega⟩
 have hl:R.length≤12:=by have:=hp.1; simp [Xz] at this; omega
 have z:=fun (n m:Int) (h1:Z4 n) (h2:Z4 m)=>DH n m h1 h2
 refine ⟨⟨⟨by show R.length<_; omega,by simp [Zg],by simp [Zg],hn⟩,hp,rfl,by omega⟩,⟨by show R.length<_; omega,by simp [Zg]; omega,by simp [Zg]; omega,?_,?_,?_,?_,?_⟩,q⟩
 ·exact Nat.le_trans (z (Ab.atF l (p+1:Nat) 3) 4 ⟨by omega,by omega⟩ ⟨by omega,by omega⟩) (by omega)
 ·exact Nat.le_trans (z 1 1 ⟨by omega,by omega⟩ ⟨by omega,by omega⟩) (by omega)
 ·exact Nat.le_trans (z (1+Ab.atF l p 3) 1 ⟨by omega,by omega⟩ ⟨by omega,by omega⟩) (by omega)
 ·exact Nat.le_trans (z 100 1 ⟨by omega,by omega⟩ ⟨by omega,by omega⟩) (by omega)
 ·exact Nat.le_trans (z 1 2 ⟨by omega,by omega⟩ ⟨by omega,by omega⟩) (by omega)
end
end Go.Ab.N
