/- Contracts of functions of these chapters, for every argument that fits, and what they need. -/
import Derived.Test.YtefjhgcndhepeaaGreatC11
import Derived.Test.YtefjhgcndhepeaaGreatC6
import Derived.Test.YtefjhgcndhepeaaGreatC7
set_option linter.unusedSimpArgs false
set_option linter.unusedVariables false
open Nat renaming reducePow → Y1, reduceLT → Y2, reduceLeDiff → Y3, reduceEqDiff → Y4, reduceAdd → Y5, reduceMul → Y6, reduceSub → Y7, reduceBEq → Y8, reduceDiv → Y9, reduceMod → YA
namespace Go.Ab.N
open Go Go.RowKit Go.Proofs
noncomputable section
set_option maxRecDepth 10000
set_option maxHeartbeats 4000000
open Classical
def XfG (t:V2):List V2→List V2
 | []=>[t]
 | x :: l=>if Xsi t x then t :: x :: l else x :: XfG t l
def Xv7 (t:V2) (l:List V2):List V2:=if t∈l then l else XfG t l
def X2L (a b:PV) (f:FV):Nat→List V2
 | 0=>[]
 | k+1=>if (anK a b f k).2=true then Xv7 (anK a b f k).1 (X2L a b f k) else X2L a b f k
def X5U (t:V2) (w:List V2×Bool) (x:V2):List V2×Bool:=if w.2=false∧Xsi t x then (w.1 ++ [t] ++ [x],true) else (w.1 ++ [x],w.2)
def X3T (t:V2) (w:List V2×Bool) (l:List V2):List V2×Bool:=l.foldl (X5U t) w
theorem Xbl (t:V2):∀ (l A:List V2),X3T t (A,true) l=(A ++ l,true)
 | [],A=>by simp [X3T]
 | x :: l,A=>by
  show X3T t (X5U t (A,true) x) l=_
  have:X5U t (A,true) x=(A ++ [x],true):=by unfold X5U; rw [if_neg (by simp)]
  rw [this,Xbl t l]; simp
theorem Xe1 (t:V2):∀ (l A:List V2),(if (X3T t (A,false) l).2=true then (X3T t (A,false) l).1 else (X3T t (A,false) l).1 ++ [t])=A ++ XfG t l
 | [],A=>by simp [X3T,XfG]
 | x :: l,A=>by
  show (if (X3T t (X5U t (A,false) x) l).2=true then (X3T t (X5U t (A,false) x) l).1 else (X3T t (X5U t (A,false) x) l).1 ++ [t])=A ++ XfG t (x :: l)
  by_cases h:Xsi t x
  ·have:X5U t (A,false) x=(A ++ [t] ++ [x],true):=by unfold X5U; rw [if_pos ⟨rfl,h⟩]
   rw [this,Xbl]
   simp [XfG,h]
  ·have:X5U t (A,false) x=(A ++ [x],false):=by unfold X5U; rw [if_neg (by simp [h])]
   rw [this,Xe1 t l]
   simp [XfG,h]
theorem Xhi (t x:V2):∀ l,x∈XfG t l↔x=t∨x∈l
 | []=>by simp [XfG]
 | y :: l=>by
  have ih:=Xhi t x l
  unfold XfG
  split
  ·simp
  ·rw [List.mem_cons,ih,List.mem_cons]
   constructor
   ·rintro (h | h | h)
    ·exact .inr (.inl h)
    ·exact .inl h
    ·exact .inr (.inr h)
   ·rintro (h | h | h)
    ·exact .inr (.inl h)
    ·exact .inl h
    ·exact .inr (.inr h)
theorem Xhh (t:V2):∀ l,(XfG t l).length=l.length+1
 | []=>rfl
 | y :: l=>by
  have ih:=Xhh t l
  unfold XfG
  split
  ·simp
  ·simp [ih]
theorem XnW (t x:V2) (l:List V2):x∈Xv7 t l↔x=t∨x∈l:=by
 unfold Xv7
 split
 ·rename_i h
  exact ⟨fun hx=>.inr hx,fun hx=>by rcases hx with rfl | hx; exact h; exact hx⟩
 ·exact Xhi t x l
theorem X8A (a b:PV) (f:FV) (t:V2):∀ n,t∈X2L a b f n↔∃ k,k<n∧(anK a b f k).2=true∧(anK a b f k).1=t
 | 0=>by simp [X2L]
 | n+1=>by
  have ih:=X8A a b f t n
  unfold X2L
  split
  ·rename_i h
   rw [XnW,ih]
   constructor
   ·rintro (h1 | ⟨k,h1,h2⟩)
    ·exact ⟨n,by omega,h,h1.symm⟩
    ·exact ⟨k,by omega,h2⟩
   ·rintro ⟨k,h1,h2,h3⟩
    by_cases hk:k=n
    ·subst hk; exact .inl h3.symm
    ·exact .inr ⟨k,by omega,h2,h3⟩
  ·rename_i h
   rw [ih]
   constructor
   ·rintro ⟨k,h1,h2⟩; exact ⟨k,by omega,h2⟩
   ·rintro ⟨k,h1,h2,h3⟩
    by_cases hk:k=n
    ·subst hk; exact absurd h2 h
    ·exact ⟨k,by omega,h2,h3⟩
theorem X6B (a b:PV) (f:FV):∀ n,(X2L a b f n).length≤n
 | 0=>Nat.le_refl _
 | n+1=>by
  have ih:=X6B a b f n
  unfold X2L Xv7
  split
  ·split
   ·omega
   ·rw [Xhh]; omega
  ·omega
theorem X6h (a b:PV) (f:FV) (ha:X2e a.rim) (hb:X2e b.rim) (n:Nat):∀ t∈X2L a b f n,vb t≤26:=fun t ht=>by
 obtain ⟨k,_,_,h⟩:=(X8A a b f t n).1 ht
 rw [← h]; exact X4E ha hb _ _
theorem Xgz {H:List AO} {id ver n:Nat} {L:List V2} (ho:H[id]?=some (.con ver (L.length*8) (X0M vC 8 v0 L))) (hn:n=L.length):X4k H (.osl id ver 8 0 n) (X0A L):=by
 subst hn
 rw [X05]
 exact X8B ho (Nat.le_refl _) (fun h=>by rw [h]) fun j hj=>X1B _ _
theorem XjF (t:V2) (l:List V2) (i:Nat) (h:i<l.length):X3T t ([],false) (l.take (i+1))=X5U t (X3T t ([],false) (l.take i)) (l.getD i v0):=by
 unfold X3T
 rw [X1b l v0 i h,List.foldl_append]; rfl
def Xro (t:V2) (L:List V2) (i:Nat):Bool:=decide (t∈L.take i)
theorem XlX (t:V2) (L:List V2) (i:Nat) (h:i<L.length):Xro t L (i+1)=(Xro t L i || decide (L.getD i v0=t)):=by
 unfold Xro
 rw [X1b L v0 i h,Bool.eq_iff_iff,Bool.or_eq_true,decide_eq_true_iff,decide_eq_true_iff,decide_eq_true_iff,List.mem_append,List.mem_singleton]
 exact ⟨fun h=>h.imp id Eq.symm,fun h=>h.imp id Eq.symm⟩
theorem Xqz (a b:PV) (f:FV) (hf:XaY a.rim.length b.rim.length f) (ha:a.even) (hb:b.even):Fn Tryz.prog 190 [pvA a,pvA b,fvA f] (X0A (X2L a b f f.M.toNat)):=by
 obtain ⟨⟨s1,s2⟩,⟨s3,s4⟩,s5,s6,s7⟩:=hf
 obtain ⟨N,hN⟩:∃ N:Nat,f.M=N:=⟨f.M.toNat,by omega⟩
 have la:=ha.rim; have lb:=hb.rim
 rw [hN,Int.toNat_natCast]
 have ba:X1j 3 (.con 0 25 (ofL (pvC a)))=True:=eq_true (fun j _=>X06 (X0c (X0w a) j))
 have bb:X1j 3 (.con 0 25 (ofL (pvC b)))=True:=eq_true (fun j _=>X06 (X0c (X0w b) j))
 have bf:X1j 3 (.con 0 29 (ofL (fvC f)))=True:=eq_true (fun j _=>X06 (X0c (X10 f) j))
 have bvd:∀ l:List V2,Bel 3 (.sl l.length (l.length*8) (X0M vC 8 v0 l) false)=True:=fun l=>eq_true (X06 (X0b l))
 have bv:∀ l,Bel 3 (X0A l)=True:=fun l=>eq_true (X06 (X0b l))
 refine Fq Tryz.call190 Tryz.func190 15 [] [5,60000003,60000004,60000005,13,140000009,14] [] (by simp [X0o,X0s]) (X00 1000 ?_)
 simp (disch:=omega) only [AS.start,pvA,pvC,fvA,fvC,↓X0v,wD,↓X03,wA,seval,wE]
 refine X0d (fun k:Nat=>⟨15,[],[.any,.any,.any,.ref 0 0 0,.ref 1 0 0,.ref 2 0 0,.any,X0A (X2L a b f k),I k,.any,.any,.any,.any,.any,.any],[],[.con 0 25 (ofL (pvC a)),.con 0 25 (ofL (pvC b)),.con 0 29 (ofL (fvC f))]⟩) (fun k=>k≤N) (fun k=>N - k) 0 (by omega)
  (Sub.trans (X1a 0 rfl) (Sub.trans (X1a 1 rfl) (Sub.trans (X1a 2 rfl) (Sub.trans (Xdg 7 (X0A []) (by show 7<15; omega) (by rw [X05]; exact XaH (Nat.le_refl _) (fun j hj=>absurd hj (Nat.not_lt_zero j)))) (X09 rfl (by simp [X0p,X2L,I]) (by simp [X0q]) (by simp [pvC,fvC,X0e,X0j,X04,I,sg])))))) ?_
 intro k hk next
 by_cases hk2:k<N
 rotate_left
 ·obtain rfl:k=N:=by omega
  refine X00 1000 ?_
  simp (disch:=omega) only [pvC,fvC,X05,↓X0v,wD,↓X03,wA,seval,wE]
  exact X0r (v:=X0A (X2L a b f k)) rfl rfl (X0b _) rfl
 have c1:=X0T (f.EA+(k:Int)) a.rim.length (by omega) (by omega) (by omega)
 have c2:=X0T (f.EB - (k:Int)) b.rim.length (by omega) (by omega) (by omega)
 rw [XeT _ _ _ (by omega)] at c1
 rw [XjO _ _ _ (by omega)] at c2
 have ca:=XbB a b (xK a.rim.length f k) (yK b.rim.length f k) la lb ha.near hb.near
 have hsm:=X4E ha.near hb.near (xK a.rim.length f k) (yK b.rim.length f k)
 rw [show X1R a.rim b.rim (xK a.rim.length f k) (yK b.rim.length f k)=anK a b f k from rfl] at ca hsm
 have nx:=next (k+1)
 have htn:X2L a b f (k+1)=if (anK a b f k).2=true then Xv7 (anK a b f k).1 (X2L a b f k) else X2L a b f k:=rfl
 rw [htn] at nx
 have hts:=X6h a b f ha.near hb.near k
 have htl:=X6B a b f k
 generalize anK a b f k=X at *
 generalize X2L a b f k=L at *
 obtain ⟨t,ok⟩:=X
 refine X00 1000 ?_
 simp (disch:=omega) only [pvC,fvC,X0e,↓X0v,wD,↓X03,wA,seval,wE]
 refine X01 c1 rfl ?_
 simp (disch:=omega) only [pvC,fvC,X0e,↓X0v,wD,↓X03,wA,seval,wE]
 refine X01 c2 rfl ?_
 simp (disch:=omega) only [pvC,fvC,X0e,↓X0v,wD,↓X03,wA,seval,wE]
 refine X01 ca rfl ?_
 cases ok with
 | false =>
  simp (disch:=omega) only [↓X0v,wD,↓X03,wA,seval,wE]
  exact nx _ (by omega) (by omega) (X0t (m:=3) (Nat.zero_le _) rfl (by simp [X0p,I]) (by simp [X0q]) (by simp [pvC,fvC,X0e,X0j,X04,I,sg]) (by simp [X0L,bv]) (by simp [X0L]) (by simp [ba,bb,bf]))
 | true =>
  simp (disch:=omega) only [↓X0v,wD,↓X03,wA,seval,wE]
  refine X0d (fun i:Nat=>⟨15,[],[.any,.any,.any,.ref 0 0 0,.ref 1 0 0,.ref 2 0 0,.any,X0A L,I k,.ref 3 0 0,.any,.osl 4 (X3T t ([],false) (L.take i)).1.length 8 0 (X3T t ([],false) (L.take i)).1.length,.bool (Xro t L i),.bool (X3T t ([],false) (L.take i)).2,I i],[],
   [.con 0 25 (ofL (pvC a)),.con 0 25 (ofL (pvC b)),.con 0 29 (ofL (fvC f)),.con 0 8 (ofL (vC t)),.row (X3T t ([],false) (L.take i)).1.length ((X3T t ([],false) (L.take i)).1.length*8) (X0M vC 8 v0 (X3T t ([],false) (L.take i)).1)]⟩) (fun i=>i≤L.length∧(X3T t ([],false) (L.take i)).1.length≤2*i) (fun i=>L.length - i) 0 ⟨by omega,by simp [X3T]⟩
   (Sub.trans (X1a 3 rfl) (Sub.trans (X0W 11 8 (X0M vC 8 v0 []) rfl) (X09 rfl (by simp [AS.put,X0p,X3T,Xro,I]) (by simp [AS.put,X0q]) (by simp [AS.put,pvC,fvC,vC,qC,X0e,X0j,X04,X3T,I,sg])))) ?_
  rintro i ⟨hi,hle⟩ next2
  by_cases hi2:i<L.length
  rotate_left
  ·obtain rfl:i=L.length:=by omega
   have hB:Xro t L L.length=decide (t∈L):=by unfold Xro; rw [List.take_length]
   rw [hB]
   rw [List.take_length] at *
   have hins:=Xe1 t L []
   rw [List.nil_append] at hins
   generalize X3T t ([],false) L=W at *
   obtain ⟨A,put⟩:=W
   simp only at hle hins
   simp only [if_true] at nx
   unfold Xv7 at nx
   have hapt:=X0E vC 8 v0 A t (by omega)
   have hl1:(A ++ [t]).length=A.length+1:=by simp
   by_cases hm:t∈L
   ·rw [if_pos hm] at nx
    cases put
    all_goals
     refine X00 1000 ?_
     simp (disch:=omega) only [X05,vC,qC,decide_eq_true hm,Bool.not_true,Bool.not_false,↓X0v,wD,↓X03,wA,seval,wE]
    refine ⟨X42 t,?_⟩
    all_goals
     exact nx _ (by omega) (by omega) (X0t (m:=3) (Nat.zero_le _) rfl (by simp [X0p,X05,I]) (by simp [X0q]) (by simp) (by simp [X0L,bv,bvd]) (by simp [X0L]) (by simp [ba,bb,bf]))
   ·rw [if_neg hm] at nx
    have key:∀ (s:AS) (M:List V2),M=XfG t L→Sub 0 s ⟨15,[],[.any,.any,.any,.ref 0 0 0,.ref 1 0 0,.ref 2 0 0,.any,.osl 4 M.length 8 0 M.length,I (k+1:Nat),.any,.any,.any,.any,.any,.any],[],[.con 0 25 (ofL (pvC a)),.con 0 25 (ofL (pvC b)),.con 0 29 (ofL (fvC f)),.con 0 8 (ofL (vC t)),.row M.length (M.length*8) (X0M vC 8 v0 M)]⟩→Sub 0 s
      ⟨15,[],[.any,.any,.any,.ref 0 0 0,.ref 1 0 0,.ref 2 0 0,.any,X0A (XfG t L),I (k+1:Nat),.any,.any,.any,.any,.any,.any],[],[.con 0 25 (ofL (pvC a)),.con 0 25 (ofL (pvC b)),.con 0 29 (ofL (fvC f))]⟩:=fun s M hM h=>by
     subst hM
     exact h.trans <| Sub.trans (X1a 4 rfl) (Sub.trans (X3d 7 (X0A (XfG t L)) (by show 7<15; omega) (Xgz rfl rfl)) (X0t (m:=3) (Nat.zero_le _) rfl (by simp [X0p]) (by simp [X0q]) (by simp) (by simp [X0L,bv]) (by simp [X0L]) (by simp [ba,bb,bf])))
    cases put
    all_goals
     refine X00 1000 ?_
     simp (disch:=omega) only [X05,vC,qC,decide_eq_false hm,Bool.not_true,Bool.not_false,↓X0v,wD,↓X03,wA,seval,wE]
    ·exact ⟨X42 t,nx _ (by omega) (by omega) (key _ (A ++ [t]) hins (X09 rfl (by simp [X0p,X05,I,hl1]) (by simp [X0q]) (by rw [← hapt,hl1]; rfl)))⟩
    ·exact nx _ (by omega) (by omega) (key _ A hins (X09 rfl (by simp [X0p,X05,I]) (by simp [X0q]) rfl))
  have ct:=X3E (L.getD i v0) t (by have:=hts (L.getD i v0) (X2u hi2); unfold vm; omega) (by simp only at hsm; unfold vm; omega)
  have cb:=XkM t (L.getD i v0) (by simp only at hsm; unfold vm; omega) (by have:=hts (L.getD i v0) (X2u hi2); unfold vm; omega)
  have nx2:=next2 (i+1)
  rw [XjF t L i hi2,XlX t L i hi2] at nx2
  have v1:=vF L i
  generalize L.getD i v0=x at *
  generalize X3T t ([],false) (L.take i)=W at *
  obtain ⟨A,put⟩:=W
  simp only at hle
  generalize Xro t L i=tw at *
  have hap1:=X0E vC 8 v0 A x (by omega)
  have hap2:=X0E vC 8 v0 A t (by omega)
  have hap3:=X0E vC 8 v0 (A ++ [t]) x (by omega)
  have hl1:(A ++ [t]).length=A.length+1:=by simp
  rw [hl1] at hap3
  have hl2:(A ++ [t] ++ [x]).length=A.length+1+1:=by simp
  have hl3:(A ++ [x]).length=A.length+1:=by simp
  refine X00 1000 ?_
  cases tw
  simp (disch:=omega) only [X05,vC,qC,v1,↓X0v,wD,↓X03,wA,seval,wE]
  refine X01 ct rfl ?_
  by_cases hx:x=t
  simp (disch:=omega) only [X05,vC,qC,v1,decide_eq_true hx,↓X0v,wD,↓X03,wA,seval,wE]
  rotate_left
  simp (disch:=omega) only [X05,vC,qC,v1,decide_eq_false hx,↓X0v,wD,↓X03,wA,seval,wE]
  rotate_left
  simp (disch:=omega) only [X05,vC,qC,v1,↓X0v,wD,↓X03,wA,seval,wE]
  all_goals
   cases put
   ·simp (disch:=omega) only [X05,vC,qC,v1,Bool.not_false,↓X0v,wD,↓X03,wA,seval,wE]
    refine X01 cb rfl ?_
    by_cases hb:Xsi t x
    ·have hs:X5U t (A,false) x=(A ++ [t] ++ [x],true):=by unfold X5U; rw [if_pos ⟨rfl,hb⟩]
     rw [hs,hl2] at nx2
     simp (disch:=omega) only [X05,vC,qC,v1,decide_eq_true hb,↓X0v,wD,↓X03,wA,seval,wE]
     exact ⟨X42 t,X42 x,nx2 _ ⟨by omega,by omega⟩ (by omega) (X09 rfl (by first | simp [X0p,X05,hx,I] | simp [X0p,X05,I]) (by simp [X0q]) (by rw [← hap3,← hap2]; rfl))⟩
    ·have hs:X5U t (A,false) x=(A ++ [x],false):=by unfold X5U; rw [if_neg (fun h=>hb h.2)]
     rw [hs,hl3] at nx2
     simp (disch:=omega) only [X05,vC,qC,v1,decide_eq_false hb,↓X0v,wD,↓X03,wA,seval,wE]
     exact ⟨X42 x,nx2 _ ⟨by omega,by omega⟩ (by omega) (X09 rfl (by first | simp [X0p,X05,hx,I] | simp [X0p,X05,I]) (by simp [X0q]) (by rw [← hap1]; rfl))⟩
   ·have hs:X5U t (A,true) x=(A ++ [x],true):=by unfold X5U; rw [if_neg (fun h=>Bool.noConfusion h.1)]
    rw [hs,hl3] at nx2
    simp (disch:=omega) only [X05,vC,qC,v1,Bool.not_true,↓X0v,wD,↓X03,wA,seval,wE]
    exact ⟨X42 x,nx2 _ ⟨by omega,by omega⟩ (by omega) (X09 rfl (by first | simp [X0p,X05,hx,I] | simp [X0p,X05,I]) (by simp [X0q]) (by rw [← hap1]; rfl))⟩
def fvs (l:List FV):AV:=sls fvC 29 fv0 l
theorem X1p (l:List FV):fvs l=.sl l.length (l.length*29) (X0M fvC 29 fv0 l) false:=nrfl rfl
def X5C (i j k:Nat) (t:V2):FV:=⟨0,1,i,j,k,t,v0,v0⟩
def XfB (a b:PV) (e:Rat) (i j k:Nat) (t:V2):Bool:=(X0J a.rim b.rim (X5C i j k t) e).2.2 && X4m a b (X1f a b (X5C i j k t) e) e
def X6C (a b:PV) (e:Rat) (i j k:Nat) (L:List V2):List FV:=(L.filter (XfB a b e i j k)).map fun t=>X1f a b (X5C i j k t) e
def XfC (a b:PV) (e:Rat) (i j k:Nat):List FV:=if XhD a b (X5C i j k v0) then X6C a b e i j k (X2L a b (X5C i j k v0) k) else []
def X68 (a b:PV) (e:Rat) (i j:Nat):Nat→List FV
 | 0=>[]
 | k+1=>X68 a b e i j k ++ XfC a b e i j (k+1)
def X5T (a b:PV) (e:Rat) (i:Nat):Nat→List FV
 | 0=>[]
 | j+1=>X5T a b e i j ++ X68 a b e i j (min a.rim.length b.rim.length - 1)
def X5e (a b:PV) (e:Rat):Nat→List FV
 | 0=>[]
 | i+1=>X5e a b e i ++ X5T a b e i b.rim.length
def Xo3 (a b:PV) (e:Rat):List FV:=X5e a b e a.rim.length
theorem Xj6 (a b:PV) (e:Rat) (i j k:Nat) (L:List V2) (n:Nat) (h:n<L.length):X6C a b e i j k (L.take (n+1))=X6C a b e i j k (L.take n) ++ (if XfB a b e i j k (L.getD n v0)=true then [X1f a b (X5C i j k (L.getD n v0)) e] else []):=by
 unfold X6C
 rw [X1b L v0 n h,List.filter_append,List.map_append]
 congr 1
 by_cases hq:XfB a b e i j k (L.getD n v0)=true
 ·rw [if_pos hq,List.filter_cons_of_pos hq]; rfl
 ·rw [if_neg hq,List.filter_cons_of_neg hq]; rfl
theorem XdZ (a b:PV) (e:Rat) (i j k:Nat) (L:List V2):(X6C a b e i j k L).length≤L.length:=by
 unfold X6C; rw [List.length_map]; exact List.length_filter_le _ _
theorem Xx7 {l:List AV} (h:∀ x∈l,x.one=true):∀ j,j<l.length→(l.getD j .any).one=true:=fun j hj=>by
 rw [List.getD_eq_getElem?_getD,List.getElem?_eq_getElem hj]; exact h _ (List.getElem_mem _)
theorem XlF (f:FV):∀ j,j<29→((fvC f).getD j .any).one=true:=Xx7 (l:=fvC f) (by simp [fvC,AV.one,X04,I])
theorem XlG {P:Program} {fn:Func} {str hcs:List Nat} {s:AS} {t id ver:Nat} (L:List FV) (hr:fn.results=#[.tmp t]) (hs:s.get t=.osl id ver 29 0 L.length) (ho:s.h[id]?=some (.row ver (L.length*29) (X0M fvC 29 fv0 L))):RetOk (X2f P fn str hcs (fvs L)) s:=by
 refine X8R hr ?_
 rw [hs,X1p]
 refine X1e (.inl ho) (by omega) (fun h=>by rw [h]) fun j hj=>?_
 rw [Nat.zero_add]
 exact (X0c (X10 _) _).sees _
theorem XhX {m:Nat} {s:AS} (id:Nat) {ver n:Nat} {l:List AV} (l':List AV) (ho:s.h[id]?=some (.row ver n (ofL l))) (hn:n=l.length) (h:WeakL l l'):Sub m s { s with h:=s.h.set id (.row ver n (ofL l')) } :=
 X4c id (ofL l') ho fun j hj c v _ _ hv=>(WeakL.spec h).2 j (by omega) v hv
theorem Xnj (i j k:Nat):WeakL ([I 0,I 1,I i,I j,I k] ++ (X5W ++ (X5W ++ X5W))) (fvC (X5C i j k v0)):=by
 obtain ⟨w1,w2,w3,w4,w5,w6,w7,w8,_⟩:=X3B
 exact ⟨Weak.rfl' _,Weak.rfl' _,Weak.rfl' _,Weak.rfl' _,Weak.rfl' _,w1,w2,w3,w4,w5,w6,w7,w8,w1,w2,w3,w4,w5,w6,w7,w8,w1,w2,w3,w4,w5,w6,w7,w8,trivial⟩
def X3h (a b:PV) (D:List FV) (x6 x7 x8 x9 x10 x11:AV) (r:List AO):AS:=⟨15,[],[.any,.any,.ref 0 0 0,.ref 1 0 0,.any,.osl 2 D.length 29 0 D.length,x6,x7,x8,x9,x10,x11,.any,.any,.any],[],[.row 0 25 (ofL (pvC a)),.row 0 25 (ofL (pvC b)),.row D.length (D.length*29) (X0M fvC 29 fv0 D)] ++ r⟩
theorem Xjq (a b:PV) {ta tb:Rat} (ha:GP a ta) (hb:GP b tb):Fn Tryz.prog 109 [pvA a,pvA b] (fvs (Xo3 a b (ta+tb))):=by
 have la:=(X2F _ ha.poly).1
 have lb:=(X2F _ hb.poly).1
 have ea:(X0Q a.rim).length=a.rim.length:=by simp [X0Q]
 have eb:(X0Q b.rim).length=b.rim.length:=by simp [X0Q]
 rw [ea] at la
 rw [eb] at lb
 have qa:=ha.qt; have q2:=hb.qt
 have qe:=X2n ta tb
 generalize hT:ta+tb=e at *
 have ba:X1j 3 (.row 0 25 (ofL (pvC a)))=True:=eq_true (X0B (X0w a))
 have bb:X1j 3 (.row 0 25 (ofL (pvC b)))=True:=eq_true (X0B (X0w b))
 have bd:∀ v n l,X1j 3 (.row v n (X0M fvC 29 fv0 l))=True:=fun v n l=>eq_true fun j _=>X06 (X0c (X10 _) _)
 refine Fq Tryz.call109 Tryz.func109 15 [] [] [] (by simp [X0o]) (X00 1000 ?_)
 simp (disch:=omega) only [AS.start,pvA,pvC,↓X0v,wD,↓X03,wA,seval,wE]
 refine X0d (fun i:Nat=>X3h a b (X5e a b e i) (I i) .any .any .any .any .any []) (fun i=>i≤a.rim.length∧(X5e a b e i).length≤2000*i) (fun i=>a.rim.length - i) 0 ⟨by omega,by simp [X5e]⟩
  (Sub.trans (X0W 5 29 (X0M fvC 29 fv0 []) rfl) (X09 rfl (by simp [AS.put,X0p,X3h,X5e,I]) (by simp [AS.put,X0q,X3h]) (by simp [AS.put,X3h,pvC,X0e,X0j,X04,X5e,I]))) ?_
 rintro i ⟨hi,hil⟩ next
 by_cases hi2:i<a.rim.length
 rotate_left
 ·obtain rfl:i=a.rim.length:=by omega
  refine X00 1000 ?_
  simp (disch:=omega) only [X3h,pvC,X0e,List.cons_append,List.nil_append,↓X0v,wD,↓X03,wA,seval,wE]
  exact XlG _ rfl rfl rfl
 refine X00 1000 ?_
 simp (disch:=omega) only [X3h,pvC,X0e,List.cons_append,List.nil_append,↓X0v,wD,↓X03,wA,seval,wE]
 refine X0d (fun j:Nat=>X3h a b (X5e a b e i ++ X5T a b e i j) (I i) (I j) .any .any .any .any []) (fun j=>j≤b.rim.length∧(X5e a b e i ++ X5T a b e i j).length≤2000*i+150*j) (fun j=>b.rim.length - j) 0 ⟨by omega,by simpa [X5T] using hil⟩
  (X09 rfl (by simp [X0p,X3h,X5T,I]) (by simp [X0q,X3h]) (by simp [X3h,pvC,X0e,X0j,X04,X5T,I])) ?_
 rintro j ⟨hj,hjl⟩ nextj
 by_cases hj2:j<b.rim.length
 rotate_left
 ·obtain rfl:j=b.rim.length:=by omega
  refine X00 1000 ?_
  simp (disch:=omega) only [X3h,pvC,X0e,List.cons_append,List.nil_append,↓X0v,wD,↓X03,wA,seval,wE]
  exact next (i+1) _ ⟨by omega,by show (X5e a b e i ++ X5T a b e i b.rim.length).length≤_; omega⟩ (by omega) (X09 rfl (by simp [X0p,X3h,X5e,I]) (by simp [X0q,X3h]) (by simp [X3h,pvC,X0e,X0j,X04,X5e,I]))
 generalize hA:X5e a b e i ++ X5T a b e i j=A at *
 refine X00 1000 ?_
 simp (disch:=omega) only [X3h,pvC,X0e,List.cons_append,List.nil_append,↓X0v,wD,↓X03,wA,seval,wE]
 refine X0d (fun k:Nat=>X3h a b (A ++ X68 a b e i j k) (I i) (I j) (I (k+1:Nat)) .any .any .any []) (fun k=>k≤min a.rim.length b.rim.length - 1∧(A ++ X68 a b e i j k).length≤2000*i+150*j+12*k) (fun k=>min a.rim.length b.rim.length - k) 0 ⟨by omega,by simpa [X68] using hjl⟩
  (X09 rfl (by simp [X0p,X3h,X68,I]) (by simp [X0q,X3h]) (by simp [X3h,pvC,X0e,X0j,X04,X68,I])) ?_
 rintro k ⟨hk,hkl⟩ nextk
 by_cases hk2:k+1<a.rim.length∧k+1<b.rim.length
 rotate_left
 ·have hke:k=min a.rim.length b.rim.length - 1:=by omega
  by_cases hn:k+1<a.rim.length
  all_goals
   refine X00 1000 ?_
   simp (disch:=omega) only [X3h,pvC,X0e,List.cons_append,List.nil_append,↓X0v,wD,↓X03,wA,seval,wE]
   subst hke
   exact nextj (j+1) _ ⟨by omega,by
    have e1:X5e a b e i ++ X5T a b e i (j+1)=A ++ X68 a b e i j (min a.rim.length b.rim.length - 1):=by rw [← hA,List.append_assoc]; rfl
    rw [e1]; omega⟩ (by omega) (X09 rfl (by simp [X0p,X3h,X5T,hA.symm,I]) (by simp [X0q,X3h]) (by simp [X3h,pvC,X0e,X0j,X04,X5T,hA.symm,I]))
 have hlk:X68 a b e i j (k+1)=X68 a b e i j k ++ XfC a b e i j (k+1):=rfl
 have nx:=nextk (k+1)
 rw [hlk,← List.append_assoc] at nx
 generalize A ++ X68 a b e i j k=A2 at *
 have hst:∀ t lo hi,XaY a.rim.length b.rim.length ⟨0,1,i,j,(k+1:Nat),t,lo,hi⟩:=fun t lo hi=>⟨⟨by show (0:Int)≤i; omega,by show (i:Int)<_; omega⟩,⟨by show (0:Int)≤j; omega,by show (j:Int)<_; omega⟩,by show (1:Int)≤((k+1:Nat):Int); omega,by show ((k+1:Nat):Int)<_; omega,by show ((k+1:Nat):Int)<_; omega⟩
 have cp:=X8S a b (X5C i j (k+1) v0) (hst _ _ _) ha.even hb.even
 have ct:=Xqz a b (X5C i j (k+1) v0) (hst _ _ _) ha.even hb.even
 change Fn _ _ _ (X0A (X2L a b (X5C i j (k+1) v0) (k+1))) at ct
 have hsm:=X6h a b (X5C i j (k+1) v0) ha.even.near hb.even.near (k+1)
 have hlen:=X6B a b (X5C i j (k+1) v0) (k+1)
 have hfk:XfC a b e i j (k+1)=if XhD a b (X5C i j (k+1) v0) then X6C a b e i j (k+1) (X2L a b (X5C i j (k+1) v0) (k+1)) else []:=rfl
 have hfl:=XdZ a b e i j (k+1) (X2L a b (X5C i j (k+1) v0) (k+1))
 rw [hfk] at nx
 generalize X2L a b (X5C i j (k+1) v0) (k+1)=L at *
 have wf:=Xnj i j (k+1)
 refine X00 1000 ?_
 simp (disch:=omega) only [X3h,pvC,X0e,List.cons_append,List.nil_append,↓X0v,wD,↓X03,wA,seval,wE]
 refine X17 cp ⟨Weak.rfl' _,Weak.rfl' _,X0I wf,trivial⟩ ?_
 by_cases hp:XhD a b (X5C i j (k+1) v0)
 rotate_left
 ·rw [if_neg hp,List.append_nil] at nx
  simp (disch:=omega) only [decide_eq_false hp,↓X0v,wD,↓X03,wA,seval,wE]
  exact nx _ ⟨by omega,by omega⟩ (by omega) (X0t (m:=3) (Nat.zero_le _) rfl (by simp [X0p,X3h,I]) (by simp [X0q,X3h]) (by simp [X3h,pvC,X0e,X0j,X04,I]) (by simp [X3h,X0L]) (by simp [X3h,X0L]) (by simp [X3h,ba,bb,bd]))
 rw [if_pos hp] at nx
 simp (disch:=omega) only [decide_eq_true hp,↓X0v,wD,↓X03,wA,seval,wE]
 refine X17 ct ⟨Weak.rfl' _,Weak.rfl' _,X0I wf,trivial⟩ ?_
 simp (disch:=omega) only [↓X0v,wD,↓X03,wA,seval,wE]
 refine X0d (fun w:Nat×V2×V2×V2=>X3h a b (A2 ++ X6C a b e i j (k+1) (L.take w.1)) (I i) (I j) (I (k+1:Nat)) (.ref 3 0 0) (X0A L) (I w.1) [.row 0 29 (ofL (fvC ⟨0,1,i,j,(k+1:Nat),w.2.1,w.2.2.1,w.2.2.2⟩))]) (fun w=>w.1≤L.length∧(A2 ++ X6C a b e i j (k+1) (L.take w.1)).length≤2000*i+150*j+12*k+w.1) (fun w=>L.length - w.1) (0,v0,v0,v0) ⟨by simp,by simpa [X6C] using hkl⟩
  (Sub.trans (XhX 3 (fvC (X5C i j (k+1) v0)) rfl rfl wf) (X09 rfl (by simp [X0p,X3h,X6C,I]) (by simp [X0q,X3h]) (by simp [X3h,pvC,X0e,X0j,X04,X6C,X5C,I]))) ?_
 rintro ⟨t,T,lo,hi'⟩ ⟨ht,htl⟩ nextt
 replace ht:t≤L.length:=ht
 replace htl:(A2 ++ X6C a b e i j (k+1) (L.take t)).length≤2000*i+150*j+12*k+t:=htl
 have bL:Bel 3 (X0A L)=True:=eq_true (X06 (X0b L))
 by_cases ht2:t<L.length
 rotate_left
 ·obtain rfl:t=L.length:=by omega
  rw [List.take_length] at *
  refine X00 1000 ?_
  simp (disch:=omega) only [X3h,X05,pvC,X0e,List.cons_append,List.nil_append,↓X0v,wD,↓X03,wA,seval,wE]
  exact nx _ ⟨by omega,by omega⟩ (by omega) (X0t (m:=3) (Nat.zero_le _) rfl (by simp [X0p,X3h,I]) (by simp [X0q,X3h]) (by simp [X3h,pvC,X0e,X0j,X04,I]) (by simp [X3h,X0L]) (by simp [X3h,X0L]) (by simp [X3h,ba,bb,bd]))
 have hx:=hsm (L.getD t v0) (X2u ht2)
 have htk:=Xj6 a b e i j (k+1) L t ht2
 have v1:=vF L t
 generalize L.getD t v0=x at *
 have ca:=Xah a b ⟨0,1,i,j,(k+1:Nat),x,lo,hi'⟩ ha.even hb.even (by show vb x≤1000; omega) ha.tol hb.tol (by omega) (by omega)
 rw [hT] at ca
 have hag:X0J a.rim b.rim ⟨0,1,i,j,(k+1:Nat),x,lo,hi'⟩ e=X0J a.rim b.rim (X5C i j (k+1) x) e:=rfl
 rw [hag] at ca
 have hfine:(X1f a b (X5C i j (k+1) x) e).fine:=by
  obtain ⟨h1,h2⟩:=Xca a b (X5C i j (k+1) x) ha.even.near hb.even.near e (by show vb x≤60; omega)
  exact ⟨by show vb x≤60; omega,by show vb (X0J a.rim b.rim (X5C i j (k+1) x) e).1≤300; omega,by show vb (X0J a.rim b.rim (X5C i j (k+1) x) e).2.1≤300; omega⟩
 have cc:=Xag a b _ ha hb hfine
 rw [hT] at cc
 have hok:XfB a b e i j (k+1) x=((X0J a.rim b.rim (X5C i j (k+1) x) e).2.2 && X4m a b (X1f a b (X5C i j (k+1) x) e) e):=rfl
 have hsf:X1f a b (X5C i j (k+1) x) e=⟨0,1,i,j,(k+1:Nat),x,(X0J a.rim b.rim (X5C i j (k+1) x) e).1,(X0J a.rim b.rim (X5C i j (k+1) x) e).2.1⟩:=rfl
 rw [hok,hsf] at htk
 rw [hsf] at cc
 generalize X0J a.rim b.rim (X5C i j (k+1) x) e=G at *
 obtain ⟨g1,g2,ok⟩:=G
 simp only at htk cc ca
 have nx2:=nextt (t+1,x,g1,g2)
 rw [htk,← List.append_assoc] at nx2
 generalize A2 ++ X6C a b e i j (k+1) (L.take t)=D at *
 generalize X4m a b ⟨0,1,i,j,(k+1:Nat),x,g1,g2⟩ e=q at *
 have bq:∀ f:FV,X1j 4 (.row 0 29 (ofL (fvC f)))=True:=fun f=>eq_true (X0B (X10 f))
 refine X00 1000 ?_
 simp (disch:=omega) only [X3h,X05,fvC,v1,pvC,X0e,List.cons_append,List.nil_append,↓X0v,wD,↓X03,wA,seval,wE]
 refine X01 ca rfl ?_
 have ba4:X1j 4 (.row 0 25 (ofL (pvC a)))=True:=eq_true (X0B (X0w a))
 have bb4:X1j 4 (.row 0 25 (ofL (pvC b)))=True:=eq_true (X0B (X0w b))
 have bd4:∀ v n l,X1j 4 (.row v n (X0M fvC 29 fv0 l))=True:=fun v n l=>eq_true fun j _=>X06 (X0c (X10 _) _)
 have bL4:Bel 4 (X0A L)=True:=eq_true (X06 (X0b L))
 cases ok with
 | false =>
  simp only [Bool.false_and,Bool.false_eq_true,if_false,List.append_nil] at nx2
  simp (disch:=omega) only [X05,↓X0v,wD,↓X03,wA,seval,wE]
  exact nx2 _ ⟨by show t+1≤L.length; omega,by show D.length≤2000*i+150*j+12*k+(t+1); omega⟩ (by show L.length - (t+1)<L.length - t; omega) (X0t (m:=4) (Nat.zero_le _) rfl (by simp [X0p,X3h,X05,I]) (by simp [X0q,X3h]) (by simp [X3h,pvC,fvC,X0e,X0j,X04,I,sg]) (by simp [X3h,X0L,bL4]) (by simp [X3h,X0L]) (by simp [X3h,ba4,bb4,bd4,bq]))
 | true =>
  simp (disch:=omega) only [X05,↓X0v,wD,↓X03,wA,seval,wE]
  refine X01 cc rfl ?_
  cases q with
  | false =>
   simp only [Bool.and_false,Bool.false_eq_true,if_false,List.append_nil] at nx2
   simp (disch:=omega) only [X05,↓X0v,wD,↓X03,wA,seval,wE]
   exact nx2 _ ⟨by show t+1≤L.length; omega,by show D.length≤2000*i+150*j+12*k+(t+1); omega⟩ (by show L.length - (t+1)<L.length - t; omega) (X0t (m:=4) (Nat.zero_le _) rfl (by simp [X0p,X3h,X05,I]) (by simp [X0q,X3h]) (by simp [X3h,pvC,fvC,X0e,X0j,X04,I,sg]) (by simp [X3h,X0L,bL4]) (by simp [X3h,X0L]) (by simp [X3h,ba4,bb4,bd4,bq]))
  | true =>
   simp only [Bool.and_true,if_true] at nx2
   have hap:=X0E fvC 29 fv0 D ⟨0,1,i,j,(k+1:Nat),x,g1,g2⟩ (by omega)
   have hDl:(D ++ [(⟨0,1,i,j,(k+1:Nat),x,g1,g2⟩:FV)]).length=D.length+1:=by simp
   simp (disch:=omega) only [X05,↓X0v,wD,↓X03,wA,seval,wE]
   refine ⟨XlF ⟨0,1,i,j,(k+1:Nat),x,g1,g2⟩,?_⟩
   exact nx2 _ ⟨by show t+1≤L.length; omega,by show (D ++ [(⟨0,1,i,j,(k+1:Nat),x,g1,g2⟩:FV)]).length≤2000*i+150*j+12*k+(t+1); omega⟩ (by show L.length - (t+1)<L.length - t; omega) (X0t (m:=4) (Nat.zero_le _) rfl (by simp [X0p,X3h,X05,I]) (by simp [X0q,X3h]) (by simp only [X3h,hDl,← hap]; rfl) (by simp [X3h,X0L,bL4]) (by simp [X3h,X0L]) (by simp [X3h,ba4,bb4,bd4,bq]))
def Xj5 (a b:PV) (e:Rat) (f:FV) (i j k:Nat) (t:V2):Prop:=k≠0∧k<a.rim.length∧k<b.rim.length∧XhD a b (X5C i j k v0)∧t∈X2L a b (X5C i j k v0) k∧XfB a b e i j k t=true∧f=X1f a b (X5C i j k t) e
theorem XlD (a b:PV) (e:Rat) (i j k:Nat) (L:List V2) (f:FV):f∈X6C a b e i j k L↔∃ t,t∈L∧XfB a b e i j k t=true∧f=X1f a b (X5C i j k t) e:=by
 unfold X6C
 rw [List.mem_map]
 constructor
 ·rintro ⟨t,h,rfl⟩
  rw [List.mem_filter] at h
  exact ⟨t,h.1,h.2,rfl⟩
 ·rintro ⟨t,h1,h2,rfl⟩
  exact ⟨t,List.mem_filter.2 ⟨h1,h2⟩,rfl⟩
theorem Xea (a b:PV) (e:Rat) (i j:Nat) (f:FV):∀ n,n<a.rim.length→n<b.rim.length→(f∈X68 a b e i j n↔∃ k t,k≤n∧Xj5 a b e f i j k t)
 | 0,_,_=>by simp [X68,Xj5]
 | n+1,h1,h2=>by
  have ih:=Xea a b e i j f n (by omega) (by omega)
  unfold X68
  rw [List.mem_append,ih]
  have hk:f∈XfC a b e i j (n+1)↔∃ t,Xj5 a b e f i j (n+1) t:=by
   unfold XfC
   by_cases hp:XhD a b (X5C i j (n+1) v0)
   ·rw [if_pos hp,XlD]
    exact ⟨fun ⟨t,q1,q2,q3⟩=>⟨t,by omega,h1,h2,hp,q1,q2,q3⟩,fun ⟨t,_,_,_,_,q1,q2,q3⟩=>⟨t,q1,q2,q3⟩⟩
   ·rw [if_neg hp]
    exact ⟨fun h=>absurd h List.not_mem_nil,fun ⟨t,_,_,_,q,_⟩=>absurd q hp⟩
  rw [hk]
  constructor
  ·rintro (⟨k,t,q1,q2⟩ | ⟨t,q⟩)
   ·exact ⟨k,t,by omega,q2⟩
   ·exact ⟨n+1,t,Nat.le_refl _,q⟩
  ·rintro ⟨k,t,q1,q2⟩
   by_cases hk:k=n+1
   ·subst hk; exact .inr ⟨t,q2⟩
   ·exact .inl ⟨k,t,by omega,q2⟩
theorem Xe9 (a b:PV) (e:Rat) (i:Nat) (f:FV) (ha:0<a.rim.length) (hb:0<b.rim.length):∀ n,f∈X5T a b e i n↔∃ j k t,j<n∧Xj5 a b e f i j k t
 | 0=>by simp [X5T]
 | n+1=>by
  have ih:=Xe9 a b e i f ha hb n
  unfold X5T
  rw [List.mem_append,ih,Xea a b e i n f _ (by omega) (by omega)]
  constructor
  ·rintro (⟨j,k,t,q1,q2⟩ | ⟨k,t,q1,q2⟩)
   ·exact ⟨j,k,t,by omega,q2⟩
   ·exact ⟨n,k,t,by omega,q2⟩
  ·rintro ⟨j,k,t,q1,q2⟩
   by_cases hj:j=n
   ·subst hj; exact .inr ⟨k,t,by have:=q2.2.1; have:=q2.2.2.1; omega,q2⟩
   ·exact .inl ⟨j,k,t,by omega,q2⟩
theorem Xe8 (a b:PV) (e:Rat) (f:FV) (ha:0<a.rim.length) (hb:0<b.rim.length):∀ n,f∈X5e a b e n↔∃ i j k t,i<n∧j<b.rim.length∧Xj5 a b e f i j k t
 | 0=>by simp [X5e]
 | n+1=>by
  have ih:=Xe8 a b e f ha hb n
  unfold X5e
  rw [List.mem_append,ih,Xe9 a b e n f ha hb]
  constructor
  ·rintro (⟨i,j,k,t,q1,q2⟩ | ⟨j,k,t,q1,q2⟩)
   ·exact ⟨i,j,k,t,by omega,q2⟩
   ·exact ⟨n,j,k,t,by omega,q1,q2⟩
  ·rintro ⟨i,j,k,t,q1,q2,q3⟩
   by_cases hi:i=n
   ·subst hi; exact .inr ⟨j,k,t,q2,q3⟩
   ·exact .inl ⟨i,j,k,t,by omega,q2,q3⟩
theorem XgK (a b:PV) (e:Rat) (f:FV) (ha:0<a.rim.length) (hb:0<b.rim.length):f∈Xo3 a b e↔∃ i j k t,i<a.rim.length∧j<b.rim.length∧Xj5 a b e f i j k t:=Xe8 a b e f ha hb _
def inB (n m:Nat) (W:List FV) (f:FV):Bool:=W.any fun g=>decide (Xmj n m f g)
def Xcx (a b:PV) (e:Rat):List FV:=(Xo3 a b e).filter fun f=>!inB a.rim.length b.rim.length (Xo3 a b e) f
theorem fF (l:List FV) (i:Nat):∀ j,j<29→X0M fvC 29 fv0 l (i*29+j)=(fvC (l.getD i fv0)).getD j .any:=fun j hj=>X3z _ _ _ _ _ _ hj
theorem fF0 (l:List FV) (i:Nat):X0M fvC 29 fv0 l (i*29)=(fvC (l.getD i fv0)).getD 0 .any:=X3I _ _ _ _ _ (by omega)
theorem Xpr (n m:Nat) (W:List FV) (f:FV) (j:Nat) (h:j<W.length):inB n m (W.take (j+1)) f=(inB n m (W.take j) f || decide (Xmj n m f (W.getD j fv0))):=by
 unfold inB
 rw [X1b W fv0 j h,List.any_append]; simp
theorem XlB (n m:Nat) (W:List FV) (i:Nat) (h:i<W.length):(W.take (i+1)).filter (fun f=>!inB n m W f)=(W.take i).filter (fun f=>!inB n m W f) ++ (if inB n m W (W.getD i fv0)=true then [] else [W.getD i fv0]):=by
 rw [X1b W fv0 i h,List.filter_append]
 congr 1
 cases hq:inB n m W (W.getD i fv0) with
 | true=>rw [if_pos rfl,List.filter_cons_of_neg (by rw [hq]; decide)]; rfl
 | false=>rw [if_neg (by decide),List.filter_cons_of_pos (by rw [hq]; rfl)]; rfl
theorem Xcc (a b:PV) (e:Rat) (ha:a.rim.length≤12) (hb:b.rim.length≤12) (h1:0<a.rim.length) (h2:0<b.rim.length):(Xo3 a b e).length≤24000:=by
 have hk:∀ i j n,n≤12→(X68 a b e i j n).length≤12*n:=fun i j n=>by
  induction n with
  | zero=>intro _; simp [X68]
  | succ n ih =>
   intro hn
   have h3:=ih (by omega)
   unfold X68
   rw [List.length_append]
   have:(XfC a b e i j (n+1)).length≤n+1:=by
    unfold XfC
    split
    ·exact Nat.le_trans (XdZ ..) (X6B ..)
    ·simp
   omega
 have hj:∀ i n,(X5T a b e i n).length≤144*n:=fun i n=>by
  induction n with
  | zero=>simp [X5T]
  | succ n ih =>
   unfold X5T
   rw [List.length_append]
   have:=hk i n (min a.rim.length b.rim.length - 1) (by omega)
   omega
 have hi:∀ n,(X5e a b e n).length≤1728*n:=fun n=>by
  induction n with
  | zero=>simp [X5e]
  | succ n ih =>
   unfold X5e
   rw [List.length_append]
   have:=hj n b.rim.length
   omega
 have:=hi a.rim.length
 unfold Xo3; omega
theorem Xcy {a b:PV} {ta tb:Rat} (ha:GP a ta) (hb:GP b tb) {f:FV} (h:f∈Xo3 a b (ta+tb)):f.near∧vb f.turn≤26∧vb f.lo≤200∧vb f.hi≤200:=by
 have la:=(X2F _ ha.poly).1
 have lb:=(X2F _ hb.poly).1
 have ea:(X0Q a.rim).length=a.rim.length:=by simp [X0Q]
 have eb:(X0Q b.rim).length=b.rim.length:=by simp [X0Q]
 rw [ea] at la
 rw [eb] at lb
 have qa:=ha.qt; have q2:=hb.qt
 have qe:=X2n ta tb
 obtain ⟨i,j,k,t,h1,h2,_,h3,h4,_,h5,_,rfl⟩:=(XgK a b (ta+tb) f (by omega) (by omega)).1 h
 have ht:=X6h a b (X5C i j k v0) ha.even.near hb.even.near k t h5
 obtain ⟨m1,m2⟩:=Xca a b (X5C i j k t) ha.even.near hb.even.near (ta+tb) (by show vb t≤60; omega)
 exact ⟨⟨⟨by show (-1000000:Int)≤(i:Int); omega,by show (i:Int)≤1000000; omega⟩,⟨by show (-1000000:Int)≤(j:Int); omega,by show (j:Int)≤1000000; omega⟩,by show (-1000000:Int)≤(k:Int); omega,by show (k:Int)≤1000000; omega⟩,ht,by show vb (X0J a.rim b.rim (X5C i j k t) (ta+tb)).1≤200; omega,by show vb (X0J a.rim b.rim (X5C i j k t) (ta+tb)).2.1≤200; omega⟩
theorem Xbz (a b:PV) {ta tb:Rat} (ha:GP a ta) (hb:GP b tb):Fn Tryz.prog 30 [pvA a,pvA b] (fvs (Xcx a b (ta+tb))):=by
 have la:=(X2F _ ha.poly).1
 have lb:=(X2F _ hb.poly).1
 have ea:(X0Q a.rim).length=a.rim.length:=by simp [X0Q]
 have eb:(X0Q b.rim).length=b.rim.length:=by simp [X0Q]
 rw [ea] at la
 rw [eb] at lb
 have c1:=Xjq a b ha hb
 have hfin:=fun f=>@Xcy a b ta tb ha hb f
 have hl:=Xcc a b (ta+tb) la.2 lb.2 (by omega) (by omega)
 unfold Xcx
 generalize Xo3 a b (ta+tb)=W at *
 have ba:X1j 3 (.con 0 25 (ofL (pvC a)))=True:=eq_true (fun j _=>X06 (X0c (X0w a) j))
 have bb:X1j 3 (.con 0 25 (ofL (pvC b)))=True:=eq_true (fun j _=>X06 (X0c (X0w b) j))
 have bd:∀ v n l,X1j 3 (.row v n (X0M fvC 29 fv0 l))=True:=fun v n l=>eq_true fun j _=>X06 (X0c (X10 _) _)
 refine Fq Tryz.call30 Tryz.func30 10 [] [10,110000002,110000003] [] (by simp [X0o]) (X00 1000 ?_)
 simp (disch:=omega) only [AS.start,pvA,pvC,↓X0v,wD,↓X03,wA,seval,wE]
 refine X01 c1 rfl ?_
 simp (disch:=omega) only [X1p,↓X0v,wD,↓X03,wA,seval,wE]
 refine X0d (fun i:Nat=>⟨10,[],[.any,.any,.ref 0 0 0,.ref 1 0 0,.any,fvs W,.osl 2 ((W.take i).filter (fun f=>!inB a.rim.length b.rim.length W f)).length 29 0 ((W.take i).filter (fun f=>!inB a.rim.length b.rim.length W f)).length,I i,.any,.any],[],[.con 0 25 (ofL (pvC a)),.con 0 25 (ofL (pvC b)),.row ((W.take i).filter (fun f=>!inB a.rim.length b.rim.length W f)).length (((W.take i).filter (fun f=>!inB a.rim.length b.rim.length W f)).length*29) (X0M fvC 29 fv0 ((W.take i).filter (fun f=>!inB a.rim.length b.rim.length W f)))]⟩) (fun i=>i≤W.length∧((W.take i).filter (fun f=>!inB a.rim.length b.rim.length W f)).length≤i) (fun i=>W.length - i) 0 ⟨by omega,by simp⟩
  (Sub.trans (X1a 0 rfl) (Sub.trans (X1a 1 rfl) (Sub.trans (X0W 6 29 (X0M fvC 29 fv0 []) rfl) (X09 rfl (by simp [AS.put,X0p,X1p,I]) (by simp [AS.put,X0q]) (by simp [AS.put,pvC,X0e,X0j,X04,I]))))) ?_
 rintro i ⟨hi,hil⟩ next
 by_cases hi2:i<W.length
 rotate_left
 ·obtain rfl:i=W.length:=by omega
  rw [List.take_length]
  refine X00 1000 ?_
  simp (disch:=omega) only [X1p,pvC,X0e,↓X0v,wD,↓X03,wA,seval,wE]
  exact XlG _ rfl rfl rfl
 have nx:=next (i+1)
 rw [XlB _ _ W i hi2] at nx
 generalize (W.take i).filter (fun f=>!inB a.rim.length b.rim.length W f)=D at *
 obtain ⟨n1,n2,n3,n4⟩:=hfin _ (X2u (d:=fv0) hi2)
 have v1:=fF W i
 have v2:=fF0 W i
 have hBe:inB a.rim.length b.rim.length W (W.getD i fv0)=inB a.rim.length b.rim.length (W.take W.length) (W.getD i fv0):=by rw [List.take_length]
 rw [hBe] at nx
 generalize W.getD i fv0=f at *
 refine X00 1000 ?_
 simp (disch:=omega) only [X1p,pvC,X0e,↓X0v,wD,↓X03,wA,seval,wE]
 refine X0d (fun j:Nat=>⟨10,[],[.any,.any,.ref 0 0 0,.ref 1 0 0,.any,fvs W,.osl 2 D.length 29 0 D.length,I i,.bool (inB a.rim.length b.rim.length (W.take j) f),I j],[],[.con 0 25 (ofL (pvC a)),.con 0 25 (ofL (pvC b)),.row D.length (D.length*29) (X0M fvC 29 fv0 D)]⟩) (fun j=>j≤W.length) (fun j=>W.length - j) 0 (by omega)
  (X09 rfl (by simp [X0p,X1p,inB,I]) (by simp [X0q]) (by simp [pvC,X0e,X0j,X04,I])) ?_
 intro j hj nextj
 by_cases hj2:j<W.length
 rotate_left
 ·obtain rfl:j=W.length:=by omega
  generalize inB a.rim.length b.rim.length (W.take W.length) f=q at *
  refine X00 1000 ?_
  cases q with
  | true =>
   rw [if_pos rfl,List.append_nil] at nx
   simp (disch:=omega) only [X1p,pvC,X0e,Bool.not_true,↓X0v,wD,↓X03,wA,seval,wE]
   exact nx _ ⟨by omega,by omega⟩ (by omega) (X09 rfl (by simp [X0p,X1p,I]) (by simp [X0q]) (by simp [pvC,X0e,X0j,X04,I]))
  | false =>
   rw [if_neg (by decide)] at nx
   have hap:=X0E fvC 29 fv0 D f (by omega)
   have hDl:(D ++ [f]).length=D.length+1:=by simp
   simp (disch:=omega) only [X1p,v1,v2,fvC,pvC,X0e,Bool.not_false,↓X0v,wD,↓X03,wA,seval,wE]
   exact ⟨XlF f,nx _ ⟨by omega,by omega⟩ (by omega) (X09 rfl (by simp [X0p,X1p,hDl,I]) (by simp [X0q]) (by rw [hDl,← hap]; rfl))⟩
 obtain ⟨m1,m2,m3,m4⟩:=hfin _ (X2u (d:=fv0) hj2)
 have cp:=XtY a b f (W.getD j fv0) ⟨by omega,by omega⟩ ⟨by omega,by omega⟩ n1 m1 (by unfold vm; omega) (by unfold vm; omega)
 have w1:=fF W j
 have w2:=fF0 W j
 have nx2:=nextj (j+1)
 rw [Xpr _ _ W f j hj2] at nx2
 generalize W.getD j fv0=g at *
 generalize inB a.rim.length b.rim.length (W.take j) f=q at *
 refine X00 1000 ?_
 cases q with
 | true =>
  simp (disch:=omega) only [X1p,pvC,X0e,↓X0v,wD,↓X03,wA,seval,wE]
  exact nx2 _ (by omega) (by omega) (X09 rfl (by simp [X0p,X1p,I]) (by simp [X0q]) (by simp [pvC,X0e,X0j,X04,I]))
 | false =>
  simp (disch:=omega) only [X1p,v1,v2,w1,w2,fvC,pvC,X0e,↓X0v,wD,↓X03,wA,seval,wE]
  refine X01 cp rfl ?_
  simp (disch:=omega) only [X1p,pvC,X0e,↓X0v,wD,↓X03,wA,seval,wE]
  exact nx2 _ (by omega) (by omega) (X09 rfl (by simp [X0p,X1p,I]) (by simp [X0q]) (by simp [pvC,X0e,X0j,X04,I]))
def X4A:Nat→Int×Int→Int×Int
 | 0,p=>p
 | i+1,p=>(-(X4A i p).2,(X4A i p).1)
theorem X9o (p:Int×Int) (c:Int) (h1:-c≤p.1∧p.1≤c) (h2:-c≤p.2∧p.2≤c):∀ i,(-c≤(X4A i p).1∧(X4A i p).1≤c)∧(-c≤(X4A i p).2∧(X4A i p).2≤c)
 | 0=>⟨h1,h2⟩
 | i+1=>by
  have ih:=X9o p c h1 h2 i
  unfold X4A
  simp only
  omega
theorem Xn6 (p:Int×Int) (q:Nat) (h1:-1000≤p.1∧p.1≤1000) (h2:-1000≤p.2∧p.2≤1000) (hq:q≤4):Fn Tryz.prog 101 [.agg (ptC p),I q] (.agg (ptC (X4A q p))):=by
 obtain ⟨R,hR⟩:∃ R,R=AV.agg (ptC (X4A q p)):=⟨_,rfl⟩
 have sR:Settled R:=hR▸X0V (X2C _)
 rw [← hR]
 refine Fq Tryz.call101 Tryz.func101 6 [] [] [] (by simp [X08,X0V (X2C p)]) (X00 1000 ?_)
 simp (disch:=omega) only [AS.start,ptC,↓X0v,wD,↓X03,wA,seval,wE]
 refine X0d (fun i:Nat=>⟨6,[],[.any,I q,.ref 0 0 0,.any,.ref 1 0 0,I i],[],[.row 0 2 (ofL (ptC (X4A i p))),.row 0 2 (ofL [I 0,I 0])]⟩) (fun i=>i≤q) (fun i=>q - i) 0 (by omega)
  (X09 rfl (by simp [X0p,I]) (by simp [X0q]) rfl) ?_
 intro i hi next
 have hb:=X9o p 1000 h1 h2 i
 by_cases hi2:i<q
 ·refine X00 1000 ?_
  simp (disch:=omega) only [ptC,↓X0v,wD,↓X03,wA,seval,wE]
  exact next (i+1) _ (by omega) (by omega) (X09 rfl (by simp [X0p,I]) (by simp [X0q]) (by simp [ptC,X4A,I]))
 ·obtain rfl:i=q:=by omega
  refine X00 1000 ?_
  simp (disch:=omega) only [ptC,↓X0v,wD,↓X03,wA,seval,wE]
  exact X6f rfl Xrk rfl rfl rfl sR (hR.trans rfl)
theorem XbR (l:List (Int×Int)) (hn:X2e l) (hl:l.length<1000000):Fn Tryz.prog 100 [pts l] (.bool (decide (X0F (X0Q l)))):=by
 have hrl:(X0Q l).length=l.length:=by simp [X0Q]
 have cv:=X8P (X0Q l) (fun i=>Nat.le_trans (X7M hn i) (by omega)) (by omega)
 refine Fq Tryz.call100 Tryz.func100 5 [] [5] [] (by simp [X1c]) (X00 1000 ?_)
 simp (disch:=omega) only [AS.start,X0e,↓X0v,wD,↓X03,wA,seval,wE]
 refine X0d (fun k:Nat=>⟨5,[],[pts l,.any,.any,.osl 0 k 8 0 k,I k],[],[.row k (k*8) (X0M vC 8 v0 (X0Q (l.take k)))]⟩) (fun k=>k≤l.length) (fun k=>l.length - k) 0 (by omega)
  (Sub.trans (X0W 3 8 (X0M vC 8 v0 []) rfl) (X09 rfl (by simp [AS.put,X0p,X0e,I]) (by simp [AS.put,X0q]) (by simp [AS.put,X0Q]))) ?_
 intro k hk next
 by_cases hk2:k<l.length
 rotate_left
 ·obtain rfl:k=l.length:=by omega
  rw [List.take_length]
  refine X00 1000 ?_
  simp (disch:=omega) only [X0e,↓X0v,wD,↓X03,wA,seval,wE]
  refine X2l cv rfl ⟨?_,trivial⟩ (X5a _) ?_
  ·show X4B _ (.osl 0 l.length 8 0 l.length) (X0A (X0Q l))
   rw [X05,hrl]
   refine X1e (.inl rfl) (by omega) (fun h=>by rw [h]) fun j hj=>?_
   rw [Nat.zero_add]
   exact (X0c (l:=vC ((X0Q l).getD (j / 8) v0)) (by simp [vC,X07,X02]) _).sees _
  simp (disch:=omega) only [↓X0v,wD,↓X03,wA,seval,wE]
  exact X0r rfl rfl (X02 _) rfl
 have hc:=X7y hn k
 have c1:=X3k (l.getD k (0,0)).1 (l.getD k (0,0)).2 ⟨by omega,by omega⟩ ⟨by omega,by omega⟩
 have p1:X0M ptC 2 (0,0) l (k*2)=I (l.getD k (0,0)).1:=X3I _ _ _ _ _ (by omega)
 have p2:X0M ptC 2 (0,0) l (k*2+1)=I (l.getD k (0,0)).2:=X3z _ _ _ _ _ _ (by omega)
 have hap:=X0E vC 8 v0 (X0Q (l.take k)) (ptV (l.getD k (0,0))) (by omega)
 have htk:X0Q (l.take k) ++ [ptV (l.getD k (0,0))]=X0Q (l.take (k+1)):=by unfold X0Q; rw [X1b l (0,0) k hk2,List.map_append]; rfl
 have hkl:(X0Q (l.take k)).length=k:=by simp [X0Q]; omega
 rw [htk,hkl] at hap
 have hpv:(⟨((l.getD k (0,0)).1:Rat),((l.getD k (0,0)).2:Rat)⟩:V2)=ptV (l.getD k (0,0)):=rfl
 rw [hpv] at c1
 refine X00 1000 ?_
 simp (disch:=omega) only [X0e,p1,p2,↓X0v,wD,↓X03,wA,seval,wE]
 refine X01 c1 rfl ?_
 simp (disch:=omega) only [↓X0v,wD,↓X03,wA,seval,wE]
 exact ⟨X42 _,next (k+1) _ (by omega) (by omega) (X09 rfl (by simp [X0p,X0e,I]) (by simp [X0q]) (by rw [← hap]; rfl))⟩
def XgA (l:List Int) (at' k:Nat):Bool:=decide (Ab.atF l (at'+2+k:Nat) 16=15)
def X9W (l:List Int) (at' k:Nat):Int:=if 11<Ab.atF l (at'+2+k:Nat) 16 then Ab.atF l (at'+2+k:Nat) 16 - 11 else 0
def X4U (rim:List (Int×Int)) (l:List Int) (at':Nat):PV:=⟨Ab.atF l at' 900,Ab.atF l at' 5,rim,(List.range rim.length).map (XgA l at'),(List.range rim.length).map (X9W l at'),
 RQ.of (Rat.divInt (Ab.atF l (at'+1:Nat) 3) 4),RQ.of (Rat.divInt 1 1),RQ.of (Rat.divInt (1+Ab.atF l at' 3) 1),RQ.of (Rat.divInt 100 1),RQ.of (Rat.divInt 1 2)⟩
theorem XhW {m:Nat} {s:AS} (id i:Nat) (b:AV) {ver n:Nat} {f:Nat→AV} (ho:s.h[id]?=some (.row ver n f)) (h:X4k s.h (f i) b):Sub m s { s with h:=s.h.set id (.row ver n (upd f i b)) } :=
 X4c id (upd f i b) ho fun j hj=>by
  unfold upd
  by_cases e:j=i
  ·rw [if_pos e,e]; exact h
  ·rw [if_neg e]; exact X1B _ _
def X1U:List AV:=[I 0,I 0,.sl 0 0 (fun _=>.any) true,.sl 0 0 (fun _=>.any) true,.sl 0 0 (fun _=>.any) true,.bool false,.sl 0 0 (fun _=>.any) true,.bool false,.sl 0 0 (fun _=>.any) true,.bool false,.sl 0 0 (fun _=>.any) true,.bool false,.sl 0 0 (fun _=>.any) true,
 .bool false,.sl 0 0 (fun _=>.any) true,.bool false,.sl 0 0 (fun _=>.any) true,.bool false,.sl 0 0 (fun _=>.any) true,.bool false,.sl 0 0 (fun _=>.any) true,.bool false,.sl 0 0 (fun _=>.any) true,.bool false,.sl 0 0 (fun _=>.any) true]
def XcJ (id home:Int) (rim:List (Int×Int)) (k:Nat) (t u h s r:Rat):List AV:=[I id,I home,pts rim,.osl 2 k 1 0 k,.osl 3 k 1 0 k] ++ (qC t ++ (qC u ++ (qC h ++ (qC s ++ qC r))))
theorem XcM {α:Type} (f:Nat→α) (k:Nat):(List.range (k+1)).map f=(List.range k).map f ++ [f k]:=by rw [List.range_succ,List.map_append]; rfl
theorem XlU (rim:List (Int×Int)) (l:List Int) (at':Nat) (hr:rim.length<1000) (hl:XaQ l) (ha:at'<1000):Fn Tryz.prog 102 [pts rim,X0f l,I at'] (pvA (X4U rim l at')):=by
 obtain ⟨V,hV⟩:∃ V,V=pvA (X4U rim l at'):=⟨_,rfl⟩
 rw [← hV]
 have c1:=X2q l at' 900 hl (by omega)
 have c2:=X2q l at' 5 hl (by omega)
 have c3:=X2q l (at'+1:Nat) 3 hl (by omega)
 have c4:=X2q l at' 3 hl (by omega)
 have b3:=X0N l (at'+1:Nat) 3 (by omega)
 have b4:=X0N l at' 3 (by omega)
 have q1:=X1M (Ab.atF l (at'+1:Nat) 3) 4 ⟨by omega,by omega⟩ ⟨by omega,by omega⟩
 have q2:=X1M 1 1 ⟨by omega,by omega⟩ ⟨by omega,by omega⟩
 have q3:=X1M (1+Ab.atF l at' 3) 1 ⟨by omega,by omega⟩ ⟨by omega,by omega⟩
 have q4:=X1M 100 1 ⟨by omega,by omega⟩ ⟨by omega,by omega⟩
 have q5:=X1M 1 2 ⟨by omega,by omega⟩ ⟨by omega,by omega⟩
 unfold X4U at hV
 generalize Rat.divInt (Ab.atF l (at'+1:Nat) 3) 4=t at *
 generalize Rat.divInt 1 1=u at *
 generalize Rat.divInt (1+Ab.atF l at' 3) 1=h at *
 generalize Rat.divInt 100 1=s at *
 generalize Rat.divInt 1 2=r at *
 generalize Ab.atF l at' 900=id at *
 generalize Ab.atF l at' 5=home at *
 rw [Int.natCast_add] at c3
 refine Fq Tryz.call102 Tryz.func102 11 [] [1] [] (by simp [X08,X1c,X07]) (X00 1000 ?_)
 simp (disch:=omega) only [AS.start,X0e,↓X0v,wD,↓X03,wA,seval,wE]
 refine X01 c1 rfl ?_
 simp (disch:=omega) only [↓X0v,wD,↓X03,wA,seval,wE]
 refine X01 c2 rfl ?_
 simp (disch:=omega) only [↓X0v,wD,↓X03,wA,seval,wE]
 refine X01 c3 rfl ?_
 simp (disch:=omega) only [↓X0v,wD,↓X03,wA,seval,wE]
 refine X01 q1 rfl ?_
 simp (disch:=omega) only [↓X0v,wD,↓X03,wA,seval,wE]
 refine X01 q2 rfl ?_
 simp (disch:=omega) only [↓X0v,wD,↓X03,wA,seval,wE]
 refine X01 c4 rfl ?_
 simp (disch:=omega) only [↓X0v,wD,↓X03,wA,seval,wE]
 refine X01 q3 rfl ?_
 simp (disch:=omega) only [↓X0v,wD,↓X03,wA,seval,wE]
 refine X01 q4 rfl ?_
 simp (disch:=omega) only [↓X0v,wD,↓X03,wA,seval,wE]
 refine X01 q5 rfl ?_
 simp (disch:=omega) only [↓X0v,wD,↓X03,wA,seval,wE]
 refine X0d (fun k:Nat=>⟨11,[],[pts rim,X0f l,I at',.any,.any,.any,.ref 0 0 0,.ref 1 0 0,I k,.any,.any],[],[.row 0 25 (ofL X1U),.row 0 25 (ofL (XcJ id home rim k t u h s r)),.row k k (slF AV.bool false ((List.range k).map (XgA l at'))),.row k k (slF I 0 ((List.range k).map (X9W l at')))]⟩) (fun k=>k≤rim.length) (fun k=>rim.length - k) 0 (by omega)
  (Sub.trans (Xdf (slF AV.bool false [])) (Sub.trans (Xdf (slF I 0 [])) (Sub.trans (XhW 1 3 (.osl 2 0 1 0 0) rfl (X4Q rfl)) (Sub.trans (XhW 1 4 (.osl 3 0 1 0 0) rfl (X4Q rfl)) (X09 rfl (by simp [X0p,X0e,X04,I]) (by simp [X0q]) (by simp [X1U,XcJ,qC,Xgt,X0e,X04,I,sg])))))) ?_
 intro k hk next
 by_cases hk2:k<rim.length
 rotate_left
 ·obtain rfl:k=rim.length:=by omega
  refine X00 1000 ?_
  simp (disch:=omega) only [X1U,XcJ,qC,X0e,X04,↓X0v,wD,↓X03,wA,seval,wE]
  subst hV
  refine X9i (L:=XcJ id home rim rim.length t u h s r) rfl Xjb rfl rfl rfl ?_
  have h2:∀ H:List AO,H[2]?=some (.row rim.length rim.length (slF AV.bool false ((List.range rim.length).map (XgA l at'))))→X4B H (.osl 2 rim.length 1 0 rim.length) (X2R ((List.range rim.length).map (XgA l at'))):=fun H ho=>by
   rw [X0j,List.length_map,List.length_range]
   refine X1e (.inl ho) (by omega) (fun h=>h) fun j hj=>?_
   rw [Nat.zero_add]
   exact (X02 _).sees _
  have h3:∀ H:List AO,H[3]?=some (.row rim.length rim.length (slF I 0 ((List.range rim.length).map (X9W l at'))))→X4B H (.osl 3 rim.length 1 0 rim.length) (X0f ((List.range rim.length).map (X9W l at'))):=fun H ho=>by
   rw [X04,List.length_map,List.length_range]
   refine X1e (.inl ho) (by omega) (fun h=>h) fun j hj=>?_
   rw [Nat.zero_add]
   exact (X08 _).sees _
  exact X4a ⟨(X08 _).sees _,(X08 _).sees _,(X1c _).sees _,h2 _ rfl,h3 _ rfl,(X02 _).sees _,(X07 _).sees _,(X02 _).sees _,(X07 _).sees _,(X02 _).sees _,(X07 _).sees _,(X02 _).sees _,(X07 _).sees _,(X02 _).sees _,(X07 _).sees _,(X02 _).sees _,(X07 _).sees _,(X02 _).sees _,(X07 _).sees _,(X02 _).sees _,(X07 _).sees _,(X02 _).sees _,(X07 _).sees _,(X02 _).sees _,(X07 _).sees _,trivial⟩
 have c5:=X2q l (at'+2+k:Nat) 16 hl (by omega)
 have b5:=X0N l (at'+2+k:Nat) 16 (by omega)
 have nx:=next (k+1)
 rw [XcM,XcM] at nx
 have e1:XgA l at' k=decide (Ab.atF l (at'+2+k:Nat) 16=15):=rfl
 have e2:X9W l at' k=if 11<Ab.atF l (at'+2+k:Nat) 16 then Ab.atF l (at'+2+k:Nat) 16 - 11 else 0:=rfl
 rw [e1,e2] at nx
 generalize Ab.atF l (at'+2+k:Nat) 16=n at *
 rw [show ((at'+2+k:Nat):Int)=(at':Int)+2+k by omega] at c5
 have hW:((List.range k).map (XgA l at')).length=k:=by simp
 have hM:((List.range k).map (X9W l at')).length=k:=by simp
 generalize (List.range k).map (XgA l at')=W at *
 generalize (List.range k).map (X9W l at')=M at *
 have hap1:=Xcg AV.bool false W (decide (n=15))
 rw [hW,Nat.mul_one] at hap1
 refine X00 1000 ?_
 simp (disch:=omega) only [XcJ,qC,X0e,X04,List.cons_append,List.nil_append,↓X0v,wD,↓X03,wA,seval,wE]
 refine X01 c5 rfl ?_
 by_cases hn:11<n
 ·have hap2:=X7c M (n - 11)
  rw [if_pos hn] at nx
  rw [hM] at hap2
  simp (disch:=omega) only [XcJ,qC,X0e,X04,List.cons_append,List.nil_append,↓X0v,wD,↓X03,wA,seval,wE]
  exact nx _ (by omega) (by omega) (X09 rfl (by simp [X0p,X0e,X04,I]) (by simp [X0q]) (by rw [← hap1,← hap2]; simp [X1U,XcJ,qC,X0e,X04,I,sg]))
 ·have hap2:=X7c M 0
  rw [if_neg hn] at nx
  rw [hM] at hap2
  simp (disch:=omega) only [XcJ,qC,X0e,X04,List.cons_append,List.nil_append,↓X0v,wD,↓X03,wA,seval,wE]
  exact nx _ (by omega) (by omega) (X09 rfl (by simp [X0p,X0e,X04,I]) (by simp [X0q]) (by rw [← hap1,← hap2]; simp [X1U,XcJ,qC,X0e,X04,I,sg,show ¬ n=15 by omega]))
structure Iso (g h:V2→V2):Prop where
 sub:∀ a b,(g a).sub (g b)=h (a.sub b)
 cr:∀ u v,X1E (h u) (h v)=X1E u v
 dt:∀ u v,dot (h u) (h v)=dot u v
 tn:∀ u,(h u).turned=h u.turned
theorem Xse (g:V2→V2) (L:List V2) (h:0<L.length) (i:Nat):atF (L.map g) i=g (atF L i):=by
 unfold atF
 have hlt:=Nat.mod_lt i h
 rw [List.length_map,List.getD_eq_getElem?_getD,List.getElem?_map,List.getD_eq_getElem?_getD,List.getElem?_eq_getElem hlt]; rfl
theorem Xpu {g h:V2→V2} (I:Iso g h) (a b c:V2):X3H (g a) (g b) (g c)=X3H a b c:=by unfold X3H; rw [I.sub,I.sub,I.cr]
theorem Xlp (n a b:V2):dot n a - dot n b=dot n (a.sub b):=by unfold dot V2.sub; grind
theorem XwL {g h:V2→V2} (I:Iso g h) (n a b:V2):(dot (h n) (g a)<dot (h n) (g b))↔(dot n a<dot n b):=by
 have e1:=Xlp (h n) (g a) (g b)
 have e2:=Xlp n a b
 rw [I.sub,I.dt] at e1
 constructor <;> intro hh <;> grind
theorem XfI {g h:V2→V2} (I:Iso g h) (n a b c d:V2):X2D (h n) (g a) (g b) (g c) (g d)=X2D n a b c d:=by
 unfold X2D Xe7
 simp only [XwL I]
theorem Xpt {g h:V2→V2} (I:Iso g h) (a b c d:V2) (i:Nat):Xdn (g a) (g b) (g c) (g d) i=h (Xdn a b c d i):=by
 unfold Xdn
 split <;> simp only [I.sub,I.tn]
theorem Xhk {g h:V2→V2} (I:Iso g h) (L:List V2) (hp:X0F L) (ha:X4S (L.map g)=X4S L):X0F (L.map g):=by
 obtain ⟨h1,h2,h3⟩:=hp
 have hl:0<L.length:=by omega
 have hat:=Xse g L hl
 refine ⟨by rw [List.length_map]; exact h1,fun i hi=>?_,by rw [ha]; exact h3⟩
 rw [List.length_map] at hi
 obtain ⟨k1,k2⟩:=h2 i hi
 refine ⟨fun hb=>k1 ?_,fun k hk hg=>k2 k (by rw [List.length_map] at hk; exact hk) ?_⟩
 ·unfold X6R at hb ⊢
  rw [hat,hat,hat,Xpu I] at hb
  exact hb
 ·obtain ⟨q1,q2,q3⟩:=hg
  rw [List.length_map] at q1 q2
  refine ⟨q1,q2,fun j hj=>?_⟩
  have:=q3 j hj
  rw [hat,hat,hat,hat,Xpt I,XfI I] at this
  exact this
theorem quart_iso:Iso X6E X6E:=⟨fun a b=>by unfold X6E V2.sub; rw [V2.ext']; exact ⟨by simp only; grind,rfl⟩,fun u v=>by unfold X6E X1E; grind,fun u v=>by unfold X6E dot; grind,fun u=>by unfold X6E V2.turned; rfl⟩
theorem Xs3 (t:V2):Iso (fun a=>a.add t) id:=⟨fun a b=>by unfold V2.add V2.sub; rw [V2.ext']; exact ⟨by simp only [id]; grind,by simp only [id]; grind⟩,fun _ _=>rfl,fun _ _=>rfl,fun _=>rfl⟩
theorem X9a (g:V2→V2) (L:List V2) (i:Nat) (h:i<L.length):(L.map g).getD i v0=g (L.getD i v0):=by
 rw [List.getD_eq_getElem?_getD,List.getElem?_map,List.getD_eq_getElem?_getD,List.getElem?_eq_getElem h]; rfl
theorem XiJ (L:List V2) (h:0<L.length):X4S (L.map X6E)=X4S L:=by
 have key:∀ n,n≤L.length→X45 (L.map X6E) n=X45 L n:=fun n=>by
  induction n with
  | zero=>intro _; rfl
  | succ n ih =>
   intro hn
   unfold X45
   rw [ih (by omega),List.length_map,X9a _ _ _ (by omega),X9a _ _ _ (Nat.mod_lt _ h),quart_iso.cr]
 unfold X4S
 rw [List.length_map,key _ (Nat.le_refl _)]
theorem Xoc (t:V2) (L:List V2) (h:0<L.length):X4S (L.map fun a=>a.add t)=X4S L:=by
 have key:∀ n,n≤L.length→X45 (L.map fun a=>a.add t) n=X45 L n+X1E t ((L.getD (n % L.length) v0).sub (L.getD 0 v0)):=fun n=>by
  induction n with
  | zero=>intro _; rw [Nat.zero_mod]; unfold X45 X1E V2.sub; grind
  | succ n ih =>
   intro hn
   have hm:n % L.length=n:=Nat.mod_eq_of_lt (by omega)
   unfold X45
   rw [ih (by omega),List.length_map,X9a _ _ _ (by omega),X9a _ _ _ (Nat.mod_lt _ h),hm]
   generalize L.getD n v0=p
   generalize L.getD ((n+1) % L.length) v0=q
   generalize L.getD 0 v0=o
   unfold X1E V2.sub V2.add
   grind
 unfold X4S
 rw [List.length_map,key _ (Nat.le_refl _),Nat.mod_self]
 have:X1E t ((L.getD 0 v0).sub (L.getD 0 v0))=0:=by unfold X1E V2.sub; grind
 rw [this,Rat.add_zero]
theorem Xa6 (L:List V2) (hp:X0F L):∀ q,X0F (L.map (X2o q))
 | 0=>by
  have:L.map (X2o 0)=L:=by
   have e:X2o 0=id:=rfl
   rw [e,List.map_id]
  rw [this]; exact hp
 | q+1=>by
  have ih:=Xa6 L hp q
  have e:L.map (X2o (q+1))=(L.map (X2o q)).map X6E:=by rw [List.map_map]; rfl
  rw [e]
  exact Xhk quart_iso _ ih (XiJ _ (by have:=ih.1; omega))
theorem XpS (t:V2) (L:List V2) (hp:X0F L):X0F (L.map fun a=>a.add t):=Xhk (Xs3 t) L hp (Xoc t L (by have:=hp.1; omega))
def mvP (q:Nat) (d p:Int×Int):Int×Int:=((X4A q p).1+d.1,(X4A q p).2+d.2)
theorem XpU (q:Nat) (p:Int×Int):ptV (X4A q p)=X2o q (ptV p):=by
 induction q with
 | zero=>rfl
 | succ q ih =>
  show (⟨((-(X4A q p).2:Int):Rat),((X4A q p).1:Rat)⟩:V2)=X6E (X2o q (ptV p))
  rw [← ih]
  unfold ptV X6E
  rw [V2.ext']
  exact ⟨by simp,rfl⟩
theorem Xu1 (R:List (Int×Int)) (q:Nat) (d:Int×Int) (h:X0F (X0Q R)):X0F (X0Q (R.map (mvP q d))):=by
 have h1:=XpS (ptV d) _ (Xa6 _ h q)
 have e:X0Q (R.map (mvP q d))=((X0Q R).map (X2o q)).map fun a=>a.add (ptV d):=by
  unfold X0Q
  rw [List.map_map,List.map_map,List.map_map]
  refine List.map_congr_left fun p _=>?_
  show ptV (mvP q d p)=(X2o q (ptV p)).add (ptV d)
  rw [← XpU]
  unfold mvP ptV V2.add
  rw [V2.ext']
  exact ⟨by simp,by simp⟩
 rw [e]; exact h1
end
end Go.Ab.N
namespace Go.Ab.N
open Go Go.RowKit Go.Proofs
noncomputable section
set_option maxRecDepth 10000
set_option maxHeartbeats 4000000
def gapB (L:List V2) (i k:Nat):Bool:=decide (1<(k+L.length - i) % L.length) && decide ((k+L.length - i) % L.length<L.length - 1) &&
 (List.range 5).all fun j=>!X2D (Xdn (atF L i) (atF L (i+1)) (atF L k) (atF L (k+1)) j) (atF L i) (atF L (i+1)) (atF L k) (atF L (k+1))
def X9h (L:List V2):Bool:=decide (3≤L.length) && decide (L.length≤12) && ((List.range L.length).all fun i=>!decide (X3H (atF L i) (atF L (i+1)) (atF L (i+2))=0) && (List.range L.length).all fun k=>!gapB L i k) && decide (0<(X4S L).num.sign)
theorem Xaj (L:List V2) (h:X9h L=true):X0F L:=by
 unfold X9h at h
 simp only [Bool.and_eq_true,decide_eq_true_eq,List.all_eq_true,List.mem_range,Bool.not_eq_true',decide_eq_false_iff_not] at h
 obtain ⟨⟨⟨h1,h2⟩,h3⟩,h4⟩:=h
 refine ⟨⟨h1,h2⟩,fun i hi=>⟨(h3 i hi).1,fun k hk hg=>?_⟩,h4⟩
 have:=(h3 i hi).2 k hk
 obtain ⟨q1,q2,q3⟩:=hg
 unfold gapB at this
 rw [decide_eq_true q1,decide_eq_true q2,Bool.true_and,Bool.true_and] at this
 rw [List.all_eq_true.2] at this
 ·cases this
 ·intro j hj
  rw [q3 j (List.mem_range.1 hj)]; rfl
def Xu6 (x y h:Int):List (Int×Int):=[(0,0),(x,0),(y,h),(0,h)]
def Xu7 (w x y h:Int):List (Int×Int):=[(x,0),(w,0),(w,h),(y,h)]
theorem Xu8:((List.range 4).all fun h=>(List.range 6).all fun x=>(List.range 6).all fun y=>X9h (X0Q (Xu6 (1+x) (1+y) (3+h))))=true:=by decide +kernel
theorem Xu9:((List.range 4).all fun w=>(List.range 4).all fun h=>(List.range 6).all fun x=>(List.range 6).all fun y=>!(decide (x<w+3) && decide (y<w+3)) || X9h (X0Q (Xu7 (4+w) (1+x) (1+y) (3+h))))=true:=by decide +kernel
theorem XpY (x y h:Int) (hx:1≤x∧x≤6) (hy:1≤y∧y≤6) (hh:3≤h∧h≤6):X0F (X0Q (Xu6 x y h)):=by
 have h1:=Xu8
 simp only [List.all_eq_true,List.mem_range] at h1
 have h2:=h1 (h - 3).toNat (by omega) (x - 1).toNat (by omega) (y - 1).toNat (by omega)
 rw [show (1:Int)+((x - 1).toNat:Nat)=x by omega,show (1:Int)+((y - 1).toNat:Nat)=y by omega,show (3:Int)+((h - 3).toNat:Nat)=h by omega] at h2
 exact Xaj _ h2
theorem XpZ (w x y h:Int) (hw:4≤w∧w≤7) (hx:1≤x∧x<w) (hy:1≤y∧y<w) (hh:3≤h∧h≤6):X0F (X0Q (Xu7 w x y h)):=by
 have h1:=Xu9
 simp only [List.all_eq_true,List.mem_range] at h1
 have h2:=h1 (w - 4).toNat (by omega) (h - 3).toNat (by omega) (x - 1).toNat (by omega) (y - 1).toNat (by omega)
 rw [show (4:Int)+((w - 4).toNat:Nat)=w by omega,show (1:Int)+((x - 1).toNat:Nat)=x by omega,show (1:Int)+((y - 1).toNat:Nat)=y by omega,show (3:Int)+((h - 3).toNat:Nat)=h by omega] at h2
 rw [Bool.or_eq_true] at h2
 rcases h2 with h2 | h2
 ·rw [decide_eq_true (show (x - 1).toNat<(w - 4).toNat+3 by omega),decide_eq_true (show (y - 1).toNat<(w - 4).toNat+3 by omega)] at h2
  cases h2
 ·exact Xaj _ h2
end
end Go.Ab.N
namespace Go.Ab.N
open Go Go.RowKit Go.Proofs
noncomputable section
set_option maxRecDepth 10000
set_option maxHeartbeats 4000000
open Classical
theorem Xc9 {a b:List (Int×Int)} {f:FV} {e:Rat} (h:(X0J a b f e).2.2=true) :
  XaY a.length b.length f∧X7W f.turn∧X0J a b f e=((loV a b f f.M.toNat).sub ⟨e,e⟩,(hiV a b f f.M.toNat).add ⟨e,e⟩,true)∧(loV a b f f.M.toNat).x - e≤(hiV a b f f.M.toNat).x+e∧(loV a b f f.M.toNat).y - e≤(hiV a b f f.M.toNat).y+e:=by
 by_cases g:XaY a.length b.length f∧X7W f.turn
 ·by_cases g2:((hiV a b f f.M.toNat).add ⟨e,e⟩).x<((loV a b f f.M.toNat).sub ⟨e,e⟩).x∨((hiV a b f f.M.toNat).add ⟨e,e⟩).y<((loV a b f f.M.toNat).sub ⟨e,e⟩).y
  ·exfalso
   unfold X0J at h; rw [if_pos g] at h; simp only at h; rw [if_pos g2] at h; cases h
  ·refine ⟨g.1,g.2,?_,?_⟩
   ·unfold X0J; rw [if_pos g]; simp only; rw [if_neg g2]
   ·simp only [not_or,Rat.not_lt] at g2; exact g2
 ·unfold X0J at h; rw [if_neg g] at h; cases h
theorem Xb1 {a b:List (Int×Int)} {f:FV} {e e':Rat} (h:(X0J a b f e).2.2=true) (he:e≤e'):(X0J a b f e').2.2=true:=by
 obtain ⟨h1,h2,_,h4,h5⟩:=Xc9 h
 unfold X0J
 rw [if_pos ⟨h1,h2⟩]
 simp only
 rw [if_neg]
 rintro (g | g)
 ·have:(hiV a b f f.M.toNat).x+e'<(loV a b f f.M.toNat).x - e':=g
  grind
 ·have:(hiV a b f f.M.toNat).y+e'<(loV a b f f.M.toNat).y - e':=g
  grind
theorem XpA {a b:PV} {f:FV} {e e':Rat} (h:(X0J a.rim b.rim f e).2.2=true) (he:e≤e'):Xbr (X1f a b f e')=Xbr (X1f a b f e):=by
 obtain ⟨_,_,h3,_⟩:=Xc9 h
 obtain ⟨_,_,h4,_⟩:=Xc9 (Xb1 h he)
 unfold Xbr X1f
 simp only [h3,h4]
 congr 1
 unfold V2.add V2.sub
 rw [V2.ext']
 exact ⟨by simp only; grind,by simp only; grind⟩
theorem Xbj {p:V2→Bool}:∀ {s:List V2},(Xcw p s).2=true↔∃ x∈s,p x=true
 | []=>by simp [Xcw]
 | x :: l=>by
  have ih:=Xbj (p:=p) (s:=l)
  show ((if p x=true then (x,true) else Xcw p l).2=true)↔_
  by_cases h:p x=true
  ·rw [if_pos h]; simp [h]
  ·rw [if_neg h,ih]; simp [h]
theorem X9v (x:Rat):0≤XaK x:=by unfold XaK; split <;> grind
theorem Xgk (n:V2):0≤X3W n:=by
 have h1:=X9v n.x
 have h2:=X9v n.y
 unfold X3W; grind
theorem Xqd {n:V2} {A B:List V2} {e e':Rat} (h:XeW n A B e) (he:e'≤e):XeW n A B e':=by
 unfold XeW at *
 have h2:e'*X3W n≤e*X3W n:=Rat.mul_le_mul_of_nonneg_right he (Xgk n)
 exact Rat.le_trans h2 h
theorem Xkl {A B:List (List V2)} {e e':Rat} (h:XgJ A B e=true) (he:e'≤e):XgJ A B e'=true:=by
 unfold XgJ at *
 rw [decide_eq_true_eq] at *
 intro i hi
 have h1:=h i hi
 unfold Xkn at *
 rw [decide_eq_true_eq] at *
 intro k hk
 have h2:=h1 k hk
 unfold X40 X59 at *
 rw [Xbj] at *
 obtain ⟨x,hx,hp⟩:=h2
 exact ⟨x,hx,decide_eq_true (Xqd (of_decide_eq_true hp) he)⟩
def PV.alike (p q:PV):Prop:=p.rim=q.rim∧p.worn=q.worn∧p.marks=q.marks
theorem Xfs {a b a' b':PV} (ha:a'.alike a) (hb:b'.alike b) (f:FV) (e:Rat):X2I a' b' f e=X2I a b f e:=by
 obtain ⟨h1,h2,h3⟩:=ha
 obtain ⟨g1,g2,g3⟩:=hb
 cases a; cases a'; cases b; cases b'
 simp only at h1 h2 h3 g1 g2 g3
 subst h1 h2 h3 g1 g2 g3
 rfl
theorem Xgo {a b a' b':PV} (ha:a'.alike a) (hb:b'.alike b) (f:FV) (e:Rat):X1f a' b' f e=X1f a b f e:=by unfold X1f; rw [ha.1,hb.1]
theorem Xfr (a b:PV) (f:FV) (e:Rat):X2I a b f e=0↔XaY a.rim.length b.rim.length f∧XhD a b f∧Xno a b f∧((X0J a.rim b.rim f e).2.2=true∧(X0J a.rim b.rim f e).1=f.lo∧(X0J a.rim b.rim f e).2.1=f.hi)∧X4m a b f e=true:=by
 unfold X2I
 by_cases h1:XaY a.rim.length b.rim.length f
 rotate_left
 ·rw [if_neg h1]; exact ⟨fun h=>absurd h (by decide),fun h=>absurd h.1 h1⟩
 rw [if_pos h1]
 by_cases h2:XhD a b f
 rotate_left
 ·rw [if_neg h2]; exact ⟨fun h=>absurd h (by decide),fun h=>absurd h.2.1 h2⟩
 rw [if_pos h2]
 by_cases h3:Xno a b f
 rotate_left
 ·rw [if_neg h3]; exact ⟨fun h=>absurd h (by decide),fun h=>absurd h.2.2.1 h3⟩
 rw [if_pos h3]
 by_cases h4:(X0J a.rim b.rim f e).2.2=true∧(X0J a.rim b.rim f e).1=f.lo∧(X0J a.rim b.rim f e).2.1=f.hi
 rotate_left
 ·rw [if_neg h4]; exact ⟨fun h=>absurd h (by decide),fun h=>absurd h.2.2.2.1 h4⟩
 rw [if_pos h4]
 by_cases h5:X4m a b f e=true
 ·rw [if_pos h5]; exact ⟨fun _=>⟨h1,h2,h3,h4,h5⟩,fun _=>rfl⟩
 ·rw [if_neg h5]; exact ⟨fun h=>absurd h (by decide),fun h=>absurd h.2.2.2.2 h5⟩
theorem XiU {a b:PV} {f:FV} {e e':Rat} (h:X2I a b f e=0) (he:e≤e'):X2I a b (X1f a b f e') e'=0:=by
 obtain ⟨h1,h2,h3,⟨h4,h5,h6⟩,h7⟩:=(Xfr a b f e).1 h
 rw [Xfr]
 refine ⟨h1,h2,h3,⟨Xb1 h4 he,rfl,rfl⟩,?_⟩
 unfold X4m at *
 have hm:Xbr (X1f a b f e')=Xbr f:=by
  rw [XpA h4 he]; unfold Xbr X1f; simp only [h5,h6]
 rw [hm]
 show XgJ (X36 a X4b v0) (X36 b f.turn (Xbr f)) (-e')=true
 exact Xkl h7 (by grind)
theorem Xft {a b:PV} {e:Rat} {f:FV} (h:f∈Xo3 a b e) (ha:0<a.rim.length) (hb:0<b.rim.length):X2I a b f e=0:=by
 obtain ⟨i,j,k,t,hi,hj,k0,kn,km,hp,ht,ho,rfl⟩:=(XgK a b e f ha hb).1 h
 unfold XfB at ho
 rw [Bool.and_eq_true] at ho
 obtain ⟨o1,o2⟩:=ho
 rw [X8A] at ht
 obtain ⟨k',q1,q2,q3⟩:=ht
 rw [Xfr]
 refine ⟨?_,hp,⟨k',?_,q2,q3⟩,⟨o1,rfl,rfl⟩,o2⟩
 ·show (0≤(i:Int)∧(i:Int)<a.rim.length)∧(0≤(j:Int)∧(j:Int)<b.rim.length)∧1≤(k:Int)∧(k:Int)<a.rim.length∧(k:Int)<b.rim.length
  omega
 ·show k'<((k:Nat):Int).toNat
  omega
theorem XcI {a b ca cb:PV} {f:FV} {ta tb sa sb:Rat} (h:X2I a b f (ta+tb)=0) (h1:a=X5d a ca∧ta≤sa) (h2:b=X5d b cb∧tb≤sb):X5N a b f ca cb ta tb sa sb=(X1f ca cb f (sa+sb),0):=by
 unfold X5N; rw [if_pos ⟨h1,h2⟩,if_pos h]
theorem Xpk (f g:FV) (hf:f.fine) (hg:g.fine):Fn Tryz.prog 32 [fvA f,fvA g] (.bool (decide (f=g))):=by
 obtain ⟨V,hV⟩:∃ V,V=decide (f=g):=⟨_,rfl⟩
 rw [← hV]
 rw [decide_eq_decide.2 (XwG f g)] at hV
 have fin:∀ {s:AS} {v:Bool},s.get 4=.bool v→v=V→RetOk (X2f Tryz.prog Tryz.f32 [] [] (.bool V)) s:=fun h e=>X0r rfl h (X02 _) (by rw [e])
 obtain ⟨f1,f2,f3⟩:=hf
 obtain ⟨g1,g2,g3⟩:=hg
 have c1:=Xa8 f.turn g.turn (by unfold vm; omega) (by unfold vm; omega)
 have c2:=XcV f.lo g.lo (by unfold vm; omega) (by unfold vm; omega)
 have c3:=XcV f.hi g.hi (by unfold vm; omega) (by unfold vm; omega)
 refine Fq Tryz.call32 Tryz.func32 5 [] [] [] (by simp [X0s]) (X00 1000 ?_)
 by_cases h:f.A=g.A∧f.B=g.B∧f.EA=g.EA∧f.EB=g.EB∧f.M=g.M
 rotate_left
 ·have hv:false=V:=by rw [hV]; exact (decide_eq_false fun hh=>h hh.1).symm
  rcases (show f.A≠g.A∨(f.A=g.A∧f.B≠g.B)∨(f.A=g.A∧f.B=g.B∧f.EA≠g.EA)∨(f.A=g.A∧f.B=g.B∧f.EA=g.EA∧f.EB≠g.EB)∨(f.A=g.A∧f.B=g.B∧f.EA=g.EA∧f.EB=g.EB∧f.M≠g.M) by omega) with q | ⟨q1,q⟩ | ⟨q1,q2,q⟩ | ⟨q1,q2,q3,q⟩ | ⟨q1,q2,q3,q4,q⟩
  ·simp only [AS.start,fvA,fvC,eq_false q,↓X03,wA,seval,wE]
   exact fin rfl hv
  ·simp only [AS.start,fvA,fvC,eq_true q1,eq_false q,↓X03,wA,seval,wE]
   exact fin rfl hv
  ·simp only [AS.start,fvA,fvC,eq_true q1,eq_true q2,eq_false q,↓X03,wA,seval,wE]
   exact fin rfl hv
  ·simp only [AS.start,fvA,fvC,eq_true q1,eq_true q2,eq_true q3,eq_false q,↓X03,wA,seval,wE]
   exact fin rfl hv
  ·simp only [AS.start,fvA,fvC,eq_true q1,eq_true q2,eq_true q3,eq_true q4,eq_false q,↓X03,wA,seval,wE]
   exact fin rfl hv
 have e:V=decide (f.turn=g.turn∧f.lo=g.lo∧f.hi=g.hi):=by rw [hV]; exact decide_eq_decide.2 ⟨fun hh=>hh.2,fun hh=>⟨h,hh⟩⟩
 clear hV
 simp (disch:=omega) only [AS.start,fvA,fvC,↓X0v,wD,↓X03,wA,seval,wE]
 refine X01 c1 rfl ?_
 by_cases n1:f.turn=g.turn
 rotate_left
 ·simp (disch:=omega) only [decide_eq_false n1,↓X0v,wD,↓X03,wA,seval,wE]
  exact fin rfl (by rw [e]; exact (decide_eq_false fun hh=>n1 hh.1).symm)
 simp (disch:=omega) only [decide_eq_true n1,↓X0v,wD,↓X03,wA,seval,wE]
 refine X01 c2 rfl ?_
 by_cases n2:f.lo=g.lo
 rotate_left
 ·simp (disch:=omega) only [decide_eq_false n2,↓X0v,wD,↓X03,wA,seval,wE]
  exact fin rfl (by rw [e]; exact (decide_eq_false fun hh=>n2 hh.2.1).symm)
 simp (disch:=omega) only [decide_eq_true n2,↓X0v,wD,↓X03,wA,seval,wE]
 refine X01 c3 rfl ?_
 simp (disch:=omega) only [↓X0v,wD,↓X03,wA,seval,wE]
 exact fin rfl (by rw [e]; exact decide_eq_decide.2 ⟨fun hh=>⟨n1,n2,hh⟩,fun hh=>hh.2.2⟩)
theorem Xfn {p:PV} (hp:p.small) (id home:Int) {a q:Rat} (ha:qb a≤10000) (hq:qb q≤10000):(X5y p id home (a+q)).small:=by
 have h1:=RQ.of_sz (a+q)
 have h2:=X2n a q
 exact ⟨hp.rim,hp.worn,hp.marks,by show (RQ.of (a+q)).sz≤_; omega,hp.light,hp.heavy,hp.strength,hp.rough⟩
theorem GP.cast {p:PV} {t:Rat} (h:GP p t) (q:Rat) (hq:qb (t+q)≤20) (i o:Int):GP (X5y p i o (t+q)) (t+q):=⟨⟨h.even.rim,h.even.worn,h.even.marks,h.even.near⟩,h.poly,rfl,hq⟩
theorem Xfm (p:PV) (i o:Int) (t:Rat):(X5y p i o t).alike p:=⟨rfl,rfl,rfl⟩
theorem Xb2 (p:PV):p.alike p:=⟨rfl,rfl,rfl⟩
def Xi1 (n:Int):Rat:=Rat.divInt (X0Z n 6) 4
theorem X79 (n:Int):0≤Xi1 n:=by
 have h:=X1g n 6 (by omega)
 unfold Xi1
 generalize X0Z n 6=k at *
 rcases (show k=0∨k=1∨k=2∨k=3∨k=4∨k=5 by omega) with rfl | rfl | rfl | rfl | rfl | rfl <;> decide +kernel
theorem XjH (n:Int):qb (Xi1 n)≤3:=by
 have h:=X1g n 6 (by omega)
 exact X5O _ _ ⟨by omega,by omega⟩ ⟨by omega,by omega⟩
theorem X61 {p:PV} {t:Rat} (h:GP p t) (hs:p.small) (hq:qb t≤12) (n:Int) (hn:X51 n) :
  Fn Tryz.prog 23 [pvA p,I n] (pvA (X4T p t n))∧GP (X4T p t n) (t+Xi1 n)∧(X4T p t n).small∧(X4T p t n).alike p∧X5d p (X4T p t n)=p∧qb (t+Xi1 n)≤qb t+4:=by
 have h3:=XjH n
 have h4:=X2n t (Xi1 n)
 refine ⟨XkZ p n hn h.tol (by omega),h.cast _ (show qb (t+Xi1 n)≤20 by omega) _ _,Xfn hs _ _ (by omega) (show qb (Xi1 n)≤10000 by omega),Xfm _ _ _ _,?_,by omega⟩
 unfold X5d X4T X5y
 have:=h.tol
 cases p; rfl
theorem XlV (R:List (Int×Int)) (l:List Int) (p:Nat) (hn:X2e R) (hp:X0F (X0Q R)):GP (X4U R l p) (Rat.divInt (Ab.atF l (p+1:Nat) 3) 4)∧(X4U R l p).small∧qb (Rat.divInt (Ab.atF l (p+1:Nat) 3) 4)≤3:=by
 have b1:=X0N l (p+1:Nat) 3 (by omega)
 have b2:=X0N l p 3 (by omega)
 have q:=X5O (Ab.atF l (p+1:Nat) 3) 4 ⟨by omega,by omega⟩ ⟨by omega,by omega⟩
 have hl:R.length≤12:=by have:=hp.1; simp [X0Q] at this; omega
 have z:=fun (n m:Int) (h1:X51 n) (h2:X51 m)=>X8W n m h1 h2
 refine ⟨⟨⟨by show R.length<_; omega,by simp [X4U],by simp [X4U],hn⟩,hp,rfl,by omega⟩,⟨by show R.length<_; omega,by simp [X4U]; omega,by simp [X4U]; omega,?_,?_,?_,?_,?_⟩,q⟩
 ·exact Nat.le_trans (z (Ab.atF l (p+1:Nat) 3) 4 ⟨by omega,by omega⟩ ⟨by omega,by omega⟩) (by omega)
 ·exact Nat.le_trans (z 1 1 ⟨by omega,by omega⟩ ⟨by omega,by omega⟩) (by omega)
 ·exact Nat.le_trans (z (1+Ab.atF l p 3) 1 ⟨by omega,by omega⟩ ⟨by omega,by omega⟩) (by omega)
 ·exact Nat.le_trans (z 100 1 ⟨by omega,by omega⟩ ⟨by omega,by omega⟩) (by omega)
 ·exact Nat.le_trans (z 1 2 ⟨by omega,by omega⟩ ⟨by omega,by omega⟩) (by omega)
theorem XcB:fv0.fine:=by
 have:=XaC
 exact ⟨by show vb v0≤_; omega,by show vb v0≤_; omega,by show vb v0≤_; omega⟩
theorem Xjg {a b ca cb:PV} {f:FV} {ta tb sa sb:Rat} (ha:GP ca sa) (hb:GP cb sb) (hf:f.fine):(X5N a b f ca cb ta tb sa sb).1.fine:=by
 unfold X5N
 split
 ·split
  ·exact X5t ha hb hf
  ·exact XcB
 ·exact XcB
theorem Xge {a b:PV} {f:FV} {ta tb:Rat} (ha:GP a ta) (hb:GP b tb) (hf:f.fine):(X4Y a b f (ta+tb)).1.fine:=by
 unfold X4Y
 split
 ·exact X5t ha hb hf
 ·exact XcB
theorem X9N {α:Type} (C:α→List AV) (s:Nat) (d:α) (hs:0<s) (hC:∀ a,(C a).length=s):∀ (L:List α) (j:Nat),j<L.length*s→ofL (L.flatMap C) j=X0M C s d L j
 | [],j,h=>by simp at h
 | a :: L,j,h=>by
  unfold X0M ofL
  rw [List.flatMap_cons,List.getD_eq_getElem?_getD]
  by_cases hj:j<s
  ·rw [Nat.div_eq_of_lt hj,Nat.mod_eq_of_lt hj,List.getElem?_append_left (by rw [hC]; exact hj),← List.getD_eq_getElem?_getD]; rfl
  ·obtain ⟨i,rfl⟩:∃ i,j=s+i:=⟨j - s,by omega⟩
   have hi:i<L.length*s:=by
    rw [List.length_cons,Nat.succ_mul] at h; omega
   have ih:=X9N C s d hs hC L i hi
   unfold X0M ofL at ih
   rw [Nat.add_div_left i hs,Nat.add_mod_left,List.getElem?_append_right (by rw [hC]; omega),hC,Nat.add_sub_cancel_left,← List.getD_eq_getElem?_getD,ih]; rfl
end
end Go.Ab.N
