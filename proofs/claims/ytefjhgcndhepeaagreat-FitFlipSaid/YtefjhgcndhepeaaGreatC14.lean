/- Own texts. -/
import Derived.Test.YtefjhgcndhepeaaGreatC13
import Derived.Test.YtefjhgcndhepeaaGreatC7
import Derived.Test.YtefjhgcndhepeaaGreatC12
import Derived.Test.YtefjhgcndhepeaaGreatC10
import Derived.Test.YtefjhgcndhepeaaGreatC6
import Derived.Test.YtefjhgcndhepeaaGreatC11
import Derived.Test.YtefjhgcndhepeaaGreatC8
set_option linter.unusedSimpArgs false
set_option linter.unusedVariables false
open Nat renaming reducePow → Y1, reduceLT → Y2, reduceLeDiff → Y3, reduceEqDiff → Y4, reduceAdd → Y5, reduceMul → Y6, reduceSub → Y7, reduceBEq → Y8, reduceDiv → Y9, reduceMod → YA
namespace Go.Ab.N
open Go Go.RowKit Go.Proofs
noncomputable section
set_option maxRecDepth 10000
set_option maxHeartbeats 4000000
open Classical
theorem M2 {P:Program} {fn:Func} {str hcs:List Nat} {b:Nat} {r:AV} {H:List AO} {s:AS} {t:Nat} (hr:fn.results=#[.tmp t]) (h1:s.get t=r) (hH:s.h=H):RetOk (DL P fn str hcs b r H) s :=
 ⟨r,by show Z9 P fn s=_; simp [Z9,hr,J7,QH,Ag,h1],rfl,hH⟩
theorem PM (o0 o1 o2 o3 o4:AO) (B0:∀ m,5≤m→XI m o0) (B1:∀ m,5≤m→XI m o1) (B2:∀ m,5≤m→XI m o2) (B3:∀ m,5≤m→XI m o3) (B4:∀ m,5≤m→XI m o4) (a b:PV) (f:FV) (hf:Zd a.rim.length b.rim.length f) (ha:a.even) (hb:b.even) :
  HCall Tryz.prog 133 [QP a,QP b,Jz f] [o0,o1,o2,o3,o4] (.osl 8 (Qt a b f f.M.toNat).length 8 0 (Qt a b f f.M.toNat).length) [o0,o1,o2,o3,o4,.dead,.dead,.dead,.row (Qt a b f f.M.toNat).length ((Qt a b f f.M.toNat).length*8) (Xs vC 8 v0 (Qt a b f f.M.toNat))]:=by
 have ce:=G2 a b f hf ha.rim hb.rim
 obtain ⟨⟨s1,s2⟩,⟨s3,s4⟩,s5,s6,s7⟩:=hf
 obtain ⟨N,hN⟩:∃ N:Nat,f.M=N:=⟨f.M.toNat,by omega⟩
 have la:=ha.rim; have lb:=hb.rim
 have hNt:f.M.toNat=N:=by rw [hN]; rfl
 rw [hNt]
 obtain ⟨L,hL⟩:∃ L,L=DK a.rim.length b.rim.length f:=⟨_,rfl⟩
 have hlen:L.length=N:=by rw [hL,BE,hN]; rfl
 have hat:∀ k,k<N→L.getD k (0,0)=((xK a.rim.length f k:Int),(yK b.rim.length f k:Int)):=fun k hk=>by rw [hL]; exact EL _ _ _ _ (by omega)
 rw [← hL] at ce
 clear hL
 have ba:XI 9 (.row 0 25 (Xn (XG a)))=True:=eq_true (XD (Xy a))
 have bb:XI 9 (.row 0 25 (Xn (XG b)))=True:=eq_true (XD (Xy b))
 have bf:XI 9 (.row 0 29 (Xn (XJ f)))=True:=eq_true (XD (XN f))
 have bL:JO 9 (Dz L)=True:=eq_true (X5 (Jd _))
 have hvc:∀ a:V2,∀ x∈vC a,Settled x:=fun a=>by simp [vC,X6,X2]
 have br:∀ i l n,XI 9 (.row i n (Xs vC 8 v0 l))=True:=fun i l n=>eq_true fun j _=>X5 (Xb (hvc _) _)
 have q0:XI 9 o0=True:=eq_true (B0 9 (by omega))
 have q1:XI 9 o1=True:=eq_true (B1 9 (by omega))
 have q2:XI 9 o2=True:=eq_true (B2 9 (by omega))
 have q3:XI 9 o3=True:=eq_true (B3 9 (by omega))
 have q4:XI 9 o4=True:=eq_true (B4 9 (by omega))
 refine HCall.intro (fn:=Tryz.f133) Tryz.call133 Tryz.func133 rfl mixed 12 [15,16,17] [] [] (by kernel_rfl) (Nat.le_of_ble_eq_true rfl) (Xl ?_)
 simp only [AS.start,QP,XG,Jz,XJ,↓X1,wF,seval]
 refine X0 ce rfl ?_
 simp only [Xd,hlen,↓X1,wF,seval]
 refine Xe (fun k:Nat=>⟨12,[15,16,17],[.any,.any,.any,.ref 5 0 0,.ref 6 0 0,.ref 7 0 0,.any,.osl 8 (Qt a b f k).length 8 0 (Qt a b f k).length,.any,.any,.any,.any],[(15,Dz L),(16,I N),(17,I k)],[o0,o1,o2,o3,o4,.row 0 25 (Xn (XG a)),.row 0 25 (Xn (XG b)),.row 0 29 (Xn (XJ f)),.row (Qt a b f k).length ((Qt a b f k).length*8) (Xs vC 8 v0 (Qt a b f k))]⟩) (fun k=>k≤N) (fun k=>N - k) 0 (by omega)
  (Sub.trans (Q5 7 8 (Xs vC 8 v0 []) rfl) (Xi rfl (by simp [AS.put,Qt,Xf,I]) (by simp [AS.put,Xq,Xw,Xd,hlen,I]) (by simp [AS.put,Qt,XG,XJ,Xd,Xm,X3,I]))) ?_
 intro k hk next
 have w1:=wj k (by omega)
 have hln:=DD a b f k
 by_cases hk2:k<N
 rotate_left
 ·obtain rfl:k=N:=by omega
  refine Run.sub (s':=⟨12,[15,16,17],[.any,.any,.any,.any,.any,.any,.any,.osl 8 (Qt a b f k).length 8 0 (Qt a b f k).length,.any,.any,.any,.any],[(15,Dz L),(16,I k),(17,I k)],[o0,o1,o2,o3,o4,.dead,.dead,.dead,.row (Qt a b f k).length ((Qt a b f k).length*8) (Xs vC 8 v0 (Qt a b f k))]⟩) ?_
   (Sub.trans (CI 5 rfl (by simp [AO.info])) (Sub.trans (CI 6 rfl (by simp [AO.info])) (Sub.trans (CI 7 rfl (by simp [AO.info])) (Xi rfl (by simp [Xf,I]) (by simp [Xq,Xw,I]) (by simp)))))
  refine Xl ?_
  simp only [Int.lt_irrefl,Nat.lt_irrefl,↓X1,wF,seval]
  exact M2 rfl rfl rfl
 have nx:=next (k+1)
 have f1:((k:Int)<N)=True:=eq_true (by omega)
 have f2:(k<N)=True:=eq_true hk2
 have f3:(k*2+2≤N*2)=True:=eq_true (by omega)
 have v1:=oz L k
 rw [hat k hk2] at v1
 have n2:((2:Nat):Int)=2:=rfl
 have t1:(1:Int).toNat=1:=rfl
 have ca:=D4 a b (xK a.rim.length f k) (yK b.rim.length f k) la lb ha.near hb.near
 rw [show Q9 a.rim b.rim (xK a.rim.length f k) (yK b.rim.length f k)=GZ a b f k from rfl] at ca
 have hs:Qt a b f (k+1)=if (GZ a b f k).2=true then Qt a b f k ++ [(GZ a b f k).1] else Qt a b f k:=rfl
 generalize GZ a b f k=X at *
 obtain ⟨t,ok⟩:=X
 refine Xl ?_
 simp only [XG,XJ,Xd,Xm,X3,hlen,w1,f1,f2,f3,v1,n2,t1,Int.toNat_zero,Int.reduceLT,Int.reduceLE,Int.toNat_natCast,↓X1,wF,seval]
 refine X0 ca rfl ?_
 cases ok with
 | false =>
  rw [if_neg (show ¬ ((t,false).2=true) from Bool.false_ne_true)] at hs
  simp only [hs] at nx
  simp only [w1,↓X1,wF,seval]
  exact nx _ (by omega) (by omega) (XE (m:=9) (show 5≤9 by omega) rfl (by simp [Xf,I]) (by simp [Xq,Xw,Xd,hlen,I]) (by simp [XG,XJ,Xd,Xm,X3,I]) (by simp [XA]) (by simp [XA,bL]) (by simp [q0,q1,q2,q3,q4,ba,bb,bf,br]))
 | true =>
  rw [if_pos rfl] at hs
  have hlen2:(Qt a b f (k+1)).length=(Qt a b f k).length+1:=by rw [hs]; simp
  have hap:=XR vC 8 v0 (Qt a b f k) t (by omega)
  rw [← hs] at hap
  simp only [hlen2] at nx
  simp only [w1,↓X1,wF,seval]
  exact ⟨⟨Zg t,by omega,by omega⟩,nx _ (by omega) (by omega) (XE (m:=9) (show 5≤9 by omega) rfl (by simp [Xf,I]) (by simp [Xq,Xw,Xd,hlen,I]) (by rw [← hap]; simp [XG,XJ,Xd,Xm,X3,I,vC]) (by simp [XA]) (by simp [XA,bL]) (by simp [q0,q1,q2,q3,q4,ba,bb,bf,br]))⟩
theorem Cv {a b c:V2} (h1:Zu a b) (h2:Zu b c):Zu a c:=by unfold Zu at *; grind
theorem Ik (a:V2):¬ Zu a a:=by unfold Zu; grind
theorem H5 {a b:V2} (h:¬ Zu a b) (hn:a≠b):Zu b a:=by
 have:¬ (a.x=b.x∧a.y=b.y):=fun hh=>hn (V2.ext'.2 hh)
 unfold Zu at *
 grind
theorem RL (t:V2):∀ l,l.Pairwise Zu→t∉l→(Dx t l).Pairwise Zu
 | [],_,_=>by simp [Dx]
 | x :: l,hs,hn=>by
  rw [List.pairwise_cons] at hs
  rw [List.mem_cons,not_or] at hn
  have ih:=RL t l hs.2 hn.2
  unfold Dx
  split
  ·rename_i hb
   rw [List.pairwise_cons,List.pairwise_cons]
   refine ⟨fun y hy=>?_,hs⟩
   rcases List.mem_cons.1 hy with rfl | hy
   ·exact hb
   ·exact Cv hb (hs.1 y hy)
  ·rename_i hb
   rw [List.pairwise_cons]
   refine ⟨fun y hy=>?_,ih⟩
   rcases (LA t y l).1 hy with rfl | hy
   ·exact H5 hb hn.1
   ·exact hs.1 y hy
theorem Mm (a b:PV) (f:FV):∀ n,(J9 a b f n).Pairwise Zu
 | 0=>List.Pairwise.nil
 | n+1=>by
  have ih:=Mm a b f n
  unfold J9
  split
  ·unfold TS
   split
   ·exact ih
   ·rename_i h
    exact RL _ _ ih h
  ·exact ih
theorem WP:∀ (l m:List V2),l.Pairwise Zu→m.Pairwise Zu→(∀ x,x∈l↔x∈m)→l=m
 | [],[],_,_,_=>rfl
 | [],b :: m,_,_,h=>absurd ((h b).2 (List.mem_cons_self ..)) (List.not_mem_nil)
 | a :: l,[],_,_,h=>absurd ((h a).1 (List.mem_cons_self ..)) (List.not_mem_nil)
 | a :: l,b :: m,h1,h2,h=>by
  rw [List.pairwise_cons] at h1 h2
  have e:a=b:=by
   rcases List.mem_cons.1 ((h a).1 (List.mem_cons_self ..)) with e | ha
   ·exact e
   rcases List.mem_cons.1 ((h b).2 (List.mem_cons_self ..)) with e | hb
   ·exact e.symm
   ·exact absurd (Cv (h1.1 b hb) (h2.1 a ha)) (Ik a)
  subst e
  refine congrArg (a :: ·) (WP l m h1.2 h2.2 fun x=>⟨fun hx=>?_,fun hx=>?_⟩)
  ·rcases List.mem_cons.1 ((h x).1 (List.mem_cons_of_mem _ hx)) with rfl | hy
   ·exact absurd (h1.1 x hx) (Ik x)
   ·exact hy
  ·rcases List.mem_cons.1 ((h x).2 (List.mem_cons_of_mem _ hx)) with rfl | hy
   ·exact absurd (h2.1 x hx) (Ik x)
   ·exact hy
def I9 (x:V2):List V2→List V2
 | []=>[x]
 | y :: Q=>if Zu x y then y :: I9 x Q else x :: y :: Q
theorem LB (x z:V2):∀ Q,z∈I9 x Q↔z=x∨z∈Q
 | []=>by simp [I9]
 | y :: Q=>by
  have ih:=LB x z Q
  unfold I9
  split
  ·rw [List.mem_cons,ih,List.mem_cons]
   constructor
   ·rintro (h | h | h)
    ·exact .inr (.inl h)
    ·exact .inl h
    ·exact .inr (.inr h)
   ·rintro (h | h | h)
    ·exact .inr (.inl h)
    ·exact .inl h
    ·exact .inr (.inr h)
  ·simp
theorem RN (x:V2):∀ Q,(I9 x Q).length=Q.length+1
 | []=>rfl
 | y :: Q=>by
  have ih:=RN x Q
  unfold I9
  split
  ·simp [ih]
  ·simp
def pX (Q:List V2):Prop:=Q.Pairwise fun a b=>¬ Zu a b
theorem RM (x:V2):∀ Q,pX Q→pX (I9 x Q)
 | [],_=>by simp [pX,I9]
 | y :: Q,h=>by
  have h':=h
  unfold pX at h'
  rw [List.pairwise_cons] at h'
  have ih:=RM x Q h'.2
  unfold I9
  split
  ·rename_i hb
   unfold pX
   rw [List.pairwise_cons]
   refine ⟨fun z hz=>?_,ih⟩
   rcases (LB x z Q).1 hz with rfl | hz
   ·exact fun hh=>Ik _ (Cv hb hh)
   ·exact h'.1 z hz
  ·rename_i hb
   unfold pX
   rw [List.pairwise_cons]
   refine ⟨fun z hz=>?_,h⟩
   rcases List.mem_cons.1 hz with rfl | hz2
   ·exact hb
   ·intro hh
    have h5:=h'.1 z hz2
    by_cases e:x=y
    ·rw [e] at hh; exact h5 hh
    ·exact h5 (Cv (H5 hb e) hh)
theorem RA (A R:List V2) (x:V2):(A ++ x :: R).getD A.length v0=x:=by
 rw [List.getD_eq_getElem?_getD,List.getElem?_append_right (Nat.le_refl _),Nat.sub_self]; rfl
theorem Nr (A R:List V2) (x y:V2):(A ++ y :: x :: R).getD (A.length+1) v0=x:=by
 rw [List.getD_eq_getElem?_getD,List.getElem?_append_right (by omega),Nat.add_sub_cancel_left]; rfl
theorem p5 (A R:List V2) (x y:V2):de (A ++ y :: x :: R) A.length=A ++ x :: y :: R:=by
 unfold de
 rw [RA,Nr,List.set_append_right _ _ (by omega),Nat.add_sub_cancel_left,List.set_append_right _ _ (Nat.le_refl _),Nat.sub_self]; rfl
theorem Lz (x:V2):∀ (Q R:List V2),BX (Q.reverse ++ x :: R) Q.length=(I9 x Q).reverse ++ R
 | [],R=>rfl
 | y :: Q,R=>by
  have ih:=Lz x Q (y :: R)
  have hl:Q.reverse.length=Q.length:=List.length_reverse
  have e:(y :: Q).reverse ++ x :: R=Q.reverse ++ y :: x :: R:=by simp
  rw [e]
  show BX (Q.reverse ++ y :: x :: R) (Q.length+1)=_
  unfold BX I9
  rw [← hl,Nr,RA,p5,hl,ih]
  split
  ·simp
  ·simp
theorem Mf (L:List V2):∀ k,k<L.length→∃ Q R,Bc L k=Q.reverse ++ R∧Q.length=k+1∧pX Q∧∀ x,x∈Bc L k↔x∈L
 | 0,h=>by
  match L,h with
  | x :: R,_=>exact ⟨[x],R,rfl,rfl,by simp [pX],fun _=>Iff.rfl⟩
 | k+1,h=>by
  obtain ⟨Q,R,h1,h2,h3,h4⟩:=Mf L k (by omega)
  have hl:=BQ L k
  match R,h1 with
  | [],h1=>rw [h1] at hl; simp at hl; omega
  | x :: R,h1 =>
   refine ⟨I9 x Q,R,?_,by rw [RN,h2],RM x Q h3,fun z=>?_⟩
   ·show BX (Bc L k) (k+1)=_
    rw [h1,← h2]; exact Lz x Q R
   ·rw [← h4 z]
    show z∈BX (Bc L k) (k+1)↔_
    rw [h1,← h2,Lz x Q R]
    simp only [List.mem_append,List.mem_reverse,List.mem_cons,LB]
    constructor
    ·rintro ((h | h) | h)
     ·exact .inr (.inl h)
     ·exact .inl h
     ·exact .inr (.inr h)
    ·rintro (h | h | h)
     ·exact .inl (.inr h)
     ·exact .inl (.inl h)
     ·exact .inr h
def Bh (L:List V2):Nat→List V2
 | 0=>L.take 1
 | k+1=>if L.getD (k+1) v0=L.getD k v0 then Bh L k else Bh L k ++ [L.getD (k+1) v0]
theorem W1 (L:List V2):∀ k,(Bh L k).length≤k+1
 | 0=>by simp [Bh]; omega
 | k+1=>by
  have ih:=W1 L k
  unfold Bh
  split
  ·omega
  ·simp; omega
theorem g9 (L:List V2) (hs:L.Pairwise fun a b=>¬ Zu b a):∀ k,k<L.length→(Bh L k).Pairwise Zu∧(∀ x,x∈Bh L k↔x∈L.take (k+1))∧∀ y∈Bh L k,y=L.getD k v0∨Zu y (L.getD k v0)
 | 0,h=>by
  match L,h with
  | x :: R,_=>exact ⟨by simp [Bh],fun _=>by simp [Bh],fun y hy=>.inl (by simpa [Bh] using hy)⟩
 | k+1,h=>by
  obtain ⟨h1,h2,h3⟩:=g9 L hs k (by omega)
  have ht:=Q3 L v0 (k+1) h
  by_cases e:L.getD (k+1) v0=L.getD k v0
  ·have ec:Bh L (k+1)=Bh L k:=if_pos e
   rw [ec]
   refine ⟨h1,fun x=>?_,fun y hy=>by rw [e]; exact h3 y hy⟩
   rw [h2 x,ht,List.mem_append,List.mem_singleton]
   refine ⟨fun hx=>.inl hx,fun hx=>?_⟩
   rcases hx with hx | rfl
   ·exact hx
   ·rw [e,Q3 L v0 k (by omega)]
    simp
  ·have ec:Bh L (k+1)=Bh L k ++ [L.getD (k+1) v0]:=if_neg e
   have hb:Zu (L.getD k v0) (L.getD (k+1) v0):=by
    refine H5 (fun hh=>?_) e
    have:=(List.pairwise_iff_getElem.1 hs) k (k+1) (by omega) h (by omega)
    rw [List.getD_eq_getElem?_getD,List.getD_eq_getElem?_getD,List.getElem?_eq_getElem h,List.getElem?_eq_getElem (show k<L.length by omega)] at hh
    exact this hh
   have hall:∀ y∈Bh L k,Zu y (L.getD (k+1) v0):=fun y hy=>by
    rcases h3 y hy with rfl | g
    ·exact hb
    ·exact Cv g hb
   rw [ec]
   refine ⟨?_,fun x=>?_,fun y hy=>?_⟩
   ·rw [List.pairwise_append]
    exact ⟨h1,List.pairwise_singleton _ _,fun y hy z hz=>by rw [List.mem_singleton.1 hz]; exact hall y hy⟩
   ·rw [List.mem_append,h2 x,ht,List.mem_append]
   ·rcases List.mem_append.1 hy with hy | hy
    ·exact .inr (hall y hy)
    ·exact .inl (List.mem_singleton.1 hy)
theorem PL (a b:PV) (f:FV) (t:V2) (n:Nat):t∈Qt a b f n↔∃ k,k<n∧(GZ a b f k).2=true∧(GZ a b f k).1=t:=by
 rw [← IY,List.any_eq_true]
 constructor
 ·intro h; exact ⟨t,h,by simp⟩
 ·rintro ⟨x,hx,e⟩
  rw [of_decide_eq_true e] at hx
  exact hx
theorem YJ (a b:PV) (f:FV) (n:Nat) (h:0<(Qt a b f n).length):Bh (Bc (Qt a b f n) ((Qt a b f n).length - 1)) ((Qt a b f n).length - 1)=J9 a b f n:=by
 obtain ⟨Q,R,h1,h2,h3,h4⟩:=Mf (Qt a b f n) ((Qt a b f n).length - 1) (by omega)
 have hl:=BQ (Qt a b f n) ((Qt a b f n).length - 1)
 have hR:R=[]:=by
  rw [h1] at hl
  rw [List.length_append,List.length_reverse,h2] at hl
  exact List.eq_nil_of_length_eq_zero (by omega)
 subst hR
 rw [List.append_nil] at h1
 have hs:(Bc (Qt a b f n) ((Qt a b f n).length - 1)).Pairwise fun a b=>¬ Zu b a:=by
  rw [h1,List.pairwise_reverse]; exact h3
 obtain ⟨c1,c2,_⟩:=g9 _ hs ((Qt a b f n).length - 1) (by omega)
 refine WP _ _ c1 (Mm a b f n) fun x=>?_
 rw [c2 x,List.take_of_length_le (by omega),h4 x,PL,AJ]
theorem pP:Ye Tryz.prog 148=true:=by kernel_rfl
theorem Le (L:List V2):∀ k,k<L.length→(∀ j,j<k→L.getD (j+1) v0≠L.getD j v0)→Bh L k=L.take (k+1)
 | 0,h,_=>rfl
 | k+1,h,hn=>by
  unfold Bh
  rw [if_neg (hn k (by omega)),Le L k (by omega) (fun j hj=>hn j (by omega)),← Q3 L v0 (k+1) h]
theorem ga (L:List V2) (k:Nat):Bh L (k+1)=if L.getD (k+1) v0=L.getD k v0 then Bh L k else Bh L k ++ [L.getD (k+1) v0]:=rfl
theorem Pm (C D:List V2) (x:V2) (h:D.length<C.length) (ht:C.take D.length=D):(C.set D.length x).take (D.length+1)=D ++ [x]:=by
 rw [Q3 _ v0 _ (by rw [List.length_set]; exact h),List.take_set_of_le (Nat.le_refl _),ht,List.getD_eq_getElem?_getD,List.getElem?_set_self h]; rfl
theorem Ut (o0 o1 o2 o3 o4 o5 o6 o7:AO) (v:Nat) (L:List V2) (hL:∀ x∈L,vb x≤vm) (hn:L.length<1000) :
  HCall Tryz.prog 136 [.osl 8 v 8 0 L.length,.fn 67 []] [o0,o1,o2,o3,o4,o5,o6,o7,.row v (L.length*8) (Xs vC 8 v0 L)]
   (.osl 8 v 8 0 (Bh L (L.length - 1)).length) [o0,o1,o2,o3,o4,o5,o6,o7,.row v ((Bh L (L.length - 1)).length*8) (Xs vC 8 v0 (Bh L (L.length - 1)))]:=by
 have hat:∀ i,i<L.length→vb (L.getD i v0)≤vm:=fun i hi=>hL _ (QS hi)
 refine HCall.intro (fn:=Tryz.f136) Tryz.call136 Tryz.func136 rfl mixed 8 [] [6,7004,7009,11,12004,12009] [] (by kernel_rfl) (Nat.le_of_ble_eq_true rfl) (Xl ?_)
 by_cases h2:2≤L.length
 rotate_left
 ·have e:Bh L (L.length - 1)=L:=by rw [show L.length - 1=0 by omega]; show L.take 1=L; exact List.take_of_length_le (by omega)
  rw [e]
  simp (disch:=omega) only [AS.start,↓Xu,wG,seval]
  exact M2 rfl rfl rfl
 simp (disch:=omega) only [AS.start,↓Xu,wG,seval]
 refine Xe (fun k:Nat=>⟨8,[],[.osl 8 v 8 0 L.length,.fn 67 [],.any,.any,.any,I (k+1:Nat),.any,.any],[],[o0,o1,o2,o3,o4,o5,o6,o7,.row v (L.length*8) (Xs vC 8 v0 L)]⟩) (fun k=>k+1≤L.length∧∀ j,j<k→L.getD (j+1) v0≠L.getD j v0) (fun k=>L.length - k) 0 ⟨by omega,by omega⟩
  (Jm (by simp [Xf,I]) rfl) ?_
 rintro k ⟨hk,hne⟩ next
 by_cases hk2:k+1<L.length
 rotate_left
 ·have e:Bh L (L.length - 1)=L:=by
   rw [Le L (L.length - 1) (by omega) (fun j hj=>hne j (by omega))]; exact List.take_of_length_le (by omega)
  rw [e]
  refine Xl ?_
  simp (disch:=omega) only [↓Xu,wG,seval]
  exact M2 rfl rfl rfl
 have c:=AW (L.getD (k+1) v0) (L.getD k v0) (hat _ hk2) (hat _ (by omega))
 have a1:=Kg vC 8 v0 L (k+1)
 have a2:=Kv vC 8 v0 L (k+1) (by omega)
 have b1:=Kg vC 8 v0 L k
 have b2:=Kv vC 8 v0 L k (by omega)
 have hj1:(((k+1:Nat):Int) - 1).toNat=k:=by omega
 by_cases he:L.getD (k+1) v0=L.getD k v0
 rotate_left
 ·have nx:=next (k+1)
  rw [decide_eq_false he] at c
  have hne2:∀ j,j<k+1→L.getD (j+1) v0≠L.getD j v0:=fun j hj=>by
   by_cases e:j=k
   ·rw [e]; exact he
   ·exact hne j (by omega)
  generalize L.getD (k+1) v0=x at *
  generalize L.getD k v0=y at *
  refine Xl ?_
  simp (disch:=omega) only [hj1,a1,a2,b1,b2,vC,↓Xu,wG,seval]
  refine X0 c rfl ?_
  simp (disch:=omega) only [↓Xu,wG,seval]
  exact nx _ ⟨by omega,hne2⟩ (by omega) (Jm (by simp [Xf,I]) rfl)
 rw [decide_eq_true he] at c
 have hcm:Bh L k=L.take (k+1):=Le L k (by omega) hne
 have hcm2:Bh L (k+1)=L.take (k+1):=by rw [ga,if_pos he,hcm]
 clear next he
 refine Xl ?_
 generalize hx:L.getD (k+1) v0=x at a1 a2 c
 generalize hy:L.getD k v0=y at b1 b2 c
 simp (disch:=omega) only [hj1,a1,a2,b1,b2,vC,↓Xu,wG,seval]
 refine X0 c rfl ?_
 simp (disch:=omega) only [↓Xu,wG,seval]
 refine Xe (fun p:Nat×List V2=>⟨8,[],[.osl 8 v 8 0 L.length,.fn 67 [],.any,.any,.any,I (Bh L (k+1+p.1)).length,.osl 8 v 8 ((k+1)*8) (L.length - (k+1)),I (p.1+1:Nat)],[],[o0,o1,o2,o3,o4,o5,o6,o7,.row v (L.length*8) (Xs vC 8 v0 p.2)]⟩)
  (fun p=>k+1+p.1<L.length∧p.2.length=L.length∧p.2.take (Bh L (k+1+p.1)).length=Bh L (k+1+p.1)∧(Bh L (k+1+p.1)).length≤k+1+p.1∧∀ i,k+1+p.1≤i→i<L.length→p.2.getD i v0=L.getD i v0) (fun p=>L.length - p.1) (0,L)
  ⟨by show k+1+0<L.length; omega,rfl,by show L.take (Bh L (k+1)).length=Bh L (k+1); rw [hcm2,List.length_take,Nat.min_eq_left (by omega)],by show (Bh L (k+1)).length≤k+1; rw [hcm2,List.length_take]; omega,fun i _ _=>rfl⟩
  (Jm (by simp [Xf,hcm2,I]; omega) rfl) ?_
 clear hcm hcm2 a1 a2 b1 b2 c hx hy
 rintro ⟨q,C⟩ ⟨g1,g2,g3,g4,g5⟩ next
 replace g1:k+1+q<L.length:=g1
 replace g2:C.length=L.length:=g2
 replace g3:C.take (Bh L (k+1+q)).length=Bh L (k+1+q):=g3
 replace g4:(Bh L (k+1+q)).length≤k+1+q:=g4
 replace g5:∀ i,k+1+q≤i→i<L.length→C.getD i v0=L.getD i v0:=g5
 by_cases hq:k+1+q+1<L.length
 rotate_left
 ·have e:k+1+q=L.length - 1:=by omega
  rw [e] at g3 g4
  clear next g5
  simp only [e]
  generalize Bh L (L.length - 1)=D at *
  refine Hv 25 ?_
  simp (disch:=omega) only [pP,↓Xu,wG,seval]
  have hgd:∀ i,i<D.length→C.getD i v0=D.getD i v0:=fun i hi=>by
   have:(C.take D.length)[i]?=C[i]?:=by rw [List.getElem?_take,if_pos hi]
   rw [List.getD_eq_getElem?_getD,List.getD_eq_getElem?_getD,← this,g3]
  refine Run.sub (s':=⟨8,[],[.osl 8 v 8 0 L.length,.any,.any,.any,.any,I D.length,.any,.any],[],[o0,o1,o2,o3,o4,o5,o6,o7,.row v (D.length*8) (Xs vC 8 v0 D)]⟩) ?_ (Sub.trans (Qr 8 (D.length*8) (Xs vC 8 v0 D) rfl (by omega) (fun j hj=>by
   unfold MY Xs
   rw [if_neg (by omega),hgd (j / 8) (by omega)])) (Jm (by simp [Xf,I]) (by simp)))
  refine Xl ?_
  simp (disch:=omega) only [↓Xu,wG,seval]
  exact M2 rfl rfl rfl
 have s1:Bh L (k+1+(q+1))=if L.getD (k+1+q+1) v0=L.getD (k+1+q) v0 then Bh L (k+1+q) else Bh L (k+1+q) ++ [L.getD (k+1+q+1) v0]:=rfl
 have c:=AW (L.getD (k+1+q+1) v0) (L.getD (k+1+q) v0) (hat _ hq) (hat _ g1)
 have a1:∀ r,r<8→Xs vC 8 v0 C ((k+1)*8+(q+1)*8+r)=(vC (L.getD (k+1+q+1) v0)).getD r .any:=fun r hr=>by
  rw [show (k+1)*8+(q+1)*8+r=(k+1+q+1)*8+r by omega,Kg _ _ _ _ _ _ hr,g5 _ (by omega) hq]
 have a2:Xs vC 8 v0 C ((k+1)*8+(q+1)*8)=(vC (L.getD (k+1+q+1) v0)).getD 0 .any:=a1 0 (by omega)
 have b1:∀ r,r<8→Xs vC 8 v0 C ((k+1)*8+q*8+r)=(vC (L.getD (k+1+q) v0)).getD r .any:=fun r hr=>by
  rw [show (k+1)*8+q*8+r=(k+1+q)*8+r by omega,Kg _ _ _ _ _ _ hr,g5 _ (by omega) g1]
 have b2:Xs vC 8 v0 C ((k+1)*8+q*8)=(vC (L.getD (k+1+q) v0)).getD 0 .any:=b1 0 (by omega)
 have hj2:(((q+1:Nat):Int) - 1).toNat=q:=by omega
 by_cases he:L.getD (k+1+q+1) v0=L.getD (k+1+q) v0
 ·rw [if_pos he] at s1
  rw [decide_eq_true he] at c
  have nx:=next (q+1,C)
  simp only [s1] at nx
  clear next he s1
  generalize L.getD (k+1+q+1) v0=x at *
  generalize L.getD (k+1+q) v0=y at *
  generalize Bh L (k+1+q)=D at *
  refine Xl ?_
  simp (disch:=omega) only [hj2,a1,a2,b1,b2,vC,↓Xu,wG,seval]
  refine X0 c rfl ?_
  simp (disch:=omega) only [↓Xu,wG,seval]
  exact nx _ ⟨by omega,g2,g3,by omega,fun i h1 h2=>g5 i (by omega) h2⟩ (by omega) (Jm (by simp [Xf,I]) rfl)
 rw [if_neg he] at s1
 rw [decide_eq_false he] at c
 have hset:=Pm C (Bh L (k+1+q)) (L.getD (k+1+q+1) v0) (by omega) g3
 have e1:=tA C (Bh L (k+1+q)).length (L.getD (k+1+q+1) v0) (by omega)
 have nx:=next (q+1,C.set (Bh L (k+1+q)).length (L.getD (k+1+q+1) v0))
 simp only [s1] at nx
 have hgd:∀ i,k+1+(q+1)≤i→i<L.length→(C.set (Bh L (k+1+q)).length (L.getD (k+1+q+1) v0)).getD i v0=L.getD i v0:=fun i h1 h2=>by
  rw [List.getD_eq_getElem?_getD,List.getElem?_set_ne (by omega),← List.getD_eq_getElem?_getD]; exact g5 i (by omega) h2
 clear next he s1 g5
 generalize L.getD (k+1+q+1) v0=x at *
 generalize L.getD (k+1+q) v0=y at *
 generalize Bh L (k+1+q)=D at *
 refine Xl ?_
 simp (disch:=omega) only [hj2,a1,a2,b1,b2,vC,↓Xu,wG,seval]
 refine X0 c rfl ?_
 simp (disch:=omega) only [hj2,a1,a2,b1,b2,vC,↓Xu,wG,seval]
 exact nx _ ⟨by omega,by rw [List.length_set]; exact g2,by rw [List.length_append,List.length_singleton]; exact hset,by rw [List.length_append,List.length_singleton]; omega,hgd⟩ (by omega) (Jm (by simp [Xf,I]) (by rw [← e1]; rfl))
def Zl (p:PV):AV:=.ptr 25 (Xn (XG p)) 0
theorem QT (p:PV):Zl p=.ptr 25 (Xn (XG p)) 0:=nrfl rfl
theorem Ke (p:PV):Settled (Zl p):=J0 fun j hj=>Xb (Xy p) j
theorem Pi (a b:PV):Fn Tryz.prog 131 [QP a,QP b] (.fn 197 [Zl a,Zl b]):=by
 refine Fr Tryz.call131 Tryz.func131 5 [] [] [] ?_
 simp (disch:=omega) only [AS.start,QP,XG,↓Xu,wG,seval]
 refine Bm rfl (Cg ⟨Za (.inl rfl) (by omega) fun j hj=>?_,Za (.inl rfl) (by omega) fun j hj=>?_,trivial⟩)
 ·exact (Xb (Xy a) j).sees _
 ·exact (Xb (Xy b) j).sees _
theorem HY (f:Nat→AV) (t:Bool):Settled (.sl 0 0 f t):=J8 fun j hj=>absurd hj (Nat.not_lt_zero j)
def uZ (i j k:Nat):List AV:=[I 0,I 1,I i,I j,I k] ++ (XP ++ (XP ++ XP))
theorem T2 (i j k:Nat):∀ x∈uZ i j k,Settled x:=by simp [uZ,XP,X9,X2,HY]
theorem LH (g:Nat→List FV) (h:∀ k,(g k).length≤(g (k+1)).length) {k k':Nat} (hk:k≤k'):(g k).length≤(g k').length:=by
 induction hk with
 | refl=>exact Nat.le_refl _
 | step _ ih=>exact Nat.le_trans ih (h _)
theorem ov (a b:PV) (e:Rat) {i j k:Nat} (hi:i<a.rim.length) (hj:j<b.rim.length) (hk:k≤min a.rim.length b.rim.length - 1):(JK a b e i ++ K0 a b e i j ++ Kp a b e i j k).length≤(BU a b e).length:=by
 have h1:=LH (Kp a b e i j) (fun k=>by show _≤(Kp a b e i j k ++ _).length; simp) hk
 have h2:=LH (K0 a b e i) (fun k=>by show _≤(K0 a b e i k ++ _).length; simp) (show j+1≤b.rim.length by omega)
 have h3:=LH (JK a b e) (fun k=>by show _≤(JK a b e k ++ _).length; simp) (show i+1≤a.rim.length by omega)
 have e2:(K0 a b e i (j+1)).length=(K0 a b e i j).length+(Kp a b e i j (min a.rim.length b.rim.length - 1)).length:=by show (K0 a b e i j ++ _).length=_; rw [List.length_append]
 have e3:(JK a b e (i+1)).length=(JK a b e i).length+(K0 a b e i b.rim.length).length:=by show (JK a b e i ++ _).length=_; rw [List.length_append]
 have e4:(BU a b e).length=(JK a b e a.rim.length).length:=rfl
 rw [List.length_append,List.length_append]
 omega
theorem Mh (a b:PV) (e:Rat) (t:Tok) (m:Nat) (Hs:List FV→List AO) (la:a.rim.length≤1000) (lb:b.rim.length≤1000) (ha:0<a.rim.length) (hb:0<b.rim.length) (hHs:∀ D,Pt m (Hs D)) (hce:t.ce.H.length≤m)
  (hy:∀ i j k D,i<a.rim.length→j<b.rim.length→k+1<min a.rim.length b.rim.length→D.length≤(BU a b e).length→YCall Tryz.prog t [.agg (uZ i j (k+1))] (Hs D) (.bool true) (Hs (D ++ Do a b e i j (k+1)))) :
  ICall Tryz.prog t 197 [.yld t.l,Zl a,Zl b] (Hs []) (Hs (BU a b e)):=by
 refine ICall.intro (fn:=Tryz.f197) Tryz.call197 Tryz.func197 rfl mixed 9 [15,16,19,20] [] [] (by kernel_rfl) (Nat.le_of_ble_eq_true rfl) (by rw [(hHs []).1]; exact hce) (by rw [(hHs []).1]; exact fun o ho=>((hHs _).2 o ho).1) (Xl ?_)
 simp (disch:=omega) only [AS.start,QT,XG,Xd,↓Xu,wG,seval]
 refine Xe (fun i:Nat=>⟨9,[15,16,19,20],[.yld t.l,Zl a,Zl b,.any,I a.rim.length,I b.rim.length,.any,.any,.any],[(15,I a.rim.length),(16,I i)],Hs (JK a b e i)⟩) (fun i=>i≤a.rim.length) (fun i=>a.rim.length - i) 0 (by omega)
  (Xi rfl (by simp [Xf,QT,XG,Xd,Xm,X3,I]) (by simp [Xq,Xw,I]) (by simp [JK])) ?_
 intro i hi next
 by_cases hi2:i<a.rim.length
 rotate_left
 ·obtain rfl:i=a.rim.length:=by omega
  refine Xl ?_
  simp (disch:=omega) only [QT,↓Xu,wG,seval]
  exact sT rfl (by show (Hs _).take (Hs []).length=_; rw [(hHs []).1,← (hHs (JK a b e a.rim.length)).1,List.take_length]; rfl)
 refine Xl ?_
 simp (disch:=omega) only [QT,↓Xu,wG,seval]
 refine Xe (fun j:Nat=>⟨9,[15,16,19,20],[.yld t.l,Zl a,Zl b,.any,I a.rim.length,I b.rim.length,I i,.any,.any],[(19,I b.rim.length),(20,I j),(15,I a.rim.length),(16,I i)],Hs (JK a b e i ++ K0 a b e i j)⟩) (fun j=>j≤b.rim.length) (fun j=>b.rim.length - j) 0 (by omega)
  (Xi rfl (by simp [Xf,QT,I]) (by simp [Xq,Xw,I]) (by simp [K0])) ?_
 intro j hj next2
 by_cases hj2:j<b.rim.length
 rotate_left
 ·obtain rfl:j=b.rim.length:=by omega
  refine Xl ?_
  simp (disch:=omega) only [QT,↓Xu,wG,seval]
  exact next (i+1) _ (by omega) (by omega) (Xi rfl (by simp [Xf,QT,I]) (by simp [Xq,Xw,I]) (by simp [JK]))
 clear next
 have nx2:=next2 (j+1)
 rw [show K0 a b e i (j+1)=K0 a b e i j ++ Kp a b e i j (min a.rim.length b.rim.length - 1) from rfl,← List.append_assoc] at nx2
 have hpre:=fun k hk=>ov a b e (k:=k) hi2 hj2 hk
 generalize JK a b e i ++ K0 a b e i j=D at *
 clear next2
 refine Xl ?_
 simp (disch:=omega) only [QT,↓Xu,wG,seval]
 refine Xe (fun k:Nat=>⟨9,[15,16,19,20],[.yld t.l,Zl a,Zl b,.any,I a.rim.length,I b.rim.length,I i,I j,I (k+1:Nat)],[(19,I b.rim.length),(20,I j),(15,I a.rim.length),(16,I i)],Hs (D ++ Kp a b e i j k)⟩) (fun k=>k≤min a.rim.length b.rim.length - 1) (fun k=>min a.rim.length b.rim.length - k) 0 (by omega)
  (Xi rfl (by simp [Xf,QT,I]) (by simp [Xq,Xw,I]) (by simp [Kp])) ?_
 intro k hk next3
 by_cases hk2:k+1<min a.rim.length b.rim.length
 rotate_left
 ·obtain rfl:k=min a.rim.length b.rim.length - 1:=by omega
  refine Xl ?_
  simp (disch:=omega) only [QT,↓Xu,wG,seval]
  exact nx2 _ (by omega) (by omega) (Xi rfl (by simp [Xf,QT,I]) (by simp [Xq,Xw,I]) (by simp))
 have nx3:=next3 (k+1)
 rw [show Kp a b e i j (k+1)=Kp a b e i j k ++ Do a b e i j (k+1) from rfl,← List.append_assoc] at nx3
 have hE:=hpre k (by omega)
 clear hpre
 generalize D ++ Kp a b e i j k=E at *
 obtain ⟨q1,q2⟩:=hHs E
 obtain ⟨q3,q4⟩:=hHs (E ++ Do a b e i j (k+1))
 refine Xl ?_
 simp (disch:=omega) only [QT,↓Xu,wG,seval]
 refine CS (t:=t) (H1:=Hs E) (H1':=Hs (E ++ Do a b e i j (k+1))) (rest:=[]) rfl rfl (List.mem_singleton.2 rfl) (hy i j k E hi2 hj2 hk2 hE) (List.append_nil _).symm (q3.trans q1.symm) (by rw [q1]; exact hce) ?_ (by rw [q1]; exact fun o ho=>(q2 o ho).1) (fun o ho=>(q2 o ho).2.1) (fun o ho=>(q4 o ho).2.1) (QX (fun o ho=>(q2 o ho).2.2) (fun o ho=>(q4 o ho).2.2)) ⟨?_,trivial⟩ ?_
 ·intro x hx
  rw [List.mem_singleton.1 hx]
  exact X5 (Qn (T2 _ _ _))
 ·exact Weak.rfl' _
 simp (disch:=omega) only [QT,↓Xu,wG,seval]
 exact nx3 _ (by omega) (by omega) (Xi rfl (by simp [Xf,QT,I]) (by simp [Xq,Xw,I]) (by simp))
def HH (p:FV→Bool) (s:List FV):Int:=if s.any p=true then (s.findIdx p:Nat) else -1
theorem Lv {s:List FV} {j:Nat} (h:j<s.length):s.getD j fv0∈s:=by
 rw [List.getD_eq_getElem?_getD,List.getElem?_eq_getElem h]; exact List.getElem_mem h
theorem aU {p:FV→Bool} {s:List FV} {j:Nat} (hj:j<s.length) (h:p (s.getD j fv0)=true) (hno:∀ i,i<j→p (s.getD i fv0)=false):HH p s=j:=by
 have at_:∀ i (hi:i<s.length),s.getD i fv0=s[i]:=fun i hi=>by rw [List.getD_eq_getElem?_getD,List.getElem?_eq_getElem hi]; rfl
 have e:s.findIdx p=j:=by
  rw [List.findIdx_eq hj]
  exact ⟨by rw [← at_ j hj]; exact h,fun i hi=>by rw [← at_ i (by omega)]; exact hno i hi⟩
 unfold HH
 rw [if_pos (List.any_eq_true.2 ⟨_,Lv hj,h⟩),e]
theorem UL {p:FV→Bool} {s:List FV} (hno:∀ i,i<s.length→p (s.getD i fv0)=false):HH p s = -1:=by
 unfold HH
 rw [if_neg]
 intro h
 obtain ⟨x,hx,hp⟩:=List.any_eq_true.1 h
 obtain ⟨i,hi,rfl⟩:=List.getElem_of_mem hx
 have:=hno i hi
 rw [List.getD_eq_getElem?_getD,List.getElem?_eq_getElem hi] at this
 simp only [Option.getD_some] at this
 rw [this] at hp; cases hp
theorem Nt (p:FV→Bool) (s:List FV):decide (0≤HH p s)=s.any p:=by
 unfold HH
 cases h:s.any p
 ·simp
 ·rw [if_pos rfl]; exact decide_eq_true (by omega)
theorem UF (s:List FV) (f:FuncId) (caps:List AV) (p:FV→Bool) (hl:s.length<1000000) (hc:∀ a∈caps,Settled a) (hp:∀ x∈s,Fn Tryz.prog f ([Jz x] ++ caps) (.bool (p x))) :
  Fn Tryz.prog 204 [G8 s,.fn f caps] (I (HH p s)):=by
 refine Fn.intro (fn:=Tryz.f204) Tryz.call204 Tryz.func204 rfl mixed 6 [6,7,8] [] [] (by kernel_rfl) (Nat.le_of_ble_eq_true rfl) (by simpa [Kb] using Jq hc) (Xl ?_)
 simp (disch:=omega) only [AS.start,XH,↓Xu,wG,seval]
 refine Xe (fun j:Nat=>⟨6,[6,7,8],[G8 s,.fn f caps,.any,.any,.any,.any],[(6,G8 s),(7,I s.length),(8,I j)],[]⟩) (fun j=>j≤s.length∧∀ i,i<j→p (s.getD i fv0)=false) (fun j=>s.length - j) 0 ⟨by omega,by omega⟩
  (Xi rfl (by simp [Xf,XH,I]) (by simp [Xq,Xw,XH,I]) rfl) ?_
 rintro j ⟨hj,hno⟩ next
 by_cases hj2:j<s.length
 ·have v1:=fF s j
  have v2:=rU s j
  refine Xl ?_
  simp (disch:=omega) only [XH,v1,v2,XJ,↓Xu,wG,seval]
  refine XW (hp _ (Lv hj2)) (XZ _) ?_
  simp (disch:=omega) only [↓Xu,wG,seval]
  refine QU (fun ht=>Xt (v:=I j) rfl rfl (X9 _) ?_) (fun hf=>next (j+1) _ ⟨by omega,KJ.2 ⟨hno,hf⟩⟩ (by omega) (Xi rfl (by simp [Xf,XH,I]) (by simp [Xq,Xw,XH,I]) rfl))
  rw [aU hj2 ht hno]
 ·refine Xl ?_
  simp (disch:=omega) only [XH,↓Xu,wG,seval]
  refine Xt (v:=I (-1)) rfl rfl (X9 _) ?_
  rw [UL fun i hi=>hno i (by omega)]
theorem MQ (s:List FV) (f:FuncId) (caps:List AV) (p:FV→Bool) (hl:s.length<1000000) (hc:∀ a∈caps,Settled a) (hp:∀ x∈s,Fn Tryz.prog f ([Jz x] ++ caps) (.bool (p x))) :
  Fn Tryz.prog 139 [G8 s,.fn f caps] (.bool (s.any p)):=by
 have hi:=Nt p s
 refine Fn.intro (fn:=Tryz.f139) Tryz.call139 Tryz.func139 rfl mixed 5 [] [] [] (by kernel_rfl) (Nat.le_of_ble_eq_true rfl) (by simpa [Kb] using Jq hc) (Xl ?_)
 simp (disch:=omega) only [AS.start,↓Xu,wG,seval]
 refine X0 (UF s f caps p hl hc hp) rfl ?_
 simp (disch:=omega) only [↓Xu,wG,seval]
 exact Xt (v:=.bool (decide (0≤HH p s))) rfl rfl (X2 _) (by rw [Nt])
theorem aK (a b:PV) (f g:FV) (ha:0<a.rim.length∧a.rim.length<1000000) (hb:0<b.rim.length∧b.rim.length<1000000) (nf:f.near) (ng:g.near) (hf:vb f.turn≤vm) (hg:vb g.turn≤vm) :
  Fn Tryz.prog 140 ([Jz g] ++ [pZ f,Zl a,Zl b]) (.bool (decide (EZ a.rim.length b.rim.length f g))):=by
 obtain ⟨V,hV⟩:∃ V,V=decide (EZ a.rim.length b.rim.length f g):=⟨_,rfl⟩
 rw [← hV]
 replace hV:=(Bool.eq_iff_iff.1 hV).trans decide_eq_true_iff
 have fin:∀ {s:AS} {v:Bool},s.get 5=.bool v→v=V→RetOk (QJ Tryz.prog Tryz.f140 [2,30000004] [] (.bool V)) s:=fun h e=>Xt rfl h (X2 _) (by rw [e])
 obtain ⟨f1,f2,f3⟩:=nf
 obtain ⟨g1,g2,g3⟩:=ng
 have d0:=Int.emod_nonneg (f.EA - g.EA) (show (a.rim.length:Int)≠0 by omega)
 have d1:=Int.emod_lt_of_pos (f.EA - g.EA) (show (0:Int)<a.rim.length by omega)
 have c1:=Z4 (f.EA - g.EA) a.rim.length ha.1 (by omega) (by omega)
 have c2:=Z4 (g.EB - (f.EA - g.EA) % a.rim.length) b.rim.length hb.1 (by omega) (by omega)
 have c3:=AW f.turn g.turn hf hg
 unfold EZ at hV
 generalize (f.EA - g.EA) % (a.rim.length:Int)=d at *
 generalize (g.EB - d) % (b.rim.length:Int)=r at *
 refine Fq Tryz.call140 Tryz.func140 7 [] [2,30000004] [] (by simp [Ka,Ch,Ke]) (Xl ?_)
 simp (disch:=omega) only [AS.start,QT,pZ,XG,Xd,Jz,XJ,List.cons_append,List.nil_append,↓Xu,wG,seval]
 refine X0 c1 rfl ?_
 by_cases h1:f.M<g.M
 rotate_left
 ·simp (disch:=omega) only [↓Xu,wG,seval]
  exact fin rfl (vN hV (fun hh=>h1 hh.1))
 by_cases h2:d+f.M≤g.M
 rotate_left
 ·simp (disch:=omega) only [↓Xu,wG,seval]
  exact fin rfl (vN hV (fun hh=>h2 hh.2.1))
 simp (disch:=omega) only [↓Xu,wG,seval]
 refine X0 c2 rfl ?_
 by_cases h3:r=f.EB
 rotate_left
 ·simp (disch:=omega) only [↓Xu,wG,seval]
  exact fin rfl (vN hV (fun hh=>h3 hh.2.2.1))
 simp (disch:=omega) only [↓Xu,wG,seval]
 refine X0 c3 rfl ?_
 simp (disch:=omega) only [↓Xu,wG,seval]
 exact fin rfl (vI hV ⟨fun hh=>hh.2.2.2,fun hh=>⟨h1,h2,h3,hh⟩⟩)
def UE (W:List FV):AV:=.ptr 1 (Xn [G8 W]) 0
theorem G3 (W:List FV):UE W=.ptr 1 (Xn [G8 W]) 0:=nrfl rfl
theorem Di (W:List FV):Settled (UE W):=J0 fun j hj=>by
 obtain rfl:j=0:=by omega
 exact Kb W
theorem gU (a b:PV) (f:FV) (W:List FV) (ha:0<a.rim.length∧a.rim.length<1000000) (hb:0<b.rim.length∧b.rim.length<1000000) (hW:W.length<1000000) (nf:f.near) (hf:vb f.turn≤vm) (hall:∀ g∈W,g.near∧vb g.turn≤vm) :
  Fn Tryz.prog 138 ([Jz f] ++ [UE W,Zl a,Zl b]) (.bool (Ex a.rim.length b.rim.length W f)):=by
 have c:=MQ W 140 [pZ f,Zl a,Zl b] (fun g=>decide (EZ a.rim.length b.rim.length f g)) hW (by simp [Ch,Ke]) (fun g hg=>aK a b f g ha hb nf (hall g hg).1 hf (hall g hg).2)
 change Fn _ _ _ (.bool (Ex a.rim.length b.rim.length W f)) at c
 generalize Ex a.rim.length b.rim.length W f=V at *
 refine Fq Tryz.call138 Tryz.func138 6 [] [] [] (by simp [Ka,Di,Ke]) (Xl ?_)
 simp (disch:=omega) only [AS.start,G3,QT,XH,Jz,XJ,List.cons_append,List.nil_append,↓Xu,wG,seval]
 refine JS c rfl ⟨(Kb W).sees _,Cg ⟨?_,(Ke a).sees _,(Ke b).sees _,trivial⟩,trivial⟩ (Ay _) ?_
 ·exact Za (.inl rfl) (by omega) fun j hj=>(Xb (XN f) j).sees _
 simp (disch:=omega) only [↓Xu,wG,seval]
 exact Xt rfl rfl (X2 _) rfl
def Z1 (a b:PV) (D:List FV):List AO:=[.row 0 25 (Xn (XG a)),.row 0 25 (Xn (XG b)),.row 0 1 (Xn [.osl 3 D.length 29 0 D.length]),.row D.length (D.length*29) (Xs XJ 29 fv0 D)]
theorem YG (a b:PV) (D:List FV):Z1 a b D=[.row 0 25 (Xn (XG a)),.row 0 25 (Xn (XG b)),.row 0 1 (Xn [.osl 3 D.length 29 0 D.length]),.row D.length (D.length*29) (Xs XJ 29 fv0 D)]:=nrfl rfl
theorem GY (a b:PV) (D:List FV) (m:Nat) (h:4≤m):∀ o∈Z1 a b D,XI m o:=fun o ho=>by
 simp only [Z1,List.mem_cons,List.not_mem_nil,or_false] at ho
 rcases ho with rfl | rfl | rfl | rfl
 ·exact XD (Xy a)
 ·exact XD (Xy b)
 ·intro j hj
  obtain rfl:j=0:=by omega
  exact Il (by omega)
 ·exact fun j _=>X5 (Xb (XN _) _)
theorem PH (a b:PV) (D:List FV):Pt 4 (Z1 a b D):=⟨rfl,fun o ho=>⟨GY a b D 4 (by omega) o ho,by
 simp only [Z1,List.mem_cons,List.not_mem_nil,or_false] at ho
 rcases ho with rfl | rfl | rfl | rfl <;> simp⟩⟩
def tM (i j k:Nat):List AV:=[I 0,I 1,I i,I j,I k] ++ (Zt ++ (Zt ++ Zt))
theorem T3 (i j k:Nat):∀ x∈tM i j k,Settled x:=by simp [tM,Zt,X9,X2,HY]
theorem Us (a b:PV) (f:FV) (n:Nat):Bh (Bc (Qt a b f n) ((Qt a b f n).length - 1)) ((Bc (Qt a b f n) ((Qt a b f n).length - 1)).length - 1)=J9 a b f n:=by
 rw [BQ]
 by_cases h:0<(Qt a b f n).length
 ·exact YJ a b f n h
 have e:Qt a b f n=[]:=List.eq_nil_of_length_eq_zero (by omega)
 have e2:J9 a b f n=[]:=by
  refine List.eq_nil_iff_forall_not_mem.2 fun x hx=>?_
  have:x∈Qt a b f n:=(PL a b f x n).2 ((AJ a b f x n).1 hx)
  rw [e] at this; cases this
 rw [e,e2]; rfl
theorem gT (a b:PV) {ta tb:Rat} (ha:GP a ta) (hb:GP b tb):Fn Tryz.prog 50 [QP a,QP b] (G8 (G5 a b (ta+tb))):=by
 have la:=(JV _ ha.poly).1
 have lb:=(JV _ hb.poly).1
 simp only [Xz,List.length_map] at la lb
 have cs:=Pi a b
 obtain ⟨e,hT⟩:∃ e,e=ta+tb:=⟨_,rfl⟩
 rw [← hT]
 refine Fr Tryz.call50 Tryz.func50 15 [18,32,33,34,63,64,65] [] [5,6,7] ?_
 simp (disch:=omega) only [AS.start,QP,XG,↓Xu,wG,seval]
 refine X0 cs rfl ?_
 simp (disch:=omega) only [XG,↓Xu,wG,seval]
 refine Run.sub (s':=⟨15,[18,32,33,34,63,64,65],[.any,.any,.ref 0 0 0,.ref 1 0 0,.any,.ref 2 0 0,.any,.any,.any,.any,.any,.any,.any,.any,.any],[(17,.fn 197 [Zl a,Zl b])],Z1 a b []⟩) ?_
  ((Qr 2 1 (fun _=>.sl 0 0 (fun _=>.any) true) rfl (Nat.le_refl _) (fun j hj=>by have e:j=0:=Nat.lt_one_iff.1 hj; subst e; rfl)).trans ((BR 2 29 (Xs XJ 29 fv0 []) rfl 1 (Nat.le_refl _)).trans ((Qr 2 1 (Xn [.osl 3 0 29 0 0]) rfl (Nat.le_refl _) (fun j hj=>by have e:j=0:=Nat.lt_one_iff.1 hj; subst e; rfl)).trans (Xi rfl (by simp [Xf]) (by simp [Xq,Xw,QT,XG,Xd,Xm,X3,I]) (by simp [Z1,XG,Xd,Xm,X3,I])))))
 have hlenA:=IW a b e la.2 lb.2 (by omega) (by omega)
 refine F4 (gf:=197) (caps:=[Zl a,Zl b]) (Hn:=Z1 a b (BU a b e)) rfl rfl rfl (fun t ht=>?_) ?_
 ·have hce:t.ce.H.length≤4:=by rw [ht.ch]; exact Nat.le_refl _
  refine Mh a b e t 4 (fun D=>Z1 a b D) (by omega) (by omega) (by omega) (by omega) (fun D=>PH a b D) hce fun i j k D hi hj hk hD=>?_
  have hst:∀ t lo hi,Zd a.rim.length b.rim.length ⟨0,1,i,j,(k+1:Nat),t,lo,hi⟩:=fun t lo hi=>⟨⟨by show (0:Int)≤i; omega,by show (i:Int)<_; omega⟩,⟨by show (0:Int)≤j; omega,by show (j:Int)<_; omega⟩,by show (1:Int)≤((k+1:Nat):Int); omega,by show ((k+1:Nat):Int)<_; omega,by show ((k+1:Nat):Int)<_; omega⟩
  have cp:=HN a b (QD i j (k+1) v0) (hst _ _ _) ha.even hb.even
  have wf:=Oa i j (k+1)
  have hfk:Do a b e i j (k+1)=if Dy a b (QD i j (k+1) v0) then ZE a b e i j (k+1) (J9 a b (QD i j (k+1) v0) (k+1)) else []:=rfl
  rw [hfk]
  refine Ek (str:=[]) (hcs:=[5,6,7]) ht mixed (by kernel_rfl) (by kernel_rfl) rfl (fun p hp=>?_) (fun o ho=>((PH a b _).2 o ho).1) (fun l r hr=>?_)
  ·have hp':p=18:=by simpa using hp
   subst hp'
   exact Nat.le_of_ble_eq_true rfl
  show Run _ _ ⟨15,[18,32,33,34,63,64,65],[.any,.any,.ref 0 0 0,.ref 1 0 0,.any,.ref 2 0 0,.any,.any,.any,.any,.any,.any,.any,.any,.any],[(18,.agg (uZ i j (k+1))),(17,.fn 197 [Zl a,Zl b])],Z1 a b D⟩
  refine Xl ?_
  simp (disch:=omega) only [YG,QT,uZ,XP,List.cons_append,List.nil_append,↓Xu,wG,seval]
  refine Fj hr ?_
  refine Xl ?_
  simp (disch:=omega) only [XG,↓Xu,wG,seval]
  refine XW cp ⟨Weak.rfl' _,Weak.rfl' _,XO wf,trivial⟩ ?_
  by_cases hp:Dy a b (QD i j (k+1) v0)
  rotate_left
  ·rw [if_neg hp,List.append_nil]
   simp (disch:=omega) only [decide_eq_false hp,↓Xu,wG,seval]
   exact oJ rfl
  rw [if_pos hp]
  simp (disch:=omega) only [decide_eq_true hp,↓Xu,wG,seval]
  have hZ:=GY a b D
  have cA:=PM (.row 0 25 (Xn (XG a))) (.row 0 25 (Xn (XG b))) (.row 0 1 (Xn [.osl 3 D.length 29 0 D.length])) (.row D.length (D.length*29) (Xs XJ 29 fv0 D)) (.row 0 29 (Xn (tM i j (k+1)))) (fun m hm=>hZ m (by omega) _ (by simp [Z1])) (fun m hm=>hZ m (by omega) _ (by simp [Z1])) (fun m hm=>hZ m (by omega) _ (by simp [Z1])) (fun m hm=>hZ m (by omega) _ (by simp [Z1])) (fun m hm=>XD (T3 i j (k+1))) a b (QD i j (k+1) v0) (hst _ _ _) ha.even hb.even
  rw [show (QD i j (k+1) v0).M.toNat=k+1 from rfl] at cA
  have hAl:=DD a b (QD i j (k+1) v0) (k+1)
  have hAs:=Fd a b (QD i j (k+1) v0) ha.even.near hb.even.near (k+1)
  have hct:=Us a b (QD i j (k+1) v0) (k+1)
  have hsm:=Bo a b (QD i j (k+1) v0) ha.even.near hb.even.near (k+1)
  have hlen:=BT a b (QD i j (k+1) v0) (k+1)
  have hcm2:=W1 (Bc (Qt a b (QD i j (k+1) v0) (k+1)) ((Qt a b (QD i j (k+1) v0) (k+1)).length - 1))
  generalize Qt a b (QD i j (k+1) v0) (k+1)=A at *
  generalize J9 a b (QD i j (k+1) v0) (k+1)=L at *
  have hu8:∀ o∈[AO.row 0 25 (Xn (XG a)),.row 0 25 (Xn (XG b)),.row 0 1 (Xn [.osl 3 D.length 29 0 D.length]),.row D.length (D.length*29) (Xs XJ 29 fv0 D),.row 0 29 (Xn (tM i j (k+1))),.dead,.dead,.dead],o≠AO.unborn:=by simp
  have cS:=oX (.row 0 25 (Xn (XG a))) (.row 0 25 (Xn (XG b))) (.row 0 1 (Xn [.osl 3 D.length 29 0 D.length])) (.row D.length (D.length*29) (Xs XJ 29 fv0 D)) (.row 0 29 (Xn (tM i j (k+1)))) .dead .dead .dead hu8 A.length A (fun x hx=>by have:=hAs x hx; unfold vm; omega) (by omega)
  have hSl:=BQ A (A.length - 1)
  have hSm:∀ x∈Bc A (A.length - 1),vb x≤vm:=fun x hx=>by
   by_cases h0:0<A.length
   ·have:=hAs x (Me A (A.length - 1) (by omega) x hx); unfold vm; omega
   ·rw [List.eq_nil_of_length_eq_zero (show (Bc A (A.length - 1)).length=0 by omega)] at hx; cases hx
  have cC:=Ut (.row 0 25 (Xn (XG a))) (.row 0 25 (Xn (XG b))) (.row 0 1 (Xn [.osl 3 D.length 29 0 D.length])) (.row D.length (D.length*29) (Xs XJ 29 fv0 D)) (.row 0 29 (Xn (tM i j (k+1)))) .dead .dead .dead A.length (Bc A (A.length - 1)) hSm (by omega)
  rw [hct] at cC
  rw [hSl] at cC
  generalize Bc A (A.length - 1)=S at *
  refine KP rfl cA (QX (by simp) (by simp)) (fun id hh=>absurd (List.mem_of_getElem? hh) (by simp)) ⟨Weak.rfl' _,Weak.rfl' _,XO wf,trivial⟩ ?_
  simp (disch:=omega) only [↓Xu,wG,seval]
  refine KP rfl cS (QX (by simp) (by simp)) (fun id hh=>absurd (List.mem_of_getElem? hh) (by simp)) (XZ _) ?_
  simp (disch:=omega) only [↓Xu,wG,seval]
  refine KP rfl cC (QX (by simp) (by simp)) (fun id hh=>absurd (List.mem_of_getElem? hh) (by simp)) (XZ _) ?_
  simp (disch:=omega) only [↓Xu,wG,seval]
  have hvc:∀ a:V2,∀ x∈vC a,Settled x:=fun a=>by simp [vC,X6,X2]
  have bAll:∀ (E:List FV) (f:FV),∀ o∈Z1 a b E ++ [.row 0 29 (Xn (XJ f)),.dead,.dead,.dead,.row A.length (L.length*8) (Xs vC 8 v0 L)],XI 9 o:=fun E f o ho=>by
   rcases List.mem_append.1 ho with ho | ho
   ·exact GY a b E 9 (by omega) o ho
   simp only [List.mem_cons,List.not_mem_nil,or_false] at ho
   rcases ho with rfl | rfl | rfl | rfl | rfl
   ·exact XD (XN f)
   ·trivial
   ·trivial
   ·trivial
   ·exact fun j _=>X5 (Xb (hvc _) _)
  refine Xe (fun w:Nat×V2×V2×V2=>⟨15,[18,32,33,34,63,64,65],[.any,.any,.ref 0 0 0,.ref 1 0 0,.any,.ref 2 0 0,.ref 4 0 0,.any,.any,.any,.any,.any,.any,.any,.any],[(32,.osl 8 A.length 8 0 L.length),(33,I L.length),(34,I w.1)],Z1 a b (D ++ ZE a b e i j (k+1) (L.take w.1)) ++ [.row 0 29 (Xn (XJ ⟨0,1,i,j,(k+1:Nat),w.2.1,w.2.2.1,w.2.2.2⟩)),.dead,.dead,.dead,.row A.length (L.length*8) (Xs vC 8 v0 L)]⟩) (fun w=>w.1≤L.length) (fun w=>L.length - w.1) (0,v0,v0,v0) (Nat.zero_le _)
   (Sub.trans (Ef 4 (XJ (QD i j (k+1) v0)) rfl rfl wf) (Xi rfl (by simp [Xf,I]) (by simp [Xq,Xw,I]) (by simp [Z1,XG,Xd,Xm,X3,ZE,QD,I]))) ?_
  rintro ⟨t,T,lo,hi'⟩ ht nextt
  replace ht:t≤L.length:=ht
  by_cases ht2:t<L.length
  rotate_left
  ·obtain rfl:t=L.length:=by omega
   rw [List.take_length] at *
   refine Xl ?_
   simp (disch:=omega) only [Z1,↓Xu,wG,seval]
   exact oJ rfl
  have hx:=hsm (L.getD t v0) (QS ht2)
  have htk:=Lq a b e i j (k+1) L t ht2
  have v1:=Kg vC 8 v0 L t
  have v2:=Kv vC 8 v0 L t (by omega)
  have htl:=Hb a b e i j (k+1) (L.take t)
  rw [List.length_take] at htl
  generalize L.getD t v0=x at *
  have ca:=FN a b ⟨0,1,i,j,(k+1:Nat),x,lo,hi'⟩ ha.even hb.even (by show vb x≤1000; omega) ha.tol hb.tol (by have:=ha.qt; omega) (by have:=hb.qt; omega)
  rw [← hT] at ca
  have hag:Xv a.rim b.rim ⟨0,1,i,j,(k+1:Nat),x,lo,hi'⟩ e=Xv a.rim b.rim (QD i j (k+1) x) e:=rfl
  rw [hag] at ca
  have hqe:qb e≤41:=by rw [hT]; have:=K2 ta tb; have:=ha.qt; have:=hb.qt; omega
  have hfine:(Jx a b (QD i j (k+1) x) e).fine:=by
   obtain ⟨h1,h2⟩:=FO a b (QD i j (k+1) x) ha.even.near hb.even.near e (by show vb x≤60; omega)
   exact ⟨by show vb x≤60; omega,by show vb (Xv a.rim b.rim (QD i j (k+1) x) e).1≤300; omega,by show vb (Xv a.rim b.rim (QD i j (k+1) x) e).2.1≤300; omega⟩
  have cc:=Nh a b _ ha hb hfine
  rw [← hT] at cc
  have hok:G6 a b e i j (k+1) x=((Xv a.rim b.rim (QD i j (k+1) x) e).2.2 && KT a b (Jx a b (QD i j (k+1) x) e) e):=rfl
  have hsf:Jx a b (QD i j (k+1) x) e=⟨0,1,i,j,(k+1:Nat),x,(Xv a.rim b.rim (QD i j (k+1) x) e).1,(Xv a.rim b.rim (QD i j (k+1) x) e).2.1⟩:=rfl
  rw [hok,hsf] at htk
  rw [hsf] at cc
  generalize Xv a.rim b.rim (QD i j (k+1) x) e=G at *
  obtain ⟨g1,g2,ok⟩:=G
  simp only at htk cc ca
  have nx2:=nextt (t+1,x,g1,g2)
  rw [htk,← List.append_assoc] at nx2
  have hDl:(D ++ ZE a b e i j (k+1) (L.take t)).length≤24000+12:=by rw [List.length_append]; omega
  generalize D ++ ZE a b e i j (k+1) (L.take t)=E at *
  generalize KT a b ⟨0,1,i,j,(k+1:Nat),x,g1,g2⟩ e=q at *
  refine Xl ?_
  simp (disch:=omega) only [Z1,vC,XJ,XG,Xd,List.cons_append,List.nil_append,v1,v2,↓Xu,wG,seval]
  refine X0 ca rfl ?_
  cases ok with
  | false =>
   simp only [Bool.false_and,Bool.false_eq_true,if_false,List.append_nil] at nx2
   simp (disch:=omega) only [↓Xu,wG,seval]
   exact nx2 _ (by show t+1≤L.length; omega) (by show L.length - (t+1)<L.length - t; omega) (XE (m:=9) (Nat.le_add_right 4 5) rfl (by simp [Xf,I]) (by simp [Xq,Xw,I]) (by simp [Z1,XG,XJ,Xd,Xm,X3,I,sg]) (by simp [XA]) (by simp [XA]) (bAll _ _))
  | true =>
   simp (disch:=omega) only [↓Xu,wG,seval]
   refine X0 cc rfl ?_
   cases q with
   | false =>
    simp only [Bool.and_false,Bool.false_eq_true,if_false,List.append_nil] at nx2
    simp (disch:=omega) only [↓Xu,wG,seval]
    exact nx2 _ (by show t+1≤L.length; omega) (by show L.length - (t+1)<L.length - t; omega) (XE (m:=9) (Nat.le_add_right 4 5) rfl (by simp [Xf,I]) (by simp [Xq,Xw,I]) (by simp [Z1,XG,XJ,Xd,Xm,X3,I,sg]) (by simp [XA]) (by simp [XA]) (bAll _ _))
   | true =>
    simp only [Bool.and_true,if_true] at nx2
    have hap:=XR XJ 29 fv0 E ⟨0,1,i,j,(k+1:Nat),x,g1,g2⟩ (by omega)
    have hEl:(E ++ [(⟨0,1,i,j,(k+1:Nat),x,g1,g2⟩:FV)]).length=E.length+1:=by simp
    simp (disch:=omega) only [↓Xu,wG,seval]
    refine ⟨Is ⟨0,1,i,j,(k+1:Nat),x,g1,g2⟩,?_⟩
    exact nx2 _ (by show t+1≤L.length; omega) (by show L.length - (t+1)<L.length - t; omega) (XE (m:=9) (Nat.le_add_right 4 5) rfl (by simp [Xf,I]) (by simp [Xq,Xw,I]) (by simp only [Z1,hEl,← hap]; rfl) (by simp [XA]) (by simp [XA]) (bAll _ _))
 have hfin:∀ f∈BU a b e,f.near∧vb f.turn≤vm:=fun f hf=>by
  rw [hT] at hf
  obtain ⟨h1,h2,_⟩:=G7 ha hb hf
  exact ⟨h1,by unfold vm; omega⟩
 have hdef:G5 a b e=(BU a b e).filter fun f=>!Ex a.rim.length b.rim.length (BU a b e) f:=rfl
 rw [hdef]
 clear hdef
 show Run _ _ ⟨15,[18,32,33,34,63,64,65],[.any,.any,.ref 0 0 0,.ref 1 0 0,.any,.ref 2 0 0,.any,.any,.any,.any,.any,.any,.any,.any,.any],[(17,.fn 197 [Zl a,Zl b])],Z1 a b (BU a b e)⟩
 generalize BU a b e=W at *
 refine Run.sub (s':=⟨15,[18,32,33,34,63,64,65],[.any,.any,Zl a,Zl b,.any,UE W,.any,.any,.any,.any,.any,.any,.any,.any,.any],[],[]⟩) ?_
  ((XX 0 rfl).trans ((XX 1 rfl).trans ((XX 3 rfl).trans ((ZM 2 (Xn [G8 W]) rfl (fun j hj=>by
   obtain rfl:j=0:=by omega
   exact Dl (M:=W.length*29) rfl (Nat.le_refl _) (fun h=>by rw [h]) (fun j hj=>QZ _ _))).trans ((XX 2 rfl).trans ((CJ 2 rfl rfl (by omega)).trans ((CJ 3 rfl rfl (by omega)).trans ((CJ 5 rfl rfl (by omega)).trans
   (XE (m:=0) (Nat.zero_le _) rfl (by simp [AS.put,Xf,QT,G3]) (by simp [AS.put,Xq]) (by simp) (by simp [XA,X5 (Ke a),X5 (Ke b),X5 (Di W)]) (by simp [XA]) (by simp))))))))))
 refine Xl ?_
 simp (disch:=omega) only [QT,G3,XH,↓Xu,wG,seval]
 have sCl:Settled (.fn 138 [UE W,Zl a,Zl b]):=Jq (by simp [Di,Ke])
 have bCl:JO 1 (.fn 138 [UE W,Zl a,Zl b])=True:=eq_true (X5 sCl)
 have bW:JO 1 (G8 W)=True:=eq_true (X5 (Kb W))
 have b3:∀ v n l,XI 1 (.row v n (Xs XJ 29 fv0 l))=True:=fun v n l=>eq_true fun j _=>X5 (Xb (XN _) _)
 refine Xe (fun i:Nat=>⟨15,[18,32,33,34,63,64,65],[.any,.any,.any,.any,.any,.any,.any,.any,.any,.any,.any,.fn 138 [UE W,Zl a,Zl b],.osl 0 ((W.take i).filter (fun f=>!Ex a.rim.length b.rim.length W f)).length 29 0 ((W.take i).filter (fun f=>!Ex a.rim.length b.rim.length W f)).length,.any,.any],[(65,I i),(64,I W.length),(63,G8 W)],[.row ((W.take i).filter (fun f=>!Ex a.rim.length b.rim.length W f)).length (((W.take i).filter (fun f=>!Ex a.rim.length b.rim.length W f)).length*29) (Xs XJ 29 fv0 ((W.take i).filter (fun f=>!Ex a.rim.length b.rim.length W f)))]⟩) (fun i=>i≤W.length∧((W.take i).filter (fun f=>!Ex a.rim.length b.rim.length W f)).length≤i) (fun i=>W.length - i) 0 ⟨by omega,by simp⟩
  (Sub.trans (Q5 12 29 (Xs XJ 29 fv0 []) rfl) (Xi rfl (by simp [AS.put,Xf,G3,QT,XH,I]) (by simp [AS.put,Xq,Xw,XH,I]) (by simp [AS.put]))) ?_
 rintro i ⟨hi,hil⟩ next
 by_cases hi2:i<W.length
 rotate_left
 ·obtain rfl:i=W.length:=by omega
  rw [List.take_length]
  refine Xl ?_
  simp (disch:=omega) only [XH,↓Xu,wG,seval]
  exact OL _ rfl rfl rfl
 have nx:=next (i+1)
 rw [Ni _ _ W i hi2] at nx
 generalize (W.take i).filter (fun f=>!Ex a.rim.length b.rim.length W f)=D at *
 obtain ⟨n1,n2⟩:=hfin _ (QS (d:=fv0) hi2)
 have v1:=fF W i
 have v2:=rU W i
 have c:=gU a b (W.getD i fv0) W ⟨by omega,by omega⟩ ⟨by omega,by omega⟩ (by omega) n1 n2 hfin
 generalize W.getD i fv0=f at *
 generalize Ex a.rim.length b.rim.length W f=q at *
 refine Xl ?_
 simp (disch:=omega) only [XH,v1,v2,XJ,↓Xu,wG,seval]
 refine X0 c rfl ?_
 cases q with
 | true =>
  rw [if_pos rfl,List.append_nil] at nx
  simp (disch:=omega) only [XH,↓Xu,wG,seval]
  exact nx _ ⟨by omega,by omega⟩ (by omega) (XE (m:=1) (Nat.zero_le _) rfl (by simp [Xf,I]) (by simp [Xq,Xw,XH,I]) (by simp) (by simp [XA,bCl]) (by simp [XA,bW]) (by simp [b3]))
 | false =>
  rw [if_neg (by decide)] at nx
  have hap:=XR XJ 29 fv0 D f (by omega)
  have hDl:(D ++ [f]).length=D.length+1:=by simp
  simp (disch:=omega) only [XH,↓Xu,wG,seval]
  refine ⟨Is f,nx _ ⟨by omega,by omega⟩ (by omega) (XE (m:=1) (Nat.zero_le _) rfl (by simp [Xf,hDl,I]) (by simp [Xq,Xw,XH,I]) (by simp only [hDl,← hap]; rfl) (by simp [XA,bCl]) (by simp [XA,bW]) (by simp [b3]))⟩
theorem UH {a b:PV} {e:Rat} {f:FV} (h:f∈BU a b e) (ha:0<a.rim.length) (hb:0<b.rim.length):Jx a b f e=f:=by
 obtain ⟨i,j,k,t,hi,hj,k0,kn,km,hp,ht,ho,rfl⟩:=(DB a b e f ha hb).1 h
 rfl
theorem IH {p:PV} {t:Rat} (h:GP p t):0<p.rim.length∧p.rim.length≤12:=by have:=h.poly.1; simp [Xz] at this; omega
structure Fnd (a b:PV) (e:Rat) (L:List FV):Prop where
 len:L.length≤24000
 fine:∀ f∈L,f.fine
 self:∀ f∈L,Jx a b f e=f
 ok:∀ f∈L,Zv a b f e=0
theorem Rt {a b:PV} {ta tb:Rat} (ha:GP a ta) (hb:GP b tb):Fnd a b (ta+tb) (G5 a b (ta+tb)):=by
 have la:=IH ha; have lb:=IH hb
 refine ⟨Nat.le_trans (List.length_filter_le _ _) (IW a b (ta+tb) la.2 lb.2 la.1 lb.1),fun f hf=>?_,fun f hf=>UH (List.mem_filter.1 hf).1 la.1 lb.1,fun f hf=>HA (List.mem_filter.1 hf).1 la.1 lb.1⟩
 obtain ⟨_,h1,h2,h3⟩:=G7 ha hb (List.mem_filter.1 hf).1
 exact ⟨by omega,by omega,by omega⟩
theorem U1 {a b:PV} {e:Rat} {f:FV} (h:f∈BU a b e) (ha:0<a.rim.length) (hb:0<b.rim.length):f.A=0∧f.B=1∧(0≤f.EA∧f.EA<a.rim.length)∧(0≤f.EB∧f.EB<b.rim.length)∧1≤f.M∧f.M<a.rim.length∧f.M<b.rim.length:=by
 obtain ⟨i,j,k,t,hi,hj,k0,kn,km,hp,ht,ho,rfl⟩:=(DB a b e f ha hb).1 h
 refine ⟨rfl,rfl,?_⟩
 show (0≤(i:Int)∧(i:Int)<a.rim.length)∧(0≤(j:Int)∧(j:Int)<b.rim.length)∧1≤(k:Int)∧(k:Int)<a.rim.length∧(k:Int)<b.rim.length
 omega
theorem an {a b:PV} {e:Rat} {f:FV} (h:Zv a b f e=0) (hA:f.A=0) (hB:f.B=1) (ha:0<a.rim.length) (hb:0<b.rim.length):f∈BU a b e:=by
 obtain ⟨h1,h2,h3,⟨h4,h5,h6⟩,h7⟩:=(C4 a b f e).1 h
 obtain ⟨A,B,EA,EB,M,t,lo,hi⟩:=f
 simp only at hA hB
 subst hA hB
 obtain ⟨⟨x1,x2⟩,⟨x3,x4⟩,x5,x6,x7⟩:=h1
 simp only at x1 x2 x3 x4 x5 x6 x7
 obtain ⟨i,rfl⟩:=Int.eq_ofNat_of_zero_le x1
 obtain ⟨j,rfl⟩:=Int.eq_ofNat_of_zero_le x3
 obtain ⟨k,rfl⟩:=Int.eq_ofNat_of_zero_le (show 0≤M by omega)
 simp only at h5 h6
 obtain ⟨k',q1,q2,q3⟩:=h3
 have hs:(⟨0,1,(i:Int),(j:Int),(k:Int),t,lo,hi⟩:FV)=Jx a b (QD i j k t) e:=by
  show _=(⟨0,1,(i:Int),(j:Int),(k:Int),t,(Xv a.rim b.rim (QD i j k t) e).1,(Xv a.rim b.rim (QD i j k t) e).2.1⟩:FV)
  rw [show Xv a.rim b.rim (QD i j k t) e=Xv a.rim b.rim ⟨0,1,(i:Int),(j:Int),(k:Int),t,lo,hi⟩ e from rfl,h5,h6]
 refine (DB a b e _ ha hb).2 ⟨i,j,k,t,by omega,by omega,by omega,by omega,by omega,h2,?_,?_,hs⟩
 ·rw [AJ]
  exact ⟨k',by simpa using q1,q2,q3⟩
 ·unfold G6
  rw [Bool.and_eq_true,← hs]
  exact ⟨h4,h7⟩
def Cm (R:List (Int×Int)):PV:=⟨0,0,R,List.replicate R.length false,List.replicate R.length 0,RQ.of 0,RQ.of (Rat.divInt 1 1),RQ.of (Rat.divInt 1 1),RQ.of (Rat.divInt 1 1),RQ.of 0⟩
theorem LM (R:List (Int×Int)) (hR:R.length<1000000):Fn Tryz.prog 130 [Dz R] (QP (Cm R)):=by
 have o1:=QV 1 1 ⟨by omega,by omega⟩ ⟨by omega,by omega⟩
 obtain ⟨V,hV⟩:∃ V,V=QP (Cm R):=⟨_,rfl⟩
 have sV:Settled V:=hV▸Je _
 rw [← hV]
 unfold Cm at hV
 generalize Rat.divInt 1 1=q1 at *
 refine Fr Tryz.call130 Tryz.func130 4 [] [2,30000003] [] ?_
 simp (disch:=omega) only [AS.start,Xd,↓Xu,wG,seval]
 refine X0 o1 rfl ?_
 simp (disch:=omega) only [Xd,↓Xu,wG,seval]
 subst hV
 have h2:∀ (H:List AO),H[2]?=some (.row 0 R.length fun _=>.bool false)→JR H (.osl 2 0 1 0 R.length) (A9 (List.replicate R.length false)):=fun H ho=>by
  rw [Xm,List.length_replicate]
  refine Qx (.inl ho) (by omega) (fun h=>by rw [h]) fun j hj=>?_
  rw [Kl,List.getD_eq_getElem?_getD,List.getElem?_replicate]
  split <;> exact (X2 _).sees _
 have h3:∀ (H:List AO),H[3]?=some (.row 0 R.length fun _=>.int .i64 0)→JR H (.osl 3 0 1 0 R.length) (X7 (List.replicate R.length 0)):=fun H ho=>by
  rw [X3,List.length_replicate]
  refine Qx (.inl ho) (by omega) (fun h=>by rw [h]) fun j hj=>?_
  rw [Kl,List.getD_eq_getElem?_getD,List.getElem?_replicate]
  split <;> exact (X9 _).sees _
 have h4:∀ (H:List AO) (f:Nat→AV) (t:Bool),JR H (.sl 0 0 f t) (X7 (RQ.of 0).pd):=fun H f t=>by
  have e:(RQ.of 0).pd=[]:=by rw [← Mx]; rfl
  rw [e]; exact Xr (X6 _) (Qo _ _)
 have h5:∀ (H:List AO) (f:Nat→AV) (t:Bool),JR H (.sl 0 0 f t) (X7 (RQ.of 0).qd):=fun H f t=>by
  have e:(RQ.of 0).qd=[]:=by rw [← Mx]; rfl
  rw [e]; exact Xr (X6 _) (Qo _ _)
 have h6:∀ (H:List AO),JR H (.bool false) (.bool (RQ.of 0).pn):=fun H=>by
  have e:(RQ.of 0).pn=false:=by rw [← Mx]; rfl
  rw [e]; exact (X2 _).sees _
 have h7:∀ (H:List AO),JR H (.bool false) (.bool (RQ.of 0).qn):=fun H=>(X2 _).sees _
 refine E7 rfl Ge rfl rfl rfl ?_
 refine ZK ⟨(X9 _).sees _,(X9 _).sees _,(Jd _).sees _,h2 _ rfl,h3 _ rfl,h6 _,h4 _ _ _,h7 _,h5 _ _ _,(X2 _).sees _,(X6 _).sees _,(X2 _).sees _,(X6 _).sees _,(X2 _).sees _,(X6 _).sees _,(X2 _).sees _,(X6 _).sees _,(X2 _).sees _,(X6 _).sees _,(X2 _).sees _,(X6 _).sees _,h6 _,h4 _ _ _,h7 _,h5 _ _ _,trivial⟩
theorem NM (l:List Int):GP (Ah l) (tf l):=by
 have hro:=P8 l
 have hl:=NW l
 have b10:=XB l 10 3 (by omega)
 have q:=BJ (Ab.atF l 10 3) 4 ⟨by omega,by omega⟩ ⟨by omega,by omega⟩
 refine ⟨⟨by have:=hro.1; omega,by omega,by omega,fun c hc=>?_⟩,hro.2.2,rfl,?_⟩
 ·have:=hro.2.1 c hc; omega
 ·show qb (Rat.divInt (Ab.atF l 10 3) 4)≤20; omega
theorem bY (l m:List Int) (hl:C2 l) (hl2:l.length<9223372036854775808) (hm:C2 m) (hm2:m.length<9223372036854775808) :
  ∃ (A B:PV) (ta tb:Rat),Fn Tryz.prog 38 [X7 l,X7 m] (.tup [QP A,QP B])∧GP A ta∧GP B tb∧A.small∧B.small:=by
 by_cases h:0<m.length
 ·have c1:=NN l hl hl2
  have c2:=NN m hm hm2
  have s1:=Gq l; have s2:=Gq m
  have g1:=NM l; have g2:=NM m
  refine ⟨Ah l,Ah m,_,_,?_,g1,g2,s1,s2⟩
  generalize Ah l=A at *
  generalize Ah m=B at *
  refine Fr Tryz.call38 Tryz.func38 7 [] [4,50000006] [] ?_
  simp (disch:=omega) only [AS.start,X3,↓Xu,wG,seval]
  refine X0 c1 rfl ?_
  simp (disch:=omega) only [X3,↓Xu,wG,seval]
  refine X0 c2 rfl ?_
  simp (disch:=omega) only [QP,XG,↓Xu,wG,seval]
  exact J2 rfl (Xo Ge rfl rfl rfl) (Xo Ge rfl rfl rfl) ((Je A).sees _) ((Je B).sees _)
 ·obtain ⟨A,B,F,ta,tb,cP,gA,gB,sA,sB,_⟩:=oh l hl
  refine ⟨A,B,ta,tb,?_,gA,gB,sA,sB⟩
  refine Fr Tryz.call38 Tryz.func38 7 [] [4,50000006] [] ?_
  simp (disch:=omega) only [AS.start,X3,↓Xu,wG,seval]
  refine X0 cP rfl ?_
  simp (disch:=omega) only [kT,XG,XJ,List.cons_append,List.nil_append,↓Xu,wG,seval]
  exact J2 rfl (Xo Ge rfl rfl rfl) (Xo Ge rfl rfl rfl) ((Je A).sees _) ((Je B).sees _)
theorem T8 {R:List (Int×Int)} (hn:QW R) (k:Nat):((0≤(GT R k).1*(GT R k).1∧(GT R k).1*(GT R k).1≤17179869184)∧(0≤(GT R k).2*(GT R k).2∧(GT R k).2*(GT R k).2≤17179869184))∧0≤TA R k∧TA R k≤34359738368:=by
 have h0:=DJ hn k
 unfold TA
 generalize GT R k=D at *
 have key:∀ x:Int,-131072≤x∧x≤131072→0≤x*x∧x*x≤17179869184:=fun x hx=>by
  rcases Int.le_total 0 x with h | h
  ·exact ⟨Int.mul_nonneg h h,Int.mul_le_mul hx.2 hx.2 h (by omega)⟩
  ·have:=Int.mul_le_mul (show -x≤131072 by omega) (show -x≤131072 by omega) (by omega) (by omega)
   rw [Int.neg_mul_neg] at this
   exact ⟨Int.mul_nonneg_of_nonpos_of_nonpos h h,this⟩
 have h1:=key D.1 h0.1
 have h2:=key D.2 h0.2
 omega
def t8 (a b:PV) (f:FV) (k:Nat):Int:=if a.marks.getD (xK a.rim.length f k) 0≠0∧a.marks.getD (xK a.rim.length f k) 0=b.marks.getD (yK b.rim.length f k) 0 then 1000 else 0
def SV (a b:PV) (f:FV):Nat→Int
 | 0=>0
 | k+1=>SV a b f k+TA a.rim (xK a.rim.length f k)+t8 a b f k
def Hr (a b:PV) (f:FV):Int:=if Zd a.rim.length b.rim.length f then SV a b f f.M.toNat else 0
theorem O2 {a:PV} (b:PV) (f:FV) (hn:QW a.rim):∀ k:Nat,0≤SV a b f k∧SV a b f k≤34359739368*k
 | 0=>by simp [SV]
 | k+1=>by
  have ih:=O2 b f hn k
  have h:=(T8 hn (xK a.rim.length f k)).2
  have h2:0≤t8 a b f k∧t8 a b f k≤1000:=by unfold t8; split <;> omega
  simp only [SV]
  omega
theorem aR (a b:PV) (f:FV) (ha:a.even) (hb:b.even):Fn Tryz.prog 62 [QP a,QP b,Jz f] (I (Hr a b f)):=by
 have la:=ha.rim; have lb:=hb.rim
 have cs:=C7 a b f la lb
 obtain ⟨V,hV⟩:∃ V,V=Hr a b f:=⟨_,rfl⟩
 rw [← hV]
 have fin:∀ {s:AS} {v:Int},s.get 6=I v→v=V→RetOk (QJ Tryz.prog Tryz.f62 [] [] (I V)) s:=fun h e=>Xt rfl h (X9 _) (by rw [e])
 by_cases hf:Zd a.rim.length b.rim.length f
 rotate_left
 ·rw [decide_eq_false hf] at cs
  refine Fv Tryz.call62 Tryz.func62 11 [19,20,21] [] [] ?_
  simp (disch:=omega) only [AS.start,QP,XG,Jz,XJ,↓Xu,wG,seval]
  refine X0 cs rfl ?_
  simp (disch:=omega) only [↓Xu,wG,seval]
  exact fin rfl (by rw [hV]; unfold Hr; rw [if_neg hf])
 rw [decide_eq_true hf] at cs
 have ce:=G2 a b f hf la lb
 have hVe:V=SV a b f f.M.toNat:=by rw [hV]; unfold Hr; rw [if_pos hf]
 obtain ⟨⟨s1,s2⟩,⟨s3,s4⟩,s5,s6,s7⟩:=hf
 obtain ⟨N,hN⟩:∃ N:Nat,f.M=N:=⟨f.M.toNat,by omega⟩
 rw [hN,Int.toNat_natCast] at hVe
 obtain ⟨L,hL⟩:∃ L,L=DK a.rim.length b.rim.length f:=⟨_,rfl⟩
 have hlen:L.length=N:=by rw [hL,BE,hN]; rfl
 have hat:∀ k,k<N→L.getD k (0,0)=((xK a.rim.length f k:Int),(yK b.rim.length f k:Int)):=fun k hk=>by rw [hL]; exact EL _ _ _ _ (by omega)
 rw [← hL] at ce
 clear hL
 have ba:XI 3 (.row 0 25 (Xn (XG a)))=True:=eq_true (XD (Xy a))
 have bb:XI 3 (.row 0 25 (Xn (XG b)))=True:=eq_true (XD (Xy b))
 have bf:XI 3 (.row 0 29 (Xn (XJ f)))=True:=eq_true (XD (XN f))
 have bL:JO 3 (Dz L)=True:=eq_true (X5 (Jd _))
 refine Fv Tryz.call62 Tryz.func62 11 [19,20,21] [] [] ?_
 simp (disch:=omega) only [AS.start,QP,XG,Jz,XJ,↓Xu,wG,seval]
 refine X0 cs rfl ?_
 simp (disch:=omega) only [XG,XJ,↓Xu,wG,seval]
 refine X0 ce rfl ?_
 simp (disch:=omega) only [Xd,hlen,↓Xu,wG,seval]
 refine Xe (fun k:Nat=>⟨11,[19,20,21],[.any,.any,.any,.ref 0 0 0,.ref 1 0 0,.ref 2 0 0,.any,I (SV a b f k),.any,.any,.any],[(19,Dz L),(20,I N),(21,I k)],[.row 0 25 (Xn (XG a)),.row 0 25 (Xn (XG b)),.row 0 29 (Xn (XJ f))]⟩) (fun k=>k≤N) (fun k=>N - k) 0 (by omega)
  (Xi rfl (by simp [Xf,I,SV]) (by simp [Xq,Xw,Xd,hlen,I]) (by simp [XG,XJ,Xd,Xm,X3,I,sg])) ?_
 intro k hk next
 by_cases hk2:k<N
 rotate_left
 ·obtain rfl:k=N:=by omega
  refine Xl ?_
  simp (disch:=omega) only [↓Xu,wG,seval]
  exact fin rfl hVe.symm
 have hx:=Tx a.rim.length f k (by omega)
 have hy:=kI b.rim.length f k (by omega)
 have cq:=Fy a (xK a.rim.length f k) hx la ha.near
 have bq:=(T8 ha.near (xK a.rim.length f k)).2
 have bn:=O2 b f ha.near k
 have v1:=oz L k
 rw [hat k hk2] at v1
 have hnext:SV a b f (k+1)=SV a b f k+TA a.rim (xK a.rim.length f k)+t8 a b f k:=rfl
 have hsc:t8 a b f k=if a.marks.getD (xK a.rim.length f k) 0≠0∧a.marks.getD (xK a.rim.length f k) 0=b.marks.getD (yK b.rim.length f k) 0 then 1000 else 0:=rfl
 have ea:=ha.marks; have eb:=hb.marks
 generalize TA a.rim (xK a.rim.length f k)=Q at *
 generalize xK a.rim.length f k=X at *
 generalize yK b.rim.length f k=Y at *
 have w1:IntKind.i64.wrap (SV a b f k+Q)=SV a b f k+Q:=by rw [IntKind.wrap_i64]; omega
 have w2:IntKind.i64.wrap (SV a b f k+Q+1000)=SV a b f k+Q+1000:=by rw [IntKind.wrap_i64]; omega
 have c0:∀ c,t8 a b f k=c→SV a b f (k+1)=SV a b f k+Q+c:=fun c hc=>by rw [hnext,hc]
 have t1:(1:Int).toNat=1:=rfl
 by_cases h0:a.marks.getD X 0=0
 ·have e:=c0 0 (by rw [hsc,if_neg (fun h=>h.1 h0)])
  rw [Int.add_zero] at e
  refine Xl ?_
  simp (disch:=omega) only [v1,w1,hlen,Xd,XG,XJ,X3,↓Xu,wG,seval]
  refine X0 cq rfl ?_
  simp (disch:=omega) only [v1,w1,hlen,eq_true h0,Xd,XG,XJ,X3,↓Xu,wG,seval]
  exact next (k+1) _ (by omega) (by omega) (XE (m:=3) (Nat.zero_le _) rfl (by simp [Xf,I,e]) (by simp [Xq,Xw,Xd,hlen,I]) (by simp [XG,XJ,Xd,Xm,X3,I,sg]) (by simp [XA]) (by simp [XA,bL]) (by simp [ba,bb,bf]))
 by_cases h1:a.marks.getD X 0=b.marks.getD Y 0
 ·have e:=c0 1000 (by rw [hsc,if_pos ⟨h0,h1⟩])
  refine Xl ?_
  simp (disch:=omega) only [v1,w1,hlen,Xd,XG,XJ,X3,↓Xu,wG,seval]
  refine X0 cq rfl ?_
  simp (disch:=omega) only [v1,w1,w2,t1,hlen,eq_false h0,eq_true h1,Xd,XG,XJ,X3,↓Xu,wG,seval]
  exact next (k+1) _ (by omega) (by omega) (XE (m:=3) (Nat.zero_le _) rfl (by simp [Xf,I,e]) (by simp [Xq,Xw,Xd,hlen,I]) (by simp [XG,XJ,Xd,Xm,X3,I,sg]) (by simp [XA]) (by simp [XA,bL]) (by simp [ba,bb,bf]))
 ·have e:=c0 0 (by rw [hsc,if_neg (fun h=>h1 h.2)])
  rw [Int.add_zero] at e
  refine Xl ?_
  simp (disch:=omega) only [v1,w1,hlen,Xd,XG,XJ,X3,↓Xu,wG,seval]
  refine X0 cq rfl ?_
  simp (disch:=omega) only [v1,w1,w2,t1,hlen,eq_false h0,eq_false h1,Xd,XG,XJ,X3,↓Xu,wG,seval]
  exact next (k+1) _ (by omega) (by omega) (XE (m:=3) (Nat.zero_le _) rfl (by simp [Xf,I,e]) (by simp [Xq,Xw,Xd,hlen,I]) (by simp [XG,XJ,Xd,Xm,X3,I,sg]) (by simp [XA]) (by simp [XA,bL]) (by simp [ba,bb,bf]))
end
end Go.Ab.N
namespace Go.Ab.N
open Go Go.RowKit Go.Proofs
set_option maxRecDepth 10000
set_option maxHeartbeats 4000000
def s9 (a b c p:V2):Bool:=decide (0≤Ji a b p) && decide (0≤Ji b c p) && decide (0≤Ji c a p)
def ie (L:List V2) (a b c k:Nat):Bool:=decide (k=a) || decide (k=c) || decide (k=b) || !s9 (L.getD a v0) (L.getD b v0) (L.getD c v0) (L.getD k v0)
def mP (L:List V2) (R:List Nat) (p:Nat):Bool:=decide (0<Ht L R p) && (List.range R.length).all fun j=>ie L (nr R (p+R.length - 1)) (R.getD p 0) (nr R (p+R.length+1)) (R.getD j 0)
theorem iE (a b c p:V2):s9 a b c p=true↔dH a b c p:=by
 unfold s9 dH
 simp only [Bool.and_eq_true,decide_eq_true_eq,and_assoc]
theorem Nn (L:List V2) (a b c k:Nat):ie L a b c k=true↔AR L a b c k:=by
 unfold ie AR
 rw [← iE]
 simp only [Bool.or_eq_true,decide_eq_true_eq,or_assoc,Bool.not_eq_true',Bool.not_eq_true]
open Classical in
theorem mQ (L:List V2) (R:List Nat) (p:Nat):B9 L R p=mP L R p:=by
 unfold B9 mP
 rw [Bool.eq_iff_iff,decide_eq_true_eq,Bool.and_eq_true,decide_eq_true_eq,List.all_eq_true]
 refine and_congr_right fun _=>⟨fun h j hj=>(Nn _ _ _ _ _).2 (h j (List.mem_range.1 hj)),fun h j hj=>(Nn _ _ _ _ _).1 (h j (List.mem_range.2 hj))⟩
def W8 (L:List V2) (R:List Nat):Nat:=(List.range (R.length - 1)).findIdx (mP L R)
theorem gm (L:List V2) (R:List Nat):G0 L R=W8 L R:=by
 unfold G0 W8
 rw [show B9 L R=mP L R from funext (mQ L R)]
def gV (L:List V2) (R:List Nat):Nat:=(List.range R.length).findIdx fun p=>decide (Ht L R p=0)
theorem gW (L:List V2) (R:List Nat):KY L R=gV L R:=by
 rfl
def mz (L:List V2):Nat→List Nat→List Nat
 | 0,R=>R
 | f+1,R=>if 3<R.length∧gV L R<R.length then mz L f (R.eraseIdx (gV L R)) else R
theorem VZ (L:List V2):∀ (f:Nat) (R:List Nat),Zi L f R=mz L f R
 | 0,_=>rfl
 | f+1,R=>by
  unfold Zi mz
  rw [gW,VZ L f]
def mJ (L:List V2):Nat→List Nat→List (Nat×Nat×Nat)
 | 0,R=>[(R.getD 0 0,R.getD 1 0,R.getD 2 0)]
 | f+1,R=>if 3<R.length then EQ R (W8 L R) :: mJ L f (mz L (R.length - 1) (R.eraseIdx (W8 L R))) else [(R.getD 0 0,R.getD 1 0,R.getD 2 0)]
theorem W3 (L:List V2):∀ (f:Nat) (R:List Nat),BA L f R=mJ L f R
 | 0,_=>rfl
 | f+1,R=>by
  unfold BA mJ BW
  rw [gm,VZ,W3 L f]
def OD (p:PV) (t c:V2):List (List V2):=((mJ (Xz p.rim) p.rim.length (List.range p.rim.length)).map (dj (Xz p.rim))).map (JM t c)
theorem N8 (p:PV) (t c:V2):Jn p t c=OD p t c:=by
 unfold Jn OD JL BV
 rw [W3,show (Xz p.rim).length=p.rim.length by simp [Xz]]
def uY (n:V2) (A B:List V2) (e:Rat):Bool:=decide (e*KN n≤Dw n A B)
def jl (A B:List V2) (e:Rat):Bool:=(Z3 A B).any fun d=>uY d A B e
def lC (A B:List (List V2)) (e:Rat):Bool:=A.all fun x=>B.all fun y=>jl x y e
open Classical in
theorem Sp (A B:List V2) (e:Rat):(KK A B e).2=jl A B e:=by
 unfold KK jl
 rw [Bool.eq_iff_iff,Fm,List.any_eq_true]
 unfold FE uY
 simp only [decide_eq_true_eq]
theorem PJ {α:Type} (l:List α) (d:α) (p:α→Bool):(∀ i,i<l.length→p (l.getD i d)=true)↔l.all p=true:=by
 rw [List.all_eq_true]
 constructor
 ·intro h x hx
  obtain ⟨i,hi,rfl⟩:=List.getElem_of_mem hx
  have:=h i hi
  rwa [List.getD_eq_getElem?_getD,List.getElem?_eq_getElem hi] at this
 ·intro h i hi
  rw [List.getD_eq_getElem?_getD,List.getElem?_eq_getElem hi]
  exact h _ (List.getElem_mem hi)
open Classical in
theorem VL (A B:List (List V2)) (e:Rat):F9 A B e=lC A B e:=by
 unfold F9 lC
 rw [Bool.eq_iff_iff,decide_eq_true_eq,← PJ A []]
 refine forall_congr' fun i=>forall_congr' fun _=>?_
 unfold IX
 rw [decide_eq_true_eq,← PJ B []]
 refine forall_congr' fun k=>forall_congr' fun _=>?_
 unfold Zz
 rw [Sp]
def fP (a b:PV) (f:FV) (e:Rat):Bool:=lC (OD a JQ v0) (OD b f.turn (DT f)) (-e)
theorem aq (a b:PV) (f:FV) (e:Rat):KT a b f e=fP a b f e:=by
 unfold KT fP
 rw [VL,N8,N8]
def v7 (n m:Nat) (f:FV):Bool:=decide ((0≤f.EA∧f.EA<n)∧(0≤f.EB∧f.EB<m)∧1≤f.M∧f.M<n∧f.M<m)
theorem GH {n m:Nat} {f:FV}:v7 n m f=true↔Zd n m f:=decide_eq_true_iff
def tJ (g:Nat→Rat):Nat→Rat
 | 0=>g 0
 | k+1=>if tJ g k<g (k+1) then g (k+1) else tJ g k
def tI (g:Nat→Rat):Nat→Rat
 | 0=>g 0
 | k+1=>if g (k+1)<tI g k then g (k+1) else tI g k
theorem UV (g:Nat→Rat):∀ k,Ic g k=tJ g k
 | 0=>rfl
 | k+1=>by
  unfold Ic tJ Sb
  rw [UV g k]
theorem UT (g:Nat→Rat):∀ k,Ib g k=tI g k
 | 0=>rfl
 | k+1=>by
  unfold Ib tI S8
  rw [UT g k]
def vp (a b:List (Int×Int)) (f:FV) (k:Nat):V2:=⟨tJ (fun j=>(K5 a b f j).x) k,tJ (fun j=>(K5 a b f j).y) k⟩
def vo (a b:List (Int×Int)) (f:FV) (k:Nat):V2:=⟨tI (fun j=>(K5 a b f j).x) k,tI (fun j=>(K5 a b f j).y) k⟩
theorem sn (a b:List (Int×Int)) (f:FV) (k:Nat):At a b f k=vp a b f k:=by unfold At vp; rw [UV,UV]
theorem rY (a b:List (Int×Int)) (f:FV) (k:Nat):As a b f k=vo a b f k:=by unfold As vo; rw [UT,UT]
def VK (a b:List (Int×Int)) (f:FV) (c:V2):Bool :=
 v7 a.length b.length f && decide (f.turn.x*f.turn.x+f.turn.y*f.turn.y=1) && decide ((vp a b f f.M.toNat).x=c.x) && decide ((vp a b f f.M.toNat).y=c.y) && decide ((vo a b f f.M.toNat).x=c.x) && decide ((vo a b f f.M.toNat).y=c.y)
theorem N1 {a b:List (Int×Int)} {f:FV} {c:V2} (h:VK a b f c=true):Xv a b f 0=(c,c,true):=by
 unfold VK at h
 simp only [Bool.and_eq_true,decide_eq_true_eq] at h
 obtain ⟨⟨⟨⟨⟨h1,h2⟩,h3⟩,h4⟩,h5⟩,h6⟩:=h
 have e1:At a b f f.M.toNat=c:=by rw [sn,V2.ext']; exact ⟨h3,h4⟩
 have e2:As a b f f.M.toNat=c:=by rw [rY,V2.ext']; exact ⟨h5,h6⟩
 unfold Xv
 rw [if_pos ⟨GH.1 h1,h2⟩]
 simp only [e1,e2]
 have z1:c.sub ⟨0,0⟩=c:=by unfold V2.sub; rw [V2.ext']; exact ⟨by simp only; grind,by simp only; grind⟩
 have z2:c.add ⟨0,0⟩=c:=by unfold V2.add; rw [V2.ext']; exact ⟨by simp only; grind,by simp only; grind⟩
 rw [z1,z2,if_neg (fun h=>by rcases h with h | h <;> exact absurd h (Rat.lt_irrefl))]
theorem Sa (g:Nat→Rat):∀ n k,k≤n→g k≤Ic g n
 | 0,k,h=>by
  obtain rfl:k=0:=by omega
  exact Rat.le_refl
 | n+1,k,h=>by
  unfold Ic Sb
  by_cases hk:k=n+1
  ·subst hk
   split
   ·exact Rat.le_refl
   ·rename_i h; exact Rat.not_lt.1 h
  ·have ih:=Sa g n k (by omega)
   split
   ·rename_i h; exact Rat.le_trans ih (Rat.le_of_lt h)
   ·exact ih
theorem S7 (g:Nat→Rat):∀ n k,k≤n→Ib g n≤g k
 | 0,k,h=>by
  obtain rfl:k=0:=by omega
  exact Rat.le_refl
 | n+1,k,h=>by
  unfold Ib S8
  by_cases hk:k=n+1
  ·subst hk
   split
   ·exact Rat.le_refl
   ·rename_i h; exact Rat.not_lt.1 h
  ·have ih:=S7 g n k (by omega)
   split
   ·rename_i h; exact Rat.le_trans (Rat.le_of_lt h) ih
   ·exact ih
theorem YE {a b:List (Int×Int)} {f:FV} (h:(Xv a b f 0).2.2=true) (i j:Nat) (hi:i≤f.M.toNat) (hj:j≤f.M.toNat):K5 a b f i=K5 a b f j:=by
 obtain ⟨_,_,_,h1,h2⟩:=IU h
 have z:∀ x y:Rat,x - 0≤y+0→x≤y:=fun x y h=>by grind
 have h1:=z _ _ h1
 have h2:=z _ _ h2
 have t:∀ (g:Nat→Rat),Ic g f.M.toNat≤Ib g f.M.toNat→g i=g j:=fun g hg=>by
  have a1:=Sa g _ i hi; have a2:=Sa g _ j hj; have a3:=S7 g _ i hi; have a4:=S7 g _ j hj
  exact Rat.le_antisymm (Rat.le_trans a1 (Rat.le_trans hg a4)) (Rat.le_trans a2 (Rat.le_trans hg a3))
 rw [V2.ext']
 exact ⟨t (fun k=>(K5 a b f k).x) h1,t (fun k=>(K5 a b f k).y) h2⟩
end Go.Ab.N
