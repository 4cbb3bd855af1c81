/- Contracts of functions of these chapters, for every argument that fits, and what they need. -/
import Derived.Test.YtefjhgcndhepeaaGreatC13
import Derived.Test.YtefjhgcndhepeaaGreatC7
import Derived.Test.YtefjhgcndhepeaaGreatC12
import Derived.Test.YtefjhgcndhepeaaGreatC10
import Derived.Test.YtefjhgcndhepeaaGreatC6
import Derived.Test.YtefjhgcndhepeaaGreatC11
import Derived.Test.YtefjhgcndhepeaaGreatC8
set_option linter.unusedSimpArgs false
set_option linter.unusedVariables false
open Nat renaming reducePow → Y1, reduceLT → Y2, reduceLeDiff → Y3, reduceEqDiff → Y4, reduceAdd → Y5, reduceMul → Y6, reduceSub → Y7, reduceBEq → Y8, reduceDiv → Y9, reduceMod → YA
namespace Go.Ab.N
open Go Go.RowKit Go.Proofs
noncomputable section
set_option maxRecDepth 10000
set_option maxHeartbeats 4000000
open Classical
theorem IJ {P:Program} {fn:Func} {str hcs:List Nat} {b:Nat} {r:AV} {H:List AO} {s:AS} {t:Nat} (hr:fn.results=#[.tmp t]) (h1:s.get t=r) (hH:s.h=H):RetOk (FU P fn str hcs b r H) s :=
 ⟨r,by show KO P fn s=_; simp [KO,hr,J2,Je,ZA,h1],rfl,hH⟩
theorem OK (o0 o1 o2 o3 o4:AO) (B0:∀ m,5≤m→XW m o0) (B1:∀ m,5≤m→XW m o1) (B2:∀ m,5≤m→XW m o2) (B3:∀ m,5≤m→XW m o3) (B4:∀ m,5≤m→XW m o4) (a b:PV) (f:FV) (hf:Ev a.rim.length b.rim.length f) (ha:a.even) (hb:b.even) :
  HCall Tryz.prog 133 [Zl a,Zl b,CS f] [o0,o1,o2,o3,o4] (.osl 8 (QT a b f f.M.toNat).length 8 0 (QT a b f f.M.toNat).length) [o0,o1,o2,o3,o4,.dead,.dead,.dead,.row (QT a b f f.M.toNat).length ((QT a b f f.M.toNat).length*8) (Xt vC 8 v0 (QT a b f f.M.toNat))]:=by
 have ce:=P7 a b f hf ha.rim hb.rim
 obtain ⟨⟨s1,s2⟩,⟨s3,s4⟩,s5,s6,s7⟩:=hf
 obtain ⟨N,hN⟩:∃ N:Nat,f.M=N:=⟨f.M.toNat,by omega⟩
 have la:=ha.rim; have lb:=hb.rim
 have hNt:f.M.toNat=N:=by rw [hN]; rfl
 rw [hNt]
 obtain ⟨L,hL⟩:∃ L,L=FS a.rim.length b.rim.length f:=⟨_,rfl⟩
 have hlen:L.length=N:=by rw [hL,Ec,hN]; rfl
 have hat:∀ k,k<N→L.getD k (0,0)=((xK a.rim.length f k:Int),(yK b.rim.length f k:Int)):=fun k hk=>by rw [hL]; exact Hy _ _ _ _ (by omega)
 rw [← hL] at ce
 clear hL
 have ba:XW 9 (.row 0 25 (Xk (QC a)))=True:=eq_true (XX (XP a))
 have bb:XW 9 (.row 0 25 (Xk (QC b)))=True:=eq_true (XX (XP b))
 have bf:XW 9 (.row 0 29 (Xk (Jp f)))=True:=eq_true (XX (Qq f))
 have bL:Kn 9 (Ld L)=True:=eq_true (X7 (KD _))
 have hvc:∀ a:V2,∀ x∈vC a,Settled x:=fun a=>by simp [vC,X8,X2]
 have br:∀ i l n,XW 9 (.row i n (Xt vC 8 v0 l))=True:=fun i l n=>eq_true fun j _=>X7 (Xe (hvc _) _)
 have q0:XW 9 o0=True:=eq_true (B0 9 (by omega))
 have q1:XW 9 o1=True:=eq_true (B1 9 (by omega))
 have q2:XW 9 o2=True:=eq_true (B2 9 (by omega))
 have q3:XW 9 o3=True:=eq_true (B3 9 (by omega))
 have q4:XW 9 o4=True:=eq_true (B4 9 (by omega))
 refine HCall.intro (fn:=Tryz.f133) Tryz.call133 Tryz.func133 rfl mixed 12 [15,16,17] [] [] (by kernel_rfl) (Nat.le_of_ble_eq_true rfl) (Xi ?_)
 simp only [AS.start,Zl,QC,CS,Jp,↓X1,wF,seval]
 refine X0 ce rfl ?_
 simp only [Xu,hlen,↓X1,wF,seval]
 refine Xd (fun k:Nat=>⟨12,[15,16,17],[.any,.any,.any,.ref 5 0 0,.ref 6 0 0,.ref 7 0 0,.any,.osl 8 (QT a b f k).length 8 0 (QT a b f k).length,.any,.any,.any,.any],[(15,Ld L),(16,I N),(17,I k)],[o0,o1,o2,o3,o4,.row 0 25 (Xk (QC a)),.row 0 25 (Xk (QC b)),.row 0 29 (Xk (Jp f)),.row (QT a b f k).length ((QT a b f k).length*8) (Xt vC 8 v0 (QT a b f k))]⟩) (fun k=>k≤N) (fun k=>N - k) 0 (by omega)
  (Sub.trans (Jk 7 8 (Xt vC 8 v0 []) rfl) (Xf rfl (by simp [AS.put,QT,Xg,I]) (by simp [AS.put,Xn,Xr,Xu,hlen,I]) (by simp [AS.put,QT,QC,Jp,Xu,XR,X4,I]))) ?_
 intro k hk next
 have w1:=wj k (by omega)
 have hln:=HK a b f k
 by_cases hk2:k<N
 rotate_left
 ·obtain rfl:k=N:=by omega
  refine Run.sub (s':=⟨12,[15,16,17],[.any,.any,.any,.any,.any,.any,.any,.osl 8 (QT a b f k).length 8 0 (QT a b f k).length,.any,.any,.any,.any],[(15,Ld L),(16,I k),(17,I k)],[o0,o1,o2,o3,o4,.dead,.dead,.dead,.row (QT a b f k).length ((QT a b f k).length*8) (Xt vC 8 v0 (QT a b f k))]⟩) ?_
   (Sub.trans (AP 5 rfl (by simp [AO.info])) (Sub.trans (AP 6 rfl (by simp [AO.info])) (Sub.trans (AP 7 rfl (by simp [AO.info])) (Xf rfl (by simp [Xg,I]) (by simp [Xn,Xr,I]) (by simp)))))
  refine Xi ?_
  simp only [Int.lt_irrefl,Nat.lt_irrefl,↓X1,wF,seval]
  exact IJ rfl rfl rfl
 have nx:=next (k+1)
 have f1:((k:Int)<N)=True:=eq_true (by omega)
 have f2:(k<N)=True:=eq_true hk2
 have f3:(k*2+2≤N*2)=True:=eq_true (by omega)
 have v1:=u9 L k
 rw [hat k hk2] at v1
 have n2:((2:Nat):Int)=2:=rfl
 have t1:(1:Int).toNat=1:=rfl
 have ca:=TL a b (xK a.rim.length f k) (yK b.rim.length f k) la lb ha.near hb.near
 rw [show Kr a.rim b.rim (xK a.rim.length f k) (yK b.rim.length f k)=LR a b f k from rfl] at ca
 have hs:QT a b f (k+1)=if (LR a b f k).2=true then QT a b f k ++ [(LR a b f k).1] else QT a b f k:=rfl
 generalize LR a b f k=X at *
 obtain ⟨t,ok⟩:=X
 refine Xi ?_
 simp only [QC,Jp,Xu,XR,X4,hlen,w1,f1,f2,f3,v1,n2,t1,Int.toNat_zero,Int.reduceLT,Int.reduceLE,Int.toNat_natCast,↓X1,wF,seval]
 refine X0 ca rfl ?_
 cases ok with
 | false =>
  rw [if_neg (show ¬ ((t,false).2=true) from Bool.false_ne_true)] at hs
  simp only [hs] at nx
  simp only [w1,↓X1,wF,seval]
  exact nx _ (by omega) (by omega) (XD (m:=9) (show 5≤9 by omega) rfl (by simp [Xg,I]) (by simp [Xn,Xr,Xu,hlen,I]) (by simp [QC,Jp,Xu,XR,X4,I]) (by simp [XA]) (by simp [XA,bL]) (by simp [q0,q1,q2,q3,q4,ba,bb,bf,br]))
 | true =>
  rw [if_pos rfl] at hs
  have hlen2:(QT a b f (k+1)).length=(QT a b f k).length+1:=by rw [hs]; simp
  have hap:=QR vC 8 v0 (QT a b f k) t (by omega)
  rw [← hs] at hap
  simp only [hlen2] at nx
  simp only [w1,↓X1,wF,seval]
  exact ⟨⟨Gc t,by omega,by omega⟩,nx _ (by omega) (by omega) (XD (m:=9) (show 5≤9 by omega) rfl (by simp [Xg,I]) (by simp [Xn,Xr,Xu,hlen,I]) (by rw [← hap]; simp [QC,Jp,Xu,XR,X4,I,vC]) (by simp [XA]) (by simp [XA,bL]) (by simp [q0,q1,q2,q3,q4,ba,bb,bf,br]))⟩
theorem Bv {a b c:V2} (h1:ZH a b) (h2:ZH b c):ZH a c:=by unfold ZH at *; grind
theorem He (a:V2):¬ ZH a a:=by unfold ZH; grind
theorem FJ {a b:V2} (h:¬ ZH a b) (hn:a≠b):ZH b a:=by
 have:¬ (a.x=b.x∧a.y=b.y):=fun hh=>hn (V2.ext'.2 hh)
 unfold ZH at *
 grind
theorem PF (t:V2):∀ l,l.Pairwise ZH→t∉l→(LA t l).Pairwise ZH
 | [],_,_=>by simp [LA]
 | x :: l,hs,hn=>by
  rw [List.pairwise_cons] at hs
  rw [List.mem_cons,not_or] at hn
  have ih:=PF t l hs.2 hn.2
  unfold LA
  split
  ·rename_i hb
   rw [List.pairwise_cons,List.pairwise_cons]
   refine ⟨fun y hy=>?_,hs⟩
   rcases List.mem_cons.1 hy with rfl | hy
   ·exact hb
   ·exact Bv hb (hs.1 y hy)
  ·rename_i hb
   rw [List.pairwise_cons]
   refine ⟨fun y hy=>?_,ih⟩
   rcases (Im t y l).1 hy with rfl | hy
   ·exact FJ hb hn.1
   ·exact hs.1 y hy
theorem L6 (a b:PV) (f:FV):∀ n,(KF a b f n).Pairwise ZH
 | 0=>List.Pairwise.nil
 | n+1=>by
  have ih:=L6 a b f n
  unfold KF
  split
  ·unfold cI
   split
   ·exact ih
   ·rename_i h
    exact PF _ _ ih h
  ·exact ih
theorem VG:∀ (l m:List V2),l.Pairwise ZH→m.Pairwise ZH→(∀ x,x∈l↔x∈m)→l=m
 | [],[],_,_,_=>rfl
 | [],b :: m,_,_,h=>absurd ((h b).2 (List.mem_cons_self ..)) (List.not_mem_nil)
 | a :: l,[],_,_,h=>absurd ((h a).1 (List.mem_cons_self ..)) (List.not_mem_nil)
 | a :: l,b :: m,h1,h2,h=>by
  rw [List.pairwise_cons] at h1 h2
  have e:a=b:=by
   rcases List.mem_cons.1 ((h a).1 (List.mem_cons_self ..)) with e | ha
   ·exact e
   rcases List.mem_cons.1 ((h b).2 (List.mem_cons_self ..)) with e | hb
   ·exact e.symm
   ·exact absurd (Bv (h1.1 b hb) (h2.1 a ha)) (He a)
  subst e
  refine congrArg (a :: ·) (VG l m h1.2 h2.2 fun x=>⟨fun hx=>?_,fun hx=>?_⟩)
  ·rcases List.mem_cons.1 ((h x).1 (List.mem_cons_of_mem _ hx)) with rfl | hy
   ·exact absurd (h1.1 x hx) (He x)
   ·exact hy
  ·rcases List.mem_cons.1 ((h x).2 (List.mem_cons_of_mem _ hx)) with rfl | hy
   ·exact absurd (h2.1 x hx) (He x)
   ·exact hy
def H0 (x:V2):List V2→List V2
 | []=>[x]
 | y :: Q=>if ZH x y then y :: H0 x Q else x :: y :: Q
theorem In (x z:V2):∀ Q,z∈H0 x Q↔z=x∨z∈Q
 | []=>by simp [H0]
 | y :: Q=>by
  have ih:=In x z Q
  unfold H0
  split
  ·rw [List.mem_cons,ih,List.mem_cons]
   constructor
   ·rintro (h | h | h)
    ·exact .inr (.inl h)
    ·exact .inl h
    ·exact .inr (.inr h)
   ·rintro (h | h | h)
    ·exact .inr (.inl h)
    ·exact .inl h
    ·exact .inr (.inr h)
  ·simp
theorem PH (x:V2):∀ Q,(H0 x Q).length=Q.length+1
 | []=>rfl
 | y :: Q=>by
  have ih:=PH x Q
  unfold H0
  split
  ·simp [ih]
  ·simp
def nW (Q:List V2):Prop:=Q.Pairwise fun a b=>¬ ZH a b
theorem PG (x:V2):∀ Q,nW Q→nW (H0 x Q)
 | [],_=>by simp [nW,H0]
 | y :: Q,h=>by
  have h':=h
  unfold nW at h'
  rw [List.pairwise_cons] at h'
  have ih:=PG x Q h'.2
  unfold H0
  split
  ·rename_i hb
   unfold nW
   rw [List.pairwise_cons]
   refine ⟨fun z hz=>?_,ih⟩
   rcases (In x z Q).1 hz with rfl | hz
   ·exact fun hh=>He _ (Bv hb hh)
   ·exact h'.1 z hz
  ·rename_i hb
   unfold nW
   rw [List.pairwise_cons]
   refine ⟨fun z hz=>?_,h⟩
   rcases List.mem_cons.1 hz with rfl | hz2
   ·exact hb
   ·intro hh
    have h5:=h'.1 z hz2
    by_cases e:x=y
    ·rw [e] at hh; exact h5 hh
    ·exact h5 (Bv (FJ hb e) hh)
theorem Ps (A R:List V2) (x:V2):(A ++ x :: R).getD A.length v0=x:=by
 rw [List.getD_eq_getElem?_getD,List.getElem?_append_right (Nat.le_refl _),Nat.sub_self]; rfl
theorem Mm (A R:List V2) (x y:V2):(A ++ y :: x :: R).getD (A.length+1) v0=x:=by
 rw [List.getD_eq_getElem?_getD,List.getElem?_append_right (by omega),Nat.add_sub_cancel_left]; rfl
theorem mP (A R:List V2) (x y:V2):aC (A ++ y :: x :: R) A.length=A ++ x :: y :: R:=by
 unfold aC
 rw [Ps,Mm,List.set_append_right _ _ (by omega),Nat.add_sub_cancel_left,List.set_append_right _ _ (Nat.le_refl _),Nat.sub_self]; rfl
theorem Il (x:V2):∀ (Q R:List V2),AU (Q.reverse ++ x :: R) Q.length=(H0 x Q).reverse ++ R
 | [],R=>rfl
 | y :: Q,R=>by
  have ih:=Il x Q (y :: R)
  have hl:Q.reverse.length=Q.length:=List.length_reverse
  have e:(y :: Q).reverse ++ x :: R=Q.reverse ++ y :: x :: R:=by simp
  rw [e]
  show AU (Q.reverse ++ y :: x :: R) (Q.length+1)=_
  unfold AU H0
  rw [← hl,Mm,Ps,mP,hl,ih]
  split
  ·simp
  ·simp
theorem IZ (L:List V2):∀ k,k<L.length→∃ Q R,Ai L k=Q.reverse ++ R∧Q.length=k+1∧nW Q∧∀ x,x∈Ai L k↔x∈L
 | 0,h=>by
  match L,h with
  | x :: R,_=>exact ⟨[x],R,rfl,rfl,by simp [nW],fun _=>Iff.rfl⟩
 | k+1,h=>by
  obtain ⟨Q,R,h1,h2,h3,h4⟩:=IZ L k (by omega)
  have hl:=AN L k
  match R,h1 with
  | [],h1=>rw [h1] at hl; simp at hl; omega
  | x :: R,h1 =>
   refine ⟨H0 x Q,R,?_,by rw [PH,h2],PG x Q h3,fun z=>?_⟩
   ·show AU (Ai L k) (k+1)=_
    rw [h1,← h2]; exact Il x Q R
   ·rw [← h4 z]
    show z∈AU (Ai L k) (k+1)↔_
    rw [h1,← h2,Il x Q R]
    simp only [List.mem_append,List.mem_reverse,List.mem_cons,In]
    constructor
    ·rintro ((h | h) | h)
     ·exact .inr (.inl h)
     ·exact .inl h
     ·exact .inr (.inr h)
    ·rintro (h | h | h)
     ·exact .inl (.inr h)
     ·exact .inl (.inl h)
     ·exact .inr h
def Al (L:List V2):Nat→List V2
 | 0=>L.take 1
 | k+1=>if L.getD (k+1) v0=L.getD k v0 then Al L k else Al L k ++ [L.getD (k+1) v0]
theorem UH (L:List V2):∀ k,(Al L k).length≤k+1
 | 0=>by simp [Al]; omega
 | k+1=>by
  have ih:=UH L k
  unfold Al
  split
  ·omega
  ·simp; omega
theorem dX (L:List V2) (hs:L.Pairwise fun a b=>¬ ZH b a):∀ k,k<L.length→(Al L k).Pairwise ZH∧(∀ x,x∈Al L k↔x∈L.take (k+1))∧∀ y∈Al L k,y=L.getD k v0∨ZH y (L.getD k v0)
 | 0,h=>by
  match L,h with
  | x :: R,_=>exact ⟨by simp [Al],fun _=>by simp [Al],fun y hy=>.inl (by simpa [Al] using hy)⟩
 | k+1,h=>by
  obtain ⟨h1,h2,h3⟩:=dX L hs k (by omega)
  have ht:=QB L v0 (k+1) h
  by_cases e:L.getD (k+1) v0=L.getD k v0
  ·have ec:Al L (k+1)=Al L k:=if_pos e
   rw [ec]
   refine ⟨h1,fun x=>?_,fun y hy=>by rw [e]; exact h3 y hy⟩
   rw [h2 x,ht,List.mem_append,List.mem_singleton]
   refine ⟨fun hx=>.inl hx,fun hx=>?_⟩
   rcases hx with hx | rfl
   ·exact hx
   ·rw [e,QB L v0 k (by omega)]
    simp
  ·have ec:Al L (k+1)=Al L k ++ [L.getD (k+1) v0]:=if_neg e
   have hb:ZH (L.getD k v0) (L.getD (k+1) v0):=by
    refine FJ (fun hh=>?_) e
    have:=(List.pairwise_iff_getElem.1 hs) k (k+1) (by omega) h (by omega)
    rw [List.getD_eq_getElem?_getD,List.getD_eq_getElem?_getD,List.getElem?_eq_getElem h,List.getElem?_eq_getElem (show k<L.length by omega)] at hh
    exact this hh
   have hall:∀ y∈Al L k,ZH y (L.getD (k+1) v0):=fun y hy=>by
    rcases h3 y hy with rfl | g
    ·exact hb
    ·exact Bv g hb
   rw [ec]
   refine ⟨?_,fun x=>?_,fun y hy=>?_⟩
   ·rw [List.pairwise_append]
    exact ⟨h1,List.pairwise_singleton _ _,fun y hy z hz=>by rw [List.mem_singleton.1 hz]; exact hall y hy⟩
   ·rw [List.mem_append,h2 x,ht,List.mem_append]
   ·rcases List.mem_append.1 hy with hy | hy
    ·exact .inr (hall y hy)
    ·exact .inl (List.mem_singleton.1 hy)
theorem OJ (a b:PV) (f:FV) (t:V2) (n:Nat):t∈QT a b f n↔∃ k,k<n∧(LR a b f k).2=true∧(LR a b f k).1=t:=by
 rw [← OI,List.any_eq_true]
 constructor
 ·intro h; exact ⟨t,h,by simp⟩
 ·rintro ⟨x,hx,e⟩
  rw [of_decide_eq_true e] at hx
  exact hx
theorem Wq (a b:PV) (f:FV) (n:Nat) (h:0<(QT a b f n).length):Al (Ai (QT a b f n) ((QT a b f n).length - 1)) ((QT a b f n).length - 1)=KF a b f n:=by
 obtain ⟨Q,R,h1,h2,h3,h4⟩:=IZ (QT a b f n) ((QT a b f n).length - 1) (by omega)
 have hl:=AN (QT a b f n) ((QT a b f n).length - 1)
 have hR:R=[]:=by
  rw [h1] at hl
  rw [List.length_append,List.length_reverse,h2] at hl
  exact List.eq_nil_of_length_eq_zero (by omega)
 subst hR
 rw [List.append_nil] at h1
 have hs:(Ai (QT a b f n) ((QT a b f n).length - 1)).Pairwise fun a b=>¬ ZH b a:=by
  rw [h1,List.pairwise_reverse]; exact h3
 obtain ⟨c1,c2,_⟩:=dX _ hs ((QT a b f n).length - 1) (by omega)
 refine VG _ _ c1 (L6 a b f n) fun x=>?_
 rw [c2 x,List.take_of_length_le (by omega),h4 x,OJ,ZS]
theorem nG:VW Tryz.prog 148=true:=by kernel_rfl
theorem I2 (L:List V2):∀ k,k<L.length→(∀ j,j<k→L.getD (j+1) v0≠L.getD j v0)→Al L k=L.take (k+1)
 | 0,h,_=>rfl
 | k+1,h,hn=>by
  unfold Al
  rw [if_neg (hn k (by omega)),I2 L k (by omega) (fun j hj=>hn j (by omega)),← QB L v0 (k+1) h]
theorem dY (L:List V2) (k:Nat):Al L (k+1)=if L.getD (k+1) v0=L.getD k v0 then Al L k else Al L k ++ [L.getD (k+1) v0]:=rfl
theorem Of (C D:List V2) (x:V2) (h:D.length<C.length) (ht:C.take D.length=D):(C.set D.length x).take (D.length+1)=D ++ [x]:=by
 rw [QB _ v0 _ (by rw [List.length_set]; exact h),List.take_set_of_le (Nat.le_refl _),ht,List.getD_eq_getElem?_getD,List.getElem?_set_self h]; rfl
theorem Ta (o0 o1 o2 o3 o4 o5 o6 o7:AO) (v:Nat) (L:List V2) (hL:∀ x∈L,vb x≤vm) (hn:L.length<1000) :
  HCall Tryz.prog 136 [.osl 8 v 8 0 L.length,.fn 67 []] [o0,o1,o2,o3,o4,o5,o6,o7,.row v (L.length*8) (Xt vC 8 v0 L)]
   (.osl 8 v 8 0 (Al L (L.length - 1)).length) [o0,o1,o2,o3,o4,o5,o6,o7,.row v ((Al L (L.length - 1)).length*8) (Xt vC 8 v0 (Al L (L.length - 1)))]:=by
 have hat:∀ i,i<L.length→vb (L.getD i v0)≤vm:=fun i hi=>hL _ (Js hi)
 refine HCall.intro (fn:=Tryz.f136) Tryz.call136 Tryz.func136 rfl mixed 8 [] [6,7004,7009,11,12004,12009] [] (by kernel_rfl) (Nat.le_of_ble_eq_true rfl) (Xi ?_)
 by_cases h2:2≤L.length
 rotate_left
 ·have e:Al L (L.length - 1)=L:=by rw [show L.length - 1=0 by omega]; show L.take 1=L; exact List.take_of_length_le (by omega)
  rw [e]
  simp (disch:=omega) only [AS.start,↓XK,wG,seval]
  exact IJ rfl rfl rfl
 simp (disch:=omega) only [AS.start,↓XK,wG,seval]
 refine Xd (fun k:Nat=>⟨8,[],[.osl 8 v 8 0 L.length,.fn 67 [],.any,.any,.any,I (k+1:Nat),.any,.any],[],[o0,o1,o2,o3,o4,o5,o6,o7,.row v (L.length*8) (Xt vC 8 v0 L)]⟩) (fun k=>k+1≤L.length∧∀ j,j<k→L.getD (j+1) v0≠L.getD j v0) (fun k=>L.length - k) 0 ⟨by omega,by omega⟩
  (Ku (by simp [Xg,I]) rfl) ?_
 rintro k ⟨hk,hne⟩ next
 by_cases hk2:k+1<L.length
 rotate_left
 ·have e:Al L (L.length - 1)=L:=by
   rw [I2 L (L.length - 1) (by omega) (fun j hj=>hne j (by omega))]; exact List.take_of_length_le (by omega)
  rw [e]
  refine Xi ?_
  simp (disch:=omega) only [↓XK,wG,seval]
  exact IJ rfl rfl rfl
 have c:=B7 (L.getD (k+1) v0) (L.getD k v0) (hat _ hk2) (hat _ (by omega))
 have a1:=Jy vC 8 v0 L (k+1)
 have a2:=JQ vC 8 v0 L (k+1) (by omega)
 have b1:=Jy vC 8 v0 L k
 have b2:=JQ vC 8 v0 L k (by omega)
 have hj1:(((k+1:Nat):Int) - 1).toNat=k:=by omega
 by_cases he:L.getD (k+1) v0=L.getD k v0
 rotate_left
 ·have nx:=next (k+1)
  rw [decide_eq_false he] at c
  have hne2:∀ j,j<k+1→L.getD (j+1) v0≠L.getD j v0:=fun j hj=>by
   by_cases e:j=k
   ·rw [e]; exact he
   ·exact hne j (by omega)
  generalize L.getD (k+1) v0=x at *
  generalize L.getD k v0=y at *
  refine Xi ?_
  simp (disch:=omega) only [hj1,a1,a2,b1,b2,vC,↓XK,wG,seval]
  refine X0 c rfl ?_
  simp (disch:=omega) only [↓XK,wG,seval]
  exact nx _ ⟨by omega,hne2⟩ (by omega) (Ku (by simp [Xg,I]) rfl)
 rw [decide_eq_true he] at c
 have hcm:Al L k=L.take (k+1):=I2 L k (by omega) hne
 have hcm2:Al L (k+1)=L.take (k+1):=by rw [dY,if_pos he,hcm]
 clear next he
 refine Xi ?_
 generalize hx:L.getD (k+1) v0=x at a1 a2 c
 generalize hy:L.getD k v0=y at b1 b2 c
 simp (disch:=omega) only [hj1,a1,a2,b1,b2,vC,↓XK,wG,seval]
 refine X0 c rfl ?_
 simp (disch:=omega) only [↓XK,wG,seval]
 refine Xd (fun p:Nat×List V2=>⟨8,[],[.osl 8 v 8 0 L.length,.fn 67 [],.any,.any,.any,I (Al L (k+1+p.1)).length,.osl 8 v 8 ((k+1)*8) (L.length - (k+1)),I (p.1+1:Nat)],[],[o0,o1,o2,o3,o4,o5,o6,o7,.row v (L.length*8) (Xt vC 8 v0 p.2)]⟩)
  (fun p=>k+1+p.1<L.length∧p.2.length=L.length∧p.2.take (Al L (k+1+p.1)).length=Al L (k+1+p.1)∧(Al L (k+1+p.1)).length≤k+1+p.1∧∀ i,k+1+p.1≤i→i<L.length→p.2.getD i v0=L.getD i v0) (fun p=>L.length - p.1) (0,L)
  ⟨by show k+1+0<L.length; omega,rfl,by show L.take (Al L (k+1)).length=Al L (k+1); rw [hcm2,List.length_take,Nat.min_eq_left (by omega)],by show (Al L (k+1)).length≤k+1; rw [hcm2,List.length_take]; omega,fun i _ _=>rfl⟩
  (Ku (by simp [Xg,hcm2,I]; omega) rfl) ?_
 clear hcm hcm2 a1 a2 b1 b2 c hx hy
 rintro ⟨q,C⟩ ⟨g1,g2,g3,g4,g5⟩ next
 replace g1:k+1+q<L.length:=g1
 replace g2:C.length=L.length:=g2
 replace g3:C.take (Al L (k+1+q)).length=Al L (k+1+q):=g3
 replace g4:(Al L (k+1+q)).length≤k+1+q:=g4
 replace g5:∀ i,k+1+q≤i→i<L.length→C.getD i v0=L.getD i v0:=g5
 by_cases hq:k+1+q+1<L.length
 rotate_left
 ·have e:k+1+q=L.length - 1:=by omega
  rw [e] at g3 g4
  clear next g5
  simp only [e]
  generalize Al L (L.length - 1)=D at *
  refine J8 25 ?_
  simp (disch:=omega) only [nG,↓XK,wG,seval]
  have hgd:∀ i,i<D.length→C.getD i v0=D.getD i v0:=fun i hi=>by
   have:(C.take D.length)[i]?=C[i]?:=by rw [List.getElem?_take,if_pos hi]
   rw [List.getD_eq_getElem?_getD,List.getD_eq_getElem?_getD,← this,g3]
  refine Run.sub (s':=⟨8,[],[.osl 8 v 8 0 L.length,.any,.any,.any,.any,I D.length,.any,.any],[],[o0,o1,o2,o3,o4,o5,o6,o7,.row v (D.length*8) (Xt vC 8 v0 D)]⟩) ?_ (Sub.trans (Jh 8 (D.length*8) (Xt vC 8 v0 D) rfl (by omega) (fun j hj=>by
   unfold LM Xt
   rw [if_neg (by omega),hgd (j / 8) (by omega)])) (Ku (by simp [Xg,I]) (by simp)))
  refine Xi ?_
  simp (disch:=omega) only [↓XK,wG,seval]
  exact IJ rfl rfl rfl
 have s1:Al L (k+1+(q+1))=if L.getD (k+1+q+1) v0=L.getD (k+1+q) v0 then Al L (k+1+q) else Al L (k+1+q) ++ [L.getD (k+1+q+1) v0]:=rfl
 have c:=B7 (L.getD (k+1+q+1) v0) (L.getD (k+1+q) v0) (hat _ hq) (hat _ g1)
 have a1:∀ r,r<8→Xt vC 8 v0 C ((k+1)*8+(q+1)*8+r)=(vC (L.getD (k+1+q+1) v0)).getD r .any:=fun r hr=>by
  rw [show (k+1)*8+(q+1)*8+r=(k+1+q+1)*8+r by omega,Jy _ _ _ _ _ _ hr,g5 _ (by omega) hq]
 have a2:Xt vC 8 v0 C ((k+1)*8+(q+1)*8)=(vC (L.getD (k+1+q+1) v0)).getD 0 .any:=a1 0 (by omega)
 have b1:∀ r,r<8→Xt vC 8 v0 C ((k+1)*8+q*8+r)=(vC (L.getD (k+1+q) v0)).getD r .any:=fun r hr=>by
  rw [show (k+1)*8+q*8+r=(k+1+q)*8+r by omega,Jy _ _ _ _ _ _ hr,g5 _ (by omega) g1]
 have b2:Xt vC 8 v0 C ((k+1)*8+q*8)=(vC (L.getD (k+1+q) v0)).getD 0 .any:=b1 0 (by omega)
 have hj2:(((q+1:Nat):Int) - 1).toNat=q:=by omega
 by_cases he:L.getD (k+1+q+1) v0=L.getD (k+1+q) v0
 ·rw [if_pos he] at s1
  rw [decide_eq_true he] at c
  have nx:=next (q+1,C)
  simp only [s1] at nx
  clear next he s1
  generalize L.getD (k+1+q+1) v0=x at *
  generalize L.getD (k+1+q) v0=y at *
  generalize Al L (k+1+q)=D at *
  refine Xi ?_
  simp (disch:=omega) only [hj2,a1,a2,b1,b2,vC,↓XK,wG,seval]
  refine X0 c rfl ?_
  simp (disch:=omega) only [↓XK,wG,seval]
  exact nx _ ⟨by omega,g2,g3,by omega,fun i h1 h2=>g5 i (by omega) h2⟩ (by omega) (Ku (by simp [Xg,I]) rfl)
 rw [if_neg he] at s1
 rw [decide_eq_false he] at c
 have hset:=Of C (Al L (k+1+q)) (L.getD (k+1+q+1) v0) (by omega) g3
 have e1:=su C (Al L (k+1+q)).length (L.getD (k+1+q+1) v0) (by omega)
 have nx:=next (q+1,C.set (Al L (k+1+q)).length (L.getD (k+1+q+1) v0))
 simp only [s1] at nx
 have hgd:∀ i,k+1+(q+1)≤i→i<L.length→(C.set (Al L (k+1+q)).length (L.getD (k+1+q+1) v0)).getD i v0=L.getD i v0:=fun i h1 h2=>by
  rw [List.getD_eq_getElem?_getD,List.getElem?_set_ne (by omega),← List.getD_eq_getElem?_getD]; exact g5 i (by omega) h2
 clear next he s1 g5
 generalize L.getD (k+1+q+1) v0=x at *
 generalize L.getD (k+1+q) v0=y at *
 generalize Al L (k+1+q)=D at *
 refine Xi ?_
 simp (disch:=omega) only [hj2,a1,a2,b1,b2,vC,↓XK,wG,seval]
 refine X0 c rfl ?_
 simp (disch:=omega) only [hj2,a1,a2,b1,b2,vC,↓XK,wG,seval]
 exact nx _ ⟨by omega,by rw [List.length_set]; exact g2,by rw [List.length_append,List.length_singleton]; exact hset,by rw [List.length_append,List.length_singleton]; omega,hgd⟩ (by omega) (Ku (by simp [Xg,I]) (by rw [← e1]; rfl))
def KL (p:PV):AV:=.ptr 25 (Xk (QC p)) 0
theorem QA (p:PV):KL p=.ptr 25 (Xk (QC p)) 0:=nrfl rfl
theorem JP (p:PV):Settled (KL p):=QF fun j hj=>Xe (XP p) j
theorem Oc (a b:PV):Fn Tryz.prog 131 [Zl a,Zl b] (.fn 197 [KL a,KL b]):=by
 refine Fr Tryz.call131 Tryz.func131 5 [] [] [] ?_
 simp (disch:=omega) only [AS.start,Zl,QC,↓XK,wG,seval]
 refine BI rfl (Cj ⟨Z0 (.inl rfl) (by omega) fun j hj=>?_,Z0 (.inl rfl) (by omega) fun j hj=>?_,trivial⟩)
 ·exact (Xe (XP a) j).sees _
 ·exact (Xe (XP b) j).sees _
theorem GM (f:Nat→AV) (t:Bool):Settled (.sl 0 0 f t):=QP fun j hj=>absurd hj (Nat.not_lt_zero j)
def uh (i j k:Nat):List AV:=[I 0,I 1,I i,I j,I k] ++ (Q2 ++ (Q2 ++ Q2))
theorem RJ (i j k:Nat):∀ x∈uh i j k,Settled x:=by simp [uh,Q2,X9,X2,GM]
theorem Is (g:Nat→List FV) (h:∀ k,(g k).length≤(g (k+1)).length) {k k':Nat} (hk:k≤k'):(g k).length≤(g k').length:=by
 induction hk with
 | refl=>exact Nat.le_refl _
 | step _ ih=>exact Nat.le_trans ih (h _)
theorem mo (a b:PV) (e:Rat) {i j k:Nat} (hi:i<a.rim.length) (hj:j<b.rim.length) (hk:k≤min a.rim.length b.rim.length - 1):(KX a b e i ++ Zd a b e i j ++ Zz a b e i j k).length≤(Bt a b e).length:=by
 have h1:=Is (Zz a b e i j) (fun k=>by show _≤(Zz a b e i j k ++ _).length; simp) hk
 have h2:=Is (Zd a b e i) (fun k=>by show _≤(Zd a b e i k ++ _).length; simp) (show j+1≤b.rim.length by omega)
 have h3:=Is (KX a b e) (fun k=>by show _≤(KX a b e k ++ _).length; simp) (show i+1≤a.rim.length by omega)
 have e2:(Zd a b e i (j+1)).length=(Zd a b e i j).length+(Zz a b e i j (min a.rim.length b.rim.length - 1)).length:=by show (Zd a b e i j ++ _).length=_; rw [List.length_append]
 have e3:(KX a b e (i+1)).length=(KX a b e i).length+(Zd a b e i b.rim.length).length:=by show (KX a b e i ++ _).length=_; rw [List.length_append]
 have e4:(Bt a b e).length=(KX a b e a.rim.length).length:=rfl
 rw [List.length_append,List.length_append]
 omega
theorem L3 (a b:PV) (e:Rat) (t:Tok) (m:Nat) (Hs:List FV→List AO) (la:a.rim.length≤1000) (lb:b.rim.length≤1000) (ha:0<a.rim.length) (hb:0<b.rim.length) (hHs:∀ D,On m (Hs D)) (hce:t.ce.H.length≤m)
  (hy:∀ i j k D,i<a.rim.length→j<b.rim.length→k+1<min a.rim.length b.rim.length→D.length≤(Bt a b e).length→YCall Tryz.prog t [.agg (uh i j (k+1))] (Hs D) (.bool true) (Hs (D ++ DP a b e i j (k+1)))) :
  ICall Tryz.prog t 197 [.yld t.l,KL a,KL b] (Hs []) (Hs (Bt a b e)):=by
 refine ICall.intro (fn:=Tryz.f197) Tryz.call197 Tryz.func197 rfl mixed 9 [15,16,19,20] [] [] (by kernel_rfl) (Nat.le_of_ble_eq_true rfl) (by rw [(hHs []).1]; exact hce) (by rw [(hHs []).1]; exact fun o ho=>((hHs _).2 o ho).1) (Xi ?_)
 simp (disch:=omega) only [AS.start,QA,QC,Xu,↓XK,wG,seval]
 refine Xd (fun i:Nat=>⟨9,[15,16,19,20],[.yld t.l,KL a,KL b,.any,I a.rim.length,I b.rim.length,.any,.any,.any],[(15,I a.rim.length),(16,I i)],Hs (KX a b e i)⟩) (fun i=>i≤a.rim.length) (fun i=>a.rim.length - i) 0 (by omega)
  (Xf rfl (by simp [Xg,QA,QC,Xu,XR,X4,I]) (by simp [Xn,Xr,I]) (by simp [KX])) ?_
 intro i hi next
 by_cases hi2:i<a.rim.length
 rotate_left
 ·obtain rfl:i=a.rim.length:=by omega
  refine Xi ?_
  simp (disch:=omega) only [QA,↓XK,wG,seval]
  exact rT rfl (by show (Hs _).take (Hs []).length=_; rw [(hHs []).1,← (hHs (KX a b e a.rim.length)).1,List.take_length]; rfl)
 refine Xi ?_
 simp (disch:=omega) only [QA,↓XK,wG,seval]
 refine Xd (fun j:Nat=>⟨9,[15,16,19,20],[.yld t.l,KL a,KL b,.any,I a.rim.length,I b.rim.length,I i,.any,.any],[(19,I b.rim.length),(20,I j),(15,I a.rim.length),(16,I i)],Hs (KX a b e i ++ Zd a b e i j)⟩) (fun j=>j≤b.rim.length) (fun j=>b.rim.length - j) 0 (by omega)
  (Xf rfl (by simp [Xg,QA,I]) (by simp [Xn,Xr,I]) (by simp [Zd])) ?_
 intro j hj next2
 by_cases hj2:j<b.rim.length
 rotate_left
 ·obtain rfl:j=b.rim.length:=by omega
  refine Xi ?_
  simp (disch:=omega) only [QA,↓XK,wG,seval]
  exact next (i+1) _ (by omega) (by omega) (Xf rfl (by simp [Xg,QA,I]) (by simp [Xn,Xr,I]) (by simp [KX]))
 clear next
 have nx2:=next2 (j+1)
 rw [show Zd a b e i (j+1)=Zd a b e i j ++ Zz a b e i j (min a.rim.length b.rim.length - 1) from rfl,← List.append_assoc] at nx2
 have hpre:=fun k hk=>mo a b e (k:=k) hi2 hj2 hk
 generalize KX a b e i ++ Zd a b e i j=D at *
 clear next2
 refine Xi ?_
 simp (disch:=omega) only [QA,↓XK,wG,seval]
 refine Xd (fun k:Nat=>⟨9,[15,16,19,20],[.yld t.l,KL a,KL b,.any,I a.rim.length,I b.rim.length,I i,I j,I (k+1:Nat)],[(19,I b.rim.length),(20,I j),(15,I a.rim.length),(16,I i)],Hs (D ++ Zz a b e i j k)⟩) (fun k=>k≤min a.rim.length b.rim.length - 1) (fun k=>min a.rim.length b.rim.length - k) 0 (by omega)
  (Xf rfl (by simp [Xg,QA,I]) (by simp [Xn,Xr,I]) (by simp [Zz])) ?_
 intro k hk next3
 by_cases hk2:k+1<min a.rim.length b.rim.length
 rotate_left
 ·obtain rfl:k=min a.rim.length b.rim.length - 1:=by omega
  refine Xi ?_
  simp (disch:=omega) only [QA,↓XK,wG,seval]
  exact nx2 _ (by omega) (by omega) (Xf rfl (by simp [Xg,QA,I]) (by simp [Xn,Xr,I]) (by simp))
 have nx3:=next3 (k+1)
 rw [show Zz a b e i j (k+1)=Zz a b e i j k ++ DP a b e i j (k+1) from rfl,← List.append_assoc] at nx3
 have hE:=hpre k (by omega)
 clear hpre
 generalize D ++ Zz a b e i j k=E at *
 obtain ⟨q1,q2⟩:=hHs E
 obtain ⟨q3,q4⟩:=hHs (E ++ DP a b e i j (k+1))
 refine Xi ?_
 simp (disch:=omega) only [QA,↓XK,wG,seval]
 refine BS (t:=t) (H1:=Hs E) (H1':=Hs (E ++ DP a b e i j (k+1))) (rest:=[]) rfl rfl (List.mem_singleton.2 rfl) (hy i j k E hi2 hj2 hk2 hE) (List.append_nil _).symm (q3.trans q1.symm) (by rw [q1]; exact hce) ?_ (by rw [q1]; exact fun o ho=>(q2 o ho).1) (fun o ho=>(q2 o ho).2.1) (fun o ho=>(q4 o ho).2.1) (QM (fun o ho=>(q2 o ho).2.2) (fun o ho=>(q4 o ho).2.2)) ⟨?_,trivial⟩ ?_
 ·intro x hx
  rw [List.mem_singleton.1 hx]
  exact X7 (Qh (RJ _ _ _))
 ·exact Weak.rfl' _
 simp (disch:=omega) only [QA,↓XK,wG,seval]
 exact nx3 _ (by omega) (by omega) (Xf rfl (by simp [Xg,QA,I]) (by simp [Xn,Xr,I]) (by simp))
def Gx (p:FV→Bool) (s:List FV):Int:=if s.any p=true then (s.findIdx p:Nat) else -1
theorem Ig {s:List FV} {j:Nat} (h:j<s.length):s.getD j Cs∈s:=by
 rw [List.getD_eq_getElem?_getD,List.getElem?_eq_getElem h]; exact List.getElem_mem h
theorem Yw {p:FV→Bool} {s:List FV} {j:Nat} (hj:j<s.length) (h:p (s.getD j Cs)=true) (hno:∀ i,i<j→p (s.getD i Cs)=false):Gx p s=j:=by
 have at_:∀ i (hi:i<s.length),s.getD i Cs=s[i]:=fun i hi=>by rw [List.getD_eq_getElem?_getD,List.getElem?_eq_getElem hi]; rfl
 have e:s.findIdx p=j:=by
  rw [List.findIdx_eq hj]
  exact ⟨by rw [← at_ j hj]; exact h,fun i hi=>by rw [← at_ i (by omega)]; exact hno i hi⟩
 unfold Gx
 rw [if_pos (List.any_eq_true.2 ⟨_,Ig hj,h⟩),e]
theorem Tx {p:FV→Bool} {s:List FV} (hno:∀ i,i<s.length→p (s.getD i Cs)=false):Gx p s = -1:=by
 unfold Gx
 rw [if_neg]
 intro h
 obtain ⟨x,hx,hp⟩:=List.any_eq_true.1 h
 obtain ⟨i,hi,rfl⟩:=List.getElem_of_mem hx
 have:=hno i hi
 rw [List.getD_eq_getElem?_getD,List.getElem?_eq_getElem hi] at this
 simp only [Option.getD_some] at this
 rw [this] at hp; cases hp
theorem Mp (p:FV→Bool) (s:List FV):decide (0≤Gx p s)=s.any p:=by
 unfold Gx
 cases h:s.any p
 ·simp
 ·rw [if_pos rfl]; exact decide_eq_true (by omega)
theorem Tr (s:List FV) (f:FuncId) (caps:List AV) (p:FV→Bool) (hl:s.length<1000000) (hc:∀ a∈caps,Settled a) (hp:∀ x∈s,Fn Tryz.prog f ([CS x] ++ caps) (.bool (p x))) :
  Fn Tryz.prog 204 [NL s,.fn f caps] (I (Gx p s)):=by
 refine Fn.intro (fn:=Tryz.f204) Tryz.call204 Tryz.func204 rfl mixed 6 [6,7,8] [] [] (by kernel_rfl) (Nat.le_of_ble_eq_true rfl) (by simpa [Zi] using Jw hc) (Xi ?_)
 simp (disch:=omega) only [AS.start,XF,↓XK,wG,seval]
 refine Xd (fun j:Nat=>⟨6,[6,7,8],[NL s,.fn f caps,.any,.any,.any,.any],[(6,NL s),(7,I s.length),(8,I j)],[]⟩) (fun j=>j≤s.length∧∀ i,i<j→p (s.getD i Cs)=false) (fun j=>s.length - j) 0 ⟨by omega,by omega⟩
  (Xf rfl (by simp [Xg,XF,I]) (by simp [Xn,Xr,XF,I]) rfl) ?_
 rintro j ⟨hj,hno⟩ next
 by_cases hj2:j<s.length
 ·have v1:=fF s j
  have v2:=uM s j
  refine Xi ?_
  simp (disch:=omega) only [XF,v1,v2,Jp,↓XK,wG,seval]
  refine QS (hp _ (Ig hj2)) (Qn _) ?_
  simp (disch:=omega) only [↓XK,wG,seval]
  refine QN (fun ht=>Xx (v:=I j) rfl rfl (X9 _) ?_) (fun hf=>next (j+1) _ ⟨by omega,CC.2 ⟨hno,hf⟩⟩ (by omega) (Xf rfl (by simp [Xg,XF,I]) (by simp [Xn,Xr,XF,I]) rfl))
  rw [Yw hj2 ht hno]
 ·refine Xi ?_
  simp (disch:=omega) only [XF,↓XK,wG,seval]
  refine Xx (v:=I (-1)) rfl rfl (X9 _) ?_
  rw [Tx fun i hi=>hno i (by omega)]
theorem Lx (s:List FV) (f:FuncId) (caps:List AV) (p:FV→Bool) (hl:s.length<1000000) (hc:∀ a∈caps,Settled a) (hp:∀ x∈s,Fn Tryz.prog f ([CS x] ++ caps) (.bool (p x))) :
  Fn Tryz.prog 139 [NL s,.fn f caps] (.bool (s.any p)):=by
 have hi:=Mp p s
 refine Fn.intro (fn:=Tryz.f139) Tryz.call139 Tryz.func139 rfl mixed 5 [] [] [] (by kernel_rfl) (Nat.le_of_ble_eq_true rfl) (by simpa [Zi] using Jw hc) (Xi ?_)
 simp (disch:=omega) only [AS.start,↓XK,wG,seval]
 refine X0 (Tr s f caps p hl hc hp) rfl ?_
 simp (disch:=omega) only [↓XK,wG,seval]
 exact Xx (v:=.bool (decide (0≤Gx p s))) rfl rfl (X2 _) (by rw [Mp])
theorem Yk (a b:PV) (f g:FV) (ha:0<a.rim.length∧a.rim.length<1000000) (hb:0<b.rim.length∧b.rim.length<1000000) (nf:f.near) (ng:g.near) (hf:vb f.turn≤vm) (hg:vb g.turn≤vm) :
  Fn Tryz.prog 140 ([CS g] ++ [uy f,KL a,KL b]) (.bool (decide (Fc a.rim.length b.rim.length f g))):=by
 obtain ⟨V,hV⟩:∃ V,V=decide (Fc a.rim.length b.rim.length f g):=⟨_,rfl⟩
 rw [← hV]
 replace hV:=(Bool.eq_iff_iff.1 hV).trans decide_eq_true_iff
 have fin:∀ {s:AS} {v:Bool},s.get 5=.bool v→v=V→RetOk (QV Tryz.prog Tryz.f140 [2,30000004] [] (.bool V)) s:=fun h e=>Xx rfl h (X2 _) (by rw [e])
 obtain ⟨f1,f2,f3⟩:=nf
 obtain ⟨g1,g2,g3⟩:=ng
 have d0:=Int.emod_nonneg (f.EA - g.EA) (show (a.rim.length:Int)≠0 by omega)
 have d1:=Int.emod_lt_of_pos (f.EA - g.EA) (show (0:Int)<a.rim.length by omega)
 have c1:=ZI (f.EA - g.EA) a.rim.length ha.1 (by omega) (by omega)
 have c2:=ZI (g.EB - (f.EA - g.EA) % a.rim.length) b.rim.length hb.1 (by omega) (by omega)
 have c3:=B7 f.turn g.turn hf hg
 unfold Fc at hV
 generalize (f.EA - g.EA) % (a.rim.length:Int)=d at *
 generalize (g.EB - d) % (b.rim.length:Int)=r at *
 refine Fq Tryz.call140 Tryz.func140 7 [] [2,30000004] [] (by simp [Be,GJ,JP]) (Xi ?_)
 simp (disch:=omega) only [AS.start,QA,uy,QC,Xu,CS,Jp,List.cons_append,List.nil_append,↓XK,wG,seval]
 refine X0 c1 rfl ?_
 by_cases h1:f.M<g.M
 rotate_left
 ·simp (disch:=omega) only [↓XK,wG,seval]
  exact fin rfl (vN hV (fun hh=>h1 hh.1))
 by_cases h2:d+f.M≤g.M
 rotate_left
 ·simp (disch:=omega) only [↓XK,wG,seval]
  exact fin rfl (vN hV (fun hh=>h2 hh.2.1))
 simp (disch:=omega) only [↓XK,wG,seval]
 refine X0 c2 rfl ?_
 by_cases h3:r=f.EB
 rotate_left
 ·simp (disch:=omega) only [↓XK,wG,seval]
  exact fin rfl (vN hV (fun hh=>h3 hh.2.2.1))
 simp (disch:=omega) only [↓XK,wG,seval]
 refine X0 c3 rfl ?_
 simp (disch:=omega) only [↓XK,wG,seval]
 exact fin rfl (vI hV ⟨fun hh=>hh.2.2.2,fun hh=>⟨h1,h2,h3,hh⟩⟩)
def Tq (W:List FV):AV:=.ptr 1 (Xk [NL W]) 0
theorem EX (W:List FV):Tq W=.ptr 1 (Xk [NL W]) 0:=nrfl rfl
theorem Cl (W:List FV):Settled (Tq W):=QF fun j hj=>by
 obtain rfl:j=0:=by omega
 exact Zi W
theorem fj (a b:PV) (f:FV) (W:List FV) (ha:0<a.rim.length∧a.rim.length<1000000) (hb:0<b.rim.length∧b.rim.length<1000000) (hW:W.length<1000000) (nf:f.near) (hf:vb f.turn≤vm) (hall:∀ g∈W,g.near∧vb g.turn≤vm) :
  Fn Tryz.prog 138 ([CS f] ++ [Tq W,KL a,KL b]) (.bool (Pz a.rim.length b.rim.length W f)):=by
 have c:=Lx W 140 [uy f,KL a,KL b] (fun g=>decide (Fc a.rim.length b.rim.length f g)) hW (by simp [GJ,JP]) (fun g hg=>Yk a b f g ha hb nf (hall g hg).1 hf (hall g hg).2)
 change Fn _ _ _ (.bool (Pz a.rim.length b.rim.length W f)) at c
 generalize Pz a.rim.length b.rim.length W f=V at *
 refine Fq Tryz.call138 Tryz.func138 6 [] [] [] (by simp [Be,Cl,JP]) (Xi ?_)
 simp (disch:=omega) only [AS.start,EX,QA,XF,CS,Jp,List.cons_append,List.nil_append,↓XK,wG,seval]
 refine JF c rfl ⟨(Zi W).sees _,Cj ⟨?_,(JP a).sees _,(JP b).sees _,trivial⟩,trivial⟩ (Ar _) ?_
 ·exact Z0 (.inl rfl) (by omega) fun j hj=>(Xe (Qq f) j).sees _
 simp (disch:=omega) only [↓XK,wG,seval]
 exact Xx rfl rfl (X2 _) rfl
def Kw (a b:PV) (D:List FV):List AO:=[.row 0 25 (Xk (QC a)),.row 0 25 (Xk (QC b)),.row 0 1 (Xk [.osl 3 D.length 29 0 D.length]),.row D.length (D.length*29) (Xt Jp 29 Cs D)]
theorem Wn (a b:PV) (D:List FV):Kw a b D=[.row 0 25 (Xk (QC a)),.row 0 25 (Xk (QC b)),.row 0 1 (Xk [.osl 3 D.length 29 0 D.length]),.row D.length (D.length*29) (Xt Jp 29 Cs D)]:=nrfl rfl
theorem FG (a b:PV) (D:List FV) (m:Nat) (h:4≤m):∀ o∈Kw a b D,XW m o:=fun o ho=>by
 simp only [Kw,List.mem_cons,List.not_mem_nil,or_false] at ho
 rcases ho with rfl | rfl | rfl | rfl
 ·exact XX (XP a)
 ·exact XX (XP b)
 ·intro j hj
  obtain rfl:j=0:=by omega
  exact Hg (by omega)
 ·exact fun j _=>X7 (Xe (Qq _) _)
theorem OE (a b:PV) (D:List FV):On 4 (Kw a b D):=⟨rfl,fun o ho=>⟨FG a b D 4 (by omega) o ho,by
 simp only [Kw,List.mem_cons,List.not_mem_nil,or_false] at ho
 rcases ho with rfl | rfl | rfl | rfl <;> simp⟩⟩
def sL (i j k:Nat):List AV:=[I 0,I 1,I i,I j,I k] ++ (ZD ++ (ZD ++ ZD))
theorem RK (i j k:Nat):∀ x∈sL i j k,Settled x:=by simp [sL,ZD,X9,X2,GM]
theorem T9 (a b:PV) (f:FV) (n:Nat):Al (Ai (QT a b f n) ((QT a b f n).length - 1)) ((Ai (QT a b f n) ((QT a b f n).length - 1)).length - 1)=KF a b f n:=by
 rw [AN]
 by_cases h:0<(QT a b f n).length
 ·exact Wq a b f n h
 have e:QT a b f n=[]:=List.eq_nil_of_length_eq_zero (by omega)
 have e2:KF a b f n=[]:=by
  refine List.eq_nil_iff_forall_not_mem.2 fun x hx=>?_
  have:x∈QT a b f n:=(OJ a b f x n).2 ((ZS a b f x n).1 hx)
  rw [e] at this; cases this
 rw [e,e2]; rfl
theorem fi (a b:PV) {ta tb:Rat} (ha:GP a ta) (hb:GP b tb):Fn Tryz.prog 50 [Zl a,Zl b] (NL (Mf a b (ta+tb))):=by
 have la:=(A5 _ ha.poly).1
 have lb:=(A5 _ hb.poly).1
 simp only [Xp,List.length_map] at la lb
 have cs:=Oc a b
 obtain ⟨e,hT⟩:∃ e,e=ta+tb:=⟨_,rfl⟩
 rw [← hT]
 refine Fr Tryz.call50 Tryz.func50 15 [18,32,33,34,63,64,65] [] [5,6,7] ?_
 simp (disch:=omega) only [AS.start,Zl,QC,↓XK,wG,seval]
 refine X0 cs rfl ?_
 simp (disch:=omega) only [QC,↓XK,wG,seval]
 refine Run.sub (s':=⟨15,[18,32,33,34,63,64,65],[.any,.any,.ref 0 0 0,.ref 1 0 0,.any,.ref 2 0 0,.any,.any,.any,.any,.any,.any,.any,.any,.any],[(17,.fn 197 [KL a,KL b])],Kw a b []⟩) ?_
  ((Jh 2 1 (fun _=>.sl 0 0 (fun _=>.any) true) rfl (Nat.le_refl _) (fun j hj=>by have e:j=0:=Nat.lt_one_iff.1 hj; subst e; rfl)).trans ((Ew 2 29 (Xt Jp 29 Cs []) rfl 1 (Nat.le_refl _)).trans ((Jh 2 1 (Xk [.osl 3 0 29 0 0]) rfl (Nat.le_refl _) (fun j hj=>by have e:j=0:=Nat.lt_one_iff.1 hj; subst e; rfl)).trans (Xf rfl (by simp [Xg]) (by simp [Xn,Xr,QA,QC,Xu,XR,X4,I]) (by simp [Kw,QC,Xu,XR,X4,I])))))
 have hlenA:=OD a b e la.2 lb.2 (by omega) (by omega)
 refine DW (gf:=197) (caps:=[KL a,KL b]) (Hn:=Kw a b (Bt a b e)) rfl rfl rfl (fun t ht=>?_) ?_
 ·have hce:t.ce.H.length≤4:=by rw [ht.ch]; exact Nat.le_refl _
  refine L3 a b e t 4 (fun D=>Kw a b D) (by omega) (by omega) (by omega) (by omega) (fun D=>OE a b D) hce fun i j k D hi hj hk hD=>?_
  have hst:∀ t lo hi,Ev a.rim.length b.rim.length ⟨0,1,i,j,(k+1:Nat),t,lo,hi⟩:=fun t lo hi=>⟨⟨by show (0:Int)≤i; omega,by show (i:Int)<_; omega⟩,⟨by show (0:Int)≤j; omega,by show (j:Int)<_; omega⟩,by show (1:Int)≤((k+1:Nat):Int); omega,by show ((k+1:Nat):Int)<_; omega,by show ((k+1:Nat):Int)<_; omega⟩
  have cp:=Rl a b (Jr i j (k+1) v0) (hst _ _ _) ha.even hb.even
  have wf:=aR i j (k+1)
  have hfk:DP a b e i j (k+1)=if LC a b (Jr i j (k+1) v0) then BA a b e i j (k+1) (KF a b (Jr i j (k+1) v0) (k+1)) else []:=rfl
  rw [hfk]
  refine Do (str:=[]) (hcs:=[5,6,7]) ht mixed (by kernel_rfl) (by kernel_rfl) rfl (fun p hp=>?_) (fun o ho=>((OE a b _).2 o ho).1) (fun l r hr=>?_)
  ·have hp':p=18:=by simpa using hp
   subst hp'
   exact Nat.le_of_ble_eq_true rfl
  show Run _ _ ⟨15,[18,32,33,34,63,64,65],[.any,.any,.ref 0 0 0,.ref 1 0 0,.any,.ref 2 0 0,.any,.any,.any,.any,.any,.any,.any,.any,.any],[(18,.agg (uh i j (k+1))),(17,.fn 197 [KL a,KL b])],Kw a b D⟩
  refine Xi ?_
  simp (disch:=omega) only [Wn,QA,uh,Q2,List.cons_append,List.nil_append,↓XK,wG,seval]
  refine Ed hr ?_
  refine Xi ?_
  simp (disch:=omega) only [QC,↓XK,wG,seval]
  refine QS cp ⟨Weak.rfl' _,Weak.rfl' _,Ji wf,trivial⟩ ?_
  by_cases hp:LC a b (Jr i j (k+1) v0)
  rotate_left
  ·rw [if_neg hp,List.append_nil]
   simp (disch:=omega) only [decide_eq_false hp,↓XK,wG,seval]
   exact my rfl
  rw [if_pos hp]
  simp (disch:=omega) only [decide_eq_true hp,↓XK,wG,seval]
  have hZ:=FG a b D
  have cA:=OK (.row 0 25 (Xk (QC a))) (.row 0 25 (Xk (QC b))) (.row 0 1 (Xk [.osl 3 D.length 29 0 D.length])) (.row D.length (D.length*29) (Xt Jp 29 Cs D)) (.row 0 29 (Xk (sL i j (k+1)))) (fun m hm=>hZ m (by omega) _ (by simp [Kw])) (fun m hm=>hZ m (by omega) _ (by simp [Kw])) (fun m hm=>hZ m (by omega) _ (by simp [Kw])) (fun m hm=>hZ m (by omega) _ (by simp [Kw])) (fun m hm=>XX (RK i j (k+1))) a b (Jr i j (k+1) v0) (hst _ _ _) ha.even hb.even
  rw [show (Jr i j (k+1) v0).M.toNat=k+1 from rfl] at cA
  have hAl:=HK a b (Jr i j (k+1) v0) (k+1)
  have hAs:=HL a b (Jr i j (k+1) v0) ha.even.near hb.even.near (k+1)
  have hct:=T9 a b (Jr i j (k+1) v0) (k+1)
  have hsm:=Fx a b (Jr i j (k+1) v0) ha.even.near hb.even.near (k+1)
  have hlen:=Ey a b (Jr i j (k+1) v0) (k+1)
  have hcm2:=UH (Ai (QT a b (Jr i j (k+1) v0) (k+1)) ((QT a b (Jr i j (k+1) v0) (k+1)).length - 1))
  generalize QT a b (Jr i j (k+1) v0) (k+1)=A at *
  generalize KF a b (Jr i j (k+1) v0) (k+1)=L at *
  have hu8:∀ o∈[AO.row 0 25 (Xk (QC a)),.row 0 25 (Xk (QC b)),.row 0 1 (Xk [.osl 3 D.length 29 0 D.length]),.row D.length (D.length*29) (Xt Jp 29 Cs D),.row 0 29 (Xk (sL i j (k+1))),.dead,.dead,.dead],o≠AO.unborn:=by simp
  have cS:=mM (.row 0 25 (Xk (QC a))) (.row 0 25 (Xk (QC b))) (.row 0 1 (Xk [.osl 3 D.length 29 0 D.length])) (.row D.length (D.length*29) (Xt Jp 29 Cs D)) (.row 0 29 (Xk (sL i j (k+1)))) .dead .dead .dead hu8 A.length A (fun x hx=>by have:=hAs x hx; unfold vm; omega) (by omega)
  have hSl:=AN A (A.length - 1)
  have hSm:∀ x∈Ai A (A.length - 1),vb x≤vm:=fun x hx=>by
   by_cases h0:0<A.length
   ·have:=hAs x (IY A (A.length - 1) (by omega) x hx); unfold vm; omega
   ·rw [List.eq_nil_of_length_eq_zero (show (Ai A (A.length - 1)).length=0 by omega)] at hx; cases hx
  have cC:=Ta (.row 0 25 (Xk (QC a))) (.row 0 25 (Xk (QC b))) (.row 0 1 (Xk [.osl 3 D.length 29 0 D.length])) (.row D.length (D.length*29) (Xt Jp 29 Cs D)) (.row 0 29 (Xk (sL i j (k+1)))) .dead .dead .dead A.length (Ai A (A.length - 1)) hSm (by omega)
  rw [hct] at cC
  rw [hSl] at cC
  generalize Ai A (A.length - 1)=S at *
  refine KI rfl cA (QM (by simp) (by simp)) (fun id hh=>absurd (List.mem_of_getElem? hh) (by simp)) ⟨Weak.rfl' _,Weak.rfl' _,Ji wf,trivial⟩ ?_
  simp (disch:=omega) only [↓XK,wG,seval]
  refine KI rfl cS (QM (by simp) (by simp)) (fun id hh=>absurd (List.mem_of_getElem? hh) (by simp)) (Qn _) ?_
  simp (disch:=omega) only [↓XK,wG,seval]
  refine KI rfl cC (QM (by simp) (by simp)) (fun id hh=>absurd (List.mem_of_getElem? hh) (by simp)) (Qn _) ?_
  simp (disch:=omega) only [↓XK,wG,seval]
  have hvc:∀ a:V2,∀ x∈vC a,Settled x:=fun a=>by simp [vC,X8,X2]
  have bAll:∀ (E:List FV) (f:FV),∀ o∈Kw a b E ++ [.row 0 29 (Xk (Jp f)),.dead,.dead,.dead,.row A.length (L.length*8) (Xt vC 8 v0 L)],XW 9 o:=fun E f o ho=>by
   rcases List.mem_append.1 ho with ho | ho
   ·exact FG a b E 9 (by omega) o ho
   simp only [List.mem_cons,List.not_mem_nil,or_false] at ho
   rcases ho with rfl | rfl | rfl | rfl | rfl
   ·exact XX (Qq f)
   ·trivial
   ·trivial
   ·trivial
   ·exact fun j _=>X7 (Xe (hvc _) _)
  refine Xd (fun w:Nat×V2×V2×V2=>⟨15,[18,32,33,34,63,64,65],[.any,.any,.ref 0 0 0,.ref 1 0 0,.any,.ref 2 0 0,.ref 4 0 0,.any,.any,.any,.any,.any,.any,.any,.any],[(32,.osl 8 A.length 8 0 L.length),(33,I L.length),(34,I w.1)],Kw a b (D ++ BA a b e i j (k+1) (L.take w.1)) ++ [.row 0 29 (Xk (Jp ⟨0,1,i,j,(k+1:Nat),w.2.1,w.2.2.1,w.2.2.2⟩)),.dead,.dead,.dead,.row A.length (L.length*8) (Xt vC 8 v0 L)]⟩) (fun w=>w.1≤L.length) (fun w=>L.length - w.1) (0,v0,v0,v0) (Nat.zero_le _)
   (Sub.trans (RX 4 (Jp (Jr i j (k+1) v0)) rfl rfl wf) (Xf rfl (by simp [Xg,I]) (by simp [Xn,Xr,I]) (by simp [Kw,QC,Xu,XR,X4,BA,Jr,I]))) ?_
  rintro ⟨t,T,lo,hi'⟩ ht nextt
  replace ht:t≤L.length:=ht
  by_cases ht2:t<L.length
  rotate_left
  ·obtain rfl:t=L.length:=by omega
   rw [List.take_length] at *
   refine Xi ?_
   simp (disch:=omega) only [Kw,↓XK,wG,seval]
   exact my rfl
  have hx:=hsm (L.getD t v0) (Js ht2)
  have htk:=Ts a b e i j (k+1) L t ht2
  have v1:=Jy vC 8 v0 L t
  have v2:=JQ vC 8 v0 L t (by omega)
  have htl:=Mh a b e i j (k+1) (L.take t)
  rw [List.length_take] at htl
  generalize L.getD t v0=x at *
  have ca:=cO a b ⟨0,1,i,j,(k+1:Nat),x,lo,hi'⟩ ha.even hb.even (by show vb x≤1000; omega) ha.tol hb.tol (by have:=ha.qt; omega) (by have:=hb.qt; omega)
  rw [← hT] at ca
  have hag:XU a.rim b.rim ⟨0,1,i,j,(k+1:Nat),x,lo,hi'⟩ e=XU a.rim b.rim (Jr i j (k+1) x) e:=rfl
  rw [hag] at ca
  have hqe:qb e≤41:=by rw [hT]; have:=Z7 ta tb; have:=ha.qt; have:=hb.qt; omega
  have hfine:(J7 a b (Jr i j (k+1) x) e).fine:=by
   obtain ⟨h1,h2⟩:=OA a b (Jr i j (k+1) x) ha.even.near hb.even.near e (by show vb x≤60; omega)
   exact ⟨by show vb x≤60; omega,by show vb (XU a.rim b.rim (Jr i j (k+1) x) e).1≤300; omega,by show vb (XU a.rim b.rim (Jr i j (k+1) x) e).2.1≤300; omega⟩
  have cc:=Yj a b _ ha hb hfine
  rw [← hT] at cc
  have hok:Gs a b e i j (k+1) x=((XU a.rim b.rim (Jr i j (k+1) x) e).2.2 && Bk a b (J7 a b (Jr i j (k+1) x) e) e):=rfl
  have hsf:J7 a b (Jr i j (k+1) x) e=⟨0,1,i,j,(k+1:Nat),x,(XU a.rim b.rim (Jr i j (k+1) x) e).1,(XU a.rim b.rim (Jr i j (k+1) x) e).2.1⟩:=rfl
  rw [hok,hsf] at htk
  rw [hsf] at cc
  generalize XU a.rim b.rim (Jr i j (k+1) x) e=G at *
  obtain ⟨g1,g2,ok⟩:=G
  simp only at htk cc ca
  have nx2:=nextt (t+1,x,g1,g2)
  rw [htk,← List.append_assoc] at nx2
  have hDl:(D ++ BA a b e i j (k+1) (L.take t)).length≤24000+12:=by rw [List.length_append]; omega
  generalize D ++ BA a b e i j (k+1) (L.take t)=E at *
  generalize Bk a b ⟨0,1,i,j,(k+1:Nat),x,g1,g2⟩ e=q at *
  refine Xi ?_
  simp (disch:=omega) only [Kw,vC,Jp,QC,Xu,List.cons_append,List.nil_append,v1,v2,↓XK,wG,seval]
  refine X0 ca rfl ?_
  cases ok with
  | false =>
   simp only [Bool.false_and,Bool.false_eq_true,if_false,List.append_nil] at nx2
   simp (disch:=omega) only [↓XK,wG,seval]
   exact nx2 _ (by show t+1≤L.length; omega) (by show L.length - (t+1)<L.length - t; omega) (XD (m:=9) (Nat.le_add_right 4 5) rfl (by simp [Xg,I]) (by simp [Xn,Xr,I]) (by simp [Kw,QC,Jp,Xu,XR,X4,I,sg]) (by simp [XA]) (by simp [XA]) (bAll _ _))
  | true =>
   simp (disch:=omega) only [↓XK,wG,seval]
   refine X0 cc rfl ?_
   cases q with
   | false =>
    simp only [Bool.and_false,Bool.false_eq_true,if_false,List.append_nil] at nx2
    simp (disch:=omega) only [↓XK,wG,seval]
    exact nx2 _ (by show t+1≤L.length; omega) (by show L.length - (t+1)<L.length - t; omega) (XD (m:=9) (Nat.le_add_right 4 5) rfl (by simp [Xg,I]) (by simp [Xn,Xr,I]) (by simp [Kw,QC,Jp,Xu,XR,X4,I,sg]) (by simp [XA]) (by simp [XA]) (bAll _ _))
   | true =>
    simp only [Bool.and_true,if_true] at nx2
    have hap:=QR Jp 29 Cs E ⟨0,1,i,j,(k+1:Nat),x,g1,g2⟩ (by omega)
    have hEl:(E ++ [(⟨0,1,i,j,(k+1:Nat),x,g1,g2⟩:FV)]).length=E.length+1:=by simp
    simp (disch:=omega) only [↓XK,wG,seval]
    refine ⟨V1 ⟨0,1,i,j,(k+1:Nat),x,g1,g2⟩,?_⟩
    exact nx2 _ (by show t+1≤L.length; omega) (by show L.length - (t+1)<L.length - t; omega) (XD (m:=9) (Nat.le_add_right 4 5) rfl (by simp [Xg,I]) (by simp [Xn,Xr,I]) (by simp only [Kw,hEl,← hap]; rfl) (by simp [XA]) (by simp [XA]) (bAll _ _))
 have hfin:∀ f∈Bt a b e,f.near∧vb f.turn≤vm:=fun f hf=>by
  rw [hT] at hf
  obtain ⟨h1,h2,_⟩:=Pi ha hb hf
  exact ⟨h1,by unfold vm; omega⟩
 have hdef:Mf a b e=(Bt a b e).filter fun f=>!Pz a.rim.length b.rim.length (Bt a b e) f:=rfl
 rw [hdef]
 clear hdef
 show Run _ _ ⟨15,[18,32,33,34,63,64,65],[.any,.any,.ref 0 0 0,.ref 1 0 0,.any,.ref 2 0 0,.any,.any,.any,.any,.any,.any,.any,.any,.any],[(17,.fn 197 [KL a,KL b])],Kw a b (Bt a b e)⟩
 generalize Bt a b e=W at *
 refine Run.sub (s':=⟨15,[18,32,33,34,63,64,65],[.any,.any,KL a,KL b,.any,Tq W,.any,.any,.any,.any,.any,.any,.any,.any,.any],[],[]⟩) ?_
  ((Qy 0 rfl).trans ((Qy 1 rfl).trans ((Qy 3 rfl).trans ((Z1 2 (Xk [NL W]) rfl (fun j hj=>by
   obtain rfl:j=0:=by omega
   exact AQ (M:=W.length*29) rfl (Nat.le_refl _) (fun h=>by rw [h]) (fun j hj=>Qa _ _))).trans ((Qy 2 rfl).trans ((BL 2 rfl rfl (by omega)).trans ((BL 3 rfl rfl (by omega)).trans ((BL 5 rfl rfl (by omega)).trans
   (XD (m:=0) (Nat.zero_le _) rfl (by simp [AS.put,Xg,QA,EX]) (by simp [AS.put,Xn]) (by simp) (by simp [XA,X7 (JP a),X7 (JP b),X7 (Cl W)]) (by simp [XA]) (by simp))))))))))
 refine Xi ?_
 simp (disch:=omega) only [QA,EX,XF,↓XK,wG,seval]
 have sCl:Settled (.fn 138 [Tq W,KL a,KL b]):=Jw (by simp [Cl,JP])
 have bCl:Kn 1 (.fn 138 [Tq W,KL a,KL b])=True:=eq_true (X7 sCl)
 have bW:Kn 1 (NL W)=True:=eq_true (X7 (Zi W))
 have b3:∀ v n l,XW 1 (.row v n (Xt Jp 29 Cs l))=True:=fun v n l=>eq_true fun j _=>X7 (Xe (Qq _) _)
 refine Xd (fun i:Nat=>⟨15,[18,32,33,34,63,64,65],[.any,.any,.any,.any,.any,.any,.any,.any,.any,.any,.any,.fn 138 [Tq W,KL a,KL b],.osl 0 ((W.take i).filter (fun f=>!Pz a.rim.length b.rim.length W f)).length 29 0 ((W.take i).filter (fun f=>!Pz a.rim.length b.rim.length W f)).length,.any,.any],[(65,I i),(64,I W.length),(63,NL W)],[.row ((W.take i).filter (fun f=>!Pz a.rim.length b.rim.length W f)).length (((W.take i).filter (fun f=>!Pz a.rim.length b.rim.length W f)).length*29) (Xt Jp 29 Cs ((W.take i).filter (fun f=>!Pz a.rim.length b.rim.length W f)))]⟩) (fun i=>i≤W.length∧((W.take i).filter (fun f=>!Pz a.rim.length b.rim.length W f)).length≤i) (fun i=>W.length - i) 0 ⟨by omega,by simp⟩
  (Sub.trans (Jk 12 29 (Xt Jp 29 Cs []) rfl) (Xf rfl (by simp [AS.put,Xg,EX,QA,XF,I]) (by simp [AS.put,Xn,Xr,XF,I]) (by simp [AS.put]))) ?_
 rintro i ⟨hi,hil⟩ next
 by_cases hi2:i<W.length
 rotate_left
 ·obtain rfl:i=W.length:=by omega
  rw [List.take_length]
  refine Xi ?_
  simp (disch:=omega) only [XF,↓XK,wG,seval]
  exact lN _ rfl rfl rfl
 have nx:=next (i+1)
 rw [Yl _ _ W i hi2] at nx
 generalize (W.take i).filter (fun f=>!Pz a.rim.length b.rim.length W f)=D at *
 obtain ⟨n1,n2⟩:=hfin _ (Js (d:=Cs) hi2)
 have v1:=fF W i
 have v2:=uM W i
 have c:=fj a b (W.getD i Cs) W ⟨by omega,by omega⟩ ⟨by omega,by omega⟩ (by omega) n1 n2 hfin
 generalize W.getD i Cs=f at *
 generalize Pz a.rim.length b.rim.length W f=q at *
 refine Xi ?_
 simp (disch:=omega) only [XF,v1,v2,Jp,↓XK,wG,seval]
 refine X0 c rfl ?_
 cases q with
 | true =>
  rw [if_pos rfl,List.append_nil] at nx
  simp (disch:=omega) only [XF,↓XK,wG,seval]
  exact nx _ ⟨by omega,by omega⟩ (by omega) (XD (m:=1) (Nat.zero_le _) rfl (by simp [Xg,I]) (by simp [Xn,Xr,XF,I]) (by simp) (by simp [XA,bCl]) (by simp [XA,bW]) (by simp [b3]))
 | false =>
  rw [if_neg (by decide)] at nx
  have hap:=QR Jp 29 Cs D f (by omega)
  have hDl:(D ++ [f]).length=D.length+1:=by simp
  simp (disch:=omega) only [XF,↓XK,wG,seval]
  refine ⟨V1 f,nx _ ⟨by omega,by omega⟩ (by omega) (XD (m:=1) (Nat.zero_le _) rfl (by simp [Xg,hDl,I]) (by simp [Xn,Xr,XF,I]) (by simp only [hDl,← hap]; rfl) (by simp [XA,bCl]) (by simp [XA,bW]) (by simp [b3]))⟩
theorem Tt {a b:PV} {e:Rat} {f:FV} (h:f∈Bt a b e) (ha:0<a.rim.length) (hb:0<b.rim.length):J7 a b f e=f:=by
 obtain ⟨i,j,k,t,hi,hj,k0,kn,km,hp,ht,ho,rfl⟩:=(CB a b e f ha hb).1 h
 rfl
theorem Hx {p:PV} {t:Rat} (h:GP p t):0<p.rim.length∧p.rim.length≤12:=by have:=h.poly.1; simp [Xp] at this; omega
structure Fnd (a b:PV) (e:Rat) (L:List FV):Prop where
 len:L.length≤24000
 fine:∀ f∈L,f.fine
 self:∀ f∈L,J7 a b f e=f
 ok:∀ f∈L,FM a b f e=0
theorem fl {a b:PV} {ta tb:Rat} (ha:GP a ta) (hb:GP b tb):Fnd a b (ta+tb) (Mf a b (ta+tb)):=by
 have la:=Hx ha; have lb:=Hx hb
 refine ⟨Nat.le_trans (List.length_filter_le _ _) (OD a b (ta+tb) la.2 lb.2 la.1 lb.1),fun f hf=>?_,fun f hf=>Tt (List.mem_filter.1 hf).1 la.1 lb.1,fun f hf=>Gm (List.mem_filter.1 hf).1 la.1 lb.1⟩
 obtain ⟨_,h1,h2,h3⟩:=Pi ha hb (List.mem_filter.1 hf).1
 exact ⟨by omega,by omega,by omega⟩
theorem HH {a b:PV} {e:Rat} {f:FV} (h:f∈Bt a b e) (ha:0<a.rim.length) (hb:0<b.rim.length):f.A=0∧f.B=1∧(0≤f.EA∧f.EA<a.rim.length)∧(0≤f.EB∧f.EB<b.rim.length)∧1≤f.M∧f.M<a.rim.length∧f.M<b.rim.length:=by
 obtain ⟨i,j,k,t,hi,hj,k0,kn,km,hp,ht,ho,rfl⟩:=(CB a b e f ha hb).1 h
 refine ⟨rfl,rfl,?_⟩
 show (0≤(i:Int)∧(i:Int)<a.rim.length)∧(0≤(j:Int)∧(j:Int)<b.rim.length)∧1≤(k:Int)∧(k:Int)<a.rim.length∧(k:Int)<b.rim.length
 omega
theorem WM {a b:PV} {e:Rat} {f:FV} (h:FM a b f e=0) (hA:f.A=0) (hB:f.B=1) (ha:0<a.rim.length) (hb:0<b.rim.length):f∈Bt a b e:=by
 obtain ⟨h1,h2,h3,⟨h4,h5,h6⟩,h7⟩:=(Hh a b f e).1 h
 obtain ⟨A,B,EA,EB,M,t,lo,hi⟩:=f
 simp only at hA hB
 subst hA hB
 obtain ⟨⟨x1,x2⟩,⟨x3,x4⟩,x5,x6,x7⟩:=h1
 simp only at x1 x2 x3 x4 x5 x6 x7
 obtain ⟨i,rfl⟩:=Int.eq_ofNat_of_zero_le x1
 obtain ⟨j,rfl⟩:=Int.eq_ofNat_of_zero_le x3
 obtain ⟨k,rfl⟩:=Int.eq_ofNat_of_zero_le (show 0≤M by omega)
 simp only at h5 h6
 obtain ⟨k',q1,q2,q3⟩:=h3
 have hs:(⟨0,1,(i:Int),(j:Int),(k:Int),t,lo,hi⟩:FV)=J7 a b (Jr i j k t) e:=by
  show _=(⟨0,1,(i:Int),(j:Int),(k:Int),t,(XU a.rim b.rim (Jr i j k t) e).1,(XU a.rim b.rim (Jr i j k t) e).2.1⟩:FV)
  rw [show XU a.rim b.rim (Jr i j k t) e=XU a.rim b.rim ⟨0,1,(i:Int),(j:Int),(k:Int),t,lo,hi⟩ e from rfl,h5,h6]
 refine (CB a b e _ ha hb).2 ⟨i,j,k,t,by omega,by omega,by omega,by omega,by omega,h2,?_,?_,hs⟩
 ·rw [ZS]
  exact ⟨k',by simpa using q1,q2,q3⟩
 ·unfold Gs
  rw [Bool.and_eq_true,← hs]
  exact ⟨h4,h7⟩
end
end Go.Ab.N
namespace Go.Ab.N
open Go Go.RowKit Go.Proofs
set_option maxRecDepth 10000
set_option maxHeartbeats 4000000
def lS (a b c p:V2):Bool:=decide (0≤Jg a b p) && decide (0≤Jg b c p) && decide (0≤Jg c a p)
def Po (L:List V2) (a b c k:Nat):Bool:=decide (k=a) || decide (k=c) || decide (k=b) || !lS (L.getD a v0) (L.getD b v0) (L.getD c v0) (L.getD k v0)
def Tj (L:List V2) (R:List Nat) (p:Nat):Bool:=decide (0<LG L R p) && (List.range R.length).all fun j=>Po L (nr R (p+R.length - 1)) (R.getD p 0) (nr R (p+R.length+1)) (R.getD j 0)
theorem fR (a b c p:V2):lS a b c p=true↔o9 a b c p:=by
 unfold lS o9
 simp only [Bool.and_eq_true,decide_eq_true_eq,and_assoc]
theorem Mk (L:List V2) (a b c k:Nat):Po L a b c k=true↔CQ L a b c k:=by
 unfold Po CQ
 rw [← fR]
 simp only [Bool.or_eq_true,decide_eq_true_eq,or_assoc,Bool.not_eq_true',Bool.not_eq_true]
open Classical in
theorem kQ (L:List V2) (R:List Nat) (p:Nat):AR L R p=Tj L R p:=by
 unfold AR Tj
 rw [Bool.eq_iff_iff,decide_eq_true_eq,Bool.and_eq_true,decide_eq_true_eq,List.all_eq_true]
 refine and_congr_right fun _=>⟨fun h j hj=>(Mk _ _ _ _ _).2 (h j (List.mem_range.1 hj)),fun h j hj=>(Mk _ _ _ _ _).1 (h j (List.mem_range.2 hj))⟩
def M9 (L:List V2) (R:List Nat):Nat:=(List.range (R.length - 1)).findIdx (Tj L R)
theorem eD (L:List V2) (R:List Nat):CN L R=M9 L R:=by
 unfold CN M9
 rw [show AR L R=Tj L R from funext (kQ L R)]
def Pm (L:List V2) (R:List Nat):Nat:=(List.range R.length).findIdx fun p=>decide (LG L R p=0)
theorem fo (L:List V2) (R:List Nat):Zc L R=Pm L R:=by
 rfl
def WP (L:List V2):Nat→List Nat→List Nat
 | 0,R=>R
 | f+1,R=>if 3<R.length∧Pm L R<R.length then WP L f (R.eraseIdx (Pm L R)) else R
theorem UD (L:List V2):∀ (f:Nat) (R:List Nat),ZZ L f R=WP L f R
 | 0,_=>rfl
 | f+1,R=>by
  unfold ZZ WP
  rw [fo,UD L f]
def ef (L:List V2):Nat→List Nat→List (Nat×Nat×Nat)
 | 0,R=>[(R.getD 0 0,R.getD 1 0,R.getD 2 0)]
 | f+1,R=>if 3<R.length then H6 R (M9 L R) :: ef L f (WP L (R.length - 1) (R.eraseIdx (M9 L R))) else [(R.getD 0 0,R.getD 1 0,R.getD 2 0)]
theorem UK (L:List V2):∀ (f:Nat) (R:List Nat),Ay L f R=ef L f R
 | 0,_=>rfl
 | f+1,R=>by
  unfold Ay ef CK
  rw [eD,UD,UK L f]
def ud (n:V2) (A B:List V2) (e:Rat):Bool:=decide (e*Ac n≤Lz n A B)
def gC (A B:List V2) (e:Rat):Bool:=(AZ A B).any fun d=>ud d A B e
def ph (A B:List (List V2)) (e:Rat):Bool:=A.all fun x=>B.all fun y=>gC x y e
open Classical in
theorem Rh (A B:List V2) (e:Rat):(A2 A B e).2=gC A B e:=by
 unfold A2 gC
 rw [Bool.eq_iff_iff,C1,List.any_eq_true]
 unfold Ga ud
 simp only [decide_eq_true_eq]
theorem HJ {α:Type} (l:List α) (d:α) (p:α→Bool):(∀ i,i<l.length→p (l.getD i d)=true)↔l.all p=true:=by
 rw [List.all_eq_true]
 constructor
 ·intro h x hx
  obtain ⟨i,hi,rfl⟩:=List.getElem_of_mem hx
  have:=h i hi
  rwa [List.getD_eq_getElem?_getD,List.getElem?_eq_getElem hi] at this
 ·intro h i hi
  rw [List.getD_eq_getElem?_getD,List.getElem?_eq_getElem hi]
  exact h _ (List.getElem_mem hi)
open Classical in
theorem jH (A B:List (List V2)) (e:Rat):Cu A B e=ph A B e:=by
 unfold Cu ph
 rw [Bool.eq_iff_iff,decide_eq_true_eq,← HJ A []]
 refine forall_congr' fun i=>forall_congr' fun _=>?_
 unfold Nn
 rw [decide_eq_true_eq,← HJ B []]
 refine forall_congr' fun k=>forall_congr' fun _=>?_
 unfold Zs
 rw [Rh]
theorem ol (g:Nat→Rat):∀ n k,k≤n→g k≤oh g n
 | 0,k,h=>by
  obtain rfl:k=0:=by omega
  exact Rat.le_refl
 | n+1,k,h=>by
  unfold oh MC
  by_cases hk:k=n+1
  ·subst hk
   split
   ·exact Rat.le_refl
   ·rename_i h; exact Rat.not_lt.1 h
  ·have ih:=ol g n k (by omega)
   split
   ·rename_i h; exact Rat.le_trans ih (Rat.le_of_lt h)
   ·exact ih
theorem og (g:Nat→Rat):∀ n k,k≤n→oe g n≤g k
 | 0,k,h=>by
  obtain rfl:k=0:=by omega
  exact Rat.le_refl
 | n+1,k,h=>by
  unfold oe Mz
  by_cases hk:k=n+1
  ·subst hk
   split
   ·exact Rat.le_refl
   ·rename_i h; exact Rat.not_lt.1 h
  ·have ih:=og g n k (by omega)
   split
   ·rename_i h; exact Rat.le_trans (Rat.le_of_lt h) ih
   ·exact ih
end Go.Ab.N
