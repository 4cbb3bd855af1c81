/- Contracts of functions of these chapters, for every argument that fits, and what they need. -/
import Derived.Test.YtefjhgcndhepeaaGreatC13
import Derived.Test.YtefjhgcndhepeaaGreatC7
import Derived.Test.YtefjhgcndhepeaaGreatC12
import Derived.Test.YtefjhgcndhepeaaGreatC10
import Derived.Test.YtefjhgcndhepeaaGreatC6
import Derived.Test.YtefjhgcndhepeaaGreatC11
import Derived.Test.YtefjhgcndhepeaaGreatC8
set_option linter.unusedSimpArgs false
set_option linter.unusedVariables false
open Nat renaming reducePow → Y1, reduceLT → Y2, reduceLeDiff → Y3, reduceEqDiff → Y4, reduceAdd → Y5, reduceMul → Y6, reduceSub → Y7, reduceBEq → Y8, reduceDiv → Y9, reduceMod → YA
namespace Go.Ab.N
open Go Go.RowKit Go.Proofs
noncomputable section
set_option maxRecDepth 10000
set_option maxHeartbeats 4000000
open Classical
theorem Ll {P:Program} {fn:Func} {str hcs:List Nat} {b:Nat} {r:AV} {H:List AO} {s:AS} {t:Nat} (hr:fn.results=#[.tmp t]) (h1:s.get t=r) (hH:s.h=H):RetOk (Gn P fn str hcs b r H) s :=
 ⟨r,by show KQ P fn s=_; simp [KQ,hr,J6,Jj,ZD,h1],rfl,hH⟩
theorem Pr (o0 o1 o2 o3 o4:AO) (B0:∀ m,5≤m→XT m o0) (B1:∀ m,5≤m→XT m o1) (B2:∀ m,5≤m→XT m o2) (B3:∀ m,5≤m→XT m o3) (B4:∀ m,5≤m→XT m o4) (a b:PV) (f:FV) (hf:BZ a.rim.length b.rim.length f) (ha:a.even) (hb:b.even) :
  HCall Tryz.prog 133 [Kh a,Kh b,Aw f] [o0,o1,o2,o3,o4] (.osl 8 (Ql a b f f.M.toNat).length 8 0 (Ql a b f f.M.toNat).length) [o0,o1,o2,o3,o4,.dead,.dead,.dead,.row (Ql a b f f.M.toNat).length ((Ql a b f f.M.toNat).length*8) (Xt vC 8 v0 (Ql a b f f.M.toNat))]:=by
 have ce:=Fp a b f hf ha.rim hb.rim
 obtain ⟨⟨s1,s2⟩,⟨s3,s4⟩,s5,s6,s7⟩:=hf
 obtain ⟨N,hN⟩:∃ N:Nat,f.M=N:=⟨f.M.toNat,by omega⟩
 have la:=ha.rim; have lb:=hb.rim
 have hNt:f.M.toNat=N:=by rw [hN]; rfl
 rw [hNt]
 obtain ⟨L,hL⟩:∃ L,L=D7 a.rim.length b.rim.length f:=⟨_,rfl⟩
 have hlen:L.length=N:=by rw [hL,AM,hN]; rfl
 have hat:∀ k,k<N→L.getD k (0,0)=((xK a.rim.length f k:Int),(yK b.rim.length f k:Int)):=fun k hk=>by rw [hL]; exact E6 _ _ _ _ (by omega)
 rw [← hL] at ce
 clear hL
 have ba:XT 9 (.row 0 25 (Xk (Q0 a)))=True:=eq_true (XL (XI a))
 have bb:XT 9 (.row 0 25 (Xk (Q0 b)))=True:=eq_true (XL (XI b))
 have bf:XT 9 (.row 0 29 (Xk (Qr f)))=True:=eq_true (XL (Q8 f))
 have bL:Ko 9 (GB L)=True:=eq_true (X7 (Jy _))
 have hvc:∀ a:V2,∀ x∈vC a,Settled x:=fun a=>by simp [vC,X6,X2]
 have br:∀ i l n,XT 9 (.row i n (Xt vC 8 v0 l))=True:=fun i l n=>eq_true fun j _=>X7 (Xe (hvc _) _)
 have q0:XT 9 o0=True:=eq_true (B0 9 (by omega))
 have q1:XT 9 o1=True:=eq_true (B1 9 (by omega))
 have q2:XT 9 o2=True:=eq_true (B2 9 (by omega))
 have q3:XT 9 o3=True:=eq_true (B3 9 (by omega))
 have q4:XT 9 o4=True:=eq_true (B4 9 (by omega))
 refine HCall.intro (fn:=Tryz.f133) Tryz.call133 Tryz.func133 rfl mixed 12 [15,16,17] [] [] (by kernel_rfl) (Nat.le_of_ble_eq_true rfl) (Xj ?_)
 simp only [AS.start,Kh,Q0,Aw,Qr,↓X1,wF,seval]
 refine X0 ce rfl ?_
 simp only [Xi,hlen,↓X1,wF,seval]
 refine Xd (fun k:Nat=>⟨12,[15,16,17],[.any,.any,.any,.ref 5 0 0,.ref 6 0 0,.ref 7 0 0,.any,.osl 8 (Ql a b f k).length 8 0 (Ql a b f k).length,.any,.any,.any,.any],[(15,GB L),(16,I N),(17,I k)],[o0,o1,o2,o3,o4,.row 0 25 (Xk (Q0 a)),.row 0 25 (Xk (Q0 b)),.row 0 29 (Xk (Qr f)),.row (Ql a b f k).length ((Ql a b f k).length*8) (Xt vC 8 v0 (Ql a b f k))]⟩) (fun k=>k≤N) (fun k=>N - k) 0 (by omega)
  (Sub.trans (Jd 7 8 (Xt vC 8 v0 []) rfl) (Xg rfl (by simp [AS.put,Ql,Xf,I]) (by simp [AS.put,Xm,Xq,Xi,hlen,I]) (by simp [AS.put,Ql,Q0,Qr,Xi,Xz,X3,I]))) ?_
 intro k hk next
 have w1:=wj k (by omega)
 have hln:=CT a b f k
 by_cases hk2:k<N
 rotate_left
 ·obtain rfl:k=N:=by omega
  refine Run.sub (s':=⟨12,[15,16,17],[.any,.any,.any,.any,.any,.any,.any,.osl 8 (Ql a b f k).length 8 0 (Ql a b f k).length,.any,.any,.any,.any],[(15,GB L),(16,I k),(17,I k)],[o0,o1,o2,o3,o4,.dead,.dead,.dead,.row (Ql a b f k).length ((Ql a b f k).length*8) (Xt vC 8 v0 (Ql a b f k))]⟩) ?_
   (Sub.trans (Al 5 rfl (by simp [AO.info])) (Sub.trans (Al 6 rfl (by simp [AO.info])) (Sub.trans (Al 7 rfl (by simp [AO.info])) (Xg rfl (by simp [Xf,I]) (by simp [Xm,Xq,I]) (by simp)))))
  refine Xj ?_
  simp only [Int.lt_irrefl,Nat.lt_irrefl,↓X1,wF,seval]
  exact Ll rfl rfl rfl
 have nx:=next (k+1)
 have f1:((k:Int)<N)=True:=eq_true (by omega)
 have f2:(k<N)=True:=eq_true hk2
 have f3:(k*2+2≤N*2)=True:=eq_true (by omega)
 have v1:=tL L k
 rw [hat k hk2] at v1
 have n2:((2:Nat):Int)=2:=rfl
 have t1:(1:Int).toNat=1:=rfl
 have ca:=Ck a b (xK a.rim.length f k) (yK b.rim.length f k) la lb ha.near hb.near
 rw [show Qy a.rim b.rim (xK a.rim.length f k) (yK b.rim.length f k)=HL a b f k from rfl] at ca
 have hs:Ql a b f (k+1)=if (HL a b f k).2=true then Ql a b f k ++ [(HL a b f k).1] else Ql a b f k:=rfl
 generalize HL a b f k=X at *
 obtain ⟨t,ok⟩:=X
 refine Xj ?_
 simp only [Q0,Qr,Xi,Xz,X3,hlen,w1,f1,f2,f3,v1,n2,t1,Int.toNat_zero,Int.reduceLT,Int.reduceLE,Int.toNat_natCast,↓X1,wF,seval]
 refine X0 ca rfl ?_
 cases ok with
 | false =>
  rw [if_neg (show ¬ ((t,false).2=true) from Bool.false_ne_true)] at hs
  simp only [hs] at nx
  simp only [w1,↓X1,wF,seval]
  exact nx _ (by omega) (by omega) (XD (m:=9) (show 5≤9 by omega) rfl (by simp [Xf,I]) (by simp [Xm,Xq,Xi,hlen,I]) (by simp [Q0,Qr,Xi,Xz,X3,I]) (by simp [XA]) (by simp [XA,bL]) (by simp [q0,q1,q2,q3,q4,ba,bb,bf,br]))
 | true =>
  rw [if_pos rfl] at hs
  have hlen2:(Ql a b f (k+1)).length=(Ql a b f k).length+1:=by rw [hs]; simp
  have hap:=QN vC 8 v0 (Ql a b f k) t (by omega)
  rw [← hs] at hap
  simp only [hlen2] at nx
  simp only [w1,↓X1,wF,seval]
  exact ⟨⟨F4 t,by omega,by omega⟩,nx _ (by omega) (by omega) (XD (m:=9) (show 5≤9 by omega) rfl (by simp [Xf,I]) (by simp [Xm,Xq,Xi,hlen,I]) (by rw [← hap]; simp [Q0,Qr,Xi,Xz,X3,I,vC]) (by simp [XA]) (by simp [XA,bL]) (by simp [q0,q1,q2,q3,q4,ba,bb,bf,br]))⟩
theorem BI {a b c:V2} (h1:ZK a b) (h2:ZK b c):ZK a c:=by unfold ZK at *; grind
theorem HQ (a:V2):¬ ZK a a:=by unfold ZK; grind
theorem Gf {a b:V2} (h:¬ ZK a b) (hn:a≠b):ZK b a:=by
 have:¬ (a.x=b.x∧a.y=b.y):=fun hh=>hn (V2.ext'.2 hh)
 unfold ZK at *
 grind
theorem Rs (t:V2):∀ l,l.Pairwise ZK→t∉l→(Mg t l).Pairwise ZK
 | [],_,_=>by simp [Mg]
 | x :: l,hs,hn=>by
  rw [List.pairwise_cons] at hs
  rw [List.mem_cons,not_or] at hn
  have ih:=Rs t l hs.2 hn.2
  unfold Mg
  split
  ·rename_i hb
   rw [List.pairwise_cons,List.pairwise_cons]
   refine ⟨fun y hy=>?_,hs⟩
   rcases List.mem_cons.1 hy with rfl | hy
   ·exact hb
   ·exact BI hb (hs.1 y hy)
  ·rename_i hb
   rw [List.pairwise_cons]
   refine ⟨fun y hy=>?_,ih⟩
   rcases (IW t y l).1 hy with rfl | hy
   ·exact Gf hb hn.1
   ·exact hs.1 y hy
theorem LF (a b:PV) (f:FV):∀ n,(KH a b f n).Pairwise ZK
 | 0=>List.Pairwise.nil
 | n+1=>by
  have ih:=LF a b f n
  unfold KH
  split
  ·unfold eu
   split
   ·exact ih
   ·rename_i h
    exact Rs _ _ ih h
  ·exact ih
theorem Wz:∀ (l m:List V2),l.Pairwise ZK→m.Pairwise ZK→(∀ x,x∈l↔x∈m)→l=m
 | [],[],_,_,_=>rfl
 | [],b :: m,_,_,h=>absurd ((h b).2 (List.mem_cons_self ..)) (List.not_mem_nil)
 | a :: l,[],_,_,h=>absurd ((h a).1 (List.mem_cons_self ..)) (List.not_mem_nil)
 | a :: l,b :: m,h1,h2,h=>by
  rw [List.pairwise_cons] at h1 h2
  have e:a=b:=by
   rcases List.mem_cons.1 ((h a).1 (List.mem_cons_self ..)) with e | ha
   ·exact e
   rcases List.mem_cons.1 ((h b).2 (List.mem_cons_self ..)) with e | hb
   ·exact e.symm
   ·exact absurd (BI (h1.1 b hb) (h2.1 a ha)) (HQ a)
  subst e
  refine congrArg (a :: ·) (Wz l m h1.2 h2.2 fun x=>⟨fun hx=>?_,fun hx=>?_⟩)
  ·rcases List.mem_cons.1 ((h x).1 (List.mem_cons_of_mem _ hx)) with rfl | hy
   ·exact absurd (h1.1 x hx) (HQ x)
   ·exact hy
  ·rcases List.mem_cons.1 ((h x).2 (List.mem_cons_of_mem _ hx)) with rfl | hy
   ·exact absurd (h2.1 x hx) (HQ x)
   ·exact hy
def HC (x:V2):List V2→List V2
 | []=>[x]
 | y :: Q=>if ZK x y then y :: HC x Q else x :: y :: Q
theorem IX (x z:V2):∀ Q,z∈HC x Q↔z=x∨z∈Q
 | []=>by simp [HC]
 | y :: Q=>by
  have ih:=IX x z Q
  unfold HC
  split
  ·rw [List.mem_cons,ih,List.mem_cons]
   constructor
   ·rintro (h | h | h)
    ·exact .inr (.inl h)
    ·exact .inl h
    ·exact .inr (.inr h)
   ·rintro (h | h | h)
    ·exact .inr (.inl h)
    ·exact .inl h
    ·exact .inr (.inr h)
  ·simp
theorem Ru (x:V2):∀ Q,(HC x Q).length=Q.length+1
 | []=>rfl
 | y :: Q=>by
  have ih:=Ru x Q
  unfold HC
  split
  ·simp [ih]
  ·simp
def pL (Q:List V2):Prop:=Q.Pairwise fun a b=>¬ ZK a b
theorem Rt (x:V2):∀ Q,pL Q→pL (HC x Q)
 | [],_=>by simp [pL,HC]
 | y :: Q,h=>by
  have h':=h
  unfold pL at h'
  rw [List.pairwise_cons] at h'
  have ih:=Rt x Q h'.2
  unfold HC
  split
  ·rename_i hb
   unfold pL
   rw [List.pairwise_cons]
   refine ⟨fun z hz=>?_,ih⟩
   rcases (IX x z Q).1 hz with rfl | hz
   ·exact fun hh=>HQ _ (BI hb hh)
   ·exact h'.1 z hz
  ·rename_i hb
   unfold pL
   rw [List.pairwise_cons]
   refine ⟨fun z hz=>?_,h⟩
   rcases List.mem_cons.1 hz with rfl | hz2
   ·exact hb
   ·intro hh
    have h5:=h'.1 z hz2
    by_cases e:x=y
    ·rw [e] at hh; exact h5 hh
    ·exact h5 (BI (Gf hb e) hh)
theorem Rg (A R:List V2) (x:V2):(A ++ x :: R).getD A.length v0=x:=by
 rw [List.getD_eq_getElem?_getD,List.getElem?_append_right (Nat.le_refl _),Nat.sub_self]; rfl
theorem N3 (A R:List V2) (x y:V2):(A ++ y :: x :: R).getD (A.length+1) v0=x:=by
 rw [List.getD_eq_getElem?_getD,List.getElem?_append_right (by omega),Nat.add_sub_cancel_left]; rfl
theorem oL (A R:List V2) (x y:V2):cR (A ++ y :: x :: R) A.length=A ++ x :: y :: R:=by
 unfold cR
 rw [Rg,N3,List.set_append_right _ _ (by omega),Nat.add_sub_cancel_left,List.set_append_right _ _ (Nat.le_refl _),Nat.sub_self]; rfl
theorem IV (x:V2):∀ (Q R:List V2),Ba (Q.reverse ++ x :: R) Q.length=(HC x Q).reverse ++ R
 | [],R=>rfl
 | y :: Q,R=>by
  have ih:=IV x Q (y :: R)
  have hl:Q.reverse.length=Q.length:=List.length_reverse
  have e:(y :: Q).reverse ++ x :: R=Q.reverse ++ y :: x :: R:=by simp
  rw [e]
  show Ba (Q.reverse ++ y :: x :: R) (Q.length+1)=_
  unfold Ba HC
  rw [← hl,N3,Rg,oL,hl,ih]
  split
  ·simp
  ·simp
theorem Lx (L:List V2):∀ k,k<L.length→∃ Q R,As L k=Q.reverse ++ R∧Q.length=k+1∧pL Q∧∀ x,x∈As L k↔x∈L
 | 0,h=>by
  match L,h with
  | x :: R,_=>exact ⟨[x],R,rfl,rfl,by simp [pL],fun _=>Iff.rfl⟩
 | k+1,h=>by
  obtain ⟨Q,R,h1,h2,h3,h4⟩:=Lx L k (by omega)
  have hl:=B7 L k
  match R,h1 with
  | [],h1=>rw [h1] at hl; simp at hl; omega
  | x :: R,h1 =>
   refine ⟨HC x Q,R,?_,by rw [Ru,h2],Rt x Q h3,fun z=>?_⟩
   ·show Ba (As L k) (k+1)=_
    rw [h1,← h2]; exact IV x Q R
   ·rw [← h4 z]
    show z∈Ba (As L k) (k+1)↔_
    rw [h1,← h2,IV x Q R]
    simp only [List.mem_append,List.mem_reverse,List.mem_cons,IX]
    constructor
    ·rintro ((h | h) | h)
     ·exact .inr (.inl h)
     ·exact .inl h
     ·exact .inr (.inr h)
    ·rintro (h | h | h)
     ·exact .inl (.inr h)
     ·exact .inl (.inl h)
     ·exact .inr h
def Av (L:List V2):Nat→List V2
 | 0=>L.take 1
 | k+1=>if L.getD (k+1) v0=L.getD k v0 then Av L k else Av L k ++ [L.getD (k+1) v0]
theorem Vz (L:List V2):∀ k,(Av L k).length≤k+1
 | 0=>by simp [Av]; omega
 | k+1=>by
  have ih:=Vz L k
  unfold Av
  split
  ·omega
  ·simp; omega
theorem fN (L:List V2) (hs:L.Pairwise fun a b=>¬ ZK b a):∀ k,k<L.length→(Av L k).Pairwise ZK∧(∀ x,x∈Av L k↔x∈L.take (k+1))∧∀ y∈Av L k,y=L.getD k v0∨ZK y (L.getD k v0)
 | 0,h=>by
  match L,h with
  | x :: R,_=>exact ⟨by simp [Av],fun _=>by simp [Av],fun y hy=>.inl (by simpa [Av] using hy)⟩
 | k+1,h=>by
  obtain ⟨h1,h2,h3⟩:=fN L hs k (by omega)
  have ht:=QJ L v0 (k+1) h
  by_cases e:L.getD (k+1) v0=L.getD k v0
  ·have ec:Av L (k+1)=Av L k:=if_pos e
   rw [ec]
   refine ⟨h1,fun x=>?_,fun y hy=>by rw [e]; exact h3 y hy⟩
   rw [h2 x,ht,List.mem_append,List.mem_singleton]
   refine ⟨fun hx=>.inl hx,fun hx=>?_⟩
   rcases hx with hx | rfl
   ·exact hx
   ·rw [e,QJ L v0 k (by omega)]
    simp
  ·have ec:Av L (k+1)=Av L k ++ [L.getD (k+1) v0]:=if_neg e
   have hb:ZK (L.getD k v0) (L.getD (k+1) v0):=by
    refine Gf (fun hh=>?_) e
    have:=(List.pairwise_iff_getElem.1 hs) k (k+1) (by omega) h (by omega)
    rw [List.getD_eq_getElem?_getD,List.getD_eq_getElem?_getD,List.getElem?_eq_getElem h,List.getElem?_eq_getElem (show k<L.length by omega)] at hh
    exact this hh
   have hall:∀ y∈Av L k,ZK y (L.getD (k+1) v0):=fun y hy=>by
    rcases h3 y hy with rfl | g
    ·exact hb
    ·exact BI g hb
   rw [ec]
   refine ⟨?_,fun x=>?_,fun y hy=>?_⟩
   ·rw [List.pairwise_append]
    exact ⟨h1,List.pairwise_singleton _ _,fun y hy z hz=>by rw [List.mem_singleton.1 hz]; exact hall y hy⟩
   ·rw [List.mem_append,h2 x,ht,List.mem_append]
   ·rcases List.mem_append.1 hy with hy | hy
    ·exact .inr (hall y hy)
    ·exact .inl (List.mem_singleton.1 hy)
theorem Pq (a b:PV) (f:FV) (t:V2) (n:Nat):t∈Ql a b f n↔∃ k,k<n∧(HL a b f k).2=true∧(HL a b f k).1=t:=by
 rw [← Ij,List.any_eq_true]
 constructor
 ·intro h; exact ⟨t,h,by simp⟩
 ·rintro ⟨x,hx,e⟩
  rw [of_decide_eq_true e] at hx
  exact hx
theorem Yt (a b:PV) (f:FV) (n:Nat) (h:0<(Ql a b f n).length):Av (As (Ql a b f n) ((Ql a b f n).length - 1)) ((Ql a b f n).length - 1)=KH a b f n:=by
 obtain ⟨Q,R,h1,h2,h3,h4⟩:=Lx (Ql a b f n) ((Ql a b f n).length - 1) (by omega)
 have hl:=B7 (Ql a b f n) ((Ql a b f n).length - 1)
 have hR:R=[]:=by
  rw [h1] at hl
  rw [List.length_append,List.length_reverse,h2] at hl
  exact List.eq_nil_of_length_eq_zero (by omega)
 subst hR
 rw [List.append_nil] at h1
 have hs:(As (Ql a b f n) ((Ql a b f n).length - 1)).Pairwise fun a b=>¬ ZK b a:=by
  rw [h1,List.pairwise_reverse]; exact h3
 obtain ⟨c1,c2,_⟩:=fN _ hs ((Ql a b f n).length - 1) (by omega)
 refine Wz _ _ c1 (LF a b f n) fun x=>?_
 rw [c2 x,List.take_of_length_le (by omega),h4 x,Pq,ZX]
theorem pt:WO Tryz.prog 148=true:=by kernel_rfl
theorem Iz (L:List V2):∀ k,k<L.length→(∀ j,j<k→L.getD (j+1) v0≠L.getD j v0)→Av L k=L.take (k+1)
 | 0,h,_=>rfl
 | k+1,h,hn=>by
  unfold Av
  rw [if_neg (hn k (by omega)),Iz L k (by omega) (fun j hj=>hn j (by omega)),← QJ L v0 (k+1) h]
theorem fO (L:List V2) (k:Nat):Av L (k+1)=if L.getD (k+1) v0=L.getD k v0 then Av L k else Av L k ++ [L.getD (k+1) v0]:=rfl
theorem OV (C D:List V2) (x:V2) (h:D.length<C.length) (ht:C.take D.length=D):(C.set D.length x).take (D.length+1)=D ++ [x]:=by
 rw [QJ _ v0 _ (by rw [List.length_set]; exact h),List.take_set_of_le (Nat.le_refl _),ht,List.getD_eq_getElem?_getD,List.getElem?_set_self h]; rfl
theorem TS (o0 o1 o2 o3 o4 o5 o6 o7:AO) (v:Nat) (L:List V2) (hL:∀ x∈L,vb x≤vm) (hn:L.length<1000) :
  HCall Tryz.prog 136 [.osl 8 v 8 0 L.length,.fn 67 []] [o0,o1,o2,o3,o4,o5,o6,o7,.row v (L.length*8) (Xt vC 8 v0 L)]
   (.osl 8 v 8 0 (Av L (L.length - 1)).length) [o0,o1,o2,o3,o4,o5,o6,o7,.row v ((Av L (L.length - 1)).length*8) (Xt vC 8 v0 (Av L (L.length - 1)))]:=by
 have hat:∀ i,i<L.length→vb (L.getD i v0)≤vm:=fun i hi=>hL _ (Ju hi)
 refine HCall.intro (fn:=Tryz.f136) Tryz.call136 Tryz.func136 rfl mixed 8 [] [6,7004,7009,11,12004,12009] [] (by kernel_rfl) (Nat.le_of_ble_eq_true rfl) (Xj ?_)
 by_cases h2:2≤L.length
 rotate_left
 ·have e:Av L (L.length - 1)=L:=by rw [show L.length - 1=0 by omega]; show L.take 1=L; exact List.take_of_length_le (by omega)
  rw [e]
  simp (disch:=omega) only [AS.start,↓Xy,wG,seval]
  exact Ll rfl rfl rfl
 simp (disch:=omega) only [AS.start,↓Xy,wG,seval]
 refine Xd (fun k:Nat=>⟨8,[],[.osl 8 v 8 0 L.length,.fn 67 [],.any,.any,.any,I (k+1:Nat),.any,.any],[],[o0,o1,o2,o3,o4,o5,o6,o7,.row v (L.length*8) (Xt vC 8 v0 L)]⟩) (fun k=>k+1≤L.length∧∀ j,j<k→L.getD (j+1) v0≠L.getD j v0) (fun k=>L.length - k) 0 ⟨by omega,by omega⟩
  (Kq (by simp [Xf,I]) rfl) ?_
 rintro k ⟨hk,hne⟩ next
 by_cases hk2:k+1<L.length
 rotate_left
 ·have e:Av L (L.length - 1)=L:=by
   rw [Iz L (L.length - 1) (by omega) (fun j hj=>hne j (by omega))]; exact List.take_of_length_le (by omega)
  rw [e]
  refine Xj ?_
  simp (disch:=omega) only [↓Xy,wG,seval]
  exact Ll rfl rfl rfl
 have c:=A9 (L.getD (k+1) v0) (L.getD k v0) (hat _ hk2) (hat _ (by omega))
 have a1:=JD vC 8 v0 L (k+1)
 have a2:=JT vC 8 v0 L (k+1) (by omega)
 have b1:=JD vC 8 v0 L k
 have b2:=JT vC 8 v0 L k (by omega)
 have hj1:(((k+1:Nat):Int) - 1).toNat=k:=by omega
 by_cases he:L.getD (k+1) v0=L.getD k v0
 rotate_left
 ·have nx:=next (k+1)
  rw [decide_eq_false he] at c
  have hne2:∀ j,j<k+1→L.getD (j+1) v0≠L.getD j v0:=fun j hj=>by
   by_cases e:j=k
   ·rw [e]; exact he
   ·exact hne j (by omega)
  generalize L.getD (k+1) v0=x at *
  generalize L.getD k v0=y at *
  refine Xj ?_
  simp (disch:=omega) only [hj1,a1,a2,b1,b2,vC,↓Xy,wG,seval]
  refine X0 c rfl ?_
  simp (disch:=omega) only [↓Xy,wG,seval]
  exact nx _ ⟨by omega,hne2⟩ (by omega) (Kq (by simp [Xf,I]) rfl)
 rw [decide_eq_true he] at c
 have hcm:Av L k=L.take (k+1):=Iz L k (by omega) hne
 have hcm2:Av L (k+1)=L.take (k+1):=by rw [fO,if_pos he,hcm]
 clear next he
 refine Xj ?_
 generalize hx:L.getD (k+1) v0=x at a1 a2 c
 generalize hy:L.getD k v0=y at b1 b2 c
 simp (disch:=omega) only [hj1,a1,a2,b1,b2,vC,↓Xy,wG,seval]
 refine X0 c rfl ?_
 simp (disch:=omega) only [↓Xy,wG,seval]
 refine Xd (fun p:Nat×List V2=>⟨8,[],[.osl 8 v 8 0 L.length,.fn 67 [],.any,.any,.any,I (Av L (k+1+p.1)).length,.osl 8 v 8 ((k+1)*8) (L.length - (k+1)),I (p.1+1:Nat)],[],[o0,o1,o2,o3,o4,o5,o6,o7,.row v (L.length*8) (Xt vC 8 v0 p.2)]⟩)
  (fun p=>k+1+p.1<L.length∧p.2.length=L.length∧p.2.take (Av L (k+1+p.1)).length=Av L (k+1+p.1)∧(Av L (k+1+p.1)).length≤k+1+p.1∧∀ i,k+1+p.1≤i→i<L.length→p.2.getD i v0=L.getD i v0) (fun p=>L.length - p.1) (0,L)
  ⟨by show k+1+0<L.length; omega,rfl,by show L.take (Av L (k+1)).length=Av L (k+1); rw [hcm2,List.length_take,Nat.min_eq_left (by omega)],by show (Av L (k+1)).length≤k+1; rw [hcm2,List.length_take]; omega,fun i _ _=>rfl⟩
  (Kq (by simp [Xf,hcm2,I]; omega) rfl) ?_
 clear hcm hcm2 a1 a2 b1 b2 c hx hy
 rintro ⟨q,C⟩ ⟨g1,g2,g3,g4,g5⟩ next
 replace g1:k+1+q<L.length:=g1
 replace g2:C.length=L.length:=g2
 replace g3:C.take (Av L (k+1+q)).length=Av L (k+1+q):=g3
 replace g4:(Av L (k+1+q)).length≤k+1+q:=g4
 replace g5:∀ i,k+1+q≤i→i<L.length→C.getD i v0=L.getD i v0:=g5
 by_cases hq:k+1+q+1<L.length
 rotate_left
 ·have e:k+1+q=L.length - 1:=by omega
  rw [e] at g3 g4
  clear next g5
  simp only [e]
  generalize Av L (L.length - 1)=D at *
  refine Je 25 ?_
  simp (disch:=omega) only [pt,↓Xy,wG,seval]
  have hgd:∀ i,i<D.length→C.getD i v0=D.getD i v0:=fun i hi=>by
   have:(C.take D.length)[i]?=C[i]?:=by rw [List.getElem?_take,if_pos hi]
   rw [List.getD_eq_getElem?_getD,List.getD_eq_getElem?_getD,← this,g3]
  refine Run.sub (s':=⟨8,[],[.osl 8 v 8 0 L.length,.any,.any,.any,.any,I D.length,.any,.any],[],[o0,o1,o2,o3,o4,o5,o6,o7,.row v (D.length*8) (Xt vC 8 v0 D)]⟩) ?_ (Sub.trans (Jn 8 (D.length*8) (Xt vC 8 v0 D) rfl (by omega) (fun j hj=>by
   unfold Mr Xt
   rw [if_neg (by omega),hgd (j / 8) (by omega)])) (Kq (by simp [Xf,I]) (by simp)))
  refine Xj ?_
  simp (disch:=omega) only [↓Xy,wG,seval]
  exact Ll rfl rfl rfl
 have s1:Av L (k+1+(q+1))=if L.getD (k+1+q+1) v0=L.getD (k+1+q) v0 then Av L (k+1+q) else Av L (k+1+q) ++ [L.getD (k+1+q+1) v0]:=rfl
 have c:=A9 (L.getD (k+1+q+1) v0) (L.getD (k+1+q) v0) (hat _ hq) (hat _ g1)
 have a1:∀ r,r<8→Xt vC 8 v0 C ((k+1)*8+(q+1)*8+r)=(vC (L.getD (k+1+q+1) v0)).getD r .any:=fun r hr=>by
  rw [show (k+1)*8+(q+1)*8+r=(k+1+q+1)*8+r by omega,JD _ _ _ _ _ _ hr,g5 _ (by omega) hq]
 have a2:Xt vC 8 v0 C ((k+1)*8+(q+1)*8)=(vC (L.getD (k+1+q+1) v0)).getD 0 .any:=a1 0 (by omega)
 have b1:∀ r,r<8→Xt vC 8 v0 C ((k+1)*8+q*8+r)=(vC (L.getD (k+1+q) v0)).getD r .any:=fun r hr=>by
  rw [show (k+1)*8+q*8+r=(k+1+q)*8+r by omega,JD _ _ _ _ _ _ hr,g5 _ (by omega) g1]
 have b2:Xt vC 8 v0 C ((k+1)*8+q*8)=(vC (L.getD (k+1+q) v0)).getD 0 .any:=b1 0 (by omega)
 have hj2:(((q+1:Nat):Int) - 1).toNat=q:=by omega
 by_cases he:L.getD (k+1+q+1) v0=L.getD (k+1+q) v0
 ·rw [if_pos he] at s1
  rw [decide_eq_true he] at c
  have nx:=next (q+1,C)
  simp only [s1] at nx
  clear next he s1
  generalize L.getD (k+1+q+1) v0=x at *
  generalize L.getD (k+1+q) v0=y at *
  generalize Av L (k+1+q)=D at *
  refine Xj ?_
  simp (disch:=omega) only [hj2,a1,a2,b1,b2,vC,↓Xy,wG,seval]
  refine X0 c rfl ?_
  simp (disch:=omega) only [↓Xy,wG,seval]
  exact nx _ ⟨by omega,g2,g3,by omega,fun i h1 h2=>g5 i (by omega) h2⟩ (by omega) (Kq (by simp [Xf,I]) rfl)
 rw [if_neg he] at s1
 rw [decide_eq_false he] at c
 have hset:=OV C (Av L (k+1+q)) (L.getD (k+1+q+1) v0) (by omega) g3
 have e1:=un C (Av L (k+1+q)).length (L.getD (k+1+q+1) v0) (by omega)
 have nx:=next (q+1,C.set (Av L (k+1+q)).length (L.getD (k+1+q+1) v0))
 simp only [s1] at nx
 have hgd:∀ i,k+1+(q+1)≤i→i<L.length→(C.set (Av L (k+1+q)).length (L.getD (k+1+q+1) v0)).getD i v0=L.getD i v0:=fun i h1 h2=>by
  rw [List.getD_eq_getElem?_getD,List.getElem?_set_ne (by omega),← List.getD_eq_getElem?_getD]; exact g5 i (by omega) h2
 clear next he s1 g5
 generalize L.getD (k+1+q+1) v0=x at *
 generalize L.getD (k+1+q) v0=y at *
 generalize Av L (k+1+q)=D at *
 refine Xj ?_
 simp (disch:=omega) only [hj2,a1,a2,b1,b2,vC,↓Xy,wG,seval]
 refine X0 c rfl ?_
 simp (disch:=omega) only [hj2,a1,a2,b1,b2,vC,↓Xy,wG,seval]
 exact nx _ ⟨by omega,by rw [List.length_set]; exact g2,by rw [List.length_append,List.length_singleton]; exact hset,by rw [List.length_append,List.length_singleton]; omega,hgd⟩ (by omega) (Kq (by simp [Xf,I]) (by rw [← e1]; rfl))
def KN (p:PV):AV:=.ptr 25 (Xk (Q0 p)) 0
theorem QI (p:PV):KN p=.ptr 25 (Xk (Q0 p)) 0:=nrfl rfl
theorem JS (p:PV):Settled (KN p):=QO fun j hj=>Xe (XI p) j
theorem OS (a b:PV):Fn Tryz.prog 131 [Kh a,Kh b] (.fn 197 [KN a,KN b]):=by
 refine Fr Tryz.call131 Tryz.func131 5 [] [] [] ?_
 simp (disch:=omega) only [AS.start,Kh,Q0,↓Xy,wG,seval]
 refine BU rfl (Bm ⟨KE (.inl rfl) (by omega) fun j hj=>?_,KE (.inl rfl) (by omega) fun j hj=>?_,trivial⟩)
 ·exact (Xe (XI a) j).sees _
 ·exact (Xe (XI b) j).sees _
theorem Hq (f:Nat→AV) (t:Bool):Settled (.sl 0 0 f t):=QX fun j hj=>absurd hj (Nat.not_lt_zero j)
def wl (i j k:Nat):List AV:=[I 0,I 1,I i,I j,I k] ++ (Q5 ++ (Q5 ++ Q5))
theorem Sz (i j k:Nat):∀ x∈wl i j k,Settled x:=by simp [wl,Q5,X9,X2,Hq]
theorem L4 (g:Nat→List FV) (h:∀ k,(g k).length≤(g (k+1)).length) {k k':Nat} (hk:k≤k'):(g k).length≤(g k').length:=by
 induction hk with
 | refl=>exact Nat.le_refl _
 | step _ ih=>exact Nat.le_trans ih (h _)
theorem oe (a b:PV) (e:Rat) {i j k:Nat} (hi:i<a.rim.length) (hj:j<b.rim.length) (hk:k≤min a.rim.length b.rim.length - 1):(Z1 a b e i ++ Ze a b e i j ++ ZC a b e i j k).length≤(BF a b e).length:=by
 have h1:=L4 (ZC a b e i j) (fun k=>by show _≤(ZC a b e i j k ++ _).length; simp) hk
 have h2:=L4 (Ze a b e i) (fun k=>by show _≤(Ze a b e i k ++ _).length; simp) (show j+1≤b.rim.length by omega)
 have h3:=L4 (Z1 a b e) (fun k=>by show _≤(Z1 a b e k ++ _).length; simp) (show i+1≤a.rim.length by omega)
 have e2:(Ze a b e i (j+1)).length=(Ze a b e i j).length+(ZC a b e i j (min a.rim.length b.rim.length - 1)).length:=by show (Ze a b e i j ++ _).length=_; rw [List.length_append]
 have e3:(Z1 a b e (i+1)).length=(Z1 a b e i).length+(Ze a b e i b.rim.length).length:=by show (Z1 a b e i ++ _).length=_; rw [List.length_append]
 have e4:(BF a b e).length=(Z1 a b e a.rim.length).length:=rfl
 rw [List.length_append,List.length_append]
 omega
theorem Lz (a b:PV) (e:Rat) (t:Tok) (m:Nat) (Hs:List FV→List AO) (la:a.rim.length≤1000) (lb:b.rim.length≤1000) (ha:0<a.rim.length) (hb:0<b.rim.length) (hHs:∀ D,P7 m (Hs D)) (hce:t.ce.H.length≤m)
  (hy:∀ i j k D,i<a.rim.length→j<b.rim.length→k+1<min a.rim.length b.rim.length→D.length≤(BF a b e).length→YCall Tryz.prog t [.agg (wl i j (k+1))] (Hs D) (.bool true) (Hs (D ++ Ei a b e i j (k+1)))) :
  ICall Tryz.prog t 197 [.yld t.l,KN a,KN b] (Hs []) (Hs (BF a b e)):=by
 refine ICall.intro (fn:=Tryz.f197) Tryz.call197 Tryz.func197 rfl mixed 9 [15,16,19,20] [] [] (by kernel_rfl) (Nat.le_of_ble_eq_true rfl) (by rw [(hHs []).1]; exact hce) (by rw [(hHs []).1]; exact fun o ho=>((hHs _).2 o ho).1) (Xj ?_)
 simp (disch:=omega) only [AS.start,QI,Q0,Xi,↓Xy,wG,seval]
 refine Xd (fun i:Nat=>⟨9,[15,16,19,20],[.yld t.l,KN a,KN b,.any,I a.rim.length,I b.rim.length,.any,.any,.any],[(15,I a.rim.length),(16,I i)],Hs (Z1 a b e i)⟩) (fun i=>i≤a.rim.length) (fun i=>a.rim.length - i) 0 (by omega)
  (Xg rfl (by simp [Xf,QI,Q0,Xi,Xz,X3,I]) (by simp [Xm,Xq,I]) (by simp [Z1])) ?_
 intro i hi next
 by_cases hi2:i<a.rim.length
 rotate_left
 ·obtain rfl:i=a.rim.length:=by omega
  refine Xj ?_
  simp (disch:=omega) only [QI,↓Xy,wG,seval]
  exact tS rfl (by show (Hs _).take (Hs []).length=_; rw [(hHs []).1,← (hHs (Z1 a b e a.rim.length)).1,List.take_length]; rfl)
 refine Xj ?_
 simp (disch:=omega) only [QI,↓Xy,wG,seval]
 refine Xd (fun j:Nat=>⟨9,[15,16,19,20],[.yld t.l,KN a,KN b,.any,I a.rim.length,I b.rim.length,I i,.any,.any],[(19,I b.rim.length),(20,I j),(15,I a.rim.length),(16,I i)],Hs (Z1 a b e i ++ Ze a b e i j)⟩) (fun j=>j≤b.rim.length) (fun j=>b.rim.length - j) 0 (by omega)
  (Xg rfl (by simp [Xf,QI,I]) (by simp [Xm,Xq,I]) (by simp [Ze])) ?_
 intro j hj next2
 by_cases hj2:j<b.rim.length
 rotate_left
 ·obtain rfl:j=b.rim.length:=by omega
  refine Xj ?_
  simp (disch:=omega) only [QI,↓Xy,wG,seval]
  exact next (i+1) _ (by omega) (by omega) (Xg rfl (by simp [Xf,QI,I]) (by simp [Xm,Xq,I]) (by simp [Z1]))
 clear next
 have nx2:=next2 (j+1)
 rw [show Ze a b e i (j+1)=Ze a b e i j ++ ZC a b e i j (min a.rim.length b.rim.length - 1) from rfl,← List.append_assoc] at nx2
 have hpre:=fun k hk=>oe a b e (k:=k) hi2 hj2 hk
 generalize Z1 a b e i ++ Ze a b e i j=D at *
 clear next2
 refine Xj ?_
 simp (disch:=omega) only [QI,↓Xy,wG,seval]
 refine Xd (fun k:Nat=>⟨9,[15,16,19,20],[.yld t.l,KN a,KN b,.any,I a.rim.length,I b.rim.length,I i,I j,I (k+1:Nat)],[(19,I b.rim.length),(20,I j),(15,I a.rim.length),(16,I i)],Hs (D ++ ZC a b e i j k)⟩) (fun k=>k≤min a.rim.length b.rim.length - 1) (fun k=>min a.rim.length b.rim.length - k) 0 (by omega)
  (Xg rfl (by simp [Xf,QI,I]) (by simp [Xm,Xq,I]) (by simp [ZC])) ?_
 intro k hk next3
 by_cases hk2:k+1<min a.rim.length b.rim.length
 rotate_left
 ·obtain rfl:k=min a.rim.length b.rim.length - 1:=by omega
  refine Xj ?_
  simp (disch:=omega) only [QI,↓Xy,wG,seval]
  exact nx2 _ (by omega) (by omega) (Xg rfl (by simp [Xf,QI,I]) (by simp [Xm,Xq,I]) (by simp))
 have nx3:=next3 (k+1)
 rw [show ZC a b e i j (k+1)=ZC a b e i j k ++ Ei a b e i j (k+1) from rfl,← List.append_assoc] at nx3
 have hE:=hpre k (by omega)
 clear hpre
 generalize D ++ ZC a b e i j k=E at *
 obtain ⟨q1,q2⟩:=hHs E
 obtain ⟨q3,q4⟩:=hHs (E ++ Ei a b e i j (k+1))
 refine Xj ?_
 simp (disch:=omega) only [QI,↓Xy,wG,seval]
 refine C7 (t:=t) (H1:=Hs E) (H1':=Hs (E ++ Ei a b e i j (k+1))) (rest:=[]) rfl rfl (List.mem_singleton.2 rfl) (hy i j k E hi2 hj2 hk2 hE) (List.append_nil _).symm (q3.trans q1.symm) (by rw [q1]; exact hce) ?_ (by rw [q1]; exact fun o ho=>(q2 o ho).1) (fun o ho=>(q2 o ho).2.1) (fun o ho=>(q4 o ho).2.1) (QU (fun o ho=>(q2 o ho).2.2) (fun o ho=>(q4 o ho).2.2)) ⟨?_,trivial⟩ ?_
 ·intro x hx
  rw [List.mem_singleton.1 hx]
  exact X7 (Qo (Sz _ _ _))
 ·exact Weak.rfl' _
 simp (disch:=omega) only [QI,↓Xy,wG,seval]
 exact nx3 _ (by omega) (by omega) (Xg rfl (by simp [Xf,QI,I]) (by simp [Xm,Xq,I]) (by simp))
def Hb (p:FV→Bool) (s:List FV):Int:=if s.any p=true then (s.findIdx p:Nat) else -1
theorem IM {s:List FV} {j:Nat} (h:j<s.length):s.getD j BO∈s:=by
 rw [List.getD_eq_getElem?_getD,List.getElem?_eq_getElem h]; exact List.getElem_mem h
theorem aP {p:FV→Bool} {s:List FV} {j:Nat} (hj:j<s.length) (h:p (s.getD j BO)=true) (hno:∀ i,i<j→p (s.getD i BO)=false):Hb p s=j:=by
 have at_:∀ i (hi:i<s.length),s.getD i BO=s[i]:=fun i hi=>by rw [List.getD_eq_getElem?_getD,List.getElem?_eq_getElem hi]; rfl
 have e:s.findIdx p=j:=by
  rw [List.findIdx_eq hj]
  exact ⟨by rw [← at_ j hj]; exact h,fun i hi=>by rw [← at_ i (by omega)]; exact hno i hi⟩
 unfold Hb
 rw [if_pos (List.any_eq_true.2 ⟨_,IM hj,h⟩),e]
theorem Uh {p:FV→Bool} {s:List FV} (hno:∀ i,i<s.length→p (s.getD i BO)=false):Hb p s = -1:=by
 unfold Hb
 rw [if_neg]
 intro h
 obtain ⟨x,hx,hp⟩:=List.any_eq_true.1 h
 obtain ⟨i,hi,rfl⟩:=List.getElem_of_mem hx
 have:=hno i hi
 rw [List.getD_eq_getElem?_getD,List.getElem?_eq_getElem hi] at this
 simp only [Option.getD_some] at this
 rw [this] at hp; cases hp
theorem N5 (p:FV→Bool) (s:List FV):decide (0≤Hb p s)=s.any p:=by
 unfold Hb
 cases h:s.any p
 ·simp
 ·rw [if_pos rfl]; exact decide_eq_true (by omega)
theorem Ua (s:List FV) (f:FuncId) (caps:List AV) (p:FV→Bool) (hl:s.length<1000000) (hc:∀ a∈caps,Settled a) (hp:∀ x∈s,Fn Tryz.prog f ([Aw x] ++ caps) (.bool (p x))) :
  Fn Tryz.prog 204 [N1 s,.fn f caps] (I (Hb p s)):=by
 refine Fn.intro (fn:=Tryz.f204) Tryz.call204 Tryz.func204 rfl mixed 6 [6,7,8] [] [] (by kernel_rfl) (Nat.le_of_ble_eq_true rfl) (by simpa [Zj] using Jb hc) (Xj ?_)
 simp (disch:=omega) only [AS.start,XB,↓Xy,wG,seval]
 refine Xd (fun j:Nat=>⟨6,[6,7,8],[N1 s,.fn f caps,.any,.any,.any,.any],[(6,N1 s),(7,I s.length),(8,I j)],[]⟩) (fun j=>j≤s.length∧∀ i,i<j→p (s.getD i BO)=false) (fun j=>s.length - j) 0 ⟨by omega,by omega⟩
  (Xg rfl (by simp [Xf,XB,I]) (by simp [Xm,Xq,XB,I]) rfl) ?_
 rintro j ⟨hj,hno⟩ next
 by_cases hj2:j<s.length
 ·have v1:=fF s j
  have v2:=wH s j
  refine Xj ?_
  simp (disch:=omega) only [XB,v1,v2,Qr,↓Xy,wG,seval]
  refine Qm (hp _ (IM hj2)) (Qj _) ?_
  simp (disch:=omega) only [↓Xy,wG,seval]
  refine QL (fun ht=>Xv (v:=I j) rfl rfl (X9 _) ?_) (fun hf=>next (j+1) _ ⟨by omega,BG.2 ⟨hno,hf⟩⟩ (by omega) (Xg rfl (by simp [Xf,XB,I]) (by simp [Xm,Xq,XB,I]) rfl))
  rw [aP hj2 ht hno]
 ·refine Xj ?_
  simp (disch:=omega) only [XB,↓Xy,wG,seval]
  refine Xv (v:=I (-1)) rfl rfl (X9 _) ?_
  rw [Uh fun i hi=>hno i (by omega)]
theorem Mc (s:List FV) (f:FuncId) (caps:List AV) (p:FV→Bool) (hl:s.length<1000000) (hc:∀ a∈caps,Settled a) (hp:∀ x∈s,Fn Tryz.prog f ([Aw x] ++ caps) (.bool (p x))) :
  Fn Tryz.prog 139 [N1 s,.fn f caps] (.bool (s.any p)):=by
 have hi:=N5 p s
 refine Fn.intro (fn:=Tryz.f139) Tryz.call139 Tryz.func139 rfl mixed 5 [] [] [] (by kernel_rfl) (Nat.le_of_ble_eq_true rfl) (by simpa [Zj] using Jb hc) (Xj ?_)
 simp (disch:=omega) only [AS.start,↓Xy,wG,seval]
 refine X0 (Ua s f caps p hl hc hp) rfl ?_
 simp (disch:=omega) only [↓Xy,wG,seval]
 exact Xv (v:=.bool (decide (0≤Hb p s))) rfl rfl (X2 _) (by rw [N5])
theorem aC (a b:PV) (f g:FV) (ha:0<a.rim.length∧a.rim.length<1000000) (hb:0<b.rim.length∧b.rim.length<1000000) (nf:f.near) (ng:g.near) (hf:vb f.turn≤vm) (hg:vb g.turn≤vm) :
  Fn Tryz.prog 140 ([Aw g] ++ [pN f,KN a,KN b]) (.bool (decide (Em a.rim.length b.rim.length f g))):=by
 obtain ⟨V,hV⟩:∃ V,V=decide (Em a.rim.length b.rim.length f g):=⟨_,rfl⟩
 rw [← hV]
 replace hV:=(Bool.eq_iff_iff.1 hV).trans decide_eq_true_iff
 have fin:∀ {s:AS} {v:Bool},s.get 5=.bool v→v=V→RetOk (QS Tryz.prog Tryz.f140 [2,30000004] [] (.bool V)) s:=fun h e=>Xv rfl h (X2 _) (by rw [e])
 obtain ⟨f1,f2,f3⟩:=nf
 obtain ⟨g1,g2,g3⟩:=ng
 have d0:=Int.emod_nonneg (f.EA - g.EA) (show (a.rim.length:Int)≠0 by omega)
 have d1:=Int.emod_lt_of_pos (f.EA - g.EA) (show (0:Int)<a.rim.length by omega)
 have c1:=ZM (f.EA - g.EA) a.rim.length ha.1 (by omega) (by omega)
 have c2:=ZM (g.EB - (f.EA - g.EA) % a.rim.length) b.rim.length hb.1 (by omega) (by omega)
 have c3:=A9 f.turn g.turn hf hg
 unfold Em at hV
 generalize (f.EA - g.EA) % (a.rim.length:Int)=d at *
 generalize (g.EB - d) % (b.rim.length:Int)=r at *
 refine Fq Tryz.call140 Tryz.func140 7 [] [2,30000004] [] (by simp [Bo,Bp,JS]) (Xj ?_)
 simp (disch:=omega) only [AS.start,QI,pN,Q0,Xi,Aw,Qr,List.cons_append,List.nil_append,↓Xy,wG,seval]
 refine X0 c1 rfl ?_
 by_cases h1:f.M<g.M
 rotate_left
 ·simp (disch:=omega) only [↓Xy,wG,seval]
  exact fin rfl (vN hV (fun hh=>h1 hh.1))
 by_cases h2:d+f.M≤g.M
 rotate_left
 ·simp (disch:=omega) only [↓Xy,wG,seval]
  exact fin rfl (vN hV (fun hh=>h2 hh.2.1))
 simp (disch:=omega) only [↓Xy,wG,seval]
 refine X0 c2 rfl ?_
 by_cases h3:r=f.EB
 rotate_left
 ·simp (disch:=omega) only [↓Xy,wG,seval]
  exact fin rfl (vN hV (fun hh=>h3 hh.2.2.1))
 simp (disch:=omega) only [↓Xy,wG,seval]
 refine X0 c3 rfl ?_
 simp (disch:=omega) only [↓Xy,wG,seval]
 exact fin rfl (vI hV ⟨fun hh=>hh.2.2.2,fun hh=>⟨h1,h2,h3,hh⟩⟩)
def U9 (W:List FV):AV:=.ptr 1 (Xk [N1 W]) 0
theorem Ft (W:List FV):U9 W=.ptr 1 (Xk [N1 W]) 0:=nrfl rfl
theorem Cz (W:List FV):Settled (U9 W):=QO fun j hj=>by
 obtain rfl:j=0:=by omega
 exact Zj W
theorem gI (a b:PV) (f:FV) (W:List FV) (ha:0<a.rim.length∧a.rim.length<1000000) (hb:0<b.rim.length∧b.rim.length<1000000) (hW:W.length<1000000) (nf:f.near) (hf:vb f.turn≤vm) (hall:∀ g∈W,g.near∧vb g.turn≤vm) :
  Fn Tryz.prog 138 ([Aw f] ++ [U9 W,KN a,KN b]) (.bool (P3 a.rim.length b.rim.length W f)):=by
 have c:=Mc W 140 [pN f,KN a,KN b] (fun g=>decide (Em a.rim.length b.rim.length f g)) hW (by simp [Bp,JS]) (fun g hg=>aC a b f g ha hb nf (hall g hg).1 hf (hall g hg).2)
 change Fn _ _ _ (.bool (P3 a.rim.length b.rim.length W f)) at c
 generalize P3 a.rim.length b.rim.length W f=V at *
 refine Fq Tryz.call138 Tryz.func138 6 [] [] [] (by simp [Bo,Cz,JS]) (Xj ?_)
 simp (disch:=omega) only [AS.start,Ft,QI,XB,Aw,Qr,List.cons_append,List.nil_append,↓Xy,wG,seval]
 refine Jz c rfl ⟨(Zj W).sees _,Bm ⟨?_,(JS a).sees _,(JS b).sees _,trivial⟩,trivial⟩ (ZN _) ?_
 ·exact KE (.inl rfl) (by omega) fun j hj=>(Xe (Q8 f) j).sees _
 simp (disch:=omega) only [↓Xy,wG,seval]
 exact Xv rfl rfl (X2 _) rfl
def Ky (a b:PV) (D:List FV):List AO:=[.row 0 25 (Xk (Q0 a)),.row 0 25 (Xk (Q0 b)),.row 0 1 (Xk [.osl 3 D.length 29 0 D.length]),.row D.length (D.length*29) (Xt Qr 29 BO D)]
theorem Yq (a b:PV) (D:List FV):Ky a b D=[.row 0 25 (Xk (Q0 a)),.row 0 25 (Xk (Q0 b)),.row 0 1 (Xk [.osl 3 D.length 29 0 D.length]),.row D.length (D.length*29) (Xt Qr 29 BO D)]:=nrfl rfl
theorem Gc (a b:PV) (D:List FV) (m:Nat) (h:4≤m):∀ o∈Ky a b D,XT m o:=fun o ho=>by
 simp only [Ky,List.mem_cons,List.not_mem_nil,or_false] at ho
 rcases ho with rfl | rfl | rfl | rfl
 ·exact XL (XI a)
 ·exact XL (XI b)
 ·intro j hj
  obtain rfl:j=0:=by omega
  exact HR (by omega)
 ·exact fun j _=>X7 (Xe (Q8 _) _)
theorem Pn (a b:PV) (D:List FV):P7 4 (Ky a b D):=⟨rfl,fun o ho=>⟨Gc a b D 4 (by omega) o ho,by
 simp only [Ky,List.mem_cons,List.not_mem_nil,or_false] at ho
 rcases ho with rfl | rfl | rfl | rfl <;> simp⟩⟩
def uC (i j k:Nat):List AV:=[I 0,I 1,I i,I j,I k] ++ (ZG ++ (ZG ++ ZG))
theorem SA (i j k:Nat):∀ x∈uC i j k,Settled x:=by simp [uC,ZG,X9,X2,Hq]
theorem TR (a b:PV) (f:FV) (n:Nat):Av (As (Ql a b f n) ((Ql a b f n).length - 1)) ((As (Ql a b f n) ((Ql a b f n).length - 1)).length - 1)=KH a b f n:=by
 rw [B7]
 by_cases h:0<(Ql a b f n).length
 ·exact Yt a b f n h
 have e:Ql a b f n=[]:=List.eq_nil_of_length_eq_zero (by omega)
 have e2:KH a b f n=[]:=by
  refine List.eq_nil_iff_forall_not_mem.2 fun x hx=>?_
  have:x∈Ql a b f n:=(Pq a b f x n).2 ((ZX a b f x n).1 hx)
  rw [e] at this; cases this
 rw [e,e2]; rfl
theorem R5 (a b:PV) {ta tb:Rat} (ha:GP a ta) (hb:GP b tb):Fn Tryz.prog 50 [Kh a,Kh b] (N1 (H4 a b (ta+tb))):=by
 have la:=(Ad _ ha.poly).1
 have lb:=(Ad _ hb.poly).1
 simp only [Xr,List.length_map] at la lb
 have cs:=OS a b
 obtain ⟨e,hT⟩:∃ e,e=ta+tb:=⟨_,rfl⟩
 rw [← hT]
 refine Fr Tryz.call50 Tryz.func50 15 [18,32,33,34,63,64,65] [] [5,6,7] ?_
 simp (disch:=omega) only [AS.start,Kh,Q0,↓Xy,wG,seval]
 refine X0 cs rfl ?_
 simp (disch:=omega) only [Q0,↓Xy,wG,seval]
 refine Run.sub (s':=⟨15,[18,32,33,34,63,64,65],[.any,.any,.ref 0 0 0,.ref 1 0 0,.any,.ref 2 0 0,.any,.any,.any,.any,.any,.any,.any,.any,.any],[(17,.fn 197 [KN a,KN b])],Ky a b []⟩) ?_
  ((Jn 2 1 (fun _=>.sl 0 0 (fun _=>.any) true) rfl (Nat.le_refl _) (fun j hj=>by have e:j=0:=Nat.lt_one_iff.1 hj; subst e; rfl)).trans ((F1 2 29 (Xt Qr 29 BO []) rfl 1 (Nat.le_refl _)).trans ((Jn 2 1 (Xk [.osl 3 0 29 0 0]) rfl (Nat.le_refl _) (fun j hj=>by have e:j=0:=Nat.lt_one_iff.1 hj; subst e; rfl)).trans (Xg rfl (by simp [Xf]) (by simp [Xm,Xq,QI,Q0,Xi,Xz,X3,I]) (by simp [Ky,Q0,Xi,Xz,X3,I])))))
 have hlenA:=Pm a b e la.2 lb.2 (by omega) (by omega)
 refine Er (gf:=197) (caps:=[KN a,KN b]) (Hn:=Ky a b (BF a b e)) rfl rfl rfl (fun t ht=>?_) ?_
 ·have hce:t.ce.H.length≤4:=by rw [ht.ch]; exact Nat.le_refl _
  refine Lz a b e t 4 (fun D=>Ky a b D) (by omega) (by omega) (by omega) (by omega) (fun D=>Pn a b D) hce fun i j k D hi hj hk hD=>?_
  have hst:∀ t lo hi,BZ a.rim.length b.rim.length ⟨0,1,i,j,(k+1:Nat),t,lo,hi⟩:=fun t lo hi=>⟨⟨by show (0:Int)≤i; omega,by show (i:Int)<_; omega⟩,⟨by show (0:Int)≤j; omega,by show (j:Int)<_; omega⟩,by show (1:Int)≤((k+1:Nat):Int); omega,by show ((k+1:Nat):Int)<_; omega,by show ((k+1:Nat):Int)<_; omega⟩
  have cp:=Hi a b (Jx i j (k+1) v0) (hst _ _ _) ha.even hb.even
  have wf:=dh i j (k+1)
  have hfk:Ei a b e i j (k+1)=if HE a b (Jx i j (k+1) v0) then BM a b e i j (k+1) (KH a b (Jx i j (k+1) v0) (k+1)) else []:=rfl
  rw [hfk]
  refine DJ (str:=[]) (hcs:=[5,6,7]) ht mixed (by kernel_rfl) (by kernel_rfl) rfl (fun p hp=>?_) (fun o ho=>((Pn a b _).2 o ho).1) (fun l r hr=>?_)
  ·have hp':p=18:=by simpa using hp
   subst hp'
   exact Nat.le_of_ble_eq_true rfl
  show Run _ _ ⟨15,[18,32,33,34,63,64,65],[.any,.any,.ref 0 0 0,.ref 1 0 0,.any,.ref 2 0 0,.any,.any,.any,.any,.any,.any,.any,.any,.any],[(18,.agg (wl i j (k+1))),(17,.fn 197 [KN a,KN b])],Ky a b D⟩
  refine Xj ?_
  simp (disch:=omega) only [Yq,QI,wl,Q5,List.cons_append,List.nil_append,↓Xy,wG,seval]
  refine EI hr ?_
  refine Xj ?_
  simp (disch:=omega) only [Q0,↓Xy,wG,seval]
  refine Qm cp ⟨Weak.rfl' _,Weak.rfl' _,QY wf,trivial⟩ ?_
  by_cases hp:HE a b (Jx i j (k+1) v0)
  rotate_left
  ·rw [if_neg hp,List.append_nil]
   simp (disch:=omega) only [decide_eq_false hp,↓Xy,wG,seval]
   exact ou rfl
  rw [if_pos hp]
  simp (disch:=omega) only [decide_eq_true hp,↓Xy,wG,seval]
  have hZ:=Gc a b D
  have cA:=Pr (.row 0 25 (Xk (Q0 a))) (.row 0 25 (Xk (Q0 b))) (.row 0 1 (Xk [.osl 3 D.length 29 0 D.length])) (.row D.length (D.length*29) (Xt Qr 29 BO D)) (.row 0 29 (Xk (uC i j (k+1)))) (fun m hm=>hZ m (by omega) _ (by simp [Ky])) (fun m hm=>hZ m (by omega) _ (by simp [Ky])) (fun m hm=>hZ m (by omega) _ (by simp [Ky])) (fun m hm=>hZ m (by omega) _ (by simp [Ky])) (fun m hm=>XL (SA i j (k+1))) a b (Jx i j (k+1) v0) (hst _ _ _) ha.even hb.even
  rw [show (Jx i j (k+1) v0).M.toNat=k+1 from rfl] at cA
  have hAl:=CT a b (Jx i j (k+1) v0) (k+1)
  have hAs:=EC a b (Jx i j (k+1) v0) ha.even.near hb.even.near (k+1)
  have hct:=TR a b (Jx i j (k+1) v0) (k+1)
  have hsm:=G1 a b (Jx i j (k+1) v0) ha.even.near hb.even.near (k+1)
  have hlen:=F3 a b (Jx i j (k+1) v0) (k+1)
  have hcm2:=Vz (As (Ql a b (Jx i j (k+1) v0) (k+1)) ((Ql a b (Jx i j (k+1) v0) (k+1)).length - 1))
  generalize Ql a b (Jx i j (k+1) v0) (k+1)=A at *
  generalize KH a b (Jx i j (k+1) v0) (k+1)=L at *
  have hu8:∀ o∈[AO.row 0 25 (Xk (Q0 a)),.row 0 25 (Xk (Q0 b)),.row 0 1 (Xk [.osl 3 D.length 29 0 D.length]),.row D.length (D.length*29) (Xt Qr 29 BO D),.row 0 29 (Xk (uC i j (k+1))),.dead,.dead,.dead],o≠AO.unborn:=by simp
  have cS:=oI (.row 0 25 (Xk (Q0 a))) (.row 0 25 (Xk (Q0 b))) (.row 0 1 (Xk [.osl 3 D.length 29 0 D.length])) (.row D.length (D.length*29) (Xt Qr 29 BO D)) (.row 0 29 (Xk (uC i j (k+1)))) .dead .dead .dead hu8 A.length A (fun x hx=>by have:=hAs x hx; unfold vm; omega) (by omega)
  have hSl:=B7 A (A.length - 1)
  have hSm:∀ x∈As A (A.length - 1),vb x≤vm:=fun x hx=>by
   by_cases h0:0<A.length
   ·have:=hAs x (Lw A (A.length - 1) (by omega) x hx); unfold vm; omega
   ·rw [List.eq_nil_of_length_eq_zero (show (As A (A.length - 1)).length=0 by omega)] at hx; cases hx
  have cC:=TS (.row 0 25 (Xk (Q0 a))) (.row 0 25 (Xk (Q0 b))) (.row 0 1 (Xk [.osl 3 D.length 29 0 D.length])) (.row D.length (D.length*29) (Xt Qr 29 BO D)) (.row 0 29 (Xk (uC i j (k+1)))) .dead .dead .dead A.length (As A (A.length - 1)) hSm (by omega)
  rw [hct] at cC
  rw [hSl] at cC
  generalize As A (A.length - 1)=S at *
  refine KK rfl cA (QU (by simp) (by simp)) (fun id hh=>absurd (List.mem_of_getElem? hh) (by simp)) ⟨Weak.rfl' _,Weak.rfl' _,QY wf,trivial⟩ ?_
  simp (disch:=omega) only [↓Xy,wG,seval]
  refine KK rfl cS (QU (by simp) (by simp)) (fun id hh=>absurd (List.mem_of_getElem? hh) (by simp)) (Qj _) ?_
  simp (disch:=omega) only [↓Xy,wG,seval]
  refine KK rfl cC (QU (by simp) (by simp)) (fun id hh=>absurd (List.mem_of_getElem? hh) (by simp)) (Qj _) ?_
  simp (disch:=omega) only [↓Xy,wG,seval]
  have hvc:∀ a:V2,∀ x∈vC a,Settled x:=fun a=>by simp [vC,X6,X2]
  have bAll:∀ (E:List FV) (f:FV),∀ o∈Ky a b E ++ [.row 0 29 (Xk (Qr f)),.dead,.dead,.dead,.row A.length (L.length*8) (Xt vC 8 v0 L)],XT 9 o:=fun E f o ho=>by
   rcases List.mem_append.1 ho with ho | ho
   ·exact Gc a b E 9 (by omega) o ho
   simp only [List.mem_cons,List.not_mem_nil,or_false] at ho
   rcases ho with rfl | rfl | rfl | rfl | rfl
   ·exact XL (Q8 f)
   ·trivial
   ·trivial
   ·trivial
   ·exact fun j _=>X7 (Xe (hvc _) _)
  refine Xd (fun w:Nat×V2×V2×V2=>⟨15,[18,32,33,34,63,64,65],[.any,.any,.ref 0 0 0,.ref 1 0 0,.any,.ref 2 0 0,.ref 4 0 0,.any,.any,.any,.any,.any,.any,.any,.any],[(32,.osl 8 A.length 8 0 L.length),(33,I L.length),(34,I w.1)],Ky a b (D ++ BM a b e i j (k+1) (L.take w.1)) ++ [.row 0 29 (Xk (Qr ⟨0,1,i,j,(k+1:Nat),w.2.1,w.2.2.1,w.2.2.2⟩)),.dead,.dead,.dead,.row A.length (L.length*8) (Xt vC 8 v0 L)]⟩) (fun w=>w.1≤L.length) (fun w=>L.length - w.1) (0,v0,v0,v0) (Nat.zero_le _)
   (Sub.trans (LB 4 (Qr (Jx i j (k+1) v0)) rfl rfl wf) (Xg rfl (by simp [Xf,I]) (by simp [Xm,Xq,I]) (by simp [Ky,Q0,Xi,Xz,X3,BM,Jx,I]))) ?_
  rintro ⟨t,T,lo,hi'⟩ ht nextt
  replace ht:t≤L.length:=ht
  by_cases ht2:t<L.length
  rotate_left
  ·obtain rfl:t=L.length:=by omega
   rw [List.take_length] at *
   refine Xj ?_
   simp (disch:=omega) only [Ky,↓Xy,wG,seval]
   exact ou rfl
  have hx:=hsm (L.getD t v0) (Ju ht2)
  have htk:=Ub a b e i j (k+1) L t ht2
  have v1:=JD vC 8 v0 L t
  have v2:=JT vC 8 v0 L t (by omega)
  have htl:=MX a b e i j (k+1) (L.take t)
  rw [List.length_take] at htl
  generalize L.getD t v0=x at *
  have ca:=Ig a b ⟨0,1,i,j,(k+1:Nat),x,lo,hi'⟩ ha.even hb.even (by show vb x≤1000; omega) ha.tol hb.tol (by have:=ha.qt; omega) (by have:=hb.qt; omega)
  rw [← hT] at ca
  have hag:XH a.rim b.rim ⟨0,1,i,j,(k+1:Nat),x,lo,hi'⟩ e=XH a.rim b.rim (Jx i j (k+1) x) e:=rfl
  rw [hag] at ca
  have hqe:qb e≤41:=by rw [hT]; have:=KW ta tb; have:=ha.qt; have:=hb.qt; omega
  have hfine:(Jc a b (Jx i j (k+1) x) e).fine:=by
   obtain ⟨h1,h2⟩:=Pi a b (Jx i j (k+1) x) ha.even.near hb.even.near e (by show vb x≤60; omega)
   exact ⟨by show vb x≤60; omega,by show vb (XH a.rim b.rim (Jx i j (k+1) x) e).1≤300; omega,by show vb (XH a.rim b.rim (Jx i j (k+1) x) e).2.1≤300; omega⟩
  have cc:=MU a b _ ha hb hfine
  rw [← hT] at cc
  have hok:H6 a b e i j (k+1) x=((XH a.rim b.rim (Jx i j (k+1) x) e).2.2 && ZL a b (Jc a b (Jx i j (k+1) x) e) e):=rfl
  have hsf:Jc a b (Jx i j (k+1) x) e=⟨0,1,i,j,(k+1:Nat),x,(XH a.rim b.rim (Jx i j (k+1) x) e).1,(XH a.rim b.rim (Jx i j (k+1) x) e).2.1⟩:=rfl
  rw [hok,hsf] at htk
  rw [hsf] at cc
  generalize XH a.rim b.rim (Jx i j (k+1) x) e=G at *
  obtain ⟨g1,g2,ok⟩:=G
  simp only at htk cc ca
  have nx2:=nextt (t+1,x,g1,g2)
  rw [htk,← List.append_assoc] at nx2
  have hDl:(D ++ BM a b e i j (k+1) (L.take t)).length≤24000+12:=by rw [List.length_append]; omega
  generalize D ++ BM a b e i j (k+1) (L.take t)=E at *
  generalize ZL a b ⟨0,1,i,j,(k+1:Nat),x,g1,g2⟩ e=q at *
  refine Xj ?_
  simp (disch:=omega) only [Ky,vC,Qr,Q0,Xi,List.cons_append,List.nil_append,v1,v2,↓Xy,wG,seval]
  refine X0 ca rfl ?_
  cases ok with
  | false =>
   simp only [Bool.false_and,Bool.false_eq_true,if_false,List.append_nil] at nx2
   simp (disch:=omega) only [↓Xy,wG,seval]
   exact nx2 _ (by show t+1≤L.length; omega) (by show L.length - (t+1)<L.length - t; omega) (XD (m:=9) (Nat.le_add_right 4 5) rfl (by simp [Xf,I]) (by simp [Xm,Xq,I]) (by simp [Ky,Q0,Qr,Xi,Xz,X3,I,sg]) (by simp [XA]) (by simp [XA]) (bAll _ _))
  | true =>
   simp (disch:=omega) only [↓Xy,wG,seval]
   refine X0 cc rfl ?_
   cases q with
   | false =>
    simp only [Bool.and_false,Bool.false_eq_true,if_false,List.append_nil] at nx2
    simp (disch:=omega) only [↓Xy,wG,seval]
    exact nx2 _ (by show t+1≤L.length; omega) (by show L.length - (t+1)<L.length - t; omega) (XD (m:=9) (Nat.le_add_right 4 5) rfl (by simp [Xf,I]) (by simp [Xm,Xq,I]) (by simp [Ky,Q0,Qr,Xi,Xz,X3,I,sg]) (by simp [XA]) (by simp [XA]) (bAll _ _))
   | true =>
    simp only [Bool.and_true,if_true] at nx2
    have hap:=QN Qr 29 BO E ⟨0,1,i,j,(k+1:Nat),x,g1,g2⟩ (by omega)
    have hEl:(E ++ [(⟨0,1,i,j,(k+1:Nat),x,g1,g2⟩:FV)]).length=E.length+1:=by simp
    simp (disch:=omega) only [↓Xy,wG,seval]
    refine ⟨VS ⟨0,1,i,j,(k+1:Nat),x,g1,g2⟩,?_⟩
    exact nx2 _ (by show t+1≤L.length; omega) (by show L.length - (t+1)<L.length - t; omega) (XD (m:=9) (Nat.le_add_right 4 5) rfl (by simp [Xf,I]) (by simp [Xm,Xq,I]) (by simp only [Ky,hEl,← hap]; rfl) (by simp [XA]) (by simp [XA]) (bAll _ _))
 have hfin:∀ f∈BF a b e,f.near∧vb f.turn≤vm:=fun f hf=>by
  rw [hT] at hf
  obtain ⟨h1,h2,_⟩:=R7 ha hb hf
  exact ⟨h1,by unfold vm; omega⟩
 have hdef:H4 a b e=(BF a b e).filter fun f=>!P3 a.rim.length b.rim.length (BF a b e) f:=rfl
 rw [hdef]
 clear hdef
 show Run _ _ ⟨15,[18,32,33,34,63,64,65],[.any,.any,.ref 0 0 0,.ref 1 0 0,.any,.ref 2 0 0,.any,.any,.any,.any,.any,.any,.any,.any,.any],[(17,.fn 197 [KN a,KN b])],Ky a b (BF a b e)⟩
 generalize BF a b e=W at *
 refine Run.sub (s':=⟨15,[18,32,33,34,63,64,65],[.any,.any,KN a,KN b,.any,U9 W,.any,.any,.any,.any,.any,.any,.any,.any,.any],[],[]⟩) ?_
  ((Qk 0 rfl).trans ((Qk 1 rfl).trans ((Qk 3 rfl).trans ((Z4 2 (Xk [N1 W]) rfl (fun j hj=>by
   obtain rfl:j=0:=by omega
   exact B8 (M:=W.length*29) rfl (Nat.le_refl _) (fun h=>by rw [h]) (fun j hj=>Qc _ _))).trans ((Qk 2 rfl).trans ((C0 2 rfl rfl (by omega)).trans ((C0 3 rfl rfl (by omega)).trans ((C0 5 rfl rfl (by omega)).trans
   (XD (m:=0) (Nat.zero_le _) rfl (by simp [AS.put,Xf,QI,Ft]) (by simp [AS.put,Xm]) (by simp) (by simp [XA,X7 (JS a),X7 (JS b),X7 (Cz W)]) (by simp [XA]) (by simp))))))))))
 refine Xj ?_
 simp (disch:=omega) only [QI,Ft,XB,↓Xy,wG,seval]
 have sCl:Settled (.fn 138 [U9 W,KN a,KN b]):=Jb (by simp [Cz,JS])
 have bCl:Ko 1 (.fn 138 [U9 W,KN a,KN b])=True:=eq_true (X7 sCl)
 have bW:Ko 1 (N1 W)=True:=eq_true (X7 (Zj W))
 have b3:∀ v n l,XT 1 (.row v n (Xt Qr 29 BO l))=True:=fun v n l=>eq_true fun j _=>X7 (Xe (Q8 _) _)
 refine Xd (fun i:Nat=>⟨15,[18,32,33,34,63,64,65],[.any,.any,.any,.any,.any,.any,.any,.any,.any,.any,.any,.fn 138 [U9 W,KN a,KN b],.osl 0 ((W.take i).filter (fun f=>!P3 a.rim.length b.rim.length W f)).length 29 0 ((W.take i).filter (fun f=>!P3 a.rim.length b.rim.length W f)).length,.any,.any],[(65,I i),(64,I W.length),(63,N1 W)],[.row ((W.take i).filter (fun f=>!P3 a.rim.length b.rim.length W f)).length (((W.take i).filter (fun f=>!P3 a.rim.length b.rim.length W f)).length*29) (Xt Qr 29 BO ((W.take i).filter (fun f=>!P3 a.rim.length b.rim.length W f)))]⟩) (fun i=>i≤W.length∧((W.take i).filter (fun f=>!P3 a.rim.length b.rim.length W f)).length≤i) (fun i=>W.length - i) 0 ⟨by omega,by simp⟩
  (Sub.trans (Jd 12 29 (Xt Qr 29 BO []) rfl) (Xg rfl (by simp [AS.put,Xf,Ft,QI,XB,I]) (by simp [AS.put,Xm,Xq,XB,I]) (by simp [AS.put]))) ?_
 rintro i ⟨hi,hil⟩ next
 by_cases hi2:i<W.length
 rotate_left
 ·obtain rfl:i=W.length:=by omega
  rw [List.take_length]
  refine Xj ?_
  simp (disch:=omega) only [XB,↓Xy,wG,seval]
  exact nC _ rfl rfl rfl
 have nx:=next (i+1)
 rw [aD _ _ W i hi2] at nx
 generalize (W.take i).filter (fun f=>!P3 a.rim.length b.rim.length W f)=D at *
 obtain ⟨n1,n2⟩:=hfin _ (Ju (d:=BO) hi2)
 have v1:=fF W i
 have v2:=wH W i
 have c:=gI a b (W.getD i BO) W ⟨by omega,by omega⟩ ⟨by omega,by omega⟩ (by omega) n1 n2 hfin
 generalize W.getD i BO=f at *
 generalize P3 a.rim.length b.rim.length W f=q at *
 refine Xj ?_
 simp (disch:=omega) only [XB,v1,v2,Qr,↓Xy,wG,seval]
 refine X0 c rfl ?_
 cases q with
 | true =>
  rw [if_pos rfl,List.append_nil] at nx
  simp (disch:=omega) only [XB,↓Xy,wG,seval]
  exact nx _ ⟨by omega,by omega⟩ (by omega) (XD (m:=1) (Nat.zero_le _) rfl (by simp [Xf,I]) (by simp [Xm,Xq,XB,I]) (by simp) (by simp [XA,bCl]) (by simp [XA,bW]) (by simp [b3]))
 | false =>
  rw [if_neg (by decide)] at nx
  have hap:=QN Qr 29 BO D f (by omega)
  have hDl:(D ++ [f]).length=D.length+1:=by simp
  simp (disch:=omega) only [XB,↓Xy,wG,seval]
  refine ⟨VS f,nx _ ⟨by omega,by omega⟩ (by omega) (XD (m:=1) (Nat.zero_le _) rfl (by simp [Xf,hDl,I]) (by simp [Xm,Xq,XB,I]) (by simp only [hDl,← hap]; rfl) (by simp [XA,bCl]) (by simp [XA,bW]) (by simp [b3]))⟩
theorem Uc {a b:PV} {e:Rat} {f:FV} (h:f∈BF a b e) (ha:0<a.rim.length) (hb:0<b.rim.length):Jc a b f e=f:=by
 obtain ⟨i,j,k,t,hi,hj,k0,kn,km,hp,ht,ho,rfl⟩:=(CR a b e f ha hb).1 h
 rfl
theorem I7 {p:PV} {t:Rat} (h:GP p t):0<p.rim.length∧p.rim.length≤12:=by have:=h.poly.1; simp [Xr] at this; omega
structure Fnd (a b:PV) (e:Rat) (L:List FV):Prop where
 len:L.length≤24000
 fine:∀ f∈L,f.fine
 self:∀ f∈L,Jc a b f e=f
 ok:∀ f∈L,Ap a b f e=0
theorem R6 {a b:PV} {ta tb:Rat} (ha:GP a ta) (hb:GP b tb):Fnd a b (ta+tb) (H4 a b (ta+tb)):=by
 have la:=I7 ha; have lb:=I7 hb
 refine ⟨Nat.le_trans (List.length_filter_le _ _) (Pm a b (ta+tb) la.2 lb.2 la.1 lb.1),fun f hf=>?_,fun f hf=>Uc (List.mem_filter.1 hf).1 la.1 lb.1,fun f hf=>CZ (List.mem_filter.1 hf).1 la.1 lb.1⟩
 obtain ⟨_,h1,h2,h3⟩:=R7 ha hb (List.mem_filter.1 hf).1
 exact ⟨by omega,by omega,by omega⟩
theorem Ew {a b:PV} {e:Rat} {f:FV} (h:f∈BF a b e) (ha:0<a.rim.length) (hb:0<b.rim.length):f.A=0∧f.B=1∧(0≤f.EA∧f.EA<a.rim.length)∧(0≤f.EB∧f.EB<b.rim.length)∧1≤f.M∧f.M<a.rim.length∧f.M<b.rim.length:=by
 obtain ⟨i,j,k,t,hi,hj,k0,kn,km,hp,ht,ho,rfl⟩:=(CR a b e f ha hb).1 h
 refine ⟨rfl,rfl,?_⟩
 show (0≤(i:Int)∧(i:Int)<a.rim.length)∧(0≤(j:Int)∧(j:Int)<b.rim.length)∧1≤(k:Int)∧(k:Int)<a.rim.length∧(k:Int)<b.rim.length
 omega
theorem MI {a b:PV} {e:Rat} {f:FV} (h:Ap a b f e=0) (hA:f.A=0) (hB:f.B=1) (ha:0<a.rim.length) (hb:0<b.rim.length):f∈BF a b e:=by
 obtain ⟨h1,h2,h3,⟨h4,h5,h6⟩,h7⟩:=(DL a b f e).1 h
 obtain ⟨A,B,EA,EB,M,t,lo,hi⟩:=f
 simp only at hA hB
 subst hA hB
 obtain ⟨⟨x1,x2⟩,⟨x3,x4⟩,x5,x6,x7⟩:=h1
 simp only at x1 x2 x3 x4 x5 x6 x7
 obtain ⟨i,rfl⟩:=Int.eq_ofNat_of_zero_le x1
 obtain ⟨j,rfl⟩:=Int.eq_ofNat_of_zero_le x3
 obtain ⟨k,rfl⟩:=Int.eq_ofNat_of_zero_le (show 0≤M by omega)
 simp only at h5 h6
 obtain ⟨k',q1,q2,q3⟩:=h3
 have hs:(⟨0,1,(i:Int),(j:Int),(k:Int),t,lo,hi⟩:FV)=Jc a b (Jx i j k t) e:=by
  show _=(⟨0,1,(i:Int),(j:Int),(k:Int),t,(XH a.rim b.rim (Jx i j k t) e).1,(XH a.rim b.rim (Jx i j k t) e).2.1⟩:FV)
  rw [show XH a.rim b.rim (Jx i j k t) e=XH a.rim b.rim ⟨0,1,(i:Int),(j:Int),(k:Int),t,lo,hi⟩ e from rfl,h5,h6]
 refine (CR a b e _ ha hb).2 ⟨i,j,k,t,by omega,by omega,by omega,by omega,by omega,h2,?_,?_,hs⟩
 ·rw [ZX]
  exact ⟨k',by simpa using q1,q2,q3⟩
 ·unfold H6
  rw [Bool.and_eq_true,← hs]
  exact ⟨h4,h7⟩
def Bw (R:List (Int×Int)):PV:=⟨0,0,R,List.replicate R.length false,List.replicate R.length 0,RQ.of 0,RQ.of (Rat.divInt 1 1),RQ.of (Rat.divInt 1 1),RQ.of (Rat.divInt 1 1),RQ.of 0⟩
theorem L8 (R:List (Int×Int)) (hR:R.length<1000000):Fn Tryz.prog 130 [GB R] (Kh (Bw R)):=by
 have o1:=Zv 1 1 ⟨by omega,by omega⟩ ⟨by omega,by omega⟩
 obtain ⟨V,hV⟩:∃ V,V=Kh (Bw R):=⟨_,rfl⟩
 have sV:Settled V:=hV▸Ah _
 rw [← hV]
 unfold Bw at hV
 generalize Rat.divInt 1 1=q1 at *
 refine Fr Tryz.call130 Tryz.func130 4 [] [2,30000003] [] ?_
 simp (disch:=omega) only [AS.start,Xi,↓Xy,wG,seval]
 refine X0 o1 rfl ?_
 simp (disch:=omega) only [Xi,↓Xy,wG,seval]
 subst hV
 have h2:∀ (H:List AO),H[2]?=some (.row 0 R.length fun _=>.bool false)→JH H (.osl 2 0 1 0 R.length) (Zo (List.replicate R.length false)):=fun H ho=>by
  rw [Xz,List.length_replicate]
  refine Jk (.inl ho) (by omega) (fun h=>by rw [h]) fun j hj=>?_
  rw [K7,List.getD_eq_getElem?_getD,List.getElem?_replicate]
  split <;> exact (X2 _).sees _
 have h3:∀ (H:List AO),H[3]?=some (.row 0 R.length fun _=>.int .i64 0)→JH H (.osl 3 0 1 0 R.length) (X4 (List.replicate R.length 0)):=fun H ho=>by
  rw [X3,List.length_replicate]
  refine Jk (.inl ho) (by omega) (fun h=>by rw [h]) fun j hj=>?_
  rw [K7,List.getD_eq_getElem?_getD,List.getElem?_replicate]
  split <;> exact (X9 _).sees _
 have h4:∀ (H:List AO) (f:Nat→AV) (t:Bool),JH H (.sl 0 0 f t) (X4 (RQ.of 0).pd):=fun H f t=>by
  have e:(RQ.of 0).pd=[]:=by rw [← LP]; rfl
  rw [e]; exact XK (X6 _) (Qi _ _)
 have h5:∀ (H:List AO) (f:Nat→AV) (t:Bool),JH H (.sl 0 0 f t) (X4 (RQ.of 0).qd):=fun H f t=>by
  have e:(RQ.of 0).qd=[]:=by rw [← LP]; rfl
  rw [e]; exact XK (X6 _) (Qi _ _)
 have h6:∀ (H:List AO),JH H (.bool false) (.bool (RQ.of 0).pn):=fun H=>by
  have e:(RQ.of 0).pn=false:=by rw [← LP]; rfl
  rw [e]; exact (X2 _).sees _
 have h7:∀ (H:List AO),JH H (.bool false) (.bool (RQ.of 0).qn):=fun H=>(X2 _).sees _
 refine Lk rfl ir rfl rfl rfl ?_
 refine BW ⟨(X9 _).sees _,(X9 _).sees _,(Jy _).sees _,h2 _ rfl,h3 _ rfl,h6 _,h4 _ _ _,h7 _,h5 _ _ _,(X2 _).sees _,(X6 _).sees _,(X2 _).sees _,(X6 _).sees _,(X2 _).sees _,(X6 _).sees _,(X2 _).sees _,(X6 _).sees _,(X2 _).sees _,(X6 _).sees _,(X2 _).sees _,(X6 _).sees _,h6 _,h4 _ _ _,h7 _,h5 _ _ _,trivial⟩
theorem SG {R:List (Int×Int)} (hn:QV R) (k:Nat):((0≤(Fo R k).1*(Fo R k).1∧(Fo R k).1*(Fo R k).1≤17179869184)∧(0≤(Fo R k).2*(Fo R k).2∧(Fo R k).2*(Fo R k).2≤17179869184))∧0≤P6 R k∧P6 R k≤34359738368:=by
 have h0:=D6 hn k
 unfold P6
 generalize Fo R k=D at *
 have key:∀ x:Int,-131072≤x∧x≤131072→0≤x*x∧x*x≤17179869184:=fun x hx=>by
  rcases Int.le_total 0 x with h | h
  ·exact ⟨Int.mul_nonneg h h,Int.mul_le_mul hx.2 hx.2 h (by omega)⟩
  ·have:=Int.mul_le_mul (show -x≤131072 by omega) (show -x≤131072 by omega) (by omega) (by omega)
   rw [Int.neg_mul_neg] at this
   exact ⟨Int.mul_nonneg_of_nonpos_of_nonpos h h,this⟩
 have h1:=key D.1 h0.1
 have h2:=key D.2 h0.2
 omega
def tW (a b:PV) (f:FV) (k:Nat):Int:=if a.marks.getD (xK a.rim.length f k) 0≠0∧a.marks.getD (xK a.rim.length f k) 0=b.marks.getD (yK b.rim.length f k) 0 then 1000 else 0
def Sr (a b:PV) (f:FV):Nat→Int
 | 0=>0
 | k+1=>Sr a b f k+P6 a.rim (xK a.rim.length f k)+tW a b f k
def GK (a b:PV) (f:FV):Int:=if BZ a.rim.length b.rim.length f then Sr a b f f.M.toNat else 0
theorem ND {a:PV} (b:PV) (f:FV) (hn:QV a.rim):∀ k:Nat,0≤Sr a b f k∧Sr a b f k≤34359739368*k
 | 0=>by simp [Sr]
 | k+1=>by
  have ih:=ND b f hn k
  have h:=(SG hn (xK a.rim.length f k)).2
  have h2:0≤tW a b f k∧tW a b f k≤1000:=by unfold tW; split <;> omega
  simp only [Sr]
  omega
theorem aK (a b:PV) (f:FV) (ha:a.even) (hb:b.even):Fn Tryz.prog 62 [Kh a,Kh b,Aw f] (I (GK a b f)):=by
 have la:=ha.rim; have lb:=hb.rim
 have cs:=D9 a b f la lb
 obtain ⟨V,hV⟩:∃ V,V=GK a b f:=⟨_,rfl⟩
 rw [← hV]
 have fin:∀ {s:AS} {v:Int},s.get 6=I v→v=V→RetOk (QS Tryz.prog Tryz.f62 [] [] (I V)) s:=fun h e=>Xv rfl h (X9 _) (by rw [e])
 by_cases hf:BZ a.rim.length b.rim.length f
 rotate_left
 ·rw [decide_eq_false hf] at cs
  refine Fv Tryz.call62 Tryz.func62 11 [19,20,21] [] [] ?_
  simp (disch:=omega) only [AS.start,Kh,Q0,Aw,Qr,↓Xy,wG,seval]
  refine X0 cs rfl ?_
  simp (disch:=omega) only [↓Xy,wG,seval]
  exact fin rfl (by rw [hV]; unfold GK; rw [if_neg hf])
 rw [decide_eq_true hf] at cs
 have ce:=Fp a b f hf la lb
 have hVe:V=Sr a b f f.M.toNat:=by rw [hV]; unfold GK; rw [if_pos hf]
 obtain ⟨⟨s1,s2⟩,⟨s3,s4⟩,s5,s6,s7⟩:=hf
 obtain ⟨N,hN⟩:∃ N:Nat,f.M=N:=⟨f.M.toNat,by omega⟩
 rw [hN,Int.toNat_natCast] at hVe
 obtain ⟨L,hL⟩:∃ L,L=D7 a.rim.length b.rim.length f:=⟨_,rfl⟩
 have hlen:L.length=N:=by rw [hL,AM,hN]; rfl
 have hat:∀ k,k<N→L.getD k (0,0)=((xK a.rim.length f k:Int),(yK b.rim.length f k:Int)):=fun k hk=>by rw [hL]; exact E6 _ _ _ _ (by omega)
 rw [← hL] at ce
 clear hL
 have ba:XT 3 (.row 0 25 (Xk (Q0 a)))=True:=eq_true (XL (XI a))
 have bb:XT 3 (.row 0 25 (Xk (Q0 b)))=True:=eq_true (XL (XI b))
 have bf:XT 3 (.row 0 29 (Xk (Qr f)))=True:=eq_true (XL (Q8 f))
 have bL:Ko 3 (GB L)=True:=eq_true (X7 (Jy _))
 refine Fv Tryz.call62 Tryz.func62 11 [19,20,21] [] [] ?_
 simp (disch:=omega) only [AS.start,Kh,Q0,Aw,Qr,↓Xy,wG,seval]
 refine X0 cs rfl ?_
 simp (disch:=omega) only [Q0,Qr,↓Xy,wG,seval]
 refine X0 ce rfl ?_
 simp (disch:=omega) only [Xi,hlen,↓Xy,wG,seval]
 refine Xd (fun k:Nat=>⟨11,[19,20,21],[.any,.any,.any,.ref 0 0 0,.ref 1 0 0,.ref 2 0 0,.any,I (Sr a b f k),.any,.any,.any],[(19,GB L),(20,I N),(21,I k)],[.row 0 25 (Xk (Q0 a)),.row 0 25 (Xk (Q0 b)),.row 0 29 (Xk (Qr f))]⟩) (fun k=>k≤N) (fun k=>N - k) 0 (by omega)
  (Xg rfl (by simp [Xf,I,Sr]) (by simp [Xm,Xq,Xi,hlen,I]) (by simp [Q0,Qr,Xi,Xz,X3,I,sg])) ?_
 intro k hk next
 by_cases hk2:k<N
 rotate_left
 ·obtain rfl:k=N:=by omega
  refine Xj ?_
  simp (disch:=omega) only [↓Xy,wG,seval]
  exact fin rfl hVe.symm
 have hx:=kx a.rim.length f k (by omega)
 have hy:=qi b.rim.length f k (by omega)
 have cq:=ES a (xK a.rim.length f k) hx la ha.near
 have bq:=(SG ha.near (xK a.rim.length f k)).2
 have bn:=ND b f ha.near k
 have v1:=tL L k
 rw [hat k hk2] at v1
 have hnext:Sr a b f (k+1)=Sr a b f k+P6 a.rim (xK a.rim.length f k)+tW a b f k:=rfl
 have hsc:tW a b f k=if a.marks.getD (xK a.rim.length f k) 0≠0∧a.marks.getD (xK a.rim.length f k) 0=b.marks.getD (yK b.rim.length f k) 0 then 1000 else 0:=rfl
 have ea:=ha.marks; have eb:=hb.marks
 generalize P6 a.rim (xK a.rim.length f k)=Q at *
 generalize xK a.rim.length f k=X at *
 generalize yK b.rim.length f k=Y at *
 have w1:IntKind.i64.wrap (Sr a b f k+Q)=Sr a b f k+Q:=by rw [IntKind.wrap_i64]; omega
 have w2:IntKind.i64.wrap (Sr a b f k+Q+1000)=Sr a b f k+Q+1000:=by rw [IntKind.wrap_i64]; omega
 have c0:∀ c,tW a b f k=c→Sr a b f (k+1)=Sr a b f k+Q+c:=fun c hc=>by rw [hnext,hc]
 have t1:(1:Int).toNat=1:=rfl
 by_cases h0:a.marks.getD X 0=0
 ·have e:=c0 0 (by rw [hsc,if_neg (fun h=>h.1 h0)])
  rw [Int.add_zero] at e
  refine Xj ?_
  simp (disch:=omega) only [v1,w1,hlen,Xi,Q0,Qr,X3,↓Xy,wG,seval]
  refine X0 cq rfl ?_
  simp (disch:=omega) only [v1,w1,hlen,eq_true h0,Xi,Q0,Qr,X3,↓Xy,wG,seval]
  exact next (k+1) _ (by omega) (by omega) (XD (m:=3) (Nat.zero_le _) rfl (by simp [Xf,I,e]) (by simp [Xm,Xq,Xi,hlen,I]) (by simp [Q0,Qr,Xi,Xz,X3,I,sg]) (by simp [XA]) (by simp [XA,bL]) (by simp [ba,bb,bf]))
 by_cases h1:a.marks.getD X 0=b.marks.getD Y 0
 ·have e:=c0 1000 (by rw [hsc,if_pos ⟨h0,h1⟩])
  refine Xj ?_
  simp (disch:=omega) only [v1,w1,hlen,Xi,Q0,Qr,X3,↓Xy,wG,seval]
  refine X0 cq rfl ?_
  simp (disch:=omega) only [v1,w1,w2,t1,hlen,eq_false h0,eq_true h1,Xi,Q0,Qr,X3,↓Xy,wG,seval]
  exact next (k+1) _ (by omega) (by omega) (XD (m:=3) (Nat.zero_le _) rfl (by simp [Xf,I,e]) (by simp [Xm,Xq,Xi,hlen,I]) (by simp [Q0,Qr,Xi,Xz,X3,I,sg]) (by simp [XA]) (by simp [XA,bL]) (by simp [ba,bb,bf]))
 ·have e:=c0 0 (by rw [hsc,if_neg (fun h=>h1 h.2)])
  rw [Int.add_zero] at e
  refine Xj ?_
  simp (disch:=omega) only [v1,w1,hlen,Xi,Q0,Qr,X3,↓Xy,wG,seval]
  refine X0 cq rfl ?_
  simp (disch:=omega) only [v1,w1,w2,t1,hlen,eq_false h0,eq_false h1,Xi,Q0,Qr,X3,↓Xy,wG,seval]
  exact next (k+1) _ (by omega) (by omega) (XD (m:=3) (Nat.zero_le _) rfl (by simp [Xf,I,e]) (by simp [Xm,Xq,Xi,hlen,I]) (by simp [Q0,Qr,Xi,Xz,X3,I,sg]) (by simp [XA]) (by simp [XA,bL]) (by simp [ba,bb,bf]))
end
end Go.Ab.N
namespace Go.Ab.N
open Go Go.RowKit Go.Proofs
set_option maxRecDepth 10000
set_option maxHeartbeats 4000000
def nF (a b c p:V2):Bool:=decide (0≤Jm a b p) && decide (0≤Jm b c p) && decide (0≤Jm c a p)
def Rc (L:List V2) (a b c k:Nat):Bool:=decide (k=a) || decide (k=c) || decide (k=b) || !nF (L.getD a v0) (L.getD b v0) (L.getD c v0) (L.getD k v0)
def U1 (L:List V2) (R:List Nat) (p:Nat):Bool:=decide (0<Mm L R p) && (List.range R.length).all fun j=>Rc L (nr R (p+R.length - 1)) (R.getD p 0) (nr R (p+R.length+1)) (R.getD j 0)
theorem il (a b c p:V2):nF a b c p=true↔pQ a b c p:=by
 unfold nF pQ
 simp only [Bool.and_eq_true,decide_eq_true_eq,and_assoc]
theorem N0 (L:List V2) (a b c k:Nat):Rc L a b c k=true↔Db L a b c k:=by
 unfold Rc Db
 rw [← il]
 simp only [Bool.or_eq_true,decide_eq_true_eq,or_assoc,Bool.not_eq_true',Bool.not_eq_true]
open Classical in
theorem mB (L:List V2) (R:List Nat) (p:Nat):B9 L R p=U1 L R p:=by
 unfold B9 U1
 rw [Bool.eq_iff_iff,decide_eq_true_eq,Bool.and_eq_true,decide_eq_true_eq,List.all_eq_true]
 refine and_congr_right fun _=>⟨fun h j hj=>(N0 _ _ _ _ _).2 (h j (List.mem_range.1 hj)),fun h j hj=>(N0 _ _ _ _ _).1 (h j (List.mem_range.2 hj))⟩
def MR (L:List V2) (R:List Nat):Nat:=(List.range (R.length - 1)).findIdx (U1 L R)
theorem ge (L:List V2) (R:List Nat):D5 L R=MR L R:=by
 unfold D5 MR
 rw [show B9 L R=U1 L R from funext (mB L R)]
def Ra (L:List V2) (R:List Nat):Nat:=(List.range R.length).findIdx fun p=>decide (Mm L R p=0)
theorem gK (L:List V2) (R:List Nat):Zd L R=Ra L R:=by
 rfl
def YW (L:List V2):Nat→List Nat→List Nat
 | 0,R=>R
 | f+1,R=>if 3<R.length∧Ra L R<R.length then YW L f (R.eraseIdx (Ra L R)) else R
theorem Vv (L:List V2):∀ (f:Nat) (R:List Nat),A5 L f R=YW L f R
 | 0,_=>rfl
 | f+1,R=>by
  unfold A5 YW
  rw [gK,Vv L f]
def an (L:List V2):Nat→List Nat→List (Nat×Nat×Nat)
 | 0,R=>[(R.getD 0 0,R.getD 1 0,R.getD 2 0)]
 | f+1,R=>if 3<R.length then HG R (MR L R) :: an L f (YW L (R.length - 1) (R.eraseIdx (MR L R))) else [(R.getD 0 0,R.getD 1 0,R.getD 2 0)]
theorem Og (L:List V2):∀ (f:Nat) (R:List Nat),AH L f R=an L f R
 | 0,_=>rfl
 | f+1,R=>by
  unfold AH an D0
  rw [ge,Vv,Og L f]
def Oc (p:PV) (t c:V2):List (List V2):=((an (Xr p.rim) p.rim.length (List.range p.rim.length)).map (V0 (Xr p.rim))).map (Zs t c)
theorem MD (p:PV) (t c:V2):Jw p t c=Oc p t c:=by
 unfold Jw Oc Qg CK
 rw [Og,show (Xr p.rim).length=p.rim.length by simp [Xr]]
def wd (n:V2) (A B:List V2) (e:Rat):Bool:=decide (e*Ak n≤Mf n A B)
def iY (A B:List V2) (e:Rat):Bool:=(Bf A B).any fun d=>wd d A B e
def lh (A B:List (List V2)) (e:Rat):Bool:=A.all fun x=>B.all fun y=>iY x y e
open Classical in
theorem S7 (A B:List V2) (e:Rat):(A8 A B e).2=iY A B e:=by
 unfold A8 iY
 rw [Bool.eq_iff_iff,Cf,List.any_eq_true]
 unfold GL wd
 simp only [decide_eq_true_eq]
theorem Ii {α:Type} (l:List α) (d:α) (p:α→Bool):(∀ i,i<l.length→p (l.getD i d)=true)↔l.all p=true:=by
 rw [List.all_eq_true]
 constructor
 ·intro h x hx
  obtain ⟨i,hi,rfl⟩:=List.getElem_of_mem hx
  have:=h i hi
  rwa [List.getD_eq_getElem?_getD,List.getElem?_eq_getElem hi] at this
 ·intro h i hi
  rw [List.getD_eq_getElem?_getD,List.getElem?_eq_getElem hi]
  exact h _ (List.getElem_mem hi)
open Classical in
theorem Vk (A B:List (List V2)) (e:Rat):CG A B e=lh A B e:=by
 unfold CG lh
 rw [Bool.eq_iff_iff,decide_eq_true_eq,← Ii A []]
 refine forall_congr' fun i=>forall_congr' fun _=>?_
 unfold NZ
 rw [decide_eq_true_eq,← Ii B []]
 refine forall_congr' fun k=>forall_congr' fun _=>?_
 unfold Zw
 rw [S7]
def fA (a b:PV) (f:FV) (e:Rat):Bool:=lh (Oc a Qq v0) (Oc b f.turn (Gx f)) (-e)
theorem YU (a b:PV) (f:FV) (e:Rat):ZL a b f e=fA a b f e:=by
 unfold ZL fA
 rw [Vk,MD,MD]
def wn (n m:Nat) (f:FV):Bool:=decide ((0≤f.EA∧f.EA<n)∧(0≤f.EB∧f.EB<m)∧1≤f.M∧f.M<n∧f.M<m)
theorem FX {n m:Nat} {f:FV}:wn n m f=true↔BZ n m f:=decide_eq_true_iff
def uw (g:Nat→Rat):Nat→Rat
 | 0=>g 0
 | k+1=>if uw g k<g (k+1) then g (k+1) else uw g k
def uv (g:Nat→Rat):Nat→Rat
 | 0=>g 0
 | k+1=>if g (k+1)<uv g k then g (k+1) else uv g k
theorem Ur (g:Nat→Rat):∀ k,iM g k=uw g k
 | 0=>rfl
 | k+1=>by
  unfold iM uw Mj
  rw [Ur g k]
theorem Uq (g:Nat→Rat):∀ k,iF g k=uv g k
 | 0=>rfl
 | k+1=>by
  unfold iF uv Mi
  rw [Uq g k]
def wJ (a b:List (Int×Int)) (f:FV) (k:Nat):V2:=⟨uw (fun j=>(ZZ a b f j).x) k,uw (fun j=>(ZZ a b f j).y) k⟩
def wI (a b:List (Int×Int)) (f:FV) (k:Nat):V2:=⟨uv (fun j=>(ZZ a b f j).x) k,uv (fun j=>(ZZ a b f j).y) k⟩
theorem sa (a b:List (Int×Int)) (f:FV) (k:Nat):DT a b f k=wJ a b f k:=by unfold DT wJ; rw [Ur,Ur]
theorem rO (a b:List (Int×Int)) (f:FV) (k:Nat):DQ a b f k=wI a b f k:=by unfold DQ wI; rw [Uq,Uq]
def Vh (a b:List (Int×Int)) (f:FV) (c:V2):Bool :=
 wn a.length b.length f && decide (f.turn.x*f.turn.x+f.turn.y*f.turn.y=1) && decide ((wJ a b f f.M.toNat).x=c.x) && decide ((wJ a b f f.M.toNat).y=c.y) && decide ((wI a b f f.M.toNat).x=c.x) && decide ((wI a b f f.M.toNat).y=c.y)
theorem Mv {a b:List (Int×Int)} {f:FV} {c:V2} (h:Vh a b f c=true):XH a b f 0=(c,c,true):=by
 unfold Vh at h
 simp only [Bool.and_eq_true,decide_eq_true_eq] at h
 obtain ⟨⟨⟨⟨⟨h1,h2⟩,h3⟩,h4⟩,h5⟩,h6⟩:=h
 have e1:DT a b f f.M.toNat=c:=by rw [sa,V2.ext']; exact ⟨h3,h4⟩
 have e2:DQ a b f f.M.toNat=c:=by rw [rO,V2.ext']; exact ⟨h5,h6⟩
 unfold XH
 rw [if_pos ⟨FX.1 h1,h2⟩]
 simp only [e1,e2]
 have z1:c.sub ⟨0,0⟩=c:=by unfold V2.sub; rw [V2.ext']; exact ⟨by simp only; grind,by simp only; grind⟩
 have z2:c.add ⟨0,0⟩=c:=by unfold V2.add; rw [V2.ext']; exact ⟨by simp only; grind,by simp only; grind⟩
 rw [z1,z2,if_neg (fun h=>by rcases h with h | h <;> exact absurd h (Rat.lt_irrefl))]
theorem W3 (g:Nat→Rat):∀ n k,k≤n→g k≤iM g n
 | 0,k,h=>by
  obtain rfl:k=0:=by omega
  exact Rat.le_refl
 | n+1,k,h=>by
  unfold iM Mj
  by_cases hk:k=n+1
  ·subst hk
   split
   ·exact Rat.le_refl
   ·rename_i h; exact Rat.not_lt.1 h
  ·have ih:=W3 g n k (by omega)
   split
   ·rename_i h; exact Rat.le_trans ih (Rat.le_of_lt h)
   ·exact ih
theorem W1 (g:Nat→Rat):∀ n k,k≤n→iF g n≤g k
 | 0,k,h=>by
  obtain rfl:k=0:=by omega
  exact Rat.le_refl
 | n+1,k,h=>by
  unfold iF Mi
  by_cases hk:k=n+1
  ·subst hk
   split
   ·exact Rat.le_refl
   ·rename_i h; exact Rat.not_lt.1 h
  ·have ih:=W1 g n k (by omega)
   split
   ·rename_i h; exact Rat.le_trans (Rat.le_of_lt h) ih
   ·exact ih
theorem Yl {a b:List (Int×Int)} {f:FV} (h:(XH a b f 0).2.2=true) (i j:Nat) (hi:i≤f.M.toNat) (hj:j≤f.M.toNat):ZZ a b f i=ZZ a b f j:=by
 obtain ⟨_,_,_,h1,h2⟩:=Ph h
 have z:∀ x y:Rat,x - 0≤y+0→x≤y:=fun x y h=>by grind
 have h1:=z _ _ h1
 have h2:=z _ _ h2
 have t:∀ (g:Nat→Rat),iM g f.M.toNat≤iF g f.M.toNat→g i=g j:=fun g hg=>by
  have a1:=W3 g _ i hi; have a2:=W3 g _ j hj; have a3:=W1 g _ i hi; have a4:=W1 g _ j hj
  exact Rat.le_antisymm (Rat.le_trans a1 (Rat.le_trans hg a4)) (Rat.le_trans a2 (Rat.le_trans hg a3))
 rw [V2.ext']
 exact ⟨t (fun k=>(ZZ a b f k).x) h1,t (fun k=>(ZZ a b f k).y) h2⟩
end Go.Ab.N
