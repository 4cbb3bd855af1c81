/- Contracts of functions, for every argument that fits. -/
import Derived.Test.YtcmfnmceomhgcaaGreatC1
set_option linter.unusedSimpArgs false
set_option linter.unusedVariables false
open Go.Ab.AS renaming start→O_
open Go.IntKind renaming i64→Q_,wrap_u64→ZAi,u64→ZAq
open Int renaming reduceEq→ZAC,mul_assoc→ZBB,mul_ediv_add_emod→ZBk,mul_lt_mul_of_pos_right→ZB0,eq_of_mul_eq_mul_left→ZCH,add_mul→ZCJ,one_mul→ZCe,mul_zero→ZDm,sub_mul→ZD2,mul_comm→ZEG
open List renaming replicate→ZAP,length_drop→ZAY,getElem_take→ZCF,getElem_drop→ZCG,drop_drop→ZDI,mem_replicate→ZEC
open Nat renaming min_eq_left→ZA1,le_of_eq→ZCE
namespace Go.Ab.N
open Go Go.RowKit Go.Proofs
theorem d_:type_of%@Go.Ab.Run.sub:=@Go.Ab.Run.sub
theorem ZA6:type_of%@Int.sign_neg_iff:=@Int.sign_neg_iff
theorem ZBm:type_of%@List.set_set:=@List.set_set
noncomputable section
set_option maxRecDepth 10000
set_option maxHeartbeats 2000000
open Classical
theorem A9 (l:List Int)(i:Nat)(x:Int)(h:i<l.length:=by omega):De (J8 I 0 l) i (.int .i64 x)=J8 I 0 (l.set i x):=sH I 0 l i x h
def AG (a b:List Int)(n k:Nat):List Int:=BH (fun j=>if j<k then Be (dg a) (dg b) j else 0) (n+1)
theorem FH (a b:List Int)(n k:Nat):(AG a b n k).length=n+1:=Qq _ _
theorem P4 (a b:List Int)(n k:Nat)(h:k<n){x:Int}(hx:x=Be (dg a) (dg b) k):(AG a b n k).set k x=AG a b n (k+1):=by
 unfold AG;rw[BV _ _ _ _];refine Zs fun q _=>?_
 by_cases e:q=k
 ·subst e;rw[N_ rfl,N_ (by omega),hx]
 ·rw[M_ e]
  by_cases h1:q<k
  ·rw[N_ h1,N_ (by omega)]
  ·rw[M_ h1,M_ (by omega)]
theorem P3 (a b:List Int)(n:Nat):(AG a b n n).set n (Qt (dg a) (dg b) n)=AF a b n:=by
 unfold AG AF;rw[BV _ _ _ _,Fj];congr 1
 ·refine Zs fun q hq=>?_
  rw[M_ (by omega),N_ hq]
 ·simp
theorem mq (A B:List Int)(ha:JO A)(hb:JO B)(la:A.length<10000000000000)(h:B.length≤A.length) :
  Fn Tryz.prog 188 [X9 A,X9 B] (X9 (AF A B A.length)):=by
 obtain⟨R,hR⟩:∃R,R=X9 (AF A B A.length):=⟨_,rfl⟩
 rw[←hR];have hR2:A_ R:=hR▸Xd _;have hF:(A.length<B.length)=False:=R_ (by omega);have w0:Q_.wrap ((A.length:Int)+1)=((A.length+1:Nat):Int):=by rw[M'];omega
 refine Fq Tryz.call188 Tryz.func188 10 [21,22,23] [] [] (by simp[Xd]) (Xk ?_);simp(maxSteps:=999999)only[O_,hF,w0,U',↓X6,wA,seval,zA,wN];refine⟨⟨by omega,by omega⟩,?_⟩;refine Xj (fun k:Nat=>⟨10,[21,22,23],[X9 A,X9 B,.any,.any,.sl 0 0 (fun _=>.any) true,.osl 0 0 1 0 (A.length+1),I (Qt (dg A) (dg B) k),.any,.any,.any],
  [(21,X9 A),(22,I A.length),(23,I k)],[.row 0 (A.length+1) (J8 I 0 (AG A B A.length k))]⟩) (fun k=>k≤A.length) (fun k=>A.length-k) 0 (by omega)
  ?_ ?_
 ·refine(Zm 0 (A.length+1) (J8 I 0 (AG A B A.length 0)) rfl (N' _) ?_).trans (Xh rfl ?_ ?_ ?_)
  ·intro j hj
   have:(AG A B A.length 0).getD j 0=0:=by unfold AG;rw[Da _ _ _ hj,M_ (by omega)]
   rw[Bs,this];rfl
  ·simp[Xo,X9,QG,I,Qt]
  ·simp[Xx,XM,X9,QG,I]
  ·rfl
 intro k hk next
 have w1:=wj k;have b1:=ED (dg A) (dg B) k;have b2:=Qo ha k;have b3:=Qo hb k;have eA:A.getD k 0=dg A k:=rfl;have eB:B.getD k 0=dg B k:=rfl;unfold Qi at b2 b3;have w2:Q_.wrap (dg A k+Qt (dg A) (dg B) k)=dg A k+Qt (dg A) (dg B) k:=by rw[M'];omega
 have w3:Q_.wrap (dg A k+Qt (dg A) (dg B) k+dg B k)=dg A k+Qt (dg A) (dg B) k+dg B k:=by rw[M'];omega
 have w4:Q_.wrap (dg A k+Qt (dg A) (dg B) k+dg B k-1000000000)=dg A k+Qt (dg A) (dg B) k+dg B k-1000000000:=by rw[M'];omega
 have w5:Q_.wrap (dg A k+Qt (dg A) (dg B) k-1000000000)=dg A k+Qt (dg A) (dg B) k-1000000000:=by rw[M'];omega
 have nB:¬k<B.length→dg B k=0:=fun h=>Ib
 have fin:∀ (c x:Int),k<A.length→c=Qt (dg A) (dg B) (k+1)→x=Be (dg A) (dg B) k →
   ∀tm,tm=[(21,X9 A),(22,I A.length),(23,I ((k+1:Nat):Int))]→True:=fun _ _ _ _ _ _ _=>trivial
 have sC:∀c:Int,(1000000000≤dg A k+dg B k+Qt (dg A) (dg B) k∧c=1∨¬1000000000≤dg A k+dg B k+Qt (dg A) (dg B) k∧c=0)→c=Qt (dg A) (dg B) (k+1):=by
  rintro c (⟨h1,rfl⟩ | ⟨h1,rfl⟩)
  ·simp only[Qt];rw[N_ h1]
  ·simp only[Qt];rw[M_ h1]
 have sO:∀x:Int,(1000000000≤dg A k+dg B k+Qt (dg A) (dg B) k∧x=dg A k+dg B k+Qt (dg A) (dg B) k-1000000000∨¬1000000000≤dg A k+dg B k+Qt (dg A) (dg B) k∧x=dg A k+dg B k+Qt (dg A) (dg B) k)→x=Be (dg A) (dg B) k:=by
  rintro x (⟨h1,rfl⟩ | ⟨h1,rfl⟩)
  ·unfold Be;rw[N_ h1]
  ·unfold Be;rw[M_ h1]
 have up:∀x:Int,k<A.length→x=Be (dg A) (dg B) k→De (J8 I 0 (AG A B A.length k)) k (.int .i64 x)=J8 I 0 (AG A B A.length (k+1)):=fun x h hx=>by
  rw[A9 _ _ _ (by rw[FH];omega),P4 _ _ _ _ h hx]
 have upE:k=A.length→De (J8 I 0 (AG A B A.length k)) k (.int .i64 (Qt (dg A) (dg B) k))=J8 I 0 (AF A B A.length):=fun h=>by
  rw[A9 _ _ _ (by rw[FH];omega),h,P3]
 refine Xk ?_;simp(maxSteps:=999999)only[w1,w2,w3,w4,w5,eA,eB,↓X6,wA,seval,zA,wN];refine⟨fun h=>⟨h,h,fun hb'=>⟨hb',hb',fun hc=>⟨by omega,by omega,?_⟩,fun hc=>⟨by omega,by omega,?_⟩⟩,fun hb'=>⟨fun hc=>⟨by omega,by omega,?_⟩,fun hc=>⟨by omega,by omega,?_⟩⟩⟩,fun h=>⟨by omega,?_⟩⟩
 ·have e1:=sC 1 (.inl ⟨by omega,rfl⟩)
  have e2:=up _ h (sO _ (.inl ⟨by omega,(by omega:dg A k+Qt (dg A) (dg B) k+dg B k-1000000000=_)⟩));rw[e2];exact next (k+1) _ (by omega) (by omega) (Xh rfl (by simp[Xo,X9,QG,I,←e1]) (by simp[Xx,XM,X9,QG,I]) rfl)
 ·have e1:=sC 0 (.inr ⟨by omega,rfl⟩)
  have e2:=up _ h (sO _ (.inr ⟨by omega,(by omega:dg A k+Qt (dg A) (dg B) k+dg B k=_)⟩));rw[e2];exact next (k+1) _ (by omega) (by omega) (Xh rfl (by simp[Xo,X9,QG,I,←e1]) (by simp[Xx,XM,X9,QG,I]) rfl)
 ·have e0:=nB hb'
  have e1:=sC 1 (.inl ⟨by omega,rfl⟩);have e2:=up _ h (sO _ (.inl ⟨by omega,(by omega:dg A k+Qt (dg A) (dg B) k-1000000000=_)⟩));rw[e2];exact next (k+1) _ (by omega) (by omega) (Xh rfl (by simp[Xo,X9,QG,I,←e1]) (by simp[Xx,XM,X9,QG,I]) rfl)
 ·have e0:=nB hb'
  have e1:=sC 0 (.inr ⟨by omega,rfl⟩);have e2:=up _ h (sO _ (.inr ⟨by omega,(by omega:dg A k+Qt (dg A) (dg B) k=_)⟩));rw[e2];exact next (k+1) _ (by omega) (by omega) (Xh rfl (by simp[Xo,X9,QG,I,←e1]) (by simp[Xx,XM,X9,QG,I]) rfl)
 ·obtain rfl:k=A.length:=by omega
  rw[upE rfl,hR];refine C4 rfl ?_;have hl:(AF A B A.length).length=A.length+1:=FG _ _ _;have:=Ns (e:=I) (d:=0) (l:=AF A B A.length) (H:=[.row 0 (A.length+1) (J8 I 0 (AF A B A.length))]) (id:=0) (ver:=0) (n:=A.length+1) (off:=0) X8 (.inl rfl) (by omega) rfl;rw[hl]at this;exact this
theorem mr (A B:List Int)(ha:JO A)(hb:JO B)(la:A.length<10000000000000)(h:B.length<A.length) :
  Fn Tryz.prog 188 [X9 B,X9 A] (X9 (AF A B A.length)):=by
 obtain⟨R,hR⟩:∃R,R=X9 (AF A B A.length):=⟨_,rfl⟩
 rw[←hR];have hR2:A_ R:=hR▸Xd _;have hF:(B.length<A.length)=True:=L' h;have w0:Q_.wrap ((A.length:Int)+1)=((A.length+1:Nat):Int):=by rw[M'];omega
 refine Fq Tryz.call188 Tryz.func188 10 [21,22,23] [] [] (by simp[Xd]) (Xk ?_);simp(maxSteps:=999999)only[O_,hF,w0,U',↓X6,wA,seval,zA,wN];refine⟨⟨by omega,by omega⟩,?_⟩;refine Xj (fun k:Nat=>⟨10,[21,22,23],[X9 A,X9 B,.any,.any,.sl 0 0 (fun _=>.any) true,.osl 0 0 1 0 (A.length+1),I (Qt (dg A) (dg B) k),.any,.any,.any],
  [(21,X9 A),(22,I A.length),(23,I k)],[.row 0 (A.length+1) (J8 I 0 (AG A B A.length k))]⟩) (fun k=>k≤A.length) (fun k=>A.length-k) 0 (by omega)
  ?_ ?_
 ·refine(Zm 0 (A.length+1) (J8 I 0 (AG A B A.length 0)) rfl (N' _) ?_).trans (Xh rfl ?_ ?_ ?_)
  ·intro j hj
   have:(AG A B A.length 0).getD j 0=0:=by unfold AG;rw[Da _ _ _ hj,M_ (by omega)]
   rw[Bs,this];rfl
  ·simp[Xo,X9,QG,I,Qt]
  ·simp[Xx,XM,X9,QG,I]
  ·rfl
 intro k hk next
 have w1:=wj k;have b1:=ED (dg A) (dg B) k;have b2:=Qo ha k;have b3:=Qo hb k;have eA:A.getD k 0=dg A k:=rfl;have eB:B.getD k 0=dg B k:=rfl;unfold Qi at b2 b3;have w2:Q_.wrap (dg A k+Qt (dg A) (dg B) k)=dg A k+Qt (dg A) (dg B) k:=by rw[M'];omega
 have w3:Q_.wrap (dg A k+Qt (dg A) (dg B) k+dg B k)=dg A k+Qt (dg A) (dg B) k+dg B k:=by rw[M'];omega
 have w4:Q_.wrap (dg A k+Qt (dg A) (dg B) k+dg B k-1000000000)=dg A k+Qt (dg A) (dg B) k+dg B k-1000000000:=by rw[M'];omega
 have w5:Q_.wrap (dg A k+Qt (dg A) (dg B) k-1000000000)=dg A k+Qt (dg A) (dg B) k-1000000000:=by rw[M'];omega
 have nB:¬k<B.length→dg B k=0:=fun h=>Ib
 have fin:∀ (c x:Int),k<A.length→c=Qt (dg A) (dg B) (k+1)→x=Be (dg A) (dg B) k →
   ∀tm,tm=[(21,X9 A),(22,I A.length),(23,I ((k+1:Nat):Int))]→True:=fun _ _ _ _ _ _ _=>trivial
 have sC:∀c:Int,(1000000000≤dg A k+dg B k+Qt (dg A) (dg B) k∧c=1∨¬1000000000≤dg A k+dg B k+Qt (dg A) (dg B) k∧c=0)→c=Qt (dg A) (dg B) (k+1):=by
  rintro c (⟨h1,rfl⟩ | ⟨h1,rfl⟩)
  ·simp only[Qt];rw[N_ h1]
  ·simp only[Qt];rw[M_ h1]
 have sO:∀x:Int,(1000000000≤dg A k+dg B k+Qt (dg A) (dg B) k∧x=dg A k+dg B k+Qt (dg A) (dg B) k-1000000000∨¬1000000000≤dg A k+dg B k+Qt (dg A) (dg B) k∧x=dg A k+dg B k+Qt (dg A) (dg B) k)→x=Be (dg A) (dg B) k:=by
  rintro x (⟨h1,rfl⟩ | ⟨h1,rfl⟩)
  ·unfold Be;rw[N_ h1]
  ·unfold Be;rw[M_ h1]
 have up:∀x:Int,k<A.length→x=Be (dg A) (dg B) k→De (J8 I 0 (AG A B A.length k)) k (.int .i64 x)=J8 I 0 (AG A B A.length (k+1)):=fun x h hx=>by
  rw[A9 _ _ _ (by rw[FH];omega),P4 _ _ _ _ h hx]
 have upE:k=A.length→De (J8 I 0 (AG A B A.length k)) k (.int .i64 (Qt (dg A) (dg B) k))=J8 I 0 (AF A B A.length):=fun h=>by
  rw[A9 _ _ _ (by rw[FH];omega),h,P3]
 refine Xk ?_;simp(maxSteps:=999999)only[w1,w2,w3,w4,w5,eA,eB,↓X6,wA,seval,zA,wN];refine⟨fun h=>⟨h,h,fun hb'=>⟨hb',hb',fun hc=>⟨by omega,by omega,?_⟩,fun hc=>⟨by omega,by omega,?_⟩⟩,fun hb'=>⟨fun hc=>⟨by omega,by omega,?_⟩,fun hc=>⟨by omega,by omega,?_⟩⟩⟩,fun h=>⟨by omega,?_⟩⟩
 ·have e1:=sC 1 (.inl ⟨by omega,rfl⟩)
  have e2:=up _ h (sO _ (.inl ⟨by omega,(by omega:dg A k+Qt (dg A) (dg B) k+dg B k-1000000000=_)⟩));rw[e2];exact next (k+1) _ (by omega) (by omega) (Xh rfl (by simp[Xo,X9,QG,I,←e1]) (by simp[Xx,XM,X9,QG,I]) rfl)
 ·have e1:=sC 0 (.inr ⟨by omega,rfl⟩)
  have e2:=up _ h (sO _ (.inr ⟨by omega,(by omega:dg A k+Qt (dg A) (dg B) k+dg B k=_)⟩));rw[e2];exact next (k+1) _ (by omega) (by omega) (Xh rfl (by simp[Xo,X9,QG,I,←e1]) (by simp[Xx,XM,X9,QG,I]) rfl)
 ·have e0:=nB hb'
  have e1:=sC 1 (.inl ⟨by omega,rfl⟩);have e2:=up _ h (sO _ (.inl ⟨by omega,(by omega:dg A k+Qt (dg A) (dg B) k-1000000000=_)⟩));rw[e2];exact next (k+1) _ (by omega) (by omega) (Xh rfl (by simp[Xo,X9,QG,I,←e1]) (by simp[Xx,XM,X9,QG,I]) rfl)
 ·have e0:=nB hb'
  have e1:=sC 0 (.inr ⟨by omega,rfl⟩);have e2:=up _ h (sO _ (.inr ⟨by omega,(by omega:dg A k+Qt (dg A) (dg B) k=_)⟩));rw[e2];exact next (k+1) _ (by omega) (by omega) (Xh rfl (by simp[Xo,X9,QG,I,←e1]) (by simp[Xx,XM,X9,QG,I]) rfl)
 ·obtain rfl:k=A.length:=by omega
  rw[upE rfl,hR];refine C4 rfl ?_;have hl:(AF A B A.length).length=A.length+1:=FG _ _ _;have:=Ns (e:=I) (d:=0) (l:=AF A B A.length) (H:=[.row 0 (A.length+1) (J8 I 0 (AF A B A.length))]) (id:=0) (ver:=0) (n:=A.length+1) (off:=0) X8 (.inl rfl) (by omega) rfl;rw[hl]at this;exact this
theorem ah (a b:List Int)(ha:JO a)(hb:JO b)(la:a.length<10000000000000)(lb:b.length<10000000000000) :
  ∃L,JO L∧val L=val a+val b∧L.length≤max a.length b.length+1∧Fn Tryz.prog 188 [X9 a,X9 b] (X9 L):=by
 by_cases h:a.length<b.length
 ·exact⟨_,OZ hb ha _,by rw[P0 _ _ _ (N' _) (by omega)];omega,by rw[FG];omega,mr b a hb ha lb h⟩
 ·exact⟨_,OZ ha hb _,by rw[P0 _ _ _ (N' _) (by omega)],by rw[FG];omega,mq a b ha hb la (by omega)⟩
theorem W7 (neg:Bool)(L:List Int)(h:JO L)(hl:L.length<4611686018427387904:=by omega):Fn Tryz.prog 182 [.bool neg,X9 L] (zA (Zg neg (val L))):=by
 rw[tU h];exact yU neg L hl
theorem Az (a b:List Int)(i:Nat):(Jx a b i).length=a.length:=Qq _ _
theorem eU (a b:List Int)(i:Nat)(h:i<a.length):(Jx a b i).getD i 0=dg a i-Kl (dg a) (dg b) i:=by
 unfold Jx;rw[Da _ _ _ h,M_ (by omega),N_ rfl]
theorem Tl (a b:List Int)(i:Nat)(h:i+1<a.length):(Jx a b i).getD (i+1) 0=dg a (i+1):=by
 unfold Jx;rw[Da _ _ _ h,M_ (by omega),M_ (by omega)]
theorem W5 (a b:List Int)(i:Nat)(h:i<a.length){x:Int}(hx:x=C5 (dg a) (dg b) i) (hc:Kl (dg a) (dg b) (i+1)=0):(Jx a b i).set i x=Jx a b (i+1):=by
 unfold Jx;rw[BV _ _ _ _ h];refine Zs fun q _=>?_
 by_cases e:q=i
 ·subst e;rw[N_ rfl,N_ (by omega),hx]
 ·rw[M_ e]
  by_cases h1:q<i
  ·rw[N_ h1,N_ (by omega)]
  ·rw[M_ h1,M_ e,M_ (by omega)]
   by_cases h2:q=i+1
   ·rw[N_ h2,hc,h2];omega
   ·rw[M_ h2]
theorem Tm (a b:List Int)(i:Nat)(h:i+1<a.length){x y:Int}(hx:x=C5 (dg a) (dg b) i) (hc:Kl (dg a) (dg b) (i+1)=1) (hy:y=dg a (i+1)-1):((Jx a b i).set i x).set (i+1) y=Jx a b (i+1):=by
 unfold Jx;rw[BV _ _ _ _,BV _ _ _ _ h];refine Zs fun q _=>?_
 by_cases e:q=i+1
 ·subst e;rw[N_ rfl,M_ (by omega),N_ rfl,hc,hy]
 ·rw[M_ e]
  by_cases e2:q=i
  ·subst e2;rw[N_ rfl,N_ (by omega),hx]
  ·rw[M_ e2]
   by_cases h1:q<i
   ·rw[N_ h1,N_ (by omega)]
   ·rw[M_ h1,M_ e2,M_ (by omega),M_ e]
theorem nn {a b:List Int}(ha:JO a)(hb:JO b)(hl:b.length≤a.length)(h:val b≤val a):Kl (dg a) (dg b) a.length=0 :=
 aM (fun i _=>Qo ha i) (fun i _=>Qo hb i) (by rw[Fh b _ hl,Fh a _ (N' _)];exact h)
theorem lO (a b:List Int)(ha:JO a)(hb:JO b)(la:a.length<10000000000000)(hl:b.length≤a.length)(h:val b≤val a):Fn Tryz.prog 190 [X9 a,X9 b] (X9 (Ae a b)):=by
 obtain⟨R,hR⟩:∃R,R=X9 (Ae a b):=⟨_,rfl⟩
 rw[←hR];have hR2:A_ R:=hR▸Xd _;refine Fq Tryz.call190 Tryz.func190 7 [14,15] [] [] (by simp[KM]) (Xk ?_);simp(maxSteps:=999999)only[O_,↓X6,wA,seval,zA,wN];refine⟨⟨by omega,by omega⟩,?_⟩;refine Xj (fun k:Nat=>⟨7,[14,15],[X9 a,X9 b,.any,.any,.sl 0 0 (fun _=>.any) true,.osl 0 0 1 0 a.length,.any],
  [(14,I a.length),(15,I k)],[.row 0 a.length (J8 I 0 (Jx a b k))]⟩) (fun k=>k≤a.length) (fun k=>a.length-k) 0 (by omega)
  ?_ ?_
 ·refine(Zm 0 a.length (J8 I 0 (Jx a b 0)) rfl (N' _) ?_).trans (Xh rfl ?_ ?_ ?_)
  ·intro j hj
   unfold Mt;rw[N_ (by omega),Tn];rfl
  ·simp[Xo,X9,QG,I]
  ·simp[Xx,XM,X9,QG,I]
  ·rfl
 intro k hk next
 have w1:=wj k;by_cases hk2:k<a.length
 ·have TAo:=nn ha hb hl h
  have b1:=HN (dg a) (dg b) k;have b2:=Qo ha k;have b3:=Qo hb k;have b4:=Qo ha (k+1);have eB:b.getD k 0=dg b k:=rfl;have eM:=eU a b k hk2;have eS:∀x,((Jx a b k).set k x).getD k 0=x:=fun x=>by rw[QM _ _ _ _ (by rw[Az];exact hk2),N_ rfl]
  have hU:∀x:Int,De (J8 I 0 (Jx a b k)) k (.int .i64 x)=J8 I 0 ((Jx a b k).set k x):=fun x=>A9 _ _ _ (by rw[Az];exact hk2)
  have hU2:∀x y:Int,De (J8 I 0 ((Jx a b k).set k x)) k (.int .i64 y)=J8 I 0 ((Jx a b k).set k y):=fun x y=>by rw[A9 _ _ _ (by rw[X_,Az];exact hk2),ZBm]
  have e1:((k:Int)<a.length)=True:=L' (by omega);have e2:(k<a.length)=True:=L' hk2;have hs1:dg a k-dg b k-Kl (dg a) (dg b) k<0→Kl (dg a) (dg b) (k+1)=1∧dg a k-dg b k-Kl (dg a) (dg b) k+1000000000=C5 (dg a) (dg b) k:=fun h=>⟨by simp only[Kl];rw[N_ h],by unfold C5;rw[N_ h]⟩
  have hs0:¬dg a k-dg b k-Kl (dg a) (dg b) k<0→Kl (dg a) (dg b) (k+1)=0∧dg a k-dg b k-Kl (dg a) (dg b) k=C5 (dg a) (dg b) k:=fun h=>⟨by simp only[Kl];rw[M_ h],by unfold C5;rw[M_ h]⟩
  have nB:¬k<b.length→dg b k=0:=fun h=>Ib
  have TAz:Kl (dg a) (dg b) (k+1)=1→k+1<a.length:=fun h1=>by
   apply Y';intro h2;rw[show k+1=a.length by omega,TAo]at h1;omega
  have up2:∀x:Int,k+1<a.length→x=C5 (dg a) (dg b) k→Kl (dg a) (dg b) (k+1)=1→De (J8 I 0 ((Jx a b k).set k x)) (k+1) (.int .i64 (Q_.wrap (((Jx a b k).set k x).getD (k+1) 0-1)))=J8 I 0 (Jx a b (k+1)):=fun x hr hx hc=>by
   rw[QM _ _ _ _ (by rw[Az];exact hk2),M_ (by omega),Tl a b k hr];have w:Q_.wrap (dg a (k+1)-1)=dg a (k+1)-1:=by unfold Qi at b4;rw[M'];omega
   rw[w,A9 _ _ _ (by rw[X_,Az];exact hr),Tm a b k hr hx hc rfl]
  have up1:∀x:Int,x=C5 (dg a) (dg b) k→Kl (dg a) (dg b) (k+1)=0→(Jx a b k).set k x=Jx a b (k+1):=fun x hx hc=>W5 a b k hk2 hx hc
  unfold Qi at b2 b3 b4;generalize hA:dg a k=A at *;generalize hB:dg b k=B at *;generalize hC:Kl (dg a) (dg b) k=C at *;have w2:Q_.wrap (A-C-B)=A-C-B:=by rw[M'];omega
  have w3:Q_.wrap (A-C-B+1000000000)=A-C-B+1000000000:=by rw[M'];omega
  have w4:Q_.wrap (A-C+1000000000)=A-C+1000000000:=by rw[M'];omega
  refine Xk ?_;simp(maxSteps:=999999)only[w1,w2,w3,w4,e1,e2,eM,eB,hB,eS,hU,hU2,↓X6,wA,seval,zA,wN];have TC9:(Jx a b k).set k (A-C)=Jx a b k:=by
   refine ZAp fun q=>?_
   rw[List.getElem?_set];by_cases e:k=q
   ·subst e
    rw[N_ rfl,N_ (by rw[Az];exact hk2),←eM,K',V' (by rw[Az];exact hk2)];rfl
   ·rw[M_ e]
  refine⟨fun hb'=>⟨hb',hb',by omega,fun hc=>?_,fun hc=>?_⟩,fun hb'=>⟨fun hc=>?_,fun hc=>?_⟩⟩
  ·obtain⟨s1,s2⟩:=hs1 (by omega)
   have hr:=TAz s1;refine⟨by omega,hr,hr,hr,by omega,?_⟩;rw[up2 _ hr (by omega) s1];exact next (k+1) _ (by omega) (by omega) (Xh rfl (by simp[Xo,X9,QG,I]) (by simp[Xx,XM,X9,QG,I]) rfl)
  ·obtain⟨s1,s2⟩:=hs0 (by omega)
   rw[up1 _ (by omega) s1];exact next (k+1) _ (by omega) (by omega) (Xh rfl (by simp[Xo,X9,QG,I]) (by simp[Xx,XM,X9,QG,I]) rfl)
  ·have nB':=nB hb'
   obtain⟨s1,s2⟩:=hs1 (by omega);have hr:=TAz s1;refine⟨by omega,hr,hr,hr,by omega,?_⟩;rw[up2 _ hr (by omega) s1];exact next (k+1) _ (by omega) (by omega) (Xh rfl (by simp[Xo,X9,QG,I]) (by simp[Xx,XM,X9,QG,I]) rfl)
  ·have nB':=nB hb'
   obtain⟨s1,s2⟩:=hs0 (by omega);have:=up1 (A-C) (by omega) s1;rw[TC9]at this;rw[this];exact next (k+1) _ (by omega) (by omega) (Xh rfl (by simp[Xo,X9,QG,I]) (by simp[Xx,XM,X9,QG,I]) rfl)
 ·obtain rfl:k=a.length:=by omega
  refine Xk ?_;simp(maxSteps:=999999)only[↓X6,wA,seval,zA,wN];rw[hR];refine C4 rfl (Bq X8 rfl rfl (Qq _ _).symm (by rw[W4]) (ZCE (Qq _ _)))
theorem N1 (a b:List Int)(ha:JO a)(hb:JO b)(la:a.length<10000000000000)(hl:b.length≤a.length)(h:val b≤val a) :
  ∃L,JO L∧val L=val a-val b∧L.length≤a.length∧Fn Tryz.prog 190 [X9 a,X9 b] (X9 L) :=
 ⟨_,Cz ha hb,CA ha hb hl h,ZCE (Qq _ _),lO a b ha hb la hl h⟩
def bl (z:Int):Nat:=(Xa z.natAbs).length
theorem EK {n k:Nat}(h:(n:Int)<pw k):(Xa n).length≤k:=by
 apply Y';intro h2;have hne:Xa n≠[]:=fun e=>by rw[e]at h2;simp at h2
 have h3:=Dl (Q4 n) hne;rw[XJ]at h3;have h4:=CU (show k≤(Xa n).length-1 by omega);omega
theorem R8 (n:Nat):(n:Int)<pw (Xa n).length:=by
 have:=Ah (XW n);rwa[XJ]at this
theorem GL {z:Int}{k:Nat}(h:(z.natAbs:Int)<pw k):bl z≤k:=EK h
theorem On (z:Int):(z.natAbs:Int)<pw (bl z):=R8 _
theorem jd (z:Int):bl (-z)=bl z:=by unfold bl;rw[Int.natAbs_neg]
theorem Jm {y z:Int}(h:y.natAbs≤z.natAbs:=by omega):bl y≤bl z:=GL (by have:=On z;omega)
theorem Vp (x y:Int):bl (x+y)≤max (bl x) (bl y)+1:=by
 refine GL ?_;have h1:=On x;have h2:=On y;have h3:=CU (Nat.le_max_left (bl x) (bl y));have h4:=CU (Nat.le_max_right (bl x) (bl y));have h5:((x+y).natAbs:Int)≤x.natAbs+y.natAbs:=by omega
 simp only[pw];omega
theorem JV (x y:Int):bl (x*y)≤bl x+bl y:=by
 refine GL ?_;rw[Int.natAbs_mul,E5];have h1:=On x;have h2:=On y
 push_cast
 have h3:(x.natAbs:Int)*y.natAbs≤x.natAbs*pw (bl y):=X' (by omega) (by omega);have h4:(x.natAbs:Int)*pw (bl y)<pw (bl x)*pw (bl y):=ZB0 h1 (JP _);omega
theorem HI (x:Int):Zg (decide (x<0)) x.natAbs=x:=by
 unfold Zg;by_cases h:x<0
 ·rw[N_ (c_ h)];omega
 ·rw[M_ (by simpa using h)];omega
def room:Nat:=1000000000000
theorem iG (x y:Int)(hx:bl x<room:=by unfold room;omega)(hy:bl y<room:=by unfold room;omega):Fn Tryz.prog 109 [zA x,zA y] (zA (x+y)):=by
 obtain⟨R,hR⟩:∃R,R=zA (x+y):=⟨_,rfl⟩
 have sR:A_ R:=hR▸XS _;unfold bl room at hx hy;have dx:=XW x.natAbs;have dy:=XW y.natAbs;have vx:=XJ x.natAbs;have vy:=XJ y.natAbs;have p1:(x<0↔y<0)→∃L,Fn Tryz.prog 188 [X9 (Xa x.natAbs),X9 (Xa y.natAbs)] (X9 L)∧Fn Tryz.prog 182 [.bool (decide (x<0)),X9 L] R:=fun h=>by
  obtain⟨L,l1,l2,l3,l4⟩:=ah _ _ dx dy (by omega) (by omega);refine⟨L,l4,?_⟩;have e:Zg (decide (x<0)) (val L)=x+y:=by
   rw[l2,vx,vy];unfold Zg;by_cases h2:x<0
   ·rw[N_ (c_ h2)];omega
   ·rw[M_ (by simpa using h2)];omega
  have:=W7 (decide (x<0)) L l1;rwa[e,←hR]at this
 have cmp:=DT _ _ (Q4 x.natAbs) (Q4 y.natAbs);rw[vx,vy]at cmp;have p2:¬ (x<0↔y<0)→((x.natAbs:Int)-y.natAbs).sign<0→∃L,Fn Tryz.prog 190 [X9 (Xa y.natAbs),X9 (Xa x.natAbs)] (X9 L)∧Fn Tryz.prog 182 [.bool (decide (y<0)),X9 L] R:=fun h hc=>by
  have hlt:(x.natAbs:Int)-y.natAbs<0:=ZA6.1 hc;have hl:(Xa x.natAbs).length≤(Xa y.natAbs).length:=Jm (show x.natAbs≤y.natAbs by omega);obtain⟨L,l1,l2,l3,l4⟩:=N1 _ _ dy dx (by omega) hl (by omega);refine⟨L,l4,?_⟩;have e:Zg (decide (y<0)) (val L)=x+y:=by
   rw[l2,vx,vy];unfold Zg;by_cases h2:y<0
   ·rw[N_ (c_ h2)];omega
   ·rw[M_ (by simpa using h2)];omega
  have:=W7 (decide (y<0)) L l1;rwa[e,←hR]at this
 have p3:¬ (x<0↔y<0)→¬ ((x.natAbs:Int)-y.natAbs).sign<0→∃L,Fn Tryz.prog 190 [X9 (Xa x.natAbs),X9 (Xa y.natAbs)] (X9 L)∧Fn Tryz.prog 182 [.bool (decide (x<0)),X9 L] R:=fun h hc=>by
  have hlt:¬ (x.natAbs:Int)-y.natAbs<0:=fun h=>hc (ZA6.2 h)
  have hl:(Xa y.natAbs).length≤(Xa x.natAbs).length:=Jm (show y.natAbs≤x.natAbs by omega);obtain⟨L,l1,l2,l3,l4⟩:=N1 _ _ dx dy (by omega) hl (by omega);refine⟨L,l4,?_⟩;have e:Zg (decide (x<0)) (val L)=x+y:=by
   rw[l2,vx,vy];unfold Zg;by_cases h2:x<0
   ·rw[N_ (c_ h2)];omega
   ·rw[M_ (by simpa using h2)];omega
  have:=W7 (decide (x<0)) L l1;rwa[e,←hR]at this
 rw[←hR];refine Fq Tryz.call109 Tryz.func109 6 [] [] [] (by simp[KM]) (Xk ?_);simp(maxSteps:=999999)only[O_,↓X6,wA,seval,zA,wN];refine Qs (fun h=>?_) (fun h=>?_)
 ·obtain⟨L,c1,c2⟩:=p1 (by simpa using h)
  refine X2 c1 rfl ?_;simp only[↓X6,wA,seval,zA,wN];refine X2 c2 rfl ?_;simp only[hR,↓X6,wA,seval,zA,wN];exact Ql rfl Q5 rfl rfl rfl hR sR ⟨U_ _,U_ _,trivial⟩
 ·have h':¬ (x<0↔y<0):=by simpa using h
  refine X2 cmp rfl ?_;simp only[↓X6,wA,seval,zA,wN];refine⟨fun hc=>?_,fun hc=>?_⟩
  ·obtain⟨L,c1,c2⟩:=p2 h' hc
   refine X2 c1 rfl ?_;simp only[↓X6,wA,seval,zA,wN];refine X2 c2 rfl ?_;simp only[hR,↓X6,wA,seval,zA,wN];exact Ql rfl Q5 rfl rfl rfl hR sR ⟨U_ _,U_ _,trivial⟩
  ·obtain⟨L,c1,c2⟩:=p3 h' hc
   refine X2 c1 rfl ?_;simp only[↓X6,wA,seval,zA,wN];refine X2 c2 rfl ?_;simp only[hR,↓X6,wA,seval,zA,wN];exact Ql rfl Q5 rfl rfl rfl hR sR ⟨U_ _,U_ _,trivial⟩
theorem Wz (s:Bool)(l:List Int):A_ (.agg [.bool s,X9 l]):=XE (by simp[Xd,X5])
theorem UH {H:List AO}{id ver:Nat}{l:List Int}(ho:H[id]?=some (.con ver l.length (J8 I 0 l))):Jj H (.osl id ver 1 0 l.length) (X9 l) :=
 JG ho (N' _) (fun h=>h) fun _ _=>XD _ _
theorem El {m:Nat}{s:AS}(id slot:Nat){ver:Nat}{l:List Int}(ho:s.h[id]?=some (.row ver l.length (J8 I 0 l))) (hs:s.sl.getD slot .any=.osl id ver 1 0 l.length) (hi:slot<s.n0) :
  Sub m s { s with sl:=s.sl.set slot (X9 l),h:=s.h.set id (.con ver l.length (J8 I 0 l)) }:=by
 refine(Xz id ho).trans ?_;have hlt:=(S_.1 ho).1;refine Zf (s:={ s with h:=s.h.set id (.con ver l.length (J8 I 0 l)) }) slot (X9 l) hi ?_;show Jj _ (s.sl.getD slot .any) _;rw[hs];exact UH (by simp[hlt])
def lX (a b:List Int)(p:List Int×Nat):Prop :=
 p.2≤a.length∧p.1.length=a.length+b.length∧JO p.1∧(∀j,p.2+b.length≤j→p.1.getD j 0=0)∧val p.1=val (a.take p.2)*val b
def lY (a b O:List Int)(i:Nat)(p:List Int×Int×Nat):Prop :=
 p.2.2≤b.length∧p.1.length=a.length+b.length∧JO p.1∧Qi p.2.1∧(∀j,i+b.length≤j→p.1.getD j 0=0)∧val p.1+p.2.1*pw (i+p.2.2)=val O+dg a i*val (b.take p.2.2)*pw i
theorem OR {a b O:List Int}{i:Nat}{O':List Int}{c:Int}{k:Nat}(ha:JO a)(hb:JO b)(hi:i<a.length)(hk:k<b.length)(h:lY a b O i (O',c,k)) {v:Int} (hv:v=O'.getD (i+k) 0+dg a i*dg b k+c) :
  0≤v∧v<1000000000000000000∧lY a b O i (O'.set (i+k) (v-v/1000000000*1000000000),v/1000000000,k+1):=by
 obtain⟨h1,h2,h3,h4,h5,h6⟩:=h;simp only at h1 h2 h3 h4 h5 h6;have o1:=JW h3 (i+k);have m1:=Cv (Qo ha i) (Qo hb k);unfold Qi at o1 h4;have v0:0≤v:=by omega
 have v1:v<1000000000000000000:=by omega
 refine⟨v0,v1,by simp only;omega,by simp[h2],Fw h3 _ ⟨by omega,by omega⟩,⟨by simp only;omega,by simp only;omega⟩,fun j hj=>?_,?_⟩
 ·simp only at hj ⊢
  rw[QM _ _ _ _,M_ (by omega)];exact h5 j hj
 ·simp only
  rw[D3 _ _ _ (by omega),JM b k hk,show i+(k+1)=(i+k)+1 by omega];have hd:dg b k=b.getD k 0:=rfl;rw[←hd];simp only[pw];generalize v/1000000000=q at *;generalize O'.getD (i+k) 0=o at *;have e:=E5 i k;rw[e]at h6 ⊢;generalize pw i=P at *;generalize pw k=Q at *;generalize val (b.take k)=W at *;grind
theorem OQ {a b O:List Int}{i:Nat}{O':List Int}{c:Int}(hi:i<a.length)(h0:lX a b (O,i)) (h:lY a b O i (O',c,b.length)):lX a b (O'.set (i+b.length) c,i+1):=by
 obtain⟨h1,h2,h3,h4,h5,h6⟩:=h;simp only at h1 h2 h3 h4 h5 h6;obtain⟨_,_,_,_,g⟩:=h0;simp only at g;refine⟨by simp only;omega,by simp[h2],Fw h3 _ h4,fun j hj=>?_,?_⟩
 ·simp only at hj ⊢
  rw[QM _ _ _ _,M_ (by omega)];exact h5 j (by omega)
 ·simp only
  rw[D3 _ _ _ (by omega),h5 _ (N' _),JM a i hi];rw[ZAW]at h6;have hd:dg a i=a.getD i 0:=rfl;rw[←hd];rw[g]at h6;generalize pw i=P at *;generalize pw (i+b.length)=Q at *;generalize val (a.take i)=W at *;grind
theorem r8 (sx sy:Bool)(a b:List Int)(ha:JO a)(hb:JO b)(la:a.length<room)(lb:b.length<room) :
  Fn Tryz.prog 102 [.agg [.bool sx,X9 a],.agg [.bool sy,X9 b]] (zA (Zg (sx != sy) (val a*val b))):=by
 obtain⟨R,hR⟩:∃R,R=zA (Zg (sx != sy) (val a*val b)):=⟨_,rfl⟩
 have sR:A_ R:=hR▸XS _;unfold room at la lb;rw[←hR];have w0:Q_.wrap ((a.length:Int)+b.length)=((a.length+b.length:Nat):Int):=by rw[M'];omega
 refine Fq Tryz.call102 Tryz.func102 14 [47,48,49,54,55,56] [] [] (by simp[Wz]) (Xk ?_);simp(maxSteps:=999999)only[O_,w0,U',↓X6,wA,seval,zA,wN];refine(fun key=>⟨fun h1=>⟨fun h2=>⟨by omega,by omega,by omega,by omega,?c⟩,fun h2=>⟨⟨by omega,by omega⟩,key⟩⟩,fun h1=>⟨⟨by omega,by omega⟩,key⟩⟩) ?r
 case c =>
  obtain⟨p,rfl⟩:=ZBl.1 (show a.length=1 by omega);obtain⟨q,rfl⟩:=ZBl.1 (show b.length=1 by omega);have hp:=ha p (by simp);have hq:=hb q (by simp);have m1:=Cv hp hq;unfold Qi at hp hq;have e1:ZAq.wrap p=p:=by rw[ZAi];omega
  have e2:ZAq.wrap q=q:=by rw[ZAi];omega
  have e3:ZAq.wrap (p*q)=p*q:=by rw[ZAi];omega
  have c:=ZQ (sx != sy) (p*q);have e4:val [p]*val [q]=p*q:=by simp[val]
  rw[e4]at hR;rw[←hR]at c;simp only[List.getD_cons_zero,e1,e2,e3];have e5:(!sx == sy)=(sx != sy):=by cases sx <;> cases sy <;> rfl
  rw[e5];refine X2 c rfl ?_;simp only[hR,↓X6,wA,seval,zA,wN];exact Ql rfl Q5 rfl rfl rfl hR sR ⟨U_ _,U_ _,trivial⟩
 refine Xj (fun p:List Int×Nat=>⟨14,[47,48,49,54,55,56],[.any,.any,.ref 0 0 0,.ref 1 0 0,.ref 2 0 0,X9 a,X9 b,.osl 3 0 1 0 (a.length+b.length),.any,.any,.any,.any,.any,.any],
  [(47,X9 a),(48,I a.length),(49,I p.2)],[.row 0 2 (Xf [.bool sx,X9 a]),.row 0 2 (Xf [.bool sy,X9 b]),.row 0 2 (Xf [.bool false,.sl 0 0 (fun _=>.any) true]),.row 0 (a.length+b.length) (J8 I 0 p.1)]⟩)
  (lX a b) (fun p=>a.length-p.2) (ZAP (a.length+b.length) 0,0) ?_ ?_ ?_
 ·refine⟨p_ _,by simp,fun d hd=>?_,fun j _=>?_,?_⟩
  ·rw[(ZEC.1 hd).2];exact⟨by omega,by omega⟩
  ·simp[K',ZAx]
   split <;> rfl
  ·simp only[List.take_zero];rw[FR];simp[val]
 ·refine(Zm 3 (a.length+b.length) (J8 I 0 (ZAP (a.length+b.length) 0)) rfl (N' _) ?_).trans (Xh rfl ?_ ?_ ?_)
  ·intro j hj
   rw[Bs];simp[K',ZAx,hj,I]
  ·simp[Xo,X9,QG,I]
  ·simp[Xx,XM,X9,QG,I]
  ·rfl
 rintro⟨O,i⟩ hO next
 obtain⟨g1,g2,g3,g4,g5⟩:=hO;simp only at g1 g2 g3 g4 g5;have w1:=wj i;by_cases hi:i<a.length
 ·have e1:((i:Int)<a.length)=True:=L' (by omega)
  have e2:(i<a.length)=True:=L' hi;have eA:a.getD i 0=dg a i:=rfl;refine Xk ?_;simp(maxSteps:=999999)only[w1,e1,e2,eA,↓X6,wA,seval,zA,wN];have hO:lX a b (O,i):=⟨g1,g2,g3,g4,g5⟩
  refine Xj (fun p:List Int×Int×Nat=>⟨14,[47,48,49,54,55,56],[.any,.any,.ref 0 0 0,.ref 1 0 0,.ref 2 0 0,X9 a,X9 b,.osl 3 0 1 0 (a.length+b.length),I i,I (dg a i),I p.2.1,.any,.any,.any],
   [(54,X9 b),(55,I b.length),(56,I p.2.2),(47,X9 a),(48,I a.length),(49,I i)],[.row 0 2 (Xf [.bool sx,X9 a]),.row 0 2 (Xf [.bool sy,X9 b]),.row 0 2 (Xf [.bool false,.sl 0 0 (fun _=>.any) true]),.row 0 (a.length+b.length) (J8 I 0 p.1)]⟩)
   (lY a b O i) (fun p=>b.length-p.2.2) (O,0,0) ⟨p_ _,g2,g3,⟨by simp,by simp⟩,g4,by simp[val]⟩ (Xh rfl (by simp[Xo,X9,QG,I]) (by simp[Xx,XM,X9,QG,I]) (by simp[X9,QG])) ?_
  rintro⟨O',c,k⟩ hJ TAT;obtain⟨j1,j2,j3,j4,j5,j6⟩:=id hJ;simp only at j1 j2 j3 j4 j5 j6;have w2:=wj k;by_cases hk:k<b.length
  ·obtain⟨v0,v1,hst⟩:=OR (a:=a) (b:=b) (O:=O) (i:=i) (O':=O') (c:=c) (k:=k) ha hb hi hk hJ rfl
   have o1:=JW j3 (i+k);have m1:=Cv (Qo ha i) (Qo hb k);have eB:b.getD k 0=dg b k:=rfl;have f1:((k:Int)<b.length)=True:=L' (by omega);have f2:(k<b.length)=True:=L' hk;have f3:Q_.wrap ((i:Int)+k)=((i+k:Nat):Int):=by rw[M'];omega
   have f4:(i+k<a.length+b.length)=True:=L' (by omega);have f5:(i+k+1≤a.length+b.length)=True:=L' (by omega);unfold Qi at o1 j4;have hU:∀x:Int,De (J8 I 0 O') (i+k) (.int .i64 x)=J8 I 0 (O'.set (i+k) x):=fun x=>A9 _ _ _
   have q1:Q_.wrap (dg a i*dg b k)=dg a i*dg b k:=by rw[M'];omega
   have q2:Q_.wrap (O'.getD (i+k) 0+dg a i*dg b k)=O'.getD (i+k) 0+dg a i*dg b k:=by rw[M'];omega
   have q3:Q_.wrap (O'.getD (i+k) 0+dg a i*dg b k+c)=O'.getD (i+k) 0+dg a i*dg b k+c:=by rw[M'];omega
   have q4:Q_.wrap ((O'.getD (i+k) 0+dg a i*dg b k+c).tdiv 1000000000)=(O'.getD (i+k) 0+dg a i*dg b k+c)/1000000000:=by
    rw[r_ v0,M'];omega
   have q5:Q_.wrap ((O'.getD (i+k) 0+dg a i*dg b k+c)/1000000000*1000000000)=(O'.getD (i+k) 0+dg a i*dg b k+c)/1000000000*1000000000:=by
    rw[M'];omega
   have q6:Q_.wrap (O'.getD (i+k) 0+dg a i*dg b k+c-(O'.getD (i+k) 0+dg a i*dg b k+c)/1000000000*1000000000)=O'.getD (i+k) 0+dg a i*dg b k+c-(O'.getD (i+k) 0+dg a i*dg b k+c)/1000000000*1000000000:=by
    rw[M'];omega
   refine Xk ?_;simp(maxSteps:=999999)only[w2,f1,f2,f3,f4,f5,eB,q1,q2,q3,q4,q5,q6,hU,U',ZAC,↓X6,wA,seval,zA,wN];exact TAT _ _ hst (by simp only;omega) (Xh rfl (by simp[Xo,X9,QG,I]) (by simp[Xx,XM,X9,QG,I]) (by simp[X9,QG]))
  ·obtain rfl:k=b.length:=by omega
   have f3:Q_.wrap ((i:Int)+b.length)=((i+b.length:Nat):Int):=by rw[M'];omega
   have f4:(i+b.length<a.length+b.length)=True:=L' (by omega);have f5:(i+b.length+1≤a.length+b.length)=True:=L' (by omega);have hU:∀x:Int,De (J8 I 0 O') (i+b.length) (.int .i64 x)=J8 I 0 (O'.set (i+b.length) x):=fun x=>A9 _ _ _
   refine Xk ?_;simp(maxSteps:=999999)only[w1,w2,f3,f4,f5,hU,U',ZAC,ZAM,↓X6,wA,seval,zA,wN];exact next _ _ (OQ hi hO hJ) (by simp only;omega) (Xh rfl (by simp[Xo,X9,QG,I]) (by simp[Xx,XM,X9,QG,I]) (by simp[X9,QG]))
 ·obtain rfl:i=a.length:=by omega
  rw[ZAW]at g5;have c:=W7 (sx != sy) O g3;rw[g5,←hR]at c;have e5:(!sx == sy)=(sx != sy):=by cases sx <;> cases sy <;> rfl
  have TBz:Sub (JK Tryz.prog Tryz.f102 [] [] R).base (⟨14,[47,48,49,54,55,56],[.any,.any,.ref 0 0 0,.ref 1 0 0,.ref 2 0 0,X9 a,X9 b,.osl 3 0 1 0 (a.length+b.length),.any,.any,.any,.any,.any,.any],
    [(47,X9 a),(48,I a.length),(49,I a.length)],[.row 0 2 (Xf [.bool sx,X9 a]),.row 0 2 (Xf [.bool sy,X9 b]),.row 0 2 (Xf [.bool false,.sl 0 0 (fun _=>.any) true]),.row 0 (a.length+b.length) (J8 I 0 O)]⟩)
    ⟨14,[47,48,49,54,55,56],[.any,.any,.ref 0 0 0,.ref 1 0 0,.ref 2 0 0,X9 a,X9 b,X9 O,.any,.any,.any,.any,.any,.any],
    [(47,X9 a),(48,I a.length),(49,I a.length)],[.row 0 2 (Xf [.bool sx,X9 a]),.row 0 2 (Xf [.bool sy,X9 b]),.row 0 2 (Xf [.bool false,.sl 0 0 (fun _=>.any) true]),.con 0 O.length (J8 I 0 O)]⟩:=by
   rw[←g2];exact El 3 7 rfl rfl (by simp)
  refine d_ ?_ TBz;refine Xk ?_;simp(maxSteps:=999999)only[ZAM,ZAG,e5,↓X6,wA,seval,zA,wN];refine X2 c rfl ?_;simp only[hR,↓X6,wA,seval,zA,wN];exact Ql rfl Q5 rfl rfl rfl hR sR ⟨U_ _,U_ _,trivial⟩
theorem ET (x y:Int)(hx:bl x<room:=by unfold room;omega)(hy:bl y<room:=by unfold room;omega):Fn Tryz.prog 102 [zA x,zA y] (zA (x*y)):=by
 have h:=r8 (decide (x<0)) (decide (y<0)) _ _ (XW x.natAbs) (XW y.natAbs) hx hy;have e:Zg (decide (x<0) != decide (y<0)) (val (Xa x.natAbs)*val (Xa y.natAbs))=x*y:=by
  rw[XJ,XJ];have hx':=HI x;have hy':=HI y
  conv=>rhs;rw[←hx',←hy']
  generalize (x.natAbs:Int)=p;generalize (y.natAbs:Int)=q;unfold Zg;by_cases h1:x<0 <;> by_cases h2:y<0 <;> simp[h1,h2,Int.neg_mul,Int.mul_neg]
 rw[e]at h;exact h
def E7 (a:List Int)(b:Int)(k:Nat):List Int:=BH (fun j=>if k≤j then AY a b j else 0) a.length
theorem TF (a:List Int)(b:Int)(k:Nat):(E7 a b k).length=a.length:=Qq _ _
theorem TG (a:List Int)(b:Int)(k:Nat)(h:k<a.length){x:Int}(hx:x=AY a b k):(E7 a b (k+1)).set k x=E7 a b k:=by
 unfold E7;rw[BV _ _ _ _ h];refine Zs fun q _=>?_
 by_cases e:q=k
 ·subst e;rw[N_ rfl,N_ (N' _),hx]
 ·rw[M_ e]
  by_cases h1:k≤q
  ·rw[N_ h1,N_ (by omega)]
  ·rw[M_ h1,M_ (by omega)]
theorem P9 (a:List Int)(b:Int):E7 a b 0=BH (AY a b) a.length:=Zs fun q _=>N_ (p_ _)
theorem Uj (a:List Int)(b:Int)(ha:JO a)(hb:Qi b)(hb0:b≠0)(la:a.length<10000000000000) :
  Fn Tryz.prog 238 [X9 a,I b] (.tup [X9 (BH (AY a b) a.length),I (val a%b)]):=by
 obtain⟨Q,hQ⟩:∃Q,Q=X9 (BH (AY a b) a.length):=⟨_,rfl⟩
 have sQ:A_ Q:=hQ▸Xd _;rw[←hQ];unfold Qi at hb;refine Fq Tryz.call238 Tryz.func238 10 [] [] [] (by simp[KM]) (Xk ?_);simp(maxSteps:=999999)only[O_,↓X6,wA,seval,zA,wN];refine⟨⟨by omega,by omega⟩,?_⟩;have w0:Q_.wrap ((a.length:Int)-1)=(a.length:Int)-1:=by rw[M'];omega
 rw[w0];refine Xj (fun k:Nat=>⟨10,[],[X9 a,I b,.any,.any,.sl 0 0 (fun _=>.any) true,I 0,.osl 0 0 1 0 a.length,I (Ku a b k),I ((k:Int)-1),.any],
  [],[.row 0 a.length (J8 I 0 (E7 a b k))]⟩) (fun k=>k≤a.length) (fun k=>k) a.length (N' _)
  ?_ ?_
 ·refine(Zm 0 a.length (J8 I 0 (E7 a b a.length)) rfl (N' _) ?_).trans (Xh rfl ?_ ?_ ?_)
  ·intro j hj
   have:(E7 a b a.length).getD j 0=0:=by unfold E7;rw[Da _ _ _ hj,M_ (by omega)]
   rw[Bs,this];rfl
  ·simp[Xo,X9,QG,I,Nj]
  ·simp[Xx]
  ·rfl
 intro k hk next
 cases k with
 |zero =>
  have e1:((0:Int)≤0-1)=False:=R_ (by omega);refine Xk ?_;simp(maxSteps:=999999)only[e1,↓X6,wA,seval,zA,wN];have e0:Ku a b 0=val a%b:=by unfold Ku;rw[ZBg]
  rw[e0];refine rE rfl (DA ⟨?_,XY (X8 _) rfl,trivial⟩);rw[hQ];exact Bq X8 rfl rfl (Qq _ _).symm (by rw[P9]) (ZCE (Qq _ _))
 |succ k =>
  have e1:((k+1:Nat):Int)-1=(k:Int):=by omega
  have w1:Q_.wrap ((k:Int)-1)=(k:Int)-1:=by rw[M'];omega
  have e2:((k:Int)<a.length)=True:=L' (by omega);have e3:(k<a.length)=True:=L' (by omega);have e4:(b=0)=False:=R_ hb0;have r1:0≤Ku a b (k+1):=ZBr _ hb0;have r2:Ku a b (k+1)<b:=ZBO _ (by omega);have d1:=Qo ha k;unfold Qi at d1;have eA:a.getD k 0=dg a k:=rfl;have q1:Q_.wrap (Ku a b (k+1)*1000000000)=Ku a b (k+1)*1000000000:=by rw[M'];omega
  have q2:Q_.wrap (Ku a b (k+1)*1000000000+dg a k)=Ku a b (k+1)*1000000000+dg a k:=by rw[M'];omega
  have v0:0≤Ku a b (k+1)*1000000000+dg a k:=by omega
  have d2:=EY (a:=a) (b:=b) ha (by omega) k;have eq:AY a b k=(Ku a b (k+1)*1000000000+dg a k)/b:=rfl;unfold Qi at d2;have q3:Q_.wrap ((Ku a b (k+1)*1000000000+dg a k).tdiv b)=AY a b k:=by
   rw[r_ v0,←eq,M'];omega
  have q4:(Ku a b (k+1)*1000000000+dg a k).tmod b=Ku a b k:=by
   rw[ZAH v0,Iv a b k (by omega)];rfl
  have hU:De (J8 I 0 (E7 a b (k+1))) k (.int .i64 (AY a b k))=J8 I 0 (E7 a b k):=by
   rw[A9 _ _ _ (by rw[TF];omega),TG a b k (by omega) rfl]
  refine Xk ?_;simp(maxSteps:=999999)only[e1,w1,e2,e3,e4,eA,q1,q2,q3,q4,hU,↓X6,wA,seval,zA,wN];exact⟨by omega,next k _ (by omega) (by omega) (ZZ (by simp[Xo,X9,QG,I]) rfl)⟩
def KT (a:List Int)(m:Int)(k:Nat):List Int:=BH (fun j=>if j<k then Gp (dg a) m j else 0) (a.length+1)
theorem Ef (a:List Int)(m:Int)(k:Nat):(KT a m k).length=a.length+1:=Qq _ _
def Jz (a:List Int)(m:Int):List Int:=BH (Gp (dg a) m) a.length ++ [Z9 (dg a) m a.length]
theorem CH (a:List Int)(m:Int):(Jz a m).length=a.length+1:=by simp[Jz,Qq]
theorem Np (a:List Int)(m:Int):val (Jz a m)=val a*m:=by
 unfold Jz;rw[Fl,Qq,HX,YR,Fh a _ (N' _)]
theorem Nn {a:List Int}{m:Int}(ha:JO a)(hm:Qi m):JO (Jz a m):=by
 unfold Jz;exact LA.2 ⟨DW fun i _=>lZ (Qo ha) hm i,ZD.2 ⟨Ds (Qo ha) hm _,CP⟩⟩
theorem Nr (a:List Int)(m:Int)(k:Nat)(h:k<a.length){x:Int}(hx:x=Gp (dg a) m k):(KT a m k).set k x=KT a m (k+1):=by
 unfold KT;rw[BV _ _ _ _];refine Zs fun q _=>?_
 by_cases e:q=k
 ·subst e;rw[N_ rfl,N_ (by omega),hx]
 ·rw[M_ e]
  by_cases h1:q<k
  ·rw[N_ h1,N_ (by omega)]
  ·rw[M_ h1,M_ (by omega)]
theorem Nq (a:List Int)(m:Int):(KT a m a.length).set a.length (Z9 (dg a) m a.length)=Jz a m:=by
 unfold KT Jz;rw[BV _ _ _ _,Fj];congr 1
 ·refine Zs fun q hq=>?_
  rw[M_ (by omega),N_ hq]
 ·simp
theorem fV (a:List Int)(m:Int)(ha:JO a)(hm:Qi m)(la:a.length<10000000000) :
  Fn Tryz.prog 252 [X9 a,I m] (X9 (Jz a m)):=by
 have w0:Q_.wrap ((a.length:Int)+1)=((a.length+1:Nat):Int):=by rw[M'];omega
 refine Fq Tryz.call252 Tryz.func252 10 [14,15,16] [] [] (by simp[Xd,X8]) (Xk ?_);simp(maxSteps:=999999)only[O_,w0,U',↓X6,wA,seval,zA,wN];refine⟨⟨by omega,by omega⟩,?_⟩;refine Xj (fun k:Nat=>⟨10,[14,15,16],[X9 a,I m,.any,.any,.sl 0 0 (fun _=>.any) true,.osl 0 0 1 0 (a.length+1),I (Z9 (dg a) m k),.any,.any,.any],
  [(14,X9 a),(15,I a.length),(16,I k)],[.row 0 (a.length+1) (J8 I 0 (KT a m k))]⟩) (fun k=>k≤a.length) (fun k=>a.length-k) 0 (by omega)
  ?_ ?_
 ·refine(Zm 0 (a.length+1) (J8 I 0 (KT a m 0)) rfl (N' _) ?_).trans (Xh rfl ?_ ?_ ?_)
  ·intro j hj
   have:(KT a m 0).getD j 0=0:=by unfold KT;rw[Da _ _ _ hj,M_ (by omega)]
   rw[Bs,this];rfl
  ·simp[Xo,X9,QG,I,Z9]
  ·simp[Xx,XM,X9,QG,I]
  ·rfl
 intro k hk next
 have w1:=wj k;have c1:=Ds (Qo ha) hm k;have m1:=Cv (Qo ha k) hm;have eA:a.getD k 0=dg a k:=rfl;unfold Qi at c1;have v0:0≤dg a k*m+Z9 (dg a) m k:=by omega
 have eC:(dg a k*m+Z9 (dg a) m k)/1000000000=Z9 (dg a) m (k+1):=rfl;have eO:(dg a k*m+Z9 (dg a) m k)%1000000000=Gp (dg a) m k:=rfl;have c2:=Ds (Qo ha) hm (k+1);unfold Qi at c2;have q1:Q_.wrap (dg a k*m)=dg a k*m:=by rw[M'];omega
 have q2:Q_.wrap (dg a k*m+Z9 (dg a) m k)=dg a k*m+Z9 (dg a) m k:=by rw[M'];omega
 have q3:Q_.wrap ((dg a k*m+Z9 (dg a) m k).tdiv 1000000000)=Z9 (dg a) m (k+1):=by
  rw[r_ v0,eC,M'];omega
 have q4:(dg a k*m+Z9 (dg a) m k).tmod 1000000000=Gp (dg a) m k:=by
  rw[ZAH v0,eO]
 by_cases hk2:k<a.length
 ·have e1:((k:Int)<a.length)=True:=L' (by omega)
  have e2:(k<a.length)=True:=L' hk2;have e3:(k<a.length+1)=True:=L' (by omega);have e4:(k+1≤a.length+1)=True:=L' (by omega);have e5:(k≤a.length)=True:=L' (by omega);have hU:De (J8 I 0 (KT a m k)) k (.int .i64 (Gp (dg a) m k))=J8 I 0 (KT a m (k+1)):=by
   rw[A9 _ _ _ (by rw[Ef];omega),Nr a m k hk2 rfl]
  refine Xk ?_;simp(maxSteps:=999999)only[w1,e1,e2,e3,e4,e5,eA,q1,q2,q3,q4,hU,ZAC,↓X6,wA,seval,zA,wN];exact next (k+1) _ (by omega) (by omega) (Xh rfl (by simp[Xo,X9,QG,I]) (by simp[Xx,XM,X9,QG,I]) rfl)
 ·obtain rfl:k=a.length:=by omega
  have hU:De (J8 I 0 (KT a m a.length)) a.length (.int .i64 (Z9 (dg a) m a.length))=J8 I 0 (Jz a m):=by
   rw[A9 _ _ _ (by rw[Ef];omega),Nq]
  have e3:(a.length<a.length+1)=True:=L' (by omega);have e4:(a.length+1≤a.length+1)=True:=L' (by omega);refine Xk ?_;simp(maxSteps:=999999)only[w1,e3,e4,hU,ZAM,ZAG,↓X6,wA,seval,zA,wN];exact C4 rfl (Bq X8 rfl rfl (CH _ _).symm rfl (ZCE (CH _ _)))
theorem Wr (a:List Int)(m:Int)(ha:JO a)(hm:Qi m)(la:a.length<10000000000) :
  G' Tryz.prog 252 [X9 a,I m] [] (.osl 0 0 1 0 (a.length+1)) [.row 0 (a.length+1) (J8 I 0 (Jz a m))]:=by
 have w0:Q_.wrap ((a.length:Int)+1)=((a.length+1:Nat):Int):=by rw[M'];omega
 refine G'.intro (fn:=Tryz.f252) Tryz.call252 Tryz.func252 rfl mixed 10 [14,15,16] [] [] (by kernel_rfl) (K_ rfl) (Xk ?_);simp(maxSteps:=999999)only[O_,w0,U',↓X6,wA,seval,zA,wN];refine⟨⟨by omega,by omega⟩,?_⟩;refine Xj (fun k:Nat=>⟨10,[14,15,16],[X9 a,I m,.any,.any,.sl 0 0 (fun _=>.any) true,.osl 0 0 1 0 (a.length+1),I (Z9 (dg a) m k),.any,.any,.any],
  [(14,X9 a),(15,I a.length),(16,I k)],[.row 0 (a.length+1) (J8 I 0 (KT a m k))]⟩) (fun k=>k≤a.length) (fun k=>a.length-k) 0 (by omega)
  ?_ ?_
 ·refine(Zm 0 (a.length+1) (J8 I 0 (KT a m 0)) rfl (N' _) ?_).trans (Xh rfl ?_ ?_ ?_)
  ·intro j hj
   have:(KT a m 0).getD j 0=0:=by unfold KT;rw[Da _ _ _ hj,M_ (by omega)]
   rw[Bs,this];rfl
  ·simp[Xo,X9,QG,I,Z9]
  ·simp[Xx,XM,X9,QG,I]
  ·rfl
 intro k hk next
 have w1:=wj k;have c1:=Ds (Qo ha) hm k;have m1:=Cv (Qo ha k) hm;have eA:a.getD k 0=dg a k:=rfl;unfold Qi at c1;have v0:0≤dg a k*m+Z9 (dg a) m k:=by omega
 have eC:(dg a k*m+Z9 (dg a) m k)/1000000000=Z9 (dg a) m (k+1):=rfl;have eO:(dg a k*m+Z9 (dg a) m k)%1000000000=Gp (dg a) m k:=rfl;have c2:=Ds (Qo ha) hm (k+1);unfold Qi at c2;have q1:Q_.wrap (dg a k*m)=dg a k*m:=by rw[M'];omega
 have q2:Q_.wrap (dg a k*m+Z9 (dg a) m k)=dg a k*m+Z9 (dg a) m k:=by rw[M'];omega
 have q3:Q_.wrap ((dg a k*m+Z9 (dg a) m k).tdiv 1000000000)=Z9 (dg a) m (k+1):=by
  rw[r_ v0,eC,M'];omega
 have q4:(dg a k*m+Z9 (dg a) m k).tmod 1000000000=Gp (dg a) m k:=by
  rw[ZAH v0,eO]
 by_cases hk2:k<a.length
 ·have e1:((k:Int)<a.length)=True:=L' (by omega)
  have e2:(k<a.length)=True:=L' hk2;have e3:(k<a.length+1)=True:=L' (by omega);have e4:(k+1≤a.length+1)=True:=L' (by omega);have e5:(k≤a.length)=True:=L' (by omega);have hU:De (J8 I 0 (KT a m k)) k (.int .i64 (Gp (dg a) m k))=J8 I 0 (KT a m (k+1)):=by
   rw[A9 _ _ _ (by rw[Ef];omega),Nr a m k hk2 rfl]
  refine Xk ?_;simp(maxSteps:=999999)only[w1,e1,e2,e3,e4,e5,eA,q1,q2,q3,q4,hU,ZAC,↓X6,wA,seval,zA,wN];exact next (k+1) _ (by omega) (by omega) (Xh rfl (by simp[Xo,X9,QG,I]) (by simp[Xx,XM,X9,QG,I]) rfl)
 ·obtain rfl:k=a.length:=by omega
  have hU:De (J8 I 0 (KT a m a.length)) a.length (.int .i64 (Z9 (dg a) m a.length))=J8 I 0 (Jz a m):=by
   rw[A9 _ _ _ (by rw[Ef];omega),Nq]
  have e3:(a.length<a.length+1)=True:=L' (by omega);have e4:(a.length+1≤a.length+1)=True:=L' (by omega);refine Xk ?_;simp(maxSteps:=999999)only[w1,e3,e4,hU,ZAM,ZAG,↓X6,wA,seval,zA,wN];exact Pe rfl rfl rfl
end
end Go.Ab.N
namespace Go.Ab.N
open Go.Ab
open Classical
noncomputable section
theorem fU {b s:Int}(h1:1≤b)(h2:b<1000000000)(hs:s=1000000000/(b+1)):1≤s∧s≤500000000∧500000000≤b*s∧(b+1)*s≤1000000000:=by
 have e:=ZBk 1000000000 (b+1);have r1:=ZBr 1000000000 (show b+1≠0 by omega);have r2:=ZBO 1000000000 (show 0<b+1 by omega);rw[←hs]at e;generalize (1000000000:Int)%(b+1)=r at *;have s1:1≤s:=by
  apply Y';intro h;have:(b+1)*s≤(b+1)*0:=X' (by omega) (by omega);omega
 have s2:s≤500000000:=by
  apply Y';intro h;have:2*s≤(b+1)*s:=l_ (by omega) (by omega);omega
 refine⟨s1,s2,?_,by omega⟩;apply Y';intro h;have e2:(b+1)*s=b*s+s:=by rw[ZCJ,ZCe]
 by_cases hb:500000000≤b
 ·have:b*1≤b*s:=X' s1 (by omega)
  omega
 ·have h3:500000000-b+1≤s:=by omega
  have h4:b*(500000000-b+1)≤b*s:=X' h3 (by omega);have h5:0≤(b-1)*(500000000-b):=ZBP (by omega) (by omega);have h6:b*(500000000-b+1)=(b-1)*(500000000-b)+500000000:=by grind
  omega
theorem kX {W V T top g r v1:Int}(hT:0≤T)(hr:r<v1)(ht:top=g*v1+r)(hW:W<(top+1)*T) (hV:v1*T≤V) (hg:0≤g):W<(g+1)*V:=by
 have h1:(top+1)*T≤((g+1)*v1)*T:=l_ (by rw[ZCJ];omega) hT;have h2:(g+1)*(v1*T)≤(g+1)*V:=X' hV (by omega);rw[ZBB]at h1;omega
theorem VO {W V P x t g:Int}(hP:0≤P)(hx:t+1≤g*x)(hW:W<(t+1)*P) (hV:x*P≤V) (hg:0≤g):W<g*V:=by
 have h1:(t+1)*P≤(g*x)*P:=l_ hx hP;have h2:g*(x*P)≤g*V:=X' hV hg;rw[ZBB]at h1;omega
theorem T8 {W V P x t g:Int}(hP:0<P)(hx:g*x≤t)(hW:t*P≤W)(hV:V<(x+1)*P) (hg:0≤g) (hgB:g≤1000000000) (hB:1000000000*P≤V):g*V<W+V:=by
 have h1:g*V≤g*((x+1)*P-1):=X' (by omega) hg;have h2:(g*x)*P≤t*P:=l_ hx (by omega);have h3:g*((x+1)*P-1)=(g*x)*P+g*(P-1):=by grind
 have h4:g*(P-1)≤1000000000*(P-1):=l_ hgB (by omega);omega
def WF (u v:List Int)(g:Int)(j n:Nat)(p:List Int×Int×Nat):Prop :=
 p.2.2≤n∧p.1.length=u.length∧JO p.1∧0≤p.2.1∧p.2.1≤1000000000∧(∀i,i<j∨j+p.2.2≤i→p.1.getD i 0=u.getD i 0)∧val p.1-p.2.1*pw (j+p.2.2)=val u-g*val (v.take p.2.2)*pw j
theorem ge {u v u':List Int}{g c:Int}{j n i:Nat}(hv:JO v)(hg0:0≤g)(hg:g≤1000000000)(hn:n≤v.length)(hj:j+n<u.length)(hi:i<n)(h:WF u v g j n (u',c,i)) {w:Int} (hw:w=u'.getD (i+j) 0-g*dg v i-c) :
  -2000000000000000000<w∧w<1000000000∧WF u v g j n (u'.set (i+j) (w%1000000000),-(w/1000000000),i+1):=by
 obtain⟨h1,h2,h3,h4,h5,h6,h7⟩:=h;simp only at h1 h2 h3 h4 h5 h6 h7;have o1:=JW h3 (i+j);have d1:=Qo hv i;unfold Qi at o1 d1;have m1:0≤g*dg v i:=ZBP hg0 d1.1;have m2:g*dg v i≤1000000000*dg v i:=l_ hg d1.1;refine⟨by omega,by omega,by simp only;omega,by simp[h2],Fw h3 _ ⟨by omega,by omega⟩,by simp only;omega,by simp only;omega,fun k hk=>?_,?_⟩
 ·simp only at hk ⊢
  rw[QM _ _ _ _,M_ (by omega)];exact h6 k (by omega)
 ·simp only
  rw[D3 _ _ _ (by omega),JM v i,show j+(i+1)=(j+i)+1 by omega,show i+j=j+i by omega];rw[show i+j=j+i by omega]at hw;have hd:dg v i=v.getD i 0:=rfl;rw[←hd];have e:=E5 j i;simp only[pw];rw[e]at h7 ⊢;have e2:=ZBk w 1000000000;generalize w/1000000000=q at *;generalize w%1000000000=r at *;generalize u'.getD (j+i) 0=o at *;generalize pw j=P at *;generalize pw i=Q at *;generalize val (v.take i)=W at *;grind
def iF (u v:List Int)(j n:Nat)(p:List Int×Int×Nat):Prop :=
 p.2.2≤n∧p.1.length=u.length∧(∀i,i≠j+n→Qi (p.1.getD i 0))∧0≤p.2.1∧p.2.1≤1∧(∀i,i<j∨j+p.2.2≤i→p.1.getD i 0=u.getD i 0)∧val p.1+p.2.1*pw (j+p.2.2)=val u+val (v.take p.2.2)*pw j
theorem cz {u v u':List Int}{c:Int}{j n i:Nat}(hv:JO v)(hn:n≤v.length)(hj:j+n<u.length)(hi:i<n)(h:iF u v j n (u',c,i)) {w:Int} (hw:w=u'.getD (i+j) 0+dg v i+c) :
  0≤w∧w<2000000000∧iF u v j n (u'.set (i+j) (w%1000000000),w/1000000000,i+1):=by
 obtain⟨h1,h2,h3,h4,h5,h6,h7⟩:=h;simp only at h1 h2 h3 h4 h5 h6 h7;have o1:=h3 (i+j) (by omega);have d1:=Qo hv i;unfold Qi at o1 d1;refine⟨by omega,by omega,by simp only;omega,by simp[h2],fun k hk=>?_,by simp only;omega,by simp only;omega,fun k hk=>?_,?_⟩
 ·simp only
  rw[QM _ _ _ _]
  split
  ·exact⟨by omega,by omega⟩
  ·exact h3 k hk
 ·simp only at hk ⊢
  rw[QM _ _ _ _,M_ (by omega)];exact h6 k (by omega)
 ·simp only
  rw[D3 _ _ _ (by omega),JM v i,show j+(i+1)=(j+i)+1 by omega,show i+j=j+i by omega];rw[show i+j=j+i by omega]at hw;have hd:dg v i=v.getD i 0:=rfl;rw[←hd];have e:=E5 j i;simp only[pw];rw[e]at h7 ⊢;have e2:=ZBk w 1000000000;generalize w/1000000000=q at *;generalize w%1000000000=r at *;generalize u'.getD (j+i) 0=o at *;generalize pw j=P at *;generalize pw i=Q at *;generalize val (v.take i)=W at *;grind
theorem E0 (l:List Int)(j i:Nat):(l.drop j).getD i 0=l.getD (j+i) 0:=by
 simp[K',ZBi]
theorem Cu {l:List Int}(h:JO l)(j:Nat):JO (l.drop j):=fun d hd=>h d (List.mem_of_mem_drop hd)
theorem gm {w:List Int}{n:Nat}(hw:JO w)(hn:2≤n)(hl:n+1≤w.length)(hv:val w<pw (n+1)) :
  val (w.drop (n+1))=0∧∃lw,0≤lw∧lw<pw (n-2)∧val w=((w.getD n 0*1000000000+w.getD (n-1) 0)*1000000000+w.getD (n-2) 0)*pw (n-2)+lw:=by
 have h0:val (w.drop (n+1))=0:=by
  have e:=JT w (n+1) hl;have h1:=Qc (J0 hw (n+1));have h2:=Qc (Cu hw (n+1));apply Y';intro h;have:pw (n+1)*1≤pw (n+1)*val (w.drop (n+1)):=X' (by omega) (by have:=JP (n+1);omega);omega
 refine⟨h0,val (w.take (n-2)),Qc (J0 hw _),?_,?_⟩
 ·have:=Ah (J0 hw (n-2))
  rwa[v_,ZA1 (by omega)]at this
 ·have e1:=JT w (n-2)
  have e2:=KU w (n-2);have e3:=KU w (n-1);have e4:=KU w n;rw[show n-2+1=n-1 by omega]at e2;rw[show n-1+1=n by omega]at e3;rw[h0]at e4;rw[e1,e2,e3,e4];generalize pw (n-2)=P;grind
theorem eK {v:List Int}{n:Nat}(hv:JO v)(hn:2≤n)(hl:v.length=n) :
  ∃lv,0≤lv∧lv<pw (n-2)∧val v=(v.getD (n-1) 0*1000000000+v.getD (n-2) 0)*pw (n-2)+lv:=by
 refine⟨val (v.take (n-2)),Qc (J0 hv _),?_,?_⟩
 ·have:=Ah (J0 hv (n-2))
  rwa[v_,ZA1 (by omega)]at this
 ·have e1:=JT v (n-2)
  have e2:=KU v (n-2);have e3:=KU v (n-1);rw[show n-2+1=n-1 by omega]at e2;rw[show n-1+1=n by omega,show v.drop n=[]from List.drop_of_length_le (by omega)]at e3;rw[e1,e2,e3];simp only[val];generalize pw (n-2)=P;grind
structure TBJ (A:Int)(v:List Int)(n m:Nat)(u q:List Int)(k:Nat):Prop where
 hk:k≤m
 hu:u.length=m+n
 du:JO u
 hq:q.length=m
 dq:JO q
 zq:∀i,i<k→q.getD i 0=0
 sum:A=val q*val v+val u
 top:val (u.drop k)<val v
theorem Th {A:Int}{v:List Int}{n m:Nat}{u q:List Int}{j:Nat}(h:TBJ A v n m u q (j+1)) (hv:JO v) (hn:2≤n) (hl:v.length=n) (hv1:500000000≤v.getD (n-1) 0) :
  val (u.drop (j+n+1))=0∧0≤val (u.drop j)∧val (u.drop j)<1000000000*val v∧u.getD (j+n) 0≤v.getD (n-1) 0∧val v<pw n∧0<val v ∧
  (∃lw,0≤lw∧lw<pw (n-2)∧val (u.drop j)=((u.getD (j+n) 0*1000000000+u.getD (j+n-1) 0)*1000000000+u.getD (j+n-2) 0)*pw (n-2)+lw) ∧
  (∃lv,0≤lv∧lv<pw (n-2)∧val v=(v.getD (n-1) 0*1000000000+v.getD (n-2) 0)*pw (n-2)+lv):=by
 have hj:j+1≤m:=h.hk;have hul:=h.hu;have hvn:=Ah hv;rw[hl]at hvn;have d1:=JW h.du j;unfold Qi at d1;have e0:=KU u j;have ht:=h.top;have hW:val (u.drop j)<1000000000*val v:=by omega
 have hW0:=Qc (Cu h.du j);have hlt:val (u.drop j)<pw (n+1):=by simp only[pw];omega
 obtain⟨z,lw,w1,w2,w3⟩:=gm (Cu h.du j) hn (by rw[ZAY];omega) hlt;obtain⟨lv,v1,v2,v3⟩:=eK hv hn hl;rw[E0,E0,E0,show j+(n-1)=j+n-1 by omega,show j+(n-2)=j+n-2 by omega]at w3;rw[ZDI,show j+(n+1)=j+n+1 by omega]at z;have hP:=JP (n-2);have p1:=JW hv (n-2);have p2:=JW h.du (j+n-1);have p3:=JW h.du (j+n-2);unfold Qi at p1 p2 p3;have TFo:0<val v:=by
  rw[v3];have:0≤(v.getD (n-1) 0*1000000000+v.getD (n-2) 0-1)*pw (n-2):=ZBP (by omega) (by omega);rw[ZD2]at this;omega
 refine⟨z,hW0,hW,?_,hvn,TFo,⟨lw,w1,w2,w3⟩,⟨lv,v1,v2,v3⟩⟩;apply Y';intro hc;have h1:(v.getD (n-1) 0+1)*1000000000*1000000000≤(u.getD (j+n) 0*1000000000+u.getD (j+n-1) 0)*1000000000+u.getD (j+n-2) 0:=by omega
 have h2:=l_ h1 (show 0≤pw (n-2)by omega);have h3:(v.getD (n-1) 0*1000000000+v.getD (n-2) 0+1)*pw (n-2)≤((v.getD (n-1) 0+1)*1000000000)*pw (n-2):=l_ (by omega) (by omega);rw[ZCJ,ZCe]at h3;have h4:(v.getD (n-1) 0+1)*1000000000*1000000000*pw (n-2)=1000000000*(((v.getD (n-1) 0+1)*1000000000)*pw (n-2)):=by grind
 omega
theorem aO {u v u':List Int}{g c:Int}{j n:Nat}(hu:JO u)(hl:v.length=n)(hj:j+n<u.length)(h:WF u v g j n (u',c,n)) (hz:val (u.drop (j+n+1))=0) :
  val (u'.set (j+n) (u.getD (j+n) 0-c))=val u-g*val v*pw j∧u'.getD (j+n) 0=u.getD (j+n) 0 ∧
  (∃lo,0≤lo∧lo<pw n∧val (u.drop j)-g*val v=lo+pw n*(u.getD (j+n) 0-c)):=by
 obtain⟨h1,h2,h3,h4,h5,h6,h7⟩:=h;simp only at h1 h2 h3 h4 h5 h6 h7;have e0:=h6 (j+n) (.inr (N' _));have ev:v.take n=v:=by rw[←hl,ZAW]
 rw[ev]at h7;have e1:val (u'.set (j+n) (u.getD (j+n) 0-c))=val u-g*val v*pw j:=by
  rw[D3 _ _ _ (by omega),e0];have:pw (j+n)*(u.getD (j+n) 0-c-u.getD (j+n) 0) = - (c*pw (j+n)):=by grind
  omega
 refine⟨e1,e0,val ((u'.drop j).take n),Qc (J0 (Cu h3 j) n),?_,?_⟩
 ·have:=Ah (J0 (Cu h3 j) n)
  rwa[v_,ZAY,ZA1 (by omega)]at this
 ·have a1:=JT u j
  have a2:=JT u' j;have a3:u'.take j=u.take j:=by
   refine ZBf (by rw[v_,v_];omega) fun i hi1 hi2=>?_
   rw[v_]at hi1 hi2;rw[ZCF,ZCF];have:=h6 i (.inl (by omega));rwa[K',K',V' (by omega),V' (by omega)]at this
  have a4:=JT (u'.drop j) n (by rw[ZAY];omega);rw[ZDI]at a4;have a5:=KU u' (j+n);have a6:u'.drop (j+n+1)=u.drop (j+n+1):=by
   refine ZBf (by rw[ZAY,ZAY];omega) fun i hi1 hi2=>?_
   rw[ZAY]at hi1 hi2;rw[ZCG,ZCG];have:=h6 (j+n+1+i) (.inr (by omega));rwa[K',K',V' (by omega),V' (by omega)]at this
  rw[a6,hz,e0]at a5;rw[a3]at a2;rw[a5]at a4;rw[a2,a4,a1,E5]at h7;have hp:=JP j;have key:pw j*(val (u.drop j)-g*val v)=pw j*(val ((u'.drop j).take n)+pw n*(u.getD (j+n) 0-c)):=by grind
  exact ZCH (by omega) key
theorem gl {u u':List Int}{j:Nat}(hl:u'.length=u.length)(hj:j≤u.length)(h:∀i,i<j→u'.getD i 0=u.getD i 0):u'.take j=u.take j:=by
 refine ZBf (by rw[v_,v_];omega) fun i hi1 hi2=>?_
 rw[v_]at hi1 hi2;rw[ZCF,ZCF];have:=h i (by omega);rwa[K',K',V' (by omega),V' (by omega)]at this
theorem dD {u u':List Int}{j:Nat}(hl:u'.length=u.length)(h:∀i,j≤i→u'.getD i 0=u.getD i 0):u'.drop j=u.drop j:=by
 refine ZBf (by rw[ZAY,ZAY];omega) fun i hi1 hi2=>?_
 rw[ZAY]at hi1 hi2;rw[ZCG,ZCG];have:=h (j+i) (by omega);rwa[K',K',V' (by omega),V' (by omega)]at this
theorem UK {u u':List Int}{j:Nat}{X:Int}(hl:u'.length=u.length)(hj:j≤u.length)(h:∀ i,i<j→u'.getD i 0=u.getD i 0)(hv:val u'=val u-X*pw j):val (u'.drop j)=val (u.drop j)-X:=by
 have a1:=JT u j hj;have a2:=JT u' j;rw[gl hl hj h]at a2;have hp:=JP j;have key:pw j*val (u'.drop j)=pw j*(val (u.drop j)-X):=by grind
 exact ZCH (by omega) key
theorem Mw {l:List Int}(h:∀i,i<l.length→Qi (l.getD i 0)):JO l:=Ow h
section
variable {A:Int} {v:List Int} {n m:Nat} {u q:List Int} {j:Nat} {g c:Int} {u':List Int}
theorem ua (h:TBJ A v n m u q (j+1)) (g:Int):val (q.set j g)=val q+pw j*g:=by
 have:=h.hk;rw[D3 _ _ _ (by rw[h.hq];omega),h.zq j (by omega),Int.sub_zero]
theorem eD (h:TBJ A v n m u q (j+1)) (hv:JO v) (hl:v.length=n) (hvn:val v<pw n) (hV:0<val v) (hz:val (u.drop (j+n+1))=0) (hW:val (u.drop j)<1000000000*val v)
  (g0:0≤g) (g1:val (u.drop j)<(g+1)*val v) (hs:WF u v g j n (u',c,n)) (hx:¬u.getD (j+n) 0-c<0) :
  TBJ A v n m (u'.set (j+n) (u.getD (j+n) 0-c)) (q.set j g) j∧Qi g:=by
 have hj:j+1≤m:=h.hk;have hul:=h.hu;obtain⟨e1,e2,lo,l0,l1,l2⟩:=aO h.du hl (by omega) hs hz;obtain⟨_,s2,s3,_,_,s6,_⟩:=hs;simp only at s2 s3 s6;have hp:=JP n;have b1:val (u.drop j)-g*val v<val v:=by rw[ZCJ]at g1;omega
 have x0:u.getD (j+n) 0-c=0:=by
  apply Y';intro hne;have:pw n*1≤pw n*(u.getD (j+n) 0-c):=X' (by omega) (by omega);omega
 have b0:0≤val (u.drop j)-g*val v:=by rw[l2,x0];omega
 have gB:g<1000000000:=by
  apply Y';intro hc;have:1000000000*val v≤g*val v:=l_ (by omega) (by omega);omega
 have hd:=UK (u:=u) (u':=u'.set (j+n) (u.getD (j+n) 0-c)) (j:=j) (X:=g*val v) (by simp[s2]) (by omega) (fun i hi=>by rw[QM _ _ _ _,M_ (by omega)];exact s6 i (.inl hi)) e1;refine⟨⟨by omega,by simp[s2,hul],Fw s3 _ (by rw[x0];exact⟨by omega,by omega⟩),by simp[h.hq],Fw h.dq _ ⟨g0,gB⟩,fun i hi=>?_,?_,?_⟩,⟨g0,gB⟩⟩
 ·have:=h.hq
  rw[QM _ _ _ _,M_ (by omega)];exact h.zq i (by omega)
 ·rw[ua h g,e1,h.sum];grind
 ·rw[hd];exact b1
theorem ez {c2:Int}{u2:List Int}(h:TBJ A v n m u q (j+1)) (hv:JO v) (hl:v.length=n) (hvn:val v<pw n) (hV:0<val v) (hz:val (u.drop (j+n+1))=0)
  (hW0:0≤val (u.drop j)) (gB:g≤1000000000) (g2:g*val v<val (u.drop j)+val v) (hs:WF u v g j n (u',c,n)) (hx:u.getD (j+n) 0-c<0)
  (ha:iF (u'.set (j+n) (u.getD (j+n) 0-c)) v j n (u2,c2,n)) :
  u2.getD (j+n) 0=u.getD (j+n) 0-c∧TBJ A v n m (u2.set (j+n) (u.getD (j+n) 0-c+c2)) (q.set j (g-1)) j∧Qi (g-1):=by
 have hj:j+1≤m:=h.hk;have hul:=h.hu;obtain⟨e1,e2,lo,l0,l1,l2⟩:=aO h.du hl (by omega) hs hz;obtain⟨_,s2,s3,_,_,s6,_⟩:=hs;simp only at s2 s3 s6;have hp:=JP n;have b1:val (u.drop j)-g*val v<0:=by
  have:pw n*(u.getD (j+n) 0-c)≤pw n*(-1):=X' (by omega) (by omega);omega
 have TGf:0<g:=by
  apply Y';intro hc;have:g*val v≤0*val v:=l_ (by omega) (by omega);omega
 obtain⟨_,t2,t3,t4,t5,t6,t7⟩:=ha;simp only[X_]at t2 t3 t4 t5 t6 t7;have ev:v.take n=v:=by rw[←hl,ZAW]
 rw[ev]at t7;have ex:u2.getD (j+n) 0=u.getD (j+n) 0-c:=by
  rw[t6 (j+n) (.inr (N' _)),QM _ _ _ _,N_ rfl]
 have e3:val (u2.set (j+n) (u.getD (j+n) 0-c+c2))=val u-(g-1)*val v*pw j:=by
  rw[D3 _ _ _ (by omega),ex];rw[e1]at t7;have:pw (j+n)*(u.getD (j+n) 0-c+c2-(u.getD (j+n) 0-c))=c2*pw (j+n):=by grind
  have e4:(g-1)*val v*pw j=g*val v*pw j-val v*pw j:=by grind
  omega
 have below:∀i,i<j→(u2.set (j+n) (u.getD (j+n) 0-c+c2)).getD i 0=u.getD i 0:=fun i hi=>by
  rw[QM _ _ _ _,M_ (by omega),t6 i (.inl hi),QM _ _ _ _,M_ (by omega)];exact s6 i (.inl hi)
 have hd:=UK (u:=u) (u':=u2.set (j+n) (u.getD (j+n) 0-c+c2)) (j:=j) (X:=(g-1)*val v) (by simp[t2,s2]) (by omega) below e3;have e5:(g-1)*val v=g*val v-val v:=by rw[ZD2];omega
 rw[e5]at hd;have TEn:(u2.set (j+n) (u.getD (j+n) 0-c+c2)).drop (j+n+1)=u.drop (j+n+1):=dD (by simp[t2,s2]) fun i hi=>by
  rw[QM _ _ _ _,M_ (by omega),t6 i (.inr (by omega)),QM _ _ _ _,M_ (by omega)];exact s6 i (.inr (by omega))
 have TDA:JO (((u2.set (j+n) (u.getD (j+n) 0-c+c2)).drop j).take n):=by
  refine Mw fun i hi=>?_
  rw[v_,ZAY,X_]at hi;rw[Cm _ _ _ _,E0,QM _ _ _ _,M_ (by omega)];exact t3 _ (by omega)
 have w0:=Qc TDA;have w1:=Ah TDA;rw[v_,ZAY,X_,ZA1 (by omega)]at w1;have w2:=JT ((u2.set (j+n) (u.getD (j+n) 0-c+c2)).drop j) n (by rw[ZAY,X_];omega);rw[ZDI,KU _ (j+n) (by rw[X_];omega),TEn,hz,QM _ _ _ _,N_ rfl]at w2;rw[hd,ZDm,Int.add_zero]at w2;have x0:u.getD (j+n) 0-c+c2=0:=by
  generalize u.getD (j+n) 0-c+c2=x at *;apply Y';intro hne;rcases Int.lt_or_gt_of_ne hne with hlt |hgt
  ·have:pw n*x≤pw n*(-1):=X' (by omega) (by omega)
   omega
  ·have:pw n*1≤pw n*x:=X' (by omega) (by omega)
   omega
 refine⟨ex,⟨by omega,by simp[t2,s2,hul],Mw fun i hi=>?_,by simp[h.hq],Fw h.dq _ ⟨by omega,by omega⟩,fun i hi=>?_,?_,?_⟩,⟨by omega,by omega⟩⟩
 ·rw[X_]at hi
  rw[QM _ _ _ _]
  split
  ·rw[x0];exact⟨by omega,by omega⟩
  ·exact t3 i (by omega)
 ·have:=h.hq
  rw[QM _ _ _ _,M_ (by omega)];exact h.zq i (by omega)
 ·rw[ua h (g-1),e3,h.sum];grind
 ·rw[hd];omega
end
end
end Go.Ab.N
namespace Go.Ab.N
open Go.Ab
open Classical
noncomputable section
structure TCE (W V:Int)(top u2 v1 v2 P:Int):Prop where
 hP:0<P
 w:∃lw,0≤lw∧lw<P∧W=(top*1000000000+u2)*P+lw
 v:∃lv,0≤lv∧lv<P∧V=(v1*1000000000+v2)*P+lv
 du:Qi u2
 dv:Qi v2
 h1:500000000≤v1
 h2:v1<1000000000
 ht:0≤top∧top≤v1*1000000000+999999999
 hW:W<1000000000*V
structure TBA (W V top v1 g r:Int):Prop where
 e:top=g*v1+r
 r0:0≤r
 r1:r<1000000000
 g0:0≤g
 g1:g≤1000000001
 hi:W<(g+1)*V
def kW (W V g:Int):Prop:=0≤g∧g≤1000000000∧W<(g+1)*V∧g*V<W+V
section
variable {W V top u2 v1 v2 P g r:Int}
theorem TCE.big (h:TCE W V top u2 v1 v2 P):1000000000*P≤V∧(v1*1000000000+v2)*P≤V∧V<(v1*1000000000+v2+1)*P∧(top*1000000000+u2)*P≤W∧W<(top*1000000000+u2+1)*P∧0<V:=by
 obtain⟨lw,a1,a2,a3⟩:=h.w;obtain⟨lv,b1,b2,b3⟩:=h.v;have hv2:=h.dv;unfold Qi at hv2;have hP:=h.hP;have h1:=h.h1;have c1:1000000000*P≤(v1*1000000000+v2)*P:=l_ (by omega) (by omega);have c2:(v1*1000000000+v2+1)*P=(v1*1000000000+v2)*P+P:=by rw[ZCJ,ZCe]
 have c3:(top*1000000000+u2+1)*P=(top*1000000000+u2)*P+P:=by rw[ZCJ,ZCe]
 omega
theorem T9 (h:TCE W V top u2 v1 v2 P):TBA W V top v1 (top/v1) (top%v1):=by
 have h1:=h.h1;have h2:=h.h2;have ht:=h.ht;have hP:=h.hP;obtain⟨b1,b2,b3,b4,b5,b6⟩:=h.big;have e:=ZBk top v1;have r0:=ZBr top (show v1≠0 by omega);have r1:=ZBO top (show 0<v1 by omega);have g0:0≤top/v1:=ZEH ht.1 (by omega);generalize top/v1=g at *;generalize top%v1=r at *;have e':top=g*v1+r:=by rw[ZEG]at e;omega
 refine⟨e',r0,by omega,g0,?_,?_⟩
 ·apply Y'
  intro hc;have:1000000002*v1≤g*v1:=l_ (by omega) (by omega);omega
 ·have du:=h.du
  unfold Qi at du;have dv:=h.dv;unfold Qi at dv;refine kX (T:=1000000000*P) (v1:=v1) (r:=r) (top:=top) (by omega) r1 e' ?_ ?_ g0
  ·have c1:(top*1000000000+u2+1)*P≤((top+1)*1000000000)*P:=l_ (by omega) (by omega)
   have c2:((top+1)*1000000000)*P=(top+1)*(1000000000*P):=by rw[ZBB]
   omega
  ·have c1:(v1*1000000000)*P≤(v1*1000000000+v2)*P:=l_ (by omega) (by omega)
   have c2:(v1*1000000000)*P=v1*(1000000000*P):=by rw[ZBB]
   omega
theorem VP (h:TCE W V top u2 v1 v2 P)(hg:TBA W V top v1 g r)(h1:¬ 1000000000≤g)(h2:¬g*v2 > r*1000000000+u2):kW W V g:=by
 obtain⟨b1,b2,b3,b4,b5,b6⟩:=h.big;refine⟨hg.g0,by omega,hg.hi,?_⟩;refine T8 (P:=P) (x:=v1*1000000000+v2) (t:=top*1000000000+u2) h.hP ?_ b4 b3 hg.g0 (by omega) b1;have e:=hg.e;have:g*(v1*1000000000+v2)=(g*v1)*1000000000+g*v2:=by grind
 omega
theorem MK (h:TCE W V top u2 v1 v2 P)(hg:TBA W V top v1 g r)(hc:1000000000≤g∨g*v2 > r*1000000000+u2):W<g*V:=by
 obtain⟨b1,b2,b3,b4,b5,b6⟩:=h.big;by_cases hgB:1000000000≤g
 ·have:1000000000*V≤g*V:=l_ hgB (by omega)
  have:=h.hW;omega
 ·refine VO (P:=P) (x:=v1*1000000000+v2) (t:=top*1000000000+u2) (by have:=h.hP;omega) ?_ b5 b2 hg.g0
  have e:=hg.e;have:g*(v1*1000000000+v2)=(g*v1)*1000000000+g*v2:=by grind
  omega
theorem Ik (h:TCE W V top u2 v1 v2 P)(hg:TBA W V top v1 g r)(hW0:0≤W)(hl:W<g*V):1≤g:=by
 have b6:=h.big.2.2.2.2.2;apply Y';intro hc;have:g*V≤0*V:=l_ (by omega) (by omega);omega
theorem IP (h:TCE W V top u2 v1 v2 P)(hg:TBA W V top v1 g r)(hW0:0≤W)(hl:W<g*V)(hr:1000000000≤r+v1):kW W V (g-1):=by
 obtain⟨b1,b2,b3,b4,b5,b6⟩:=h.big;have gp:=Ik h hg hW0 hl;have g1:=hg.g1;have du:=h.du;have dv:=h.dv;unfold Qi at du dv;refine⟨by omega,by omega,by rw[show g-1+1=g by omega];exact hl,?_⟩;refine T8 (P:=P) (x:=v1*1000000000+v2) (t:=top*1000000000+u2) h.hP ?_ b4 b3 (by omega) (by omega) b1;have e:=hg.e;have e1:(g-1)*(v1*1000000000+v2)=(g*v1-v1)*1000000000+(g-1)*v2:=by grind
 have e2:(g-1)*v2≤1000000000*v2:=l_ (by omega) dv.1;omega
theorem ML (h:TCE W V top u2 v1 v2 P)(hg:TBA W V top v1 g r)(hW0:0≤W)(hl:W<g*V)(hr:¬1000000000≤r+v1):TBA W V top v1 (g-1) (r+v1):=by
 have gp:=Ik h hg hW0 hl;have g1:=hg.g1;have r0:=hg.r0;have h1:=h.h1;refine⟨?_,by omega,by omega,by omega,by omega,by rw[show g-1+1=g by omega];exact hl⟩;have e:=hg.e;rw[ZD2,ZCe];omega
end
theorem eE {A:Int}{v:List Int}{n m:Nat}{u q:List Int}{j:Nat}(h:TBJ A v n m u q (j+1)) (hv:JO v) (hn:2≤n) (hl:v.length=n) (hv1:500000000≤v.getD (n-1) 0) :
  TCE (val (u.drop j)) (val v) (u.getD (j+n) 0*1000000000+u.getD (j+n-1) 0) (u.getD (j+n-2) 0) (v.getD (n-1) 0) (v.getD (n-2) 0) (pw (n-2)):=by
 obtain⟨z,w0,w1,w2,w3,w4,w5,w6⟩:=Th h hv hn hl hv1;have d1:=JW h.du (j+n);have d2:=JW h.du (j+n-1);have d3:=JW hv (n-1);unfold Qi at d1 d2 d3;exact⟨JP _,w5,w6,JW h.du _,JW hv _,hv1,d3.2,by omega,w1⟩
theorem VZ {b:List Int}{s:Int}(hb:AP b)(hn:2≤b.length)(hs:s=1000000000/(b.getD (b.length-1) 0+1)) :
  1≤s∧s≤500000000∧val ((Jz b s).take b.length)=val b*s∧JO ((Jz b s).take b.length)∧((Jz b s).take b.length).length=b.length∧500000000≤((Jz b s).take b.length).getD (b.length-1) 0∧pw (b.length-1)*s≤val b*s:=by
 have hne:b≠[]:=fun e=>by rw[e]at hn;simp at hn
 have t0:=hb.2 hne;have t1:=JW hb.1 (b.length-1);unfold Qi at t1;obtain⟨s1,s2,s3,s4⟩:=fU (b:=b.getD (b.length-1) 0) (by omega) t1.2 hs;have ds:Qi s:=⟨by omega,by omega⟩
 have hd:=Nn hb.1 ds;have hl:=CH b s;have hv:=Np b s;have hP:=JP (b.length-1);have e:=JM b (b.length-1);rw[show b.length-1+1=b.length by omega,ZAW]at e;have e1:=Qc (J0 hb.1 (b.length-1));have e2:=Ah (J0 hb.1 (b.length-1));rw[v_,ZA1 (by omega)]at e2;generalize hbt:b.getD (b.length-1) 0=t at *;have up:val b*s<pw b.length:=by
  have h1:val b<pw (b.length-1)*(t+1):=by rw[ZDY,Int.mul_one];omega
  have h2:val b*s<(pw (b.length-1)*(t+1))*s:=ZB0 h1 (by omega);have h3:(pw (b.length-1)*(t+1))*s=pw (b.length-1)*((t+1)*s):=by rw[ZBB]
  have h4:pw (b.length-1)*((t+1)*s)≤pw (b.length-1)*1000000000:=X' s4 (by omega);have h5:pw b.length=1000000000*pw (b.length-1):=by
   conv=>lhs;rw[show b.length=(b.length-1)+1 by omega]
   rfl
  omega
 have lo:pw (b.length-1)*(t*s)≤val b*s:=by
  have h1:pw (b.length-1)*t≤val b:=by omega
  have h2:(pw (b.length-1)*t)*s≤val b*s:=l_ h1 (by omega);rw[ZBB]at h2;exact h2
 have lo1:pw (b.length-1)*s≤val b*s:=by
  have h1:pw (b.length-1)≤val b:=by
   have:pw (b.length-1)*1≤pw (b.length-1)*t:=X' (by omega) (by omega);omega
  exact l_ h1 (by omega)
 have hlen:((Jz b s).take b.length).length=b.length:=by rw[v_];omega
 have hsp:=JT (Jz b s) b.length;have d0:=Qc (J0 hd b.length);have d1:=Qc (Cu hd b.length);have hz:val ((Jz b s).drop b.length)=0:=by
  apply Y';intro hc;have:pw b.length*1≤pw b.length*val ((Jz b s).drop b.length):=X' (by omega) (by have:=JP b.length;omega);omega
 have TBG:val ((Jz b s).take b.length)=val b*s:=by rw[hz,ZDm]at hsp;omega
 refine⟨s1,s2,TBG,J0 hd _,hlen,?_,lo1⟩;have dv:=J0 hd b.length;generalize (Jz b s).take b.length=v at *;have f:=JM v (b.length-1);rw[show b.length-1+1=b.length by omega,show v.take b.length=v by rw[←hlen,ZAW]]at f;have f2:=Ah (J0 dv (b.length-1));rw[v_,ZA1 (by omega)]at f2;apply Y';intro hc;have g1:pw (b.length-1)*(v.getD (b.length-1) 0+1)≤pw (b.length-1)*(t*s):=X' (by omega) (by omega);rw[ZDY,Int.mul_one]at g1;omega
theorem Ox (n:Nat):JO (ZAP n 0):=fun d hd=>by rw[(ZEC.1 hd).2];exact⟨by omega,by omega⟩
theorem VY {a b v:List Int}{s:Int}{m:Nat}(ha:JO a)(hb:AP b)(hn:2≤b.length)(hab:b.length≤a.length)(hm:m=a.length - b.length+1)(s1:1≤s)(s2:s≤500000000)(hV:val v=val b*s)(hlo:pw (b.length-1)*s≤val b*s) :
  TBJ (val a*s) v b.length m (Jz a s) (ZAP m 0) m:=by
 have ds:Qi s:=⟨by omega,by omega⟩
 have hd:=Nn ha ds;have hl:=CH a s;have hv:=Np a s;refine⟨N' _,by omega,hd,by simp,Ox m,fun i hi=>?_,by rw[FR,hv];omega,?_⟩
 ·simp[K',ZAx]
  split <;> rfl
 ·have hsp:=JT (Jz a s) m
  have d0:=Qc (J0 hd m);have la:=Ah ha;have e:pw a.length=pw m*pw (b.length-1):=by rw[←E5];congr 1;omega
  have hm0:=JP m;apply Y';intro hc;have h1:pw m*val v≤pw m*val ((Jz a s).drop m):=X' (by omega) (by omega);have h2:val a*s<pw a.length*s:=ZB0 la (by omega);have h3:pw m*(pw (b.length-1)*s)≤pw m*val v:=X' (by omega) (by omega);rw[e,ZBB]at h2;omega
theorem Tg {a b v u q:List Int}{s:Int}{n m:Nat}(ha:JO a)(hb:JO b)(h:TBJ (val a*s) v n m u q 0) (s1:1≤s) (hV:val v=val b*s) (hvn:val v<pw n) :
  val q=val a/val b∧val (BH (AY (u.take n) s) (u.take n).length)=val a%val b∧JO (u.take n):=by
 have ht:=h.top;rw[ZBg]at ht;have TFp:=h.sum;have u0:=Qc h.du;have hl:=h.hu;have hsp:=JT u n;have d0:=Qc (J0 h.du n);have d1:=Qc (Cu h.du n);have hz:val (u.drop n)=0:=by
  apply Y';intro hc;have:pw n*1≤pw n*val (u.drop n):=X' (by omega) (by have:=JP n;omega);omega
 have hut:val (u.take n)=val u:=by rw[hz,ZDm]at hsp;omega
 obtain⟨r,hr⟩:∃r,r=val a-val q*val b:=⟨_,rfl⟩
 have hus:val u=s*r:=by rw[hr];rw[hV]at TFp;grind
 have b0:=Qc hb;have r0:0≤r:=by
  apply Y';intro hc;have:s*r≤s*(-1):=X' (by omega) (by omega);omega
 have rb:r<val b:=by
  apply Y';intro hc;have h1:s*val b≤s*r:=X' (by omega) (by omega);rw[ZEG s (val b)]at h1;omega
 have ea:val a=val q*val b+r:=by omega
 have e1:val a/val b=val q:=by
  rw[ea,Int.add_comm,Int.add_mul_ediv_right _ _ (by omega),Int.ediv_eq_zero_of_lt r0 rb];omega
 have e2:val a%val b=r:=by
  rw[ea,Int.add_comm,Int.add_mul_emod_self_right];exact Int.emod_eq_of_lt r0 rb
 refine⟨e1.symm,?_,J0 h.du n⟩;have e3:=Rz (a:=u.take n) (b:=s) (by omega);have e4:Ku (u.take n) s 0=0:=by
  unfold Ku;rw[ZBg,hut,hus,Int.mul_emod_right]
 rw[e4,hut,hus,Int.add_zero]at e3;rw[e2];exact(ZCH (by omega) e3).symm
end
end Go.Ab.N
