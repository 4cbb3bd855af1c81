/- Contracts of functions, for every argument that fits. -/
import Derived.Test.YtcmfnmceomhgcaaGreatC1
set_option linter.unusedSimpArgs false
set_option linter.unusedVariables false
open Go.Ab.AS renaming start→P'
open Go.IntKind renaming i64→Q_,wrap_u64→ZAY,u64→ZAh
open Int renaming reduceEq→zU,mul_assoc→ZA7,mul_ediv_add_emod→ZBj,mul_lt_mul_of_pos_right→ZBy,eq_of_mul_eq_mul_left→ZCD,add_mul→ZCF,one_mul→ZCZ,mul_zero→ZDi,sub_mul→ZD0,mul_comm→ZEE
open List renaming length_drop→ZAH,replicate→ZAJ,getElem_take→ZCB,getElem_drop→ZCC,drop_drop→ZDC,mem_replicate→ZD9
open Nat renaming min_eq_left→ZAv,le_of_eq→ZCA
namespace Go.Ab.N
open Go Go.RowKit Go.Proofs
theorem e_:type_of%@Go.Ab.Run.sub:=@Go.Ab.Run.sub
theorem ZBI:type_of%@Int.sign_neg_iff:=@Int.sign_neg_iff
theorem ZBg:type_of%@Int.natAbs_mul:=@Int.natAbs_mul
theorem ZBl:type_of%@List.set_set:=@List.set_set
noncomputable section
set_option maxRecDepth 10000
set_option maxHeartbeats 2000000
open Classical
theorem ZY (l:List Int)(i:Nat)(x:Int)(h:i<l.length):Ek (J0 I 0 l) i (.int .i64 x)=J0 I 0 (l.set i x):=rW I 0 l i x h
def AA (a b:List Int)(n k:Nat):List Int:=BD (fun j=>if j<k then Bg (dg a) (dg b) j else 0) (n+1)
theorem Fw (a b:List Int)(n k:Nat):(AA a b n k).length=n+1:=Qp _ _
theorem P4 (a b:List Int)(n k:Nat)(h:k<n){x:Int}(hx:x=Bg (dg a) (dg b) k):(AA a b n k).set k x=AA a b n (k+1):=by
 unfold AA;rw[BO _ _ _ _ (by omega)];refine Zl fun q _=>?_
 by_cases e:q=k
 ·subst e;rw[N_ rfl,N_ (by omega),hx]
 ·rw[M_ e]
  by_cases h1:q<k
  ·rw[N_ h1,N_ (by omega)]
  ·rw[M_ h1,M_ (by omega)]
theorem P3 (a b:List Int)(n:Nat):(AA a b n n).set n (Qt (dg a) (dg b) n)=Az a b n:=by
 unfold AA Az;rw[BO _ _ _ _ (by omega),EX];congr 1
 ·refine Zl fun q hq=>?_
  rw[M_ (by omega),N_ hq]
 ·simp
theorem lW (A B:List Int)(ha:JG A)(hb:JG B)(la:A.length<10000000000000)(h:B.length≤A.length) :
  Fn Tryz.prog 188 [X8 A,X8 B] (X8 (Az A B A.length)):=by
 obtain⟨R,hR⟩:∃R,R=X8 (Az A B A.length):=⟨_,rfl⟩
 rw[←hR];have hR2:A_ R:=hR▸Xc _;have hF:(A.length<B.length)=False:=Q' (by omega);have w0:Q_.wrap ((A.length:Int)+1)=((A.length+1:Nat):Int):=by rw[M'];omega
 refine Fq Tryz.call188 Tryz.func188 10 [21,22,23] [] [] (by simp[Xc]) (Xk ?_);simp(maxSteps:=999999)only[P',hF,w0,T_,↓X6,wA,seval,zA,wN];refine⟨⟨by omega,by omega⟩,?_⟩;refine Xi (fun k:Nat=>⟨10,[21,22,23],[X8 A,X8 B,.any,.any,.sl 0 0 (fun _=>.any) true,.osl 0 0 1 0 (A.length+1),I (Qt (dg A) (dg B) k),.any,.any,.any],
  [(21,X8 A),(22,I A.length),(23,I k)],[.row 0 (A.length+1) (J0 I 0 (AA A B A.length k))]⟩) (fun k=>k≤A.length) (fun k=>A.length-k) 0 (by omega)
  ?_ ?_
 ·refine(Zh 0 (A.length+1) (J0 I 0 (AA A B A.length 0)) rfl (N' _) ?_).trans (Xh rfl ?_ ?_ ?_)
  ·intro j hj
   have:(AA A B A.length 0).getD j 0=0:=by unfold AA;rw[D5 _ _ _ hj,M_ (by omega)]
   rw[Bq,this];rfl
  ·simp[Xm,X8,QE,I,Qt]
  ·simp[Xu,XJ,X8,QE,I]
  ·rfl
 intro k hk next
 have w1:=wj k (by omega);have b1:=Ep (dg A) (dg B) k;have b2:=Qn ha k;have b3:=Qn hb k;have eA:A.getD k 0=dg A k:=rfl;have eB:B.getD k 0=dg B k:=rfl;unfold Qk at b2 b3;have w2:Q_.wrap (dg A k+Qt (dg A) (dg B) k)=dg A k+Qt (dg A) (dg B) k:=by rw[M'];omega
 have w3:Q_.wrap (dg A k+Qt (dg A) (dg B) k+dg B k)=dg A k+Qt (dg A) (dg B) k+dg B k:=by rw[M'];omega
 have w4:Q_.wrap (dg A k+Qt (dg A) (dg B) k+dg B k-1000000000)=dg A k+Qt (dg A) (dg B) k+dg B k-1000000000:=by rw[M'];omega
 have w5:Q_.wrap (dg A k+Qt (dg A) (dg B) k-1000000000)=dg A k+Qt (dg A) (dg B) k-1000000000:=by rw[M'];omega
 have nB:¬k<B.length→dg B k=0:=fun h=>I2 (by omega)
 have fin:∀ (c x:Int),k<A.length→c=Qt (dg A) (dg B) (k+1)→x=Bg (dg A) (dg B) k →
   ∀tm,tm=[(21,X8 A),(22,I A.length),(23,I ((k+1:Nat):Int))]→True:=fun _ _ _ _ _ _ _=>trivial
 have sC:∀c:Int,(1000000000≤dg A k+dg B k+Qt (dg A) (dg B) k∧c=1∨¬1000000000≤dg A k+dg B k+Qt (dg A) (dg B) k∧c=0)→c=Qt (dg A) (dg B) (k+1):=by
  rintro c (⟨h1,rfl⟩ | ⟨h1,rfl⟩)
  ·simp only[Qt];rw[N_ h1]
  ·simp only[Qt];rw[M_ h1]
 have sO:∀x:Int,(1000000000≤dg A k+dg B k+Qt (dg A) (dg B) k∧x=dg A k+dg B k+Qt (dg A) (dg B) k-1000000000∨¬1000000000≤dg A k+dg B k+Qt (dg A) (dg B) k∧x=dg A k+dg B k+Qt (dg A) (dg B) k)→x=Bg (dg A) (dg B) k:=by
  rintro x (⟨h1,rfl⟩ | ⟨h1,rfl⟩)
  ·unfold Bg;rw[N_ h1]
  ·unfold Bg;rw[M_ h1]
 have up:∀x:Int,k<A.length→x=Bg (dg A) (dg B) k→Ek (J0 I 0 (AA A B A.length k)) k (.int .i64 x)=J0 I 0 (AA A B A.length (k+1)):=fun x h hx=>by
  rw[ZY _ _ _ (by rw[Fw];omega),P4 _ _ _ _ h hx]
 have upE:k=A.length→Ek (J0 I 0 (AA A B A.length k)) k (.int .i64 (Qt (dg A) (dg B) k))=J0 I 0 (Az A B A.length):=fun h=>by
  rw[ZY _ _ _ (by rw[Fw];omega),h,P3]
 refine Xk ?_;simp(maxSteps:=999999)only[w1,w2,w3,w4,w5,eA,eB,↓X6,wA,seval,zA,wN];refine⟨fun h=>⟨h,h,fun hb'=>⟨hb',hb',fun hc=>⟨by omega,by omega,?_⟩,fun hc=>⟨by omega,by omega,?_⟩⟩,fun hb'=>⟨fun hc=>⟨by omega,by omega,?_⟩,fun hc=>⟨by omega,by omega,?_⟩⟩⟩,fun h=>⟨by omega,?_⟩⟩
 ·have e1:=sC 1 (.inl ⟨by omega,rfl⟩)
  have e2:=up _ h (sO _ (.inl ⟨by omega,(by omega:dg A k+Qt (dg A) (dg B) k+dg B k-1000000000=_)⟩));rw[e2];exact next (k+1) _ (by omega) (by omega) (Xh rfl (by simp[Xm,X8,QE,I,←e1]) (by simp[Xu,XJ,X8,QE,I]) rfl)
 ·have e1:=sC 0 (.inr ⟨by omega,rfl⟩)
  have e2:=up _ h (sO _ (.inr ⟨by omega,(by omega:dg A k+Qt (dg A) (dg B) k+dg B k=_)⟩));rw[e2];exact next (k+1) _ (by omega) (by omega) (Xh rfl (by simp[Xm,X8,QE,I,←e1]) (by simp[Xu,XJ,X8,QE,I]) rfl)
 ·have e0:=nB hb'
  have e1:=sC 1 (.inl ⟨by omega,rfl⟩);have e2:=up _ h (sO _ (.inl ⟨by omega,(by omega:dg A k+Qt (dg A) (dg B) k-1000000000=_)⟩));rw[e2];exact next (k+1) _ (by omega) (by omega) (Xh rfl (by simp[Xm,X8,QE,I,←e1]) (by simp[Xu,XJ,X8,QE,I]) rfl)
 ·have e0:=nB hb'
  have e1:=sC 0 (.inr ⟨by omega,rfl⟩);have e2:=up _ h (sO _ (.inr ⟨by omega,(by omega:dg A k+Qt (dg A) (dg B) k=_)⟩));rw[e2];exact next (k+1) _ (by omega) (by omega) (Xh rfl (by simp[Xm,X8,QE,I,←e1]) (by simp[Xu,XJ,X8,QE,I]) rfl)
 ·obtain rfl:k=A.length:=by omega
  rw[upE rfl,hR];refine A9 rfl ?_;have hl:(Az A B A.length).length=A.length+1:=Fv _ _ _;have:=Nm (e:=I) (d:=0) (l:=Az A B A.length) (H:=[.row 0 (A.length+1) (J0 I 0 (Az A B A.length))]) (id:=0) (ver:=0) (n:=A.length+1) (off:=0) X9 (.inl rfl) (by omega) rfl;rw[hl]at this;exact this
theorem lX (A B:List Int)(ha:JG A)(hb:JG B)(la:A.length<10000000000000)(h:B.length<A.length) :
  Fn Tryz.prog 188 [X8 B,X8 A] (X8 (Az A B A.length)):=by
 obtain⟨R,hR⟩:∃R,R=X8 (Az A B A.length):=⟨_,rfl⟩
 rw[←hR];have hR2:A_ R:=hR▸Xc _;have hF:(B.length<A.length)=True:=K_ h;have w0:Q_.wrap ((A.length:Int)+1)=((A.length+1:Nat):Int):=by rw[M'];omega
 refine Fq Tryz.call188 Tryz.func188 10 [21,22,23] [] [] (by simp[Xc]) (Xk ?_);simp(maxSteps:=999999)only[P',hF,w0,T_,↓X6,wA,seval,zA,wN];refine⟨⟨by omega,by omega⟩,?_⟩;refine Xi (fun k:Nat=>⟨10,[21,22,23],[X8 A,X8 B,.any,.any,.sl 0 0 (fun _=>.any) true,.osl 0 0 1 0 (A.length+1),I (Qt (dg A) (dg B) k),.any,.any,.any],
  [(21,X8 A),(22,I A.length),(23,I k)],[.row 0 (A.length+1) (J0 I 0 (AA A B A.length k))]⟩) (fun k=>k≤A.length) (fun k=>A.length-k) 0 (by omega)
  ?_ ?_
 ·refine(Zh 0 (A.length+1) (J0 I 0 (AA A B A.length 0)) rfl (N' _) ?_).trans (Xh rfl ?_ ?_ ?_)
  ·intro j hj
   have:(AA A B A.length 0).getD j 0=0:=by unfold AA;rw[D5 _ _ _ hj,M_ (by omega)]
   rw[Bq,this];rfl
  ·simp[Xm,X8,QE,I,Qt]
  ·simp[Xu,XJ,X8,QE,I]
  ·rfl
 intro k hk next
 have w1:=wj k (by omega);have b1:=Ep (dg A) (dg B) k;have b2:=Qn ha k;have b3:=Qn hb k;have eA:A.getD k 0=dg A k:=rfl;have eB:B.getD k 0=dg B k:=rfl;unfold Qk at b2 b3;have w2:Q_.wrap (dg A k+Qt (dg A) (dg B) k)=dg A k+Qt (dg A) (dg B) k:=by rw[M'];omega
 have w3:Q_.wrap (dg A k+Qt (dg A) (dg B) k+dg B k)=dg A k+Qt (dg A) (dg B) k+dg B k:=by rw[M'];omega
 have w4:Q_.wrap (dg A k+Qt (dg A) (dg B) k+dg B k-1000000000)=dg A k+Qt (dg A) (dg B) k+dg B k-1000000000:=by rw[M'];omega
 have w5:Q_.wrap (dg A k+Qt (dg A) (dg B) k-1000000000)=dg A k+Qt (dg A) (dg B) k-1000000000:=by rw[M'];omega
 have nB:¬k<B.length→dg B k=0:=fun h=>I2 (by omega)
 have fin:∀ (c x:Int),k<A.length→c=Qt (dg A) (dg B) (k+1)→x=Bg (dg A) (dg B) k →
   ∀tm,tm=[(21,X8 A),(22,I A.length),(23,I ((k+1:Nat):Int))]→True:=fun _ _ _ _ _ _ _=>trivial
 have sC:∀c:Int,(1000000000≤dg A k+dg B k+Qt (dg A) (dg B) k∧c=1∨¬1000000000≤dg A k+dg B k+Qt (dg A) (dg B) k∧c=0)→c=Qt (dg A) (dg B) (k+1):=by
  rintro c (⟨h1,rfl⟩ | ⟨h1,rfl⟩)
  ·simp only[Qt];rw[N_ h1]
  ·simp only[Qt];rw[M_ h1]
 have sO:∀x:Int,(1000000000≤dg A k+dg B k+Qt (dg A) (dg B) k∧x=dg A k+dg B k+Qt (dg A) (dg B) k-1000000000∨¬1000000000≤dg A k+dg B k+Qt (dg A) (dg B) k∧x=dg A k+dg B k+Qt (dg A) (dg B) k)→x=Bg (dg A) (dg B) k:=by
  rintro x (⟨h1,rfl⟩ | ⟨h1,rfl⟩)
  ·unfold Bg;rw[N_ h1]
  ·unfold Bg;rw[M_ h1]
 have up:∀x:Int,k<A.length→x=Bg (dg A) (dg B) k→Ek (J0 I 0 (AA A B A.length k)) k (.int .i64 x)=J0 I 0 (AA A B A.length (k+1)):=fun x h hx=>by
  rw[ZY _ _ _ (by rw[Fw];omega),P4 _ _ _ _ h hx]
 have upE:k=A.length→Ek (J0 I 0 (AA A B A.length k)) k (.int .i64 (Qt (dg A) (dg B) k))=J0 I 0 (Az A B A.length):=fun h=>by
  rw[ZY _ _ _ (by rw[Fw];omega),h,P3]
 refine Xk ?_;simp(maxSteps:=999999)only[w1,w2,w3,w4,w5,eA,eB,↓X6,wA,seval,zA,wN];refine⟨fun h=>⟨h,h,fun hb'=>⟨hb',hb',fun hc=>⟨by omega,by omega,?_⟩,fun hc=>⟨by omega,by omega,?_⟩⟩,fun hb'=>⟨fun hc=>⟨by omega,by omega,?_⟩,fun hc=>⟨by omega,by omega,?_⟩⟩⟩,fun h=>⟨by omega,?_⟩⟩
 ·have e1:=sC 1 (.inl ⟨by omega,rfl⟩)
  have e2:=up _ h (sO _ (.inl ⟨by omega,(by omega:dg A k+Qt (dg A) (dg B) k+dg B k-1000000000=_)⟩));rw[e2];exact next (k+1) _ (by omega) (by omega) (Xh rfl (by simp[Xm,X8,QE,I,←e1]) (by simp[Xu,XJ,X8,QE,I]) rfl)
 ·have e1:=sC 0 (.inr ⟨by omega,rfl⟩)
  have e2:=up _ h (sO _ (.inr ⟨by omega,(by omega:dg A k+Qt (dg A) (dg B) k+dg B k=_)⟩));rw[e2];exact next (k+1) _ (by omega) (by omega) (Xh rfl (by simp[Xm,X8,QE,I,←e1]) (by simp[Xu,XJ,X8,QE,I]) rfl)
 ·have e0:=nB hb'
  have e1:=sC 1 (.inl ⟨by omega,rfl⟩);have e2:=up _ h (sO _ (.inl ⟨by omega,(by omega:dg A k+Qt (dg A) (dg B) k-1000000000=_)⟩));rw[e2];exact next (k+1) _ (by omega) (by omega) (Xh rfl (by simp[Xm,X8,QE,I,←e1]) (by simp[Xu,XJ,X8,QE,I]) rfl)
 ·have e0:=nB hb'
  have e1:=sC 0 (.inr ⟨by omega,rfl⟩);have e2:=up _ h (sO _ (.inr ⟨by omega,(by omega:dg A k+Qt (dg A) (dg B) k=_)⟩));rw[e2];exact next (k+1) _ (by omega) (by omega) (Xh rfl (by simp[Xm,X8,QE,I,←e1]) (by simp[Xu,XJ,X8,QE,I]) rfl)
 ·obtain rfl:k=A.length:=by omega
  rw[upE rfl,hR];refine A9 rfl ?_;have hl:(Az A B A.length).length=A.length+1:=Fv _ _ _;have:=Nm (e:=I) (d:=0) (l:=Az A B A.length) (H:=[.row 0 (A.length+1) (J0 I 0 (Az A B A.length))]) (id:=0) (ver:=0) (n:=A.length+1) (off:=0) X9 (.inl rfl) (by omega) rfl;rw[hl]at this;exact this
theorem YG (a b:List Int)(ha:JG a)(hb:JG b)(la:a.length<10000000000000)(lb:b.length<10000000000000) :
  ∃L,JG L∧val L=val a+val b∧L.length≤max a.length b.length+1∧Fn Tryz.prog 188 [X8 a,X8 b] (X8 L):=by
 by_cases h:a.length<b.length
 ·exact⟨_,P1 hb ha _,by rw[P2 _ _ _ (N' _) (by omega)];omega,by rw[Fv];omega,lX b a hb ha lb h⟩
 ·exact⟨_,P1 ha hb _,by rw[P2 _ _ _ (N' _) (by omega)],by rw[Fv];omega,lW a b ha hb la (by omega)⟩
theorem VM (neg:Bool)(L:List Int)(h:JG L)(hl:L.length<4611686018427387904):Fn Tryz.prog 182 [.bool neg,X8 L] (zA (Z9 neg (val L))):=by
 rw[tz h];exact yu neg L hl
theorem Ar (a b:List Int)(i:Nat):(Jp a b i).length=a.length:=Qp _ _
theorem dO (a b:List Int)(i:Nat)(h:i<a.length):(Jp a b i).getD i 0=dg a i-Kk (dg a) (dg b) i:=by
 unfold Jp;rw[D5 _ _ _ h,M_ (by omega),N_ rfl]
theorem T5 (a b:List Int)(i:Nat)(h:i+1<a.length):(Jp a b i).getD (i+1) 0=dg a (i+1):=by
 unfold Jp;rw[D5 _ _ _ h,M_ (by omega),M_ (by omega)]
theorem VK (a b:List Int)(i:Nat)(h:i<a.length){x:Int}(hx:x=BT (dg a) (dg b) i) (hc:Kk (dg a) (dg b) (i+1)=0):(Jp a b i).set i x=Jp a b (i+1):=by
 unfold Jp;rw[BO _ _ _ _ h];refine Zl fun q _=>?_
 by_cases e:q=i
 ·subst e;rw[N_ rfl,N_ (by omega),hx]
 ·rw[M_ e]
  by_cases h1:q<i
  ·rw[N_ h1,N_ (by omega)]
  ·rw[M_ h1,M_ e,M_ (by omega)]
   by_cases h2:q=i+1
   ·rw[N_ h2,hc,h2];omega
   ·rw[M_ h2]
theorem T6 (a b:List Int)(i:Nat)(h:i+1<a.length){x y:Int}(hx:x=BT (dg a) (dg b) i) (hc:Kk (dg a) (dg b) (i+1)=1) (hy:y=dg a (i+1)-1):((Jp a b i).set i x).set (i+1) y=Jp a b (i+1):=by
 unfold Jp;rw[BO _ _ _ _ (by omega),BO _ _ _ _ h];refine Zl fun q _=>?_
 by_cases e:q=i+1
 ·subst e;rw[N_ rfl,M_ (by omega),N_ rfl,hc,hy]
 ·rw[M_ e]
  by_cases e2:q=i
  ·subst e2;rw[N_ rfl,N_ (by omega),hx]
  ·rw[M_ e2]
   by_cases h1:q<i
   ·rw[N_ h1,N_ (by omega)]
   ·rw[M_ h1,M_ e2,M_ (by omega),M_ e]
theorem mQ {a b:List Int}(ha:JG a)(hb:JG b)(hl:b.length≤a.length)(h:val b≤val a):Kk (dg a) (dg b) a.length=0 :=
 aj (fun i _=>Qn ha i) (fun i _=>Qn hb i) (by rw[EV b _ hl,EV a _ (N' _)];exact h)
theorem lf (a b:List Int)(ha:JG a)(hb:JG b)(la:a.length<10000000000000)(hl:b.length≤a.length)(h:val b≤val a):Fn Tryz.prog 190 [X8 a,X8 b] (X8 (A6 a b)):=by
 obtain⟨R,hR⟩:∃R,R=X8 (A6 a b):=⟨_,rfl⟩
 rw[←hR];have hR2:A_ R:=hR▸Xc _;refine Fq Tryz.call190 Tryz.func190 7 [14,15] [] [] (by simp[KJ]) (Xk ?_);simp(maxSteps:=999999)only[P',↓X6,wA,seval,zA,wN];refine⟨⟨by omega,by omega⟩,?_⟩;refine Xi (fun k:Nat=>⟨7,[14,15],[X8 a,X8 b,.any,.any,.sl 0 0 (fun _=>.any) true,.osl 0 0 1 0 a.length,.any],
  [(14,I a.length),(15,I k)],[.row 0 a.length (J0 I 0 (Jp a b k))]⟩) (fun k=>k≤a.length) (fun k=>a.length-k) 0 (by omega)
  ?_ ?_
 ·refine(Zh 0 a.length (J0 I 0 (Jp a b 0)) rfl (N' _) ?_).trans (Xh rfl ?_ ?_ ?_)
  ·intro j hj
   unfold Mj;rw[N_ (by omega),T7];rfl
  ·simp[Xm,X8,QE,I]
  ·simp[Xu,XJ,X8,QE,I]
  ·rfl
 intro k hk next
 have w1:=wj k (by omega);by_cases hk2:k<a.length
 ·have TAn:=mQ ha hb hl h
  have b1:=HC (dg a) (dg b) k;have b2:=Qn ha k;have b3:=Qn hb k;have b4:=Qn ha (k+1);have eB:b.getD k 0=dg b k:=rfl;have eM:=dO a b k hk2;have eS:∀x,((Jp a b k).set k x).getD k 0=x:=fun x=>by rw[QK _ _ _ _ (by rw[Ar];exact hk2),N_ rfl]
  have hU:∀x:Int,Ek (J0 I 0 (Jp a b k)) k (.int .i64 x)=J0 I 0 ((Jp a b k).set k x):=fun x=>ZY _ _ _ (by rw[Ar];exact hk2)
  have hU2:∀x y:Int,Ek (J0 I 0 ((Jp a b k).set k x)) k (.int .i64 y)=J0 I 0 ((Jp a b k).set k y):=fun x y=>by rw[ZY _ _ _ (by rw[V_,Ar];exact hk2),ZBl]
  have e1:((k:Int)<a.length)=True:=K_ (by omega);have e2:(k<a.length)=True:=K_ hk2;have hs1:dg a k-dg b k-Kk (dg a) (dg b) k<0→Kk (dg a) (dg b) (k+1)=1∧dg a k-dg b k-Kk (dg a) (dg b) k+1000000000=BT (dg a) (dg b) k:=fun h=>⟨by simp only[Kk];rw[N_ h],by unfold BT;rw[N_ h]⟩
  have hs0:¬dg a k-dg b k-Kk (dg a) (dg b) k<0→Kk (dg a) (dg b) (k+1)=0∧dg a k-dg b k-Kk (dg a) (dg b) k=BT (dg a) (dg b) k:=fun h=>⟨by simp only[Kk];rw[M_ h],by unfold BT;rw[M_ h]⟩
  have nB:¬k<b.length→dg b k=0:=fun h=>I2 (by omega)
  have TAy:Kk (dg a) (dg b) (k+1)=1→k+1<a.length:=fun h1=>by
   apply X_;intro h2;rw[show k+1=a.length by omega,TAn]at h1;omega
  have up2:∀x:Int,k+1<a.length→x=BT (dg a) (dg b) k→Kk (dg a) (dg b) (k+1)=1→Ek (J0 I 0 ((Jp a b k).set k x)) (k+1) (.int .i64 (Q_.wrap (((Jp a b k).set k x).getD (k+1) 0-1)))=J0 I 0 (Jp a b (k+1)):=fun x hr hx hc=>by
   rw[QK _ _ _ _ (by rw[Ar];exact hk2),M_ (by omega),T5 a b k hr];have w:Q_.wrap (dg a (k+1)-1)=dg a (k+1)-1:=by unfold Qk at b4;rw[M'];omega
   rw[w,ZY _ _ _ (by rw[V_,Ar];exact hr),T6 a b k hr hx hc rfl]
  have up1:∀x:Int,x=BT (dg a) (dg b) k→Kk (dg a) (dg b) (k+1)=0→(Jp a b k).set k x=Jp a b (k+1):=fun x hx hc=>VK a b k hk2 hx hc
  unfold Qk at b2 b3 b4;generalize hA:dg a k=A at *;generalize hB:dg b k=B at *;generalize hC:Kk (dg a) (dg b) k=C at *;have w2:Q_.wrap (A-C-B)=A-C-B:=by rw[M'];omega
  have w3:Q_.wrap (A-C-B+1000000000)=A-C-B+1000000000:=by rw[M'];omega
  have w4:Q_.wrap (A-C+1000000000)=A-C+1000000000:=by rw[M'];omega
  refine Xk ?_;simp(maxSteps:=999999)only[w1,w2,w3,w4,e1,e2,eM,eB,hB,eS,hU,hU2,↓X6,wA,seval,zA,wN];have TC6:(Jp a b k).set k (A-C)=Jp a b k:=by
   refine ZAg fun q=>?_
   rw[List.getElem?_set];by_cases e:k=q
   ·subst e
    rw[N_ rfl,N_ (by rw[Ar];exact hk2),←eM,K',U_ (by rw[Ar];exact hk2)];rfl
   ·rw[M_ e]
  refine⟨fun hb'=>⟨hb',hb',by omega,fun hc=>?_,fun hc=>?_⟩,fun hb'=>⟨fun hc=>?_,fun hc=>?_⟩⟩
  ·obtain⟨s1,s2⟩:=hs1 (by omega)
   have hr:=TAy s1;refine⟨by omega,hr,hr,hr,by omega,?_⟩;rw[up2 _ hr (by omega) s1];exact next (k+1) _ (by omega) (by omega) (Xh rfl (by simp[Xm,X8,QE,I]) (by simp[Xu,XJ,X8,QE,I]) rfl)
  ·obtain⟨s1,s2⟩:=hs0 (by omega)
   rw[up1 _ (by omega) s1];exact next (k+1) _ (by omega) (by omega) (Xh rfl (by simp[Xm,X8,QE,I]) (by simp[Xu,XJ,X8,QE,I]) rfl)
  ·have nB':=nB hb'
   obtain⟨s1,s2⟩:=hs1 (by omega);have hr:=TAy s1;refine⟨by omega,hr,hr,hr,by omega,?_⟩;rw[up2 _ hr (by omega) s1];exact next (k+1) _ (by omega) (by omega) (Xh rfl (by simp[Xm,X8,QE,I]) (by simp[Xu,XJ,X8,QE,I]) rfl)
  ·have nB':=nB hb'
   obtain⟨s1,s2⟩:=hs0 (by omega);have:=up1 (A-C) (by omega) s1;rw[TC6]at this;rw[this];exact next (k+1) _ (by omega) (by omega) (Xh rfl (by simp[Xm,X8,QE,I]) (by simp[Xu,XJ,X8,QE,I]) rfl)
 ·obtain rfl:k=a.length:=by omega
  refine Xk ?_;simp(maxSteps:=999999)only[↓X6,wA,seval,zA,wN];rw[hR];refine A9 rfl (Bp X9 rfl rfl (Qp _ _).symm (by rw[VJ]) (ZCA (Qp _ _)))
theorem MT (a b:List Int)(ha:JG a)(hb:JG b)(la:a.length<10000000000000)(hl:b.length≤a.length)(h:val b≤val a) :
  ∃L,JG L∧val L=val a-val b∧L.length≤a.length∧Fn Tryz.prog 190 [X8 a,X8 b] (X8 L) :=
 ⟨_,Cl ha hb,Cm ha hb hl h,ZCA (Qp _ _),lf a b ha hb la hl h⟩
def bl (z:Int):Nat:=(Xb z.natAbs).length
theorem Ey {n k:Nat}(h:(n:Int)<pw k):(Xb n).length≤k:=by
 apply X_;intro h2;have hne:Xb n≠[]:=fun e=>by rw[e]at h2;simp at h2
 have h3:=Df (Q6 n) hne;rw[XG]at h3;have h4:=CO (show k≤(Xb n).length-1 by omega);omega
theorem PZ (n:Nat):(n:Int)<pw (Xb n).length:=by
 have:=Aa (XZ n);rwa[XG]at this
theorem GE {z:Int}{k:Nat}(h:(z.natAbs:Int)<pw k):bl z≤k:=Ey h
theorem On (z:Int):(z.natAbs:Int)<pw (bl z):=PZ _
theorem iL (z:Int):bl (-z)=bl z:=by unfold bl;rw[Int.natAbs_neg]
theorem Jd {y z:Int}(h:y.natAbs≤z.natAbs):bl y≤bl z:=GE (by have:=On z;omega)
theorem V7 (x y:Int):bl (x+y)≤max (bl x) (bl y)+1:=by
 refine GE ?_;have h1:=On x;have h2:=On y;have h3:=CO (Nat.le_max_left (bl x) (bl y));have h4:=CO (Nat.le_max_right (bl x) (bl y));have h5:((x+y).natAbs:Int)≤x.natAbs+y.natAbs:=by omega
 simp only[pw];omega
theorem K5 (x y:Int):bl (x*y)≤bl x+bl y:=by
 refine GE ?_;rw[ZBg,DS];have h1:=On x;have h2:=On y
 push_cast
 have h3:(x.natAbs:Int)*y.natAbs≤x.natAbs*pw (bl y):=W_ (by omega) (by omega);have h4:(x.natAbs:Int)*pw (bl y)<pw (bl x)*pw (bl y):=ZBy h1 (JI _);omega
theorem Hw (x:Int):Z9 (decide (x<0)) x.natAbs=x:=by
 unfold Z9;by_cases h:x<0
 ·rw[N_ (Y' h)];omega
 ·rw[M_ (by simpa using h)];omega
def room:Nat:=1000000000000
theorem ie (x y:Int)(hx:bl x<room)(hy:bl y<room):Fn Tryz.prog 109 [zA x,zA y] (zA (x+y)):=by
 obtain⟨R,hR⟩:∃R,R=zA (x+y):=⟨_,rfl⟩
 have sR:A_ R:=hR▸XT _;unfold bl room at hx hy;have dx:=XZ x.natAbs;have dy:=XZ y.natAbs;have vx:=XG x.natAbs;have vy:=XG y.natAbs;have p1:(x<0↔y<0)→∃L,Fn Tryz.prog 188 [X8 (Xb x.natAbs),X8 (Xb y.natAbs)] (X8 L)∧Fn Tryz.prog 182 [.bool (decide (x<0)),X8 L] R:=fun h=>by
  obtain⟨L,l1,l2,l3,l4⟩:=YG _ _ dx dy (by omega) (by omega);refine⟨L,l4,?_⟩;have e:Z9 (decide (x<0)) (val L)=x+y:=by
   rw[l2,vx,vy];unfold Z9;by_cases h2:x<0
   ·rw[N_ (Y' h2)];omega
   ·rw[M_ (by simpa using h2)];omega
  have:=VM (decide (x<0)) L l1 (by omega);rwa[e,←hR]at this
 have cmp:=DH _ _ (Q6 x.natAbs) (Q6 y.natAbs) (by omega);rw[vx,vy]at cmp;have p2:¬ (x<0↔y<0)→((x.natAbs:Int)-y.natAbs).sign<0→∃L,Fn Tryz.prog 190 [X8 (Xb y.natAbs),X8 (Xb x.natAbs)] (X8 L)∧Fn Tryz.prog 182 [.bool (decide (y<0)),X8 L] R:=fun h hc=>by
  have hlt:(x.natAbs:Int)-y.natAbs<0:=ZBI.1 hc;have hl:(Xb x.natAbs).length≤(Xb y.natAbs).length:=Jd (show x.natAbs≤y.natAbs by omega);obtain⟨L,l1,l2,l3,l4⟩:=MT _ _ dy dx (by omega) hl (by omega);refine⟨L,l4,?_⟩;have e:Z9 (decide (y<0)) (val L)=x+y:=by
   rw[l2,vx,vy];unfold Z9;by_cases h2:y<0
   ·rw[N_ (Y' h2)];omega
   ·rw[M_ (by simpa using h2)];omega
  have:=VM (decide (y<0)) L l1 (by omega);rwa[e,←hR]at this
 have p3:¬ (x<0↔y<0)→¬ ((x.natAbs:Int)-y.natAbs).sign<0→∃L,Fn Tryz.prog 190 [X8 (Xb x.natAbs),X8 (Xb y.natAbs)] (X8 L)∧Fn Tryz.prog 182 [.bool (decide (x<0)),X8 L] R:=fun h hc=>by
  have hlt:¬ (x.natAbs:Int)-y.natAbs<0:=fun h=>hc (ZBI.2 h)
  have hl:(Xb y.natAbs).length≤(Xb x.natAbs).length:=Jd (show y.natAbs≤x.natAbs by omega);obtain⟨L,l1,l2,l3,l4⟩:=MT _ _ dx dy (by omega) hl (by omega);refine⟨L,l4,?_⟩;have e:Z9 (decide (x<0)) (val L)=x+y:=by
   rw[l2,vx,vy];unfold Z9;by_cases h2:x<0
   ·rw[N_ (Y' h2)];omega
   ·rw[M_ (by simpa using h2)];omega
  have:=VM (decide (x<0)) L l1 (by omega);rwa[e,←hR]at this
 rw[←hR];refine Fq Tryz.call109 Tryz.func109 6 [] [] [] (by simp[KJ]) (Xk ?_);simp(maxSteps:=999999)only[P',↓X6,wA,seval,zA,wN];refine Qs (fun h=>?_) (fun h=>?_)
 ·obtain⟨L,c1,c2⟩:=p1 (by simpa using h)
  refine X2 c1 rfl ?_;simp only[↓X6,wA,seval,zA,wN];refine X2 c2 rfl ?_;simp only[hR,↓X6,wA,seval,zA,wN];exact Ql rfl Q8 rfl rfl rfl hR sR ⟨X' _,X' _,trivial⟩
 ·have h':¬ (x<0↔y<0):=by simpa using h
  refine X2 cmp rfl ?_;simp only[↓X6,wA,seval,zA,wN];refine⟨fun hc=>?_,fun hc=>?_⟩
  ·obtain⟨L,c1,c2⟩:=p2 h' hc
   refine X2 c1 rfl ?_;simp only[↓X6,wA,seval,zA,wN];refine X2 c2 rfl ?_;simp only[hR,↓X6,wA,seval,zA,wN];exact Ql rfl Q8 rfl rfl rfl hR sR ⟨X' _,X' _,trivial⟩
  ·obtain⟨L,c1,c2⟩:=p3 h' hc
   refine X2 c1 rfl ?_;simp only[↓X6,wA,seval,zA,wN];refine X2 c2 rfl ?_;simp only[hR,↓X6,wA,seval,zA,wN];exact Ql rfl Q8 rfl rfl rfl hR sR ⟨X' _,X' _,trivial⟩
theorem Wf (s:Bool)(l:List Int):A_ (.agg [.bool s,X8 l]):=QD (by simp[Xc,X5])
theorem Ur {H:List AO}{id ver:Nat}{l:List Int}(ho:H[id]?=some (.con ver l.length (J0 I 0 l))):Ko H (.osl id ver 1 0 l.length) (X8 l) :=
 Kh ho (N' _) (fun h=>h) fun _ _=>XC _ _
theorem E8 {m:Nat}{s:AS}(id slot:Nat){ver:Nat}{l:List Int}(ho:s.h[id]?=some (.row ver l.length (J0 I 0 l))) (hs:s.sl.getD slot .any=.osl id ver 1 0 l.length) (hi:slot<s.n0) :
  Sub m s { s with sl:=s.sl.set slot (X8 l),h:=s.h.set id (.con ver l.length (J0 I 0 l)) }:=by
 refine(XB id ho).trans ?_;have hlt:=(R_.1 ho).1;refine Au (s:={ s with h:=s.h.set id (.con ver l.length (J0 I 0 l)) }) slot (X8 l) hi ?_;show Ko _ (s.sl.getD slot .any) _;rw[hs];exact Ur (by simp[hlt])
def ls (a b:List Int)(p:List Int×Nat):Prop :=
 p.2≤a.length∧p.1.length=a.length+b.length∧JG p.1∧(∀j,p.2+b.length≤j→p.1.getD j 0=0)∧val p.1=val (a.take p.2)*val b
def lu (a b O:List Int)(i:Nat)(p:List Int×Int×Nat):Prop :=
 p.2.2≤b.length∧p.1.length=a.length+b.length∧JG p.1∧Qk p.2.1∧(∀j,i+b.length≤j→p.1.getD j 0=0)∧val p.1+p.2.1*pw (i+p.2.2)=val O+dg a i*val (b.take p.2.2)*pw i
theorem OS {a b O:List Int}{i:Nat}{O':List Int}{c:Int}{k:Nat}(ha:JG a)(hb:JG b)(hi:i<a.length)(hk:k<b.length)(h:lu a b O i (O',c,k)) {v:Int} (hv:v=O'.getD (i+k) 0+dg a i*dg b k+c) :
  0≤v∧v<1000000000000000000∧lu a b O i (O'.set (i+k) (v-v/1000000000*1000000000),v/1000000000,k+1):=by
 obtain⟨h1,h2,h3,h4,h5,h6⟩:=h;simp only at h1 h2 h3 h4 h5 h6;have o1:=JR h3 (i+k);have m1:=Ci (Qn ha i) (Qn hb k);unfold Qk at o1 h4;have v0:0≤v:=by omega
 have v1:v<1000000000000000000:=by omega
 refine⟨v0,v1,by simp only;omega,by simp[h2],Fh h3 _ ⟨by omega,by omega⟩,⟨by simp only;omega,by simp only;omega⟩,fun j hj=>?_,?_⟩
 ·simp only at hj ⊢
  rw[QK _ _ _ _ (by omega),M_ (by omega)];exact h5 j hj
 ·simp only
  rw[CW _ _ _ (by omega),JF b k hk,show i+(k+1)=(i+k)+1 by omega];have hd:dg b k=b.getD k 0:=rfl;rw[←hd];simp only[pw];generalize v/1000000000=q at *;generalize O'.getD (i+k) 0=o at *;have e:=DS i k;rw[e]at h6 ⊢;generalize pw i=P at *;generalize pw k=Q at *;generalize val (b.take k)=W at *;grind
theorem OR {a b O:List Int}{i:Nat}{O':List Int}{c:Int}(hi:i<a.length)(h0:ls a b (O,i)) (h:lu a b O i (O',c,b.length)):ls a b (O'.set (i+b.length) c,i+1):=by
 obtain⟨h1,h2,h3,h4,h5,h6⟩:=h;simp only at h1 h2 h3 h4 h5 h6;obtain⟨_,_,_,_,g⟩:=h0;simp only at g;refine⟨by simp only;omega,by simp[h2],Fh h3 _ h4,fun j hj=>?_,?_⟩
 ·simp only at hj ⊢
  rw[QK _ _ _ _ (by omega),M_ (by omega)];exact h5 j (by omega)
 ·simp only
  rw[CW _ _ _ (by omega),h5 _ (N' _),JF a i hi];rw[ZAQ]at h6;have hd:dg a i=a.getD i 0:=rfl;rw[←hd];rw[g]at h6;generalize pw i=P at *;generalize pw (i+b.length)=Q at *;generalize val (a.take i)=W at *;grind
theorem qL (sx sy:Bool)(a b:List Int)(ha:JG a)(hb:JG b)(la:a.length<room)(lb:b.length<room) :
  Fn Tryz.prog 102 [.agg [.bool sx,X8 a],.agg [.bool sy,X8 b]] (zA (Z9 (sx != sy) (val a*val b))):=by
 obtain⟨R,hR⟩:∃R,R=zA (Z9 (sx != sy) (val a*val b)):=⟨_,rfl⟩
 have sR:A_ R:=hR▸XT _;unfold room at la lb;rw[←hR];have w0:Q_.wrap ((a.length:Int)+b.length)=((a.length+b.length:Nat):Int):=by rw[M'];omega
 refine Fq Tryz.call102 Tryz.func102 14 [47,48,49,54,55,56] [] [] (by simp[Wf]) (Xk ?_);simp(maxSteps:=999999)only[P',w0,T_,↓X6,wA,seval,zA,wN];refine(fun key=>⟨fun h1=>⟨fun h2=>⟨by omega,by omega,by omega,by omega,?c⟩,fun h2=>⟨⟨by omega,by omega⟩,key⟩⟩,fun h1=>⟨⟨by omega,by omega⟩,key⟩⟩) ?r
 case c =>
  obtain⟨p,rfl⟩:=ZBk.1 (show a.length=1 by omega);obtain⟨q,rfl⟩:=ZBk.1 (show b.length=1 by omega);have hp:=ha p (by simp);have hq:=hb q (by simp);have m1:=Ci hp hq;unfold Qk at hp hq;have e1:ZAh.wrap p=p:=by rw[ZAY];omega
  have e2:ZAh.wrap q=q:=by rw[ZAY];omega
  have e3:ZAh.wrap (p*q)=p*q:=by rw[ZAY];omega
  have c:=ZG (sx != sy) (p*q) (by omega) (by omega);have e4:val [p]*val [q]=p*q:=by simp[val]
  rw[e4]at hR;rw[←hR]at c;simp only[List.getD_cons_zero,e1,e2,e3];have e5:(!sx == sy)=(sx != sy):=by cases sx <;> cases sy <;> rfl
  rw[e5];refine X2 c rfl ?_;simp only[hR,↓X6,wA,seval,zA,wN];exact Ql rfl Q8 rfl rfl rfl hR sR ⟨X' _,X' _,trivial⟩
 refine Xi (fun p:List Int×Nat=>⟨14,[47,48,49,54,55,56],[.any,.any,.ref 0 0 0,.ref 1 0 0,.ref 2 0 0,X8 a,X8 b,.osl 3 0 1 0 (a.length+b.length),.any,.any,.any,.any,.any,.any],
  [(47,X8 a),(48,I a.length),(49,I p.2)],[.row 0 2 (Xf [.bool sx,X8 a]),.row 0 2 (Xf [.bool sy,X8 b]),.row 0 2 (Xf [.bool false,.sl 0 0 (fun _=>.any) true]),.row 0 (a.length+b.length) (J0 I 0 p.1)]⟩)
  (ls a b) (fun p=>a.length-p.2) (ZAJ (a.length+b.length) 0,0) ?_ ?_ ?_
 ·refine⟨p_ _,by simp,fun d hd=>?_,fun j _=>?_,?_⟩
  ·rw[(ZD9.1 hd).2];exact⟨by omega,by omega⟩
  ·simp[K',ZAs]
   split <;> rfl
  ·simp only[List.take_zero];rw[FH];simp[val]
 ·refine(Zh 3 (a.length+b.length) (J0 I 0 (ZAJ (a.length+b.length) 0)) rfl (N' _) ?_).trans (Xh rfl ?_ ?_ ?_)
  ·intro j hj
   rw[Bq];simp[K',ZAs,hj,I]
  ·simp[Xm,X8,QE,I]
  ·simp[Xu,XJ,X8,QE,I]
  ·rfl
 rintro⟨O,i⟩ hO next
 obtain⟨g1,g2,g3,g4,g5⟩:=hO;simp only at g1 g2 g3 g4 g5;have w1:=wj i (by omega);by_cases hi:i<a.length
 ·have e1:((i:Int)<a.length)=True:=K_ (by omega)
  have e2:(i<a.length)=True:=K_ hi;have eA:a.getD i 0=dg a i:=rfl;refine Xk ?_;simp(maxSteps:=999999)only[w1,e1,e2,eA,↓X6,wA,seval,zA,wN];have hO:ls a b (O,i):=⟨g1,g2,g3,g4,g5⟩
  refine Xi (fun p:List Int×Int×Nat=>⟨14,[47,48,49,54,55,56],[.any,.any,.ref 0 0 0,.ref 1 0 0,.ref 2 0 0,X8 a,X8 b,.osl 3 0 1 0 (a.length+b.length),I i,I (dg a i),I p.2.1,.any,.any,.any],
   [(54,X8 b),(55,I b.length),(56,I p.2.2),(47,X8 a),(48,I a.length),(49,I i)],[.row 0 2 (Xf [.bool sx,X8 a]),.row 0 2 (Xf [.bool sy,X8 b]),.row 0 2 (Xf [.bool false,.sl 0 0 (fun _=>.any) true]),.row 0 (a.length+b.length) (J0 I 0 p.1)]⟩)
   (lu a b O i) (fun p=>b.length-p.2.2) (O,0,0) ⟨p_ _,g2,g3,⟨by simp,by simp⟩,g4,by simp[val]⟩ (Xh rfl (by simp[Xm,X8,QE,I]) (by simp[Xu,XJ,X8,QE,I]) (by simp[X8,QE])) ?_
  rintro⟨O',c,k⟩ hJ TAS;obtain⟨j1,j2,j3,j4,j5,j6⟩:=id hJ;simp only at j1 j2 j3 j4 j5 j6;have w2:=wj k (by omega);by_cases hk:k<b.length
  ·obtain⟨v0,v1,hst⟩:=OS (a:=a) (b:=b) (O:=O) (i:=i) (O':=O') (c:=c) (k:=k) ha hb hi hk hJ rfl
   have o1:=JR j3 (i+k);have m1:=Ci (Qn ha i) (Qn hb k);have eB:b.getD k 0=dg b k:=rfl;have f1:((k:Int)<b.length)=True:=K_ (by omega);have f2:(k<b.length)=True:=K_ hk;have f3:Q_.wrap ((i:Int)+k)=((i+k:Nat):Int):=by rw[M'];omega
   have f4:(i+k<a.length+b.length)=True:=K_ (by omega);have f5:(i+k+1≤a.length+b.length)=True:=K_ (by omega);unfold Qk at o1 j4;have hU:∀x:Int,Ek (J0 I 0 O') (i+k) (.int .i64 x)=J0 I 0 (O'.set (i+k) x):=fun x=>ZY _ _ _ (by omega)
   have q1:Q_.wrap (dg a i*dg b k)=dg a i*dg b k:=by rw[M'];omega
   have q2:Q_.wrap (O'.getD (i+k) 0+dg a i*dg b k)=O'.getD (i+k) 0+dg a i*dg b k:=by rw[M'];omega
   have q3:Q_.wrap (O'.getD (i+k) 0+dg a i*dg b k+c)=O'.getD (i+k) 0+dg a i*dg b k+c:=by rw[M'];omega
   have q4:Q_.wrap ((O'.getD (i+k) 0+dg a i*dg b k+c).tdiv 1000000000)=(O'.getD (i+k) 0+dg a i*dg b k+c)/1000000000:=by
    rw[q_ v0,M'];omega
   have q5:Q_.wrap ((O'.getD (i+k) 0+dg a i*dg b k+c)/1000000000*1000000000)=(O'.getD (i+k) 0+dg a i*dg b k+c)/1000000000*1000000000:=by
    rw[M'];omega
   have q6:Q_.wrap (O'.getD (i+k) 0+dg a i*dg b k+c-(O'.getD (i+k) 0+dg a i*dg b k+c)/1000000000*1000000000)=O'.getD (i+k) 0+dg a i*dg b k+c-(O'.getD (i+k) 0+dg a i*dg b k+c)/1000000000*1000000000:=by
    rw[M'];omega
   refine Xk ?_;simp(maxSteps:=999999)only[w2,f1,f2,f3,f4,f5,eB,q1,q2,q3,q4,q5,q6,hU,T_,zU,↓X6,wA,seval,zA,wN];exact TAS _ _ hst (by simp only;omega) (Xh rfl (by simp[Xm,X8,QE,I]) (by simp[Xu,XJ,X8,QE,I]) (by simp[X8,QE]))
  ·obtain rfl:k=b.length:=by omega
   have f3:Q_.wrap ((i:Int)+b.length)=((i+b.length:Nat):Int):=by rw[M'];omega
   have f4:(i+b.length<a.length+b.length)=True:=K_ (by omega);have f5:(i+b.length+1≤a.length+b.length)=True:=K_ (by omega);have hU:∀x:Int,Ek (J0 I 0 O') (i+b.length) (.int .i64 x)=J0 I 0 (O'.set (i+b.length) x):=fun x=>ZY _ _ _ (by omega)
   refine Xk ?_;simp(maxSteps:=999999)only[w1,w2,f3,f4,f5,hU,T_,zU,ZAE,↓X6,wA,seval,zA,wN];exact next _ _ (OR hi hO hJ) (by simp only;omega) (Xh rfl (by simp[Xm,X8,QE,I]) (by simp[Xu,XJ,X8,QE,I]) (by simp[X8,QE]))
 ·obtain rfl:i=a.length:=by omega
  rw[ZAQ]at g5;have c:=VM (sx != sy) O g3 (by omega);rw[g5,←hR]at c;have e5:(!sx == sy)=(sx != sy):=by cases sx <;> cases sy <;> rfl
  have TBx:Sub (JK Tryz.prog Tryz.f102 [] [] R).base (⟨14,[47,48,49,54,55,56],[.any,.any,.ref 0 0 0,.ref 1 0 0,.ref 2 0 0,X8 a,X8 b,.osl 3 0 1 0 (a.length+b.length),.any,.any,.any,.any,.any,.any],
    [(47,X8 a),(48,I a.length),(49,I a.length)],[.row 0 2 (Xf [.bool sx,X8 a]),.row 0 2 (Xf [.bool sy,X8 b]),.row 0 2 (Xf [.bool false,.sl 0 0 (fun _=>.any) true]),.row 0 (a.length+b.length) (J0 I 0 O)]⟩)
    ⟨14,[47,48,49,54,55,56],[.any,.any,.ref 0 0 0,.ref 1 0 0,.ref 2 0 0,X8 a,X8 b,X8 O,.any,.any,.any,.any,.any,.any],
    [(47,X8 a),(48,I a.length),(49,I a.length)],[.row 0 2 (Xf [.bool sx,X8 a]),.row 0 2 (Xf [.bool sy,X8 b]),.row 0 2 (Xf [.bool false,.sl 0 0 (fun _=>.any) true]),.con 0 O.length (J0 I 0 O)]⟩:=by
   rw[←g2];exact E8 3 7 rfl rfl (by simp)
  refine e_ ?_ TBx;refine Xk ?_;simp(maxSteps:=999999)only[ZAE,zZ,e5,↓X6,wA,seval,zA,wN];refine X2 c rfl ?_;simp only[hR,↓X6,wA,seval,zA,wN];exact Ql rfl Q8 rfl rfl rfl hR sR ⟨X' _,X' _,trivial⟩
theorem EG (x y:Int)(hx:bl x<room)(hy:bl y<room):Fn Tryz.prog 102 [zA x,zA y] (zA (x*y)):=by
 have h:=qL (decide (x<0)) (decide (y<0)) _ _ (XZ x.natAbs) (XZ y.natAbs) hx hy;have e:Z9 (decide (x<0) != decide (y<0)) (val (Xb x.natAbs)*val (Xb y.natAbs))=x*y:=by
  rw[XG,XG];have hx':=Hw x;have hy':=Hw y
  conv=>rhs;rw[←hx',←hy']
  generalize (x.natAbs:Int)=p;generalize (y.natAbs:Int)=q;unfold Z9;by_cases h1:x<0 <;> by_cases h2:y<0 <;> simp[h1,h2,Int.neg_mul,Int.mul_neg]
 rw[e]at h;exact h
def DU (a:List Int)(b:Int)(k:Nat):List Int:=BD (fun j=>if k≤j then AX a b j else 0) a.length
theorem Tp (a:List Int)(b:Int)(k:Nat):(DU a b k).length=a.length:=Qp _ _
theorem Tq (a:List Int)(b:Int)(k:Nat)(h:k<a.length){x:Int}(hx:x=AX a b k):(DU a b (k+1)).set k x=DU a b k:=by
 unfold DU;rw[BO _ _ _ _ h];refine Zl fun q _=>?_
 by_cases e:q=k
 ·subst e;rw[N_ rfl,N_ (N' _),hx]
 ·rw[M_ e]
  by_cases h1:k≤q
  ·rw[N_ h1,N_ (by omega)]
  ·rw[M_ h1,M_ (by omega)]
theorem P8 (a:List Int)(b:Int):DU a b 0=BD (AX a b) a.length:=Zl fun q _=>N_ (p_ _)
theorem U2 (a:List Int)(b:Int)(ha:JG a)(hb:Qk b)(hb0:b≠0)(la:a.length<10000000000000) :
  Fn Tryz.prog 238 [X8 a,I b] (.tup [X8 (BD (AX a b) a.length),I (val a%b)]):=by
 obtain⟨Q,hQ⟩:∃Q,Q=X8 (BD (AX a b) a.length):=⟨_,rfl⟩
 have sQ:A_ Q:=hQ▸Xc _;rw[←hQ];unfold Qk at hb;refine Fq Tryz.call238 Tryz.func238 10 [] [] [] (by simp[KJ]) (Xk ?_);simp(maxSteps:=999999)only[P',↓X6,wA,seval,zA,wN];refine⟨⟨by omega,by omega⟩,?_⟩;have w0:Q_.wrap ((a.length:Int)-1)=(a.length:Int)-1:=by rw[M'];omega
 rw[w0];refine Xi (fun k:Nat=>⟨10,[],[X8 a,I b,.any,.any,.sl 0 0 (fun _=>.any) true,I 0,.osl 0 0 1 0 a.length,I (Kw a b k),I ((k:Int)-1),.any],
  [],[.row 0 a.length (J0 I 0 (DU a b k))]⟩) (fun k=>k≤a.length) (fun k=>k) a.length (N' _)
  ?_ ?_
 ·refine(Zh 0 a.length (J0 I 0 (DU a b a.length)) rfl (N' _) ?_).trans (Xh rfl ?_ ?_ ?_)
  ·intro j hj
   have:(DU a b a.length).getD j 0=0:=by unfold DU;rw[D5 _ _ _ hj,M_ (by omega)]
   rw[Bq,this];rfl
  ·simp[Xm,X8,QE,I,Nc]
  ·simp[Xu]
  ·rfl
 intro k hk next
 cases k with
 |zero =>
  have e1:((0:Int)≤0-1)=False:=Q' (by omega);refine Xk ?_;simp(maxSteps:=999999)only[e1,↓X6,wA,seval,zA,wN];have e0:Kw a b 0=val a%b:=by unfold Kw;rw[ZBf]
  rw[e0];refine rj rfl (Dv ⟨?_,XU (X9 _) rfl,trivial⟩);rw[hQ];exact Bp X9 rfl rfl (Qp _ _).symm (by rw[P8]) (ZCA (Qp _ _))
 |succ k =>
  have e1:((k+1:Nat):Int)-1=(k:Int):=by omega
  have w1:Q_.wrap ((k:Int)-1)=(k:Int)-1:=by rw[M'];omega
  have e2:((k:Int)<a.length)=True:=K_ (by omega);have e3:(k<a.length)=True:=K_ (by omega);have e4:(b=0)=False:=Q' hb0;have r1:0≤Kw a b (k+1):=ZBr _ hb0;have r2:Kw a b (k+1)<b:=ZBN _ (by omega);have d1:=Qn ha k;unfold Qk at d1;have eA:a.getD k 0=dg a k:=rfl;have q1:Q_.wrap (Kw a b (k+1)*1000000000)=Kw a b (k+1)*1000000000:=by rw[M'];omega
  have q2:Q_.wrap (Kw a b (k+1)*1000000000+dg a k)=Kw a b (k+1)*1000000000+dg a k:=by rw[M'];omega
  have v0:0≤Kw a b (k+1)*1000000000+dg a k:=by omega
  have d2:=EL (a:=a) (b:=b) ha (by omega) k;have eq:AX a b k=(Kw a b (k+1)*1000000000+dg a k)/b:=rfl;unfold Qk at d2;have q3:Q_.wrap ((Kw a b (k+1)*1000000000+dg a k).tdiv b)=AX a b k:=by
   rw[q_ v0,←eq,M'];omega
  have q4:(Kw a b (k+1)*1000000000+dg a k).tmod b=Kw a b k:=by
   rw[ZAA v0,Il a b k (by omega)];rfl
  have hU:Ek (J0 I 0 (DU a b (k+1))) k (.int .i64 (AX a b k))=J0 I 0 (DU a b k):=by
   rw[ZY _ _ _ (by rw[Tp];omega),Tq a b k (by omega) rfl]
  refine Xk ?_;simp(maxSteps:=999999)only[e1,w1,e2,e3,e4,eA,q1,q2,q3,q4,hU,↓X6,wA,seval,zA,wN];exact⟨by omega,next k _ (by omega) (by omega) (ZS (by simp[Xm,X8,QE,I]) rfl)⟩
def KO (a:List Int)(m:Int)(k:Nat):List Int:=BD (fun j=>if j<k then Gm (dg a) m j else 0) (a.length+1)
theorem E2 (a:List Int)(m:Int)(k:Nat):(KO a m k).length=a.length+1:=Qp _ _
def Jq (a:List Int)(m:Int):List Int:=BD (Gm (dg a) m) a.length ++ [Z3 (dg a) m a.length]
theorem Cw (a:List Int)(m:Int):(Jq a m).length=a.length+1:=by simp[Jq,Qp]
theorem Nj (a:List Int)(m:Int):val (Jq a m)=val a*m:=by
 unfold Jq;rw[EZ,Qp,HK,Ys,EV a _ (N' _)]
theorem Ni {a:List Int}{m:Int}(ha:JG a)(hm:Qk m):JG (Jq a m):=by
 unfold Jq;exact Lo.2 ⟨DK fun i _=>lz (Qn ha) hm i,Zw.2 ⟨Dn (Qn ha) hm _,CJ⟩⟩
theorem Nl (a:List Int)(m:Int)(k:Nat)(h:k<a.length){x:Int}(hx:x=Gm (dg a) m k):(KO a m k).set k x=KO a m (k+1):=by
 unfold KO;rw[BO _ _ _ _ (by omega)];refine Zl fun q _=>?_
 by_cases e:q=k
 ·subst e;rw[N_ rfl,N_ (by omega),hx]
 ·rw[M_ e]
  by_cases h1:q<k
  ·rw[N_ h1,N_ (by omega)]
  ·rw[M_ h1,M_ (by omega)]
theorem Nk (a:List Int)(m:Int):(KO a m a.length).set a.length (Z3 (dg a) m a.length)=Jq a m:=by
 unfold KO Jq;rw[BO _ _ _ _ (by omega),EX];congr 1
 ·refine Zl fun q hq=>?_
  rw[M_ (by omega),N_ hq]
 ·simp
theorem fA (a:List Int)(m:Int)(ha:JG a)(hm:Qk m)(la:a.length<10000000000) :
  Fn Tryz.prog 252 [X8 a,I m] (X8 (Jq a m)):=by
 have w0:Q_.wrap ((a.length:Int)+1)=((a.length+1:Nat):Int):=by rw[M'];omega
 refine Fq Tryz.call252 Tryz.func252 10 [14,15,16] [] [] (by simp[Xc,X9]) (Xk ?_);simp(maxSteps:=999999)only[P',w0,T_,↓X6,wA,seval,zA,wN];refine⟨⟨by omega,by omega⟩,?_⟩;refine Xi (fun k:Nat=>⟨10,[14,15,16],[X8 a,I m,.any,.any,.sl 0 0 (fun _=>.any) true,.osl 0 0 1 0 (a.length+1),I (Z3 (dg a) m k),.any,.any,.any],
  [(14,X8 a),(15,I a.length),(16,I k)],[.row 0 (a.length+1) (J0 I 0 (KO a m k))]⟩) (fun k=>k≤a.length) (fun k=>a.length-k) 0 (by omega)
  ?_ ?_
 ·refine(Zh 0 (a.length+1) (J0 I 0 (KO a m 0)) rfl (N' _) ?_).trans (Xh rfl ?_ ?_ ?_)
  ·intro j hj
   have:(KO a m 0).getD j 0=0:=by unfold KO;rw[D5 _ _ _ hj,M_ (by omega)]
   rw[Bq,this];rfl
  ·simp[Xm,X8,QE,I,Z3]
  ·simp[Xu,XJ,X8,QE,I]
  ·rfl
 intro k hk next
 have w1:=wj k (by omega);have c1:=Dn (Qn ha) hm k;have m1:=Ci (Qn ha k) hm;have eA:a.getD k 0=dg a k:=rfl;unfold Qk at c1;have v0:0≤dg a k*m+Z3 (dg a) m k:=by omega
 have eC:(dg a k*m+Z3 (dg a) m k)/1000000000=Z3 (dg a) m (k+1):=rfl;have eO:(dg a k*m+Z3 (dg a) m k)%1000000000=Gm (dg a) m k:=rfl;have c2:=Dn (Qn ha) hm (k+1);unfold Qk at c2;have q1:Q_.wrap (dg a k*m)=dg a k*m:=by rw[M'];omega
 have q2:Q_.wrap (dg a k*m+Z3 (dg a) m k)=dg a k*m+Z3 (dg a) m k:=by rw[M'];omega
 have q3:Q_.wrap ((dg a k*m+Z3 (dg a) m k).tdiv 1000000000)=Z3 (dg a) m (k+1):=by
  rw[q_ v0,eC,M'];omega
 have q4:(dg a k*m+Z3 (dg a) m k).tmod 1000000000=Gm (dg a) m k:=by
  rw[ZAA v0,eO]
 by_cases hk2:k<a.length
 ·have e1:((k:Int)<a.length)=True:=K_ (by omega)
  have e2:(k<a.length)=True:=K_ hk2;have e3:(k<a.length+1)=True:=K_ (by omega);have e4:(k+1≤a.length+1)=True:=K_ (by omega);have e5:(k≤a.length)=True:=K_ (by omega);have hU:Ek (J0 I 0 (KO a m k)) k (.int .i64 (Gm (dg a) m k))=J0 I 0 (KO a m (k+1)):=by
   rw[ZY _ _ _ (by rw[E2];omega),Nl a m k hk2 rfl]
  refine Xk ?_;simp(maxSteps:=999999)only[w1,e1,e2,e3,e4,e5,eA,q1,q2,q3,q4,hU,zU,↓X6,wA,seval,zA,wN];exact next (k+1) _ (by omega) (by omega) (Xh rfl (by simp[Xm,X8,QE,I]) (by simp[Xu,XJ,X8,QE,I]) rfl)
 ·obtain rfl:k=a.length:=by omega
  have hU:Ek (J0 I 0 (KO a m a.length)) a.length (.int .i64 (Z3 (dg a) m a.length))=J0 I 0 (Jq a m):=by
   rw[ZY _ _ _ (by rw[E2];omega),Nk]
  have e3:(a.length<a.length+1)=True:=K_ (by omega);have e4:(a.length+1≤a.length+1)=True:=K_ (by omega);refine Xk ?_;simp(maxSteps:=999999)only[w1,e3,e4,hU,ZAE,zZ,↓X6,wA,seval,zA,wN];exact A9 rfl (Bp X9 rfl rfl (Cw _ _).symm rfl (ZCA (Cw _ _)))
theorem W6 (a:List Int)(m:Int)(ha:JG a)(hm:Qk m)(la:a.length<10000000000) :
  G' Tryz.prog 252 [X8 a,I m] [] (.osl 0 0 1 0 (a.length+1)) [.row 0 (a.length+1) (J0 I 0 (Jq a m))]:=by
 have w0:Q_.wrap ((a.length:Int)+1)=((a.length+1:Nat):Int):=by rw[M'];omega
 refine G'.intro (fn:=Tryz.f252) Tryz.call252 Tryz.func252 rfl mixed 10 [14,15,16] [] [] (by kernel_rfl) (L' rfl) (Xk ?_);simp(maxSteps:=999999)only[P',w0,T_,↓X6,wA,seval,zA,wN];refine⟨⟨by omega,by omega⟩,?_⟩;refine Xi (fun k:Nat=>⟨10,[14,15,16],[X8 a,I m,.any,.any,.sl 0 0 (fun _=>.any) true,.osl 0 0 1 0 (a.length+1),I (Z3 (dg a) m k),.any,.any,.any],
  [(14,X8 a),(15,I a.length),(16,I k)],[.row 0 (a.length+1) (J0 I 0 (KO a m k))]⟩) (fun k=>k≤a.length) (fun k=>a.length-k) 0 (by omega)
  ?_ ?_
 ·refine(Zh 0 (a.length+1) (J0 I 0 (KO a m 0)) rfl (N' _) ?_).trans (Xh rfl ?_ ?_ ?_)
  ·intro j hj
   have:(KO a m 0).getD j 0=0:=by unfold KO;rw[D5 _ _ _ hj,M_ (by omega)]
   rw[Bq,this];rfl
  ·simp[Xm,X8,QE,I,Z3]
  ·simp[Xu,XJ,X8,QE,I]
  ·rfl
 intro k hk next
 have w1:=wj k (by omega);have c1:=Dn (Qn ha) hm k;have m1:=Ci (Qn ha k) hm;have eA:a.getD k 0=dg a k:=rfl;unfold Qk at c1;have v0:0≤dg a k*m+Z3 (dg a) m k:=by omega
 have eC:(dg a k*m+Z3 (dg a) m k)/1000000000=Z3 (dg a) m (k+1):=rfl;have eO:(dg a k*m+Z3 (dg a) m k)%1000000000=Gm (dg a) m k:=rfl;have c2:=Dn (Qn ha) hm (k+1);unfold Qk at c2;have q1:Q_.wrap (dg a k*m)=dg a k*m:=by rw[M'];omega
 have q2:Q_.wrap (dg a k*m+Z3 (dg a) m k)=dg a k*m+Z3 (dg a) m k:=by rw[M'];omega
 have q3:Q_.wrap ((dg a k*m+Z3 (dg a) m k).tdiv 1000000000)=Z3 (dg a) m (k+1):=by
  rw[q_ v0,eC,M'];omega
 have q4:(dg a k*m+Z3 (dg a) m k).tmod 1000000000=Gm (dg a) m k:=by
  rw[ZAA v0,eO]
 by_cases hk2:k<a.length
 ·have e1:((k:Int)<a.length)=True:=K_ (by omega)
  have e2:(k<a.length)=True:=K_ hk2;have e3:(k<a.length+1)=True:=K_ (by omega);have e4:(k+1≤a.length+1)=True:=K_ (by omega);have e5:(k≤a.length)=True:=K_ (by omega);have hU:Ek (J0 I 0 (KO a m k)) k (.int .i64 (Gm (dg a) m k))=J0 I 0 (KO a m (k+1)):=by
   rw[ZY _ _ _ (by rw[E2];omega),Nl a m k hk2 rfl]
  refine Xk ?_;simp(maxSteps:=999999)only[w1,e1,e2,e3,e4,e5,eA,q1,q2,q3,q4,hU,zU,↓X6,wA,seval,zA,wN];exact next (k+1) _ (by omega) (by omega) (Xh rfl (by simp[Xm,X8,QE,I]) (by simp[Xu,XJ,X8,QE,I]) rfl)
 ·obtain rfl:k=a.length:=by omega
  have hU:Ek (J0 I 0 (KO a m a.length)) a.length (.int .i64 (Z3 (dg a) m a.length))=J0 I 0 (Jq a m):=by
   rw[ZY _ _ _ (by rw[E2];omega),Nk]
  have e3:(a.length<a.length+1)=True:=K_ (by omega);have e4:(a.length+1≤a.length+1)=True:=K_ (by omega);refine Xk ?_;simp(maxSteps:=999999)only[w1,e3,e4,hU,ZAE,zZ,↓X6,wA,seval,zA,wN];exact Pd rfl rfl rfl
end
end Go.Ab.N
namespace Go.Ab.N
open Go.Ab
open Classical
noncomputable section
theorem fy {b s:Int}(h1:1≤b)(h2:b<1000000000)(hs:s=1000000000/(b+1)):1≤s∧s≤500000000∧500000000≤b*s∧(b+1)*s≤1000000000:=by
 have e:=ZBj 1000000000 (b+1);have r1:=ZBr 1000000000 (show b+1≠0 by omega);have r2:=ZBN 1000000000 (show 0<b+1 by omega);rw[←hs]at e;generalize (1000000000:Int)%(b+1)=r at *;have s1:1≤s:=by
  apply X_;intro h;have:(b+1)*s≤(b+1)*0:=W_ (by omega) (by omega);omega
 have s2:s≤500000000:=by
  apply X_;intro h;have:2*s≤(b+1)*s:=l_ (by omega) (by omega);omega
 refine⟨s1,s2,?_,by omega⟩;apply X_;intro h;have e2:(b+1)*s=b*s+s:=by rw[ZCF,ZCZ]
 by_cases hb:500000000≤b
 ·have:b*1≤b*s:=W_ s1 (by omega)
  omega
 ·have h3:500000000-b+1≤s:=by omega
  have h4:b*(500000000-b+1)≤b*s:=W_ h3 (by omega);have h5:0≤(b-1)*(500000000-b):=ZBO (by omega) (by omega);have h6:b*(500000000-b+1)=(b-1)*(500000000-b)+500000000:=by grind
  omega
theorem kB {W V T top g r v1:Int}(hT:0≤T)(hr:r<v1)(ht:top=g*v1+r)(hW:W<(top+1)*T) (hV:v1*T≤V) (hg:0≤g):W<(g+1)*V:=by
 have h1:(top+1)*T≤((g+1)*v1)*T:=l_ (by rw[ZCF];omega) hT;have h2:(g+1)*(v1*T)≤(g+1)*V:=W_ hV (by omega);rw[ZA7]at h1;omega
theorem Vu {W V P x t g:Int}(hP:0≤P)(hx:t+1≤g*x)(hW:W<(t+1)*P) (hV:x*P≤V) (hg:0≤g):W<g*V:=by
 have h1:(t+1)*P≤(g*x)*P:=l_ hx hP;have h2:g*(x*P)≤g*V:=W_ hV hg;rw[ZA7]at h1;omega
theorem SR {W V P x t g:Int}(hP:0<P)(hx:g*x≤t)(hW:t*P≤W)(hV:V<(x+1)*P) (hg:0≤g) (hgB:g≤1000000000) (hB:1000000000*P≤V):g*V<W+V:=by
 have h1:g*V≤g*((x+1)*P-1):=W_ (by omega) hg;have h2:(g*x)*P≤t*P:=l_ hx (by omega);have h3:g*((x+1)*P-1)=(g*x)*P+g*(P-1):=by grind
 have h4:g*(P-1)≤1000000000*(P-1):=l_ hgB (by omega);omega
def Wj (u v:List Int)(g:Int)(j n:Nat)(p:List Int×Int×Nat):Prop :=
 p.2.2≤n∧p.1.length=u.length∧JG p.1∧0≤p.2.1∧p.2.1≤1000000000∧(∀i,i<j∨j+p.2.2≤i→p.1.getD i 0=u.getD i 0)∧val p.1-p.2.1*pw (j+p.2.2)=val u-g*val (v.take p.2.2)*pw j
theorem fL {u v u':List Int}{g c:Int}{j n i:Nat}(hv:JG v)(hg0:0≤g)(hg:g≤1000000000)(hn:n≤v.length)(hj:j+n<u.length)(hi:i<n)(h:Wj u v g j n (u',c,i)) {w:Int} (hw:w=u'.getD (i+j) 0-g*dg v i-c) :
  -2000000000000000000<w∧w<1000000000∧Wj u v g j n (u'.set (i+j) (w%1000000000),-(w/1000000000),i+1):=by
 obtain⟨h1,h2,h3,h4,h5,h6,h7⟩:=h;simp only at h1 h2 h3 h4 h5 h6 h7;have o1:=JR h3 (i+j);have d1:=Qn hv i;unfold Qk at o1 d1;have m1:0≤g*dg v i:=ZBO hg0 d1.1;have m2:g*dg v i≤1000000000*dg v i:=l_ hg d1.1;refine⟨by omega,by omega,by simp only;omega,by simp[h2],Fh h3 _ ⟨by omega,by omega⟩,by simp only;omega,by simp only;omega,fun k hk=>?_,?_⟩
 ·simp only at hk ⊢
  rw[QK _ _ _ _ (by omega),M_ (by omega)];exact h6 k (by omega)
 ·simp only
  rw[CW _ _ _ (by omega),JF v i (by omega),show j+(i+1)=(j+i)+1 by omega,show i+j=j+i by omega];rw[show i+j=j+i by omega]at hw;have hd:dg v i=v.getD i 0:=rfl;rw[←hd];have e:=DS j i;simp only[pw];rw[e]at h7 ⊢;have e2:=ZBj w 1000000000;generalize w/1000000000=q at *;generalize w%1000000000=r at *;generalize u'.getD (j+i) 0=o at *;generalize pw j=P at *;generalize pw i=Q at *;generalize val (v.take i)=W at *;grind
def ic (u v:List Int)(j n:Nat)(p:List Int×Int×Nat):Prop :=
 p.2.2≤n∧p.1.length=u.length∧(∀i,i≠j+n→Qk (p.1.getD i 0))∧0≤p.2.1∧p.2.1≤1∧(∀i,i<j∨j+p.2.2≤i→p.1.getD i 0=u.getD i 0)∧val p.1+p.2.1*pw (j+p.2.2)=val u+val (v.take p.2.2)*pw j
theorem aQ {u v u':List Int}{c:Int}{j n i:Nat}(hv:JG v)(hn:n≤v.length)(hj:j+n<u.length)(hi:i<n)(h:ic u v j n (u',c,i)) {w:Int} (hw:w=u'.getD (i+j) 0+dg v i+c) :
  0≤w∧w<2000000000∧ic u v j n (u'.set (i+j) (w%1000000000),w/1000000000,i+1):=by
 obtain⟨h1,h2,h3,h4,h5,h6,h7⟩:=h;simp only at h1 h2 h3 h4 h5 h6 h7;have o1:=h3 (i+j) (by omega);have d1:=Qn hv i;unfold Qk at o1 d1;refine⟨by omega,by omega,by simp only;omega,by simp[h2],fun k hk=>?_,by simp only;omega,by simp only;omega,fun k hk=>?_,?_⟩
 ·simp only
  rw[QK _ _ _ _ (by omega)]
  split
  ·exact⟨by omega,by omega⟩
  ·exact h3 k hk
 ·simp only at hk ⊢
  rw[QK _ _ _ _ (by omega),M_ (by omega)];exact h6 k (by omega)
 ·simp only
  rw[CW _ _ _ (by omega),JF v i (by omega),show j+(i+1)=(j+i)+1 by omega,show i+j=j+i by omega];rw[show i+j=j+i by omega]at hw;have hd:dg v i=v.getD i 0:=rfl;rw[←hd];have e:=DS j i;simp only[pw];rw[e]at h7 ⊢;have e2:=ZBj w 1000000000;generalize w/1000000000=q at *;generalize w%1000000000=r at *;generalize u'.getD (j+i) 0=o at *;generalize pw j=P at *;generalize pw i=Q at *;generalize val (v.take i)=W at *;grind
theorem DN (l:List Int)(j i:Nat):(l.drop j).getD i 0=l.getD (j+i) 0:=by
 simp[K',ZBi]
theorem Ch {l:List Int}(h:JG l)(j:Nat):JG (l.drop j):=fun d hd=>h d (List.mem_of_mem_drop hd)
theorem fP {w:List Int}{n:Nat}(hw:JG w)(hn:2≤n)(hl:n+1≤w.length)(hv:val w<pw (n+1)) :
  val (w.drop (n+1))=0∧∃lw,0≤lw∧lw<pw (n-2)∧val w=((w.getD n 0*1000000000+w.getD (n-1) 0)*1000000000+w.getD (n-2) 0)*pw (n-2)+lw:=by
 have h0:val (w.drop (n+1))=0:=by
  have e:=JN w (n+1) hl;have h1:=Qe (QU hw (n+1));have h2:=Qe (Ch hw (n+1));apply X_;intro h;have:pw (n+1)*1≤pw (n+1)*val (w.drop (n+1)):=W_ (by omega) (by have:=JI (n+1);omega);omega
 refine⟨h0,val (w.take (n-2)),Qe (QU hw _),?_,?_⟩
 ·have:=Aa (QU hw (n-2))
  rwa[o_,ZAv (by omega)]at this
 ·have e1:=JN w (n-2) (by omega)
  have e2:=KP w (n-2) (by omega);have e3:=KP w (n-1) (by omega);have e4:=KP w n (by omega);rw[show n-2+1=n-1 by omega]at e2;rw[show n-1+1=n by omega]at e3;rw[h0]at e4;rw[e1,e2,e3,e4];generalize pw (n-2)=P;grind
theorem dJ {v:List Int}{n:Nat}(hv:JG v)(hn:2≤n)(hl:v.length=n) :
  ∃lv,0≤lv∧lv<pw (n-2)∧val v=(v.getD (n-1) 0*1000000000+v.getD (n-2) 0)*pw (n-2)+lv:=by
 refine⟨val (v.take (n-2)),Qe (QU hv _),?_,?_⟩
 ·have:=Aa (QU hv (n-2))
  rwa[o_,ZAv (by omega)]at this
 ·have e1:=JN v (n-2) (by omega)
  have e2:=KP v (n-2) (by omega);have e3:=KP v (n-1) (by omega);rw[show n-2+1=n-1 by omega]at e2;rw[show n-1+1=n by omega,show v.drop n=[]from List.drop_of_length_le (by omega)]at e3;rw[e1,e2,e3];simp only[val];generalize pw (n-2)=P;grind
structure TBI (A:Int)(v:List Int)(n m:Nat)(u q:List Int)(k:Nat):Prop where
 hk:k≤m
 hu:u.length=m+n
 du:JG u
 hq:q.length=m
 dq:JG q
 zq:∀i,i<k→q.getD i 0=0
 sum:A=val q*val v+val u
 top:val (u.drop k)<val v
theorem T3 {A:Int}{v:List Int}{n m:Nat}{u q:List Int}{j:Nat}(h:TBI A v n m u q (j+1)) (hv:JG v) (hn:2≤n) (hl:v.length=n) (hv1:500000000≤v.getD (n-1) 0) :
  val (u.drop (j+n+1))=0∧0≤val (u.drop j)∧val (u.drop j)<1000000000*val v∧u.getD (j+n) 0≤v.getD (n-1) 0∧val v<pw n∧0<val v ∧
  (∃lw,0≤lw∧lw<pw (n-2)∧val (u.drop j)=((u.getD (j+n) 0*1000000000+u.getD (j+n-1) 0)*1000000000+u.getD (j+n-2) 0)*pw (n-2)+lw) ∧
  (∃lv,0≤lv∧lv<pw (n-2)∧val v=(v.getD (n-1) 0*1000000000+v.getD (n-2) 0)*pw (n-2)+lv):=by
 have hj:j+1≤m:=h.hk;have hul:=h.hu;have hvn:=Aa hv;rw[hl]at hvn;have d1:=JR h.du j;unfold Qk at d1;have e0:=KP u j (by omega);have ht:=h.top;have hW:val (u.drop j)<1000000000*val v:=by omega
 have hW0:=Qe (Ch h.du j);have hlt:val (u.drop j)<pw (n+1):=by simp only[pw];omega
 obtain⟨z,lw,w1,w2,w3⟩:=fP (Ch h.du j) hn (by rw[ZAH];omega) hlt;obtain⟨lv,v1,v2,v3⟩:=dJ hv hn hl;rw[DN,DN,DN,show j+(n-1)=j+n-1 by omega,show j+(n-2)=j+n-2 by omega]at w3;rw[ZDC,show j+(n+1)=j+n+1 by omega]at z;have hP:=JI (n-2);have p1:=JR hv (n-2);have p2:=JR h.du (j+n-1);have p3:=JR h.du (j+n-2);unfold Qk at p1 p2 p3;have TFo:0<val v:=by
  rw[v3];have:0≤(v.getD (n-1) 0*1000000000+v.getD (n-2) 0-1)*pw (n-2):=ZBO (by omega) (by omega);rw[ZD0]at this;omega
 refine⟨z,hW0,hW,?_,hvn,TFo,⟨lw,w1,w2,w3⟩,⟨lv,v1,v2,v3⟩⟩;apply X_;intro hc;have h1:(v.getD (n-1) 0+1)*1000000000*1000000000≤(u.getD (j+n) 0*1000000000+u.getD (j+n-1) 0)*1000000000+u.getD (j+n-2) 0:=by omega
 have h2:=l_ h1 (show 0≤pw (n-2)by omega);have h3:(v.getD (n-1) 0*1000000000+v.getD (n-2) 0+1)*pw (n-2)≤((v.getD (n-1) 0+1)*1000000000)*pw (n-2):=l_ (by omega) (by omega);rw[ZCF,ZCZ]at h3;have h4:(v.getD (n-1) 0+1)*1000000000*1000000000*pw (n-2)=1000000000*(((v.getD (n-1) 0+1)*1000000000)*pw (n-2)):=by grind
 omega
theorem am {u v u':List Int}{g c:Int}{j n:Nat}(hu:JG u)(hl:v.length=n)(hj:j+n<u.length)(h:Wj u v g j n (u',c,n)) (hz:val (u.drop (j+n+1))=0) :
  val (u'.set (j+n) (u.getD (j+n) 0-c))=val u-g*val v*pw j∧u'.getD (j+n) 0=u.getD (j+n) 0 ∧
  (∃lo,0≤lo∧lo<pw n∧val (u.drop j)-g*val v=lo+pw n*(u.getD (j+n) 0-c)):=by
 obtain⟨h1,h2,h3,h4,h5,h6,h7⟩:=h;simp only at h1 h2 h3 h4 h5 h6 h7;have e0:=h6 (j+n) (.inr (N' _));have ev:v.take n=v:=by rw[←hl,ZAQ]
 rw[ev]at h7;have e1:val (u'.set (j+n) (u.getD (j+n) 0-c))=val u-g*val v*pw j:=by
  rw[CW _ _ _ (by omega),e0];have:pw (j+n)*(u.getD (j+n) 0-c-u.getD (j+n) 0) = - (c*pw (j+n)):=by grind
  omega
 refine⟨e1,e0,val ((u'.drop j).take n),Qe (QU (Ch h3 j) n),?_,?_⟩
 ·have:=Aa (QU (Ch h3 j) n)
  rwa[o_,ZAH,ZAv (by omega)]at this
 ·have a1:=JN u j (by omega)
  have a2:=JN u' j (by omega);have a3:u'.take j=u.take j:=by
   refine ZBe (by rw[o_,o_];omega) fun i hi1 hi2=>?_
   rw[o_]at hi1 hi2;rw[ZCB,ZCB];have:=h6 i (.inl (by omega));rwa[K',K',U_ (by omega),U_ (by omega)]at this
  have a4:=JN (u'.drop j) n (by rw[ZAH];omega);rw[ZDC]at a4;have a5:=KP u' (j+n) (by omega);have a6:u'.drop (j+n+1)=u.drop (j+n+1):=by
   refine ZBe (by rw[ZAH,ZAH];omega) fun i hi1 hi2=>?_
   rw[ZAH]at hi1 hi2;rw[ZCC,ZCC];have:=h6 (j+n+1+i) (.inr (by omega));rwa[K',K',U_ (by omega),U_ (by omega)]at this
  rw[a6,hz,e0]at a5;rw[a3]at a2;rw[a5]at a4;rw[a2,a4,a1,DS]at h7;have hp:=JI j;have key:pw j*(val (u.drop j)-g*val v)=pw j*(val ((u'.drop j).take n)+pw n*(u.getD (j+n) 0-c)):=by grind
  exact ZCD (by omega) key
theorem fO {u u':List Int}{j:Nat}(hl:u'.length=u.length)(hj:j≤u.length)(h:∀i,i<j→u'.getD i 0=u.getD i 0):u'.take j=u.take j:=by
 refine ZBe (by rw[o_,o_];omega) fun i hi1 hi2=>?_
 rw[o_]at hi1 hi2;rw[ZCB,ZCB];have:=h i (by omega);rwa[K',K',U_ (by omega),U_ (by omega)]at this
theorem cL {u u':List Int}{j:Nat}(hl:u'.length=u.length)(h:∀i,j≤i→u'.getD i 0=u.getD i 0):u'.drop j=u.drop j:=by
 refine ZBe (by rw[ZAH,ZAH];omega) fun i hi1 hi2=>?_
 rw[ZAH]at hi1 hi2;rw[ZCC,ZCC];have:=h (j+i) (by omega);rwa[K',K',U_ (by omega),U_ (by omega)]at this
theorem Ut {u u':List Int}{j:Nat}{X:Int}(hl:u'.length=u.length)(hj:j≤u.length)(h:∀ i,i<j→u'.getD i 0=u.getD i 0)(hv:val u'=val u-X*pw j):val (u'.drop j)=val (u.drop j)-X:=by
 have a1:=JN u j hj;have a2:=JN u' j (by omega);rw[fO hl hj h]at a2;have hp:=JI j;have key:pw j*val (u'.drop j)=pw j*(val (u.drop j)-X):=by grind
 exact ZCD (by omega) key
theorem Mn {l:List Int}(h:∀i,i<l.length→Qk (l.getD i 0)):JG l:=Ow h
section
variable {A:Int} {v:List Int} {n m:Nat} {u q:List Int} {j:Nat} {g c:Int} {u':List Int}
theorem tG (h:TBI A v n m u q (j+1)) (g:Int):val (q.set j g)=val q+pw j*g:=by
 have:=h.hk;rw[CW _ _ _ (by rw[h.hq];omega),h.zq j (by omega),Int.sub_zero]
theorem dC (h:TBI A v n m u q (j+1)) (hv:JG v) (hl:v.length=n) (hvn:val v<pw n) (hV:0<val v) (hz:val (u.drop (j+n+1))=0) (hW:val (u.drop j)<1000000000*val v)
  (g0:0≤g) (g1:val (u.drop j)<(g+1)*val v) (hs:Wj u v g j n (u',c,n)) (hx:¬u.getD (j+n) 0-c<0) :
  TBI A v n m (u'.set (j+n) (u.getD (j+n) 0-c)) (q.set j g) j∧Qk g:=by
 have hj:j+1≤m:=h.hk;have hul:=h.hu;obtain⟨e1,e2,lo,l0,l1,l2⟩:=am h.du hl (by omega) hs hz;obtain⟨_,s2,s3,_,_,s6,_⟩:=hs;simp only at s2 s3 s6;have hp:=JI n;have b1:val (u.drop j)-g*val v<val v:=by rw[ZCF]at g1;omega
 have x0:u.getD (j+n) 0-c=0:=by
  apply X_;intro hne;have:pw n*1≤pw n*(u.getD (j+n) 0-c):=W_ (by omega) (by omega);omega
 have b0:0≤val (u.drop j)-g*val v:=by rw[l2,x0];omega
 have gB:g<1000000000:=by
  apply X_;intro hc;have:1000000000*val v≤g*val v:=l_ (by omega) (by omega);omega
 have hd:=Ut (u:=u) (u':=u'.set (j+n) (u.getD (j+n) 0-c)) (j:=j) (X:=g*val v) (by simp[s2]) (by omega) (fun i hi=>by rw[QK _ _ _ _ (by omega),M_ (by omega)];exact s6 i (.inl hi)) e1;refine⟨⟨by omega,by simp[s2,hul],Fh s3 _ (by rw[x0];exact⟨by omega,by omega⟩),by simp[h.hq],Fh h.dq _ ⟨g0,gB⟩,fun i hi=>?_,?_,?_⟩,⟨g0,gB⟩⟩
 ·have:=h.hq
  rw[QK _ _ _ _ (by omega),M_ (by omega)];exact h.zq i (by omega)
 ·rw[tG h g,e1,h.sum];grind
 ·rw[hd];exact b1
theorem dz {c2:Int}{u2:List Int}(h:TBI A v n m u q (j+1)) (hv:JG v) (hl:v.length=n) (hvn:val v<pw n) (hV:0<val v) (hz:val (u.drop (j+n+1))=0)
  (hW0:0≤val (u.drop j)) (gB:g≤1000000000) (g2:g*val v<val (u.drop j)+val v) (hs:Wj u v g j n (u',c,n)) (hx:u.getD (j+n) 0-c<0)
  (ha:ic (u'.set (j+n) (u.getD (j+n) 0-c)) v j n (u2,c2,n)) :
  u2.getD (j+n) 0=u.getD (j+n) 0-c∧TBI A v n m (u2.set (j+n) (u.getD (j+n) 0-c+c2)) (q.set j (g-1)) j∧Qk (g-1):=by
 have hj:j+1≤m:=h.hk;have hul:=h.hu;obtain⟨e1,e2,lo,l0,l1,l2⟩:=am h.du hl (by omega) hs hz;obtain⟨_,s2,s3,_,_,s6,_⟩:=hs;simp only at s2 s3 s6;have hp:=JI n;have b1:val (u.drop j)-g*val v<0:=by
  have:pw n*(u.getD (j+n) 0-c)≤pw n*(-1):=W_ (by omega) (by omega);omega
 have TGe:0<g:=by
  apply X_;intro hc;have:g*val v≤0*val v:=l_ (by omega) (by omega);omega
 obtain⟨_,t2,t3,t4,t5,t6,t7⟩:=ha;simp only[V_]at t2 t3 t4 t5 t6 t7;have ev:v.take n=v:=by rw[←hl,ZAQ]
 rw[ev]at t7;have ex:u2.getD (j+n) 0=u.getD (j+n) 0-c:=by
  rw[t6 (j+n) (.inr (N' _)),QK _ _ _ _ (by omega),N_ rfl]
 have e3:val (u2.set (j+n) (u.getD (j+n) 0-c+c2))=val u-(g-1)*val v*pw j:=by
  rw[CW _ _ _ (by omega),ex];rw[e1]at t7;have:pw (j+n)*(u.getD (j+n) 0-c+c2-(u.getD (j+n) 0-c))=c2*pw (j+n):=by grind
  have e4:(g-1)*val v*pw j=g*val v*pw j-val v*pw j:=by grind
  omega
 have below:∀i,i<j→(u2.set (j+n) (u.getD (j+n) 0-c+c2)).getD i 0=u.getD i 0:=fun i hi=>by
  rw[QK _ _ _ _ (by omega),M_ (by omega),t6 i (.inl hi),QK _ _ _ _ (by omega),M_ (by omega)];exact s6 i (.inl hi)
 have hd:=Ut (u:=u) (u':=u2.set (j+n) (u.getD (j+n) 0-c+c2)) (j:=j) (X:=(g-1)*val v) (by simp[t2,s2]) (by omega) below e3;have e5:(g-1)*val v=g*val v-val v:=by rw[ZD0];omega
 rw[e5]at hd;have TEp:(u2.set (j+n) (u.getD (j+n) 0-c+c2)).drop (j+n+1)=u.drop (j+n+1):=cL (by simp[t2,s2]) fun i hi=>by
  rw[QK _ _ _ _ (by omega),M_ (by omega),t6 i (.inr (by omega)),QK _ _ _ _ (by omega),M_ (by omega)];exact s6 i (.inr (by omega))
 have TC7:JG (((u2.set (j+n) (u.getD (j+n) 0-c+c2)).drop j).take n):=by
  refine Mn fun i hi=>?_
  rw[o_,ZAH,V_]at hi;rw[Ca _ _ _ _ (by omega),DN,QK _ _ _ _ (by omega),M_ (by omega)];exact t3 _ (by omega)
 have w0:=Qe TC7;have w1:=Aa TC7;rw[o_,ZAH,V_,ZAv (by omega)]at w1;have w2:=JN ((u2.set (j+n) (u.getD (j+n) 0-c+c2)).drop j) n (by rw[ZAH,V_];omega);rw[ZDC,KP _ (j+n) (by rw[V_];omega),TEp,hz,QK _ _ _ _ (by omega),N_ rfl]at w2;rw[hd,ZDi,Int.add_zero]at w2;have x0:u.getD (j+n) 0-c+c2=0:=by
  generalize u.getD (j+n) 0-c+c2=x at *;apply X_;intro hne;rcases Int.lt_or_gt_of_ne hne with hlt |hgt
  ·have:pw n*x≤pw n*(-1):=W_ (by omega) (by omega)
   omega
  ·have:pw n*1≤pw n*x:=W_ (by omega) (by omega)
   omega
 refine⟨ex,⟨by omega,by simp[t2,s2,hul],Mn fun i hi=>?_,by simp[h.hq],Fh h.dq _ ⟨by omega,by omega⟩,fun i hi=>?_,?_,?_⟩,⟨by omega,by omega⟩⟩
 ·rw[V_]at hi
  rw[QK _ _ _ _ (by omega)]
  split
  ·rw[x0];exact⟨by omega,by omega⟩
  ·exact t3 i (by omega)
 ·have:=h.hq
  rw[QK _ _ _ _ (by omega),M_ (by omega)];exact h.zq i (by omega)
 ·rw[tG h (g-1),e3,h.sum];grind
 ·rw[hd];omega
end
end
end Go.Ab.N
namespace Go.Ab.N
open Go.Ab
open Classical
noncomputable section
structure TCE (W V:Int)(top u2 v1 v2 P:Int):Prop where
 hP:0<P
 w:∃lw,0≤lw∧lw<P∧W=(top*1000000000+u2)*P+lw
 v:∃lv,0≤lv∧lv<P∧V=(v1*1000000000+v2)*P+lv
 du:Qk u2
 dv:Qk v2
 h1:500000000≤v1
 h2:v1<1000000000
 ht:0≤top∧top≤v1*1000000000+999999999
 hW:W<1000000000*V
structure TBB (W V top v1 g r:Int):Prop where
 e:top=g*v1+r
 r0:0≤r
 r1:r<1000000000
 g0:0≤g
 g1:g≤1000000001
 hi:W<(g+1)*V
def kA (W V g:Int):Prop:=0≤g∧g≤1000000000∧W<(g+1)*V∧g*V<W+V
section
variable {W V top u2 v1 v2 P g r:Int}
theorem TCE.big (h:TCE W V top u2 v1 v2 P):1000000000*P≤V∧(v1*1000000000+v2)*P≤V∧V<(v1*1000000000+v2+1)*P∧(top*1000000000+u2)*P≤W∧W<(top*1000000000+u2+1)*P∧0<V:=by
 obtain⟨lw,a1,a2,a3⟩:=h.w;obtain⟨lv,b1,b2,b3⟩:=h.v;have hv2:=h.dv;unfold Qk at hv2;have hP:=h.hP;have h1:=h.h1;have c1:1000000000*P≤(v1*1000000000+v2)*P:=l_ (by omega) (by omega);have c2:(v1*1000000000+v2+1)*P=(v1*1000000000+v2)*P+P:=by rw[ZCF,ZCZ]
 have c3:(top*1000000000+u2+1)*P=(top*1000000000+u2)*P+P:=by rw[ZCF,ZCZ]
 omega
theorem SS (h:TCE W V top u2 v1 v2 P):TBB W V top v1 (top/v1) (top%v1):=by
 have h1:=h.h1;have h2:=h.h2;have ht:=h.ht;have hP:=h.hP;obtain⟨b1,b2,b3,b4,b5,b6⟩:=h.big;have e:=ZBj top v1;have r0:=ZBr top (show v1≠0 by omega);have r1:=ZBN top (show 0<v1 by omega);have g0:0≤top/v1:=ZEF ht.1 (by omega);generalize top/v1=g at *;generalize top%v1=r at *;have e':top=g*v1+r:=by rw[ZEE]at e;omega
 refine⟨e',r0,by omega,g0,?_,?_⟩
 ·apply X_
  intro hc;have:1000000002*v1≤g*v1:=l_ (by omega) (by omega);omega
 ·have du:=h.du
  unfold Qk at du;have dv:=h.dv;unfold Qk at dv;refine kB (T:=1000000000*P) (v1:=v1) (r:=r) (top:=top) (by omega) r1 e' ?_ ?_ g0
  ·have c1:(top*1000000000+u2+1)*P≤((top+1)*1000000000)*P:=l_ (by omega) (by omega)
   have c2:((top+1)*1000000000)*P=(top+1)*(1000000000*P):=by rw[ZA7]
   omega
  ·have c1:(v1*1000000000)*P≤(v1*1000000000+v2)*P:=l_ (by omega) (by omega)
   have c2:(v1*1000000000)*P=v1*(1000000000*P):=by rw[ZA7]
   omega
theorem Vv (h:TCE W V top u2 v1 v2 P)(hg:TBB W V top v1 g r)(h1:¬ 1000000000≤g)(h2:¬g*v2 > r*1000000000+u2):kA W V g:=by
 obtain⟨b1,b2,b3,b4,b5,b6⟩:=h.big;refine⟨hg.g0,by omega,hg.hi,?_⟩;refine SR (P:=P) (x:=v1*1000000000+v2) (t:=top*1000000000+u2) h.hP ?_ b4 b3 hg.g0 (by omega) b1;have e:=hg.e;have:g*(v1*1000000000+v2)=(g*v1)*1000000000+g*v2:=by grind
 omega
theorem MG (h:TCE W V top u2 v1 v2 P)(hg:TBB W V top v1 g r)(hc:1000000000≤g∨g*v2 > r*1000000000+u2):W<g*V:=by
 obtain⟨b1,b2,b3,b4,b5,b6⟩:=h.big;by_cases hgB:1000000000≤g
 ·have:1000000000*V≤g*V:=l_ hgB (by omega)
  have:=h.hW;omega
 ·refine Vu (P:=P) (x:=v1*1000000000+v2) (t:=top*1000000000+u2) (by have:=h.hP;omega) ?_ b5 b2 hg.g0
  have e:=hg.e;have:g*(v1*1000000000+v2)=(g*v1)*1000000000+g*v2:=by grind
  omega
theorem Ia (h:TCE W V top u2 v1 v2 P)(hg:TBB W V top v1 g r)(hW0:0≤W)(hl:W<g*V):1≤g:=by
 have b6:=h.big.2.2.2.2.2;apply X_;intro hc;have:g*V≤0*V:=l_ (by omega) (by omega);omega
theorem ID (h:TCE W V top u2 v1 v2 P)(hg:TBB W V top v1 g r)(hW0:0≤W)(hl:W<g*V)(hr:1000000000≤r+v1):kA W V (g-1):=by
 obtain⟨b1,b2,b3,b4,b5,b6⟩:=h.big;have gp:=Ia h hg hW0 hl;have g1:=hg.g1;have du:=h.du;have dv:=h.dv;unfold Qk at du dv;refine⟨by omega,by omega,by rw[show g-1+1=g by omega];exact hl,?_⟩;refine SR (P:=P) (x:=v1*1000000000+v2) (t:=top*1000000000+u2) h.hP ?_ b4 b3 (by omega) (by omega) b1;have e:=hg.e;have e1:(g-1)*(v1*1000000000+v2)=(g*v1-v1)*1000000000+(g-1)*v2:=by grind
 have e2:(g-1)*v2≤1000000000*v2:=l_ (by omega) dv.1;omega
theorem MH (h:TCE W V top u2 v1 v2 P)(hg:TBB W V top v1 g r)(hW0:0≤W)(hl:W<g*V)(hr:¬1000000000≤r+v1):TBB W V top v1 (g-1) (r+v1):=by
 have gp:=Ia h hg hW0 hl;have g1:=hg.g1;have r0:=hg.r0;have h1:=h.h1;refine⟨?_,by omega,by omega,by omega,by omega,by rw[show g-1+1=g by omega];exact hl⟩;have e:=hg.e;rw[ZD0,ZCZ];omega
end
theorem dD {A:Int}{v:List Int}{n m:Nat}{u q:List Int}{j:Nat}(h:TBI A v n m u q (j+1)) (hv:JG v) (hn:2≤n) (hl:v.length=n) (hv1:500000000≤v.getD (n-1) 0) :
  TCE (val (u.drop j)) (val v) (u.getD (j+n) 0*1000000000+u.getD (j+n-1) 0) (u.getD (j+n-2) 0) (v.getD (n-1) 0) (v.getD (n-2) 0) (pw (n-2)):=by
 obtain⟨z,w0,w1,w2,w3,w4,w5,w6⟩:=T3 h hv hn hl hv1;have d1:=JR h.du (j+n);have d2:=JR h.du (j+n-1);have d3:=JR hv (n-1);unfold Qk at d1 d2 d3;exact⟨JI _,w5,w6,JR h.du _,JR hv _,hv1,d3.2,by omega,w1⟩
theorem VE {b:List Int}{s:Int}(hb:AM b)(hn:2≤b.length)(hs:s=1000000000/(b.getD (b.length-1) 0+1)) :
  1≤s∧s≤500000000∧val ((Jq b s).take b.length)=val b*s∧JG ((Jq b s).take b.length)∧((Jq b s).take b.length).length=b.length∧500000000≤((Jq b s).take b.length).getD (b.length-1) 0∧pw (b.length-1)*s≤val b*s:=by
 have hne:b≠[]:=fun e=>by rw[e]at hn;simp at hn
 have t0:=hb.2 hne;have t1:=JR hb.1 (b.length-1);unfold Qk at t1;obtain⟨s1,s2,s3,s4⟩:=fy (b:=b.getD (b.length-1) 0) (by omega) t1.2 hs;have ds:Qk s:=⟨by omega,by omega⟩
 have hd:=Ni hb.1 ds;have hl:=Cw b s;have hv:=Nj b s;have hP:=JI (b.length-1);have e:=JF b (b.length-1) (by omega);rw[show b.length-1+1=b.length by omega,ZAQ]at e;have e1:=Qe (QU hb.1 (b.length-1));have e2:=Aa (QU hb.1 (b.length-1));rw[o_,ZAv (by omega)]at e2;generalize hbt:b.getD (b.length-1) 0=t at *;have up:val b*s<pw b.length:=by
  have h1:val b<pw (b.length-1)*(t+1):=by rw[ZDS,Int.mul_one];omega
  have h2:val b*s<(pw (b.length-1)*(t+1))*s:=ZBy h1 (by omega);have h3:(pw (b.length-1)*(t+1))*s=pw (b.length-1)*((t+1)*s):=by rw[ZA7]
  have h4:pw (b.length-1)*((t+1)*s)≤pw (b.length-1)*1000000000:=W_ s4 (by omega);have h5:pw b.length=1000000000*pw (b.length-1):=by
   conv=>lhs;rw[show b.length=(b.length-1)+1 by omega]
   rfl
  omega
 have lo:pw (b.length-1)*(t*s)≤val b*s:=by
  have h1:pw (b.length-1)*t≤val b:=by omega
  have h2:(pw (b.length-1)*t)*s≤val b*s:=l_ h1 (by omega);rw[ZA7]at h2;exact h2
 have lo1:pw (b.length-1)*s≤val b*s:=by
  have h1:pw (b.length-1)≤val b:=by
   have:pw (b.length-1)*1≤pw (b.length-1)*t:=W_ (by omega) (by omega);omega
  exact l_ h1 (by omega)
 have hlen:((Jq b s).take b.length).length=b.length:=by rw[o_];omega
 have hsp:=JN (Jq b s) b.length (by omega);have d0:=Qe (QU hd b.length);have d1:=Qe (Ch hd b.length);have hz:val ((Jq b s).drop b.length)=0:=by
  apply X_;intro hc;have:pw b.length*1≤pw b.length*val ((Jq b s).drop b.length):=W_ (by omega) (by have:=JI b.length;omega);omega
 have TBA:val ((Jq b s).take b.length)=val b*s:=by rw[hz,ZDi]at hsp;omega
 refine⟨s1,s2,TBA,QU hd _,hlen,?_,lo1⟩;have dv:=QU hd b.length;generalize (Jq b s).take b.length=v at *;have f:=JF v (b.length-1) (by omega);rw[show b.length-1+1=b.length by omega,show v.take b.length=v by rw[←hlen,ZAQ]]at f;have f2:=Aa (QU dv (b.length-1));rw[o_,ZAv (by omega)]at f2;apply X_;intro hc;have g1:pw (b.length-1)*(v.getD (b.length-1) 0+1)≤pw (b.length-1)*(t*s):=W_ (by omega) (by omega);rw[ZDS,Int.mul_one]at g1;omega
theorem Ox (n:Nat):JG (ZAJ n 0):=fun d hd=>by rw[(ZD9.1 hd).2];exact⟨by omega,by omega⟩
theorem VD {a b v:List Int}{s:Int}{m:Nat}(ha:JG a)(hb:AM b)(hn:2≤b.length)(hab:b.length≤a.length)(hm:m=a.length - b.length+1)(s1:1≤s)(s2:s≤500000000)(hV:val v=val b*s)(hlo:pw (b.length-1)*s≤val b*s) :
  TBI (val a*s) v b.length m (Jq a s) (ZAJ m 0) m:=by
 have ds:Qk s:=⟨by omega,by omega⟩
 have hd:=Ni ha ds;have hl:=Cw a s;have hv:=Nj a s;refine⟨N' _,by omega,hd,by simp,Ox m,fun i hi=>?_,by rw[FH,hv];omega,?_⟩
 ·simp[K',ZAs]
  split <;> rfl
 ·have hsp:=JN (Jq a s) m (by omega)
  have d0:=Qe (QU hd m);have la:=Aa ha;have e:pw a.length=pw m*pw (b.length-1):=by rw[←DS];congr 1;omega
  have hm0:=JI m;apply X_;intro hc;have h1:pw m*val v≤pw m*val ((Jq a s).drop m):=W_ (by omega) (by omega);have h2:val a*s<pw a.length*s:=ZBy la (by omega);have h3:pw m*(pw (b.length-1)*s)≤pw m*val v:=W_ (by omega) (by omega);rw[e,ZA7]at h2;omega
theorem T2 {a b v u q:List Int}{s:Int}{n m:Nat}(ha:JG a)(hb:JG b)(h:TBI (val a*s) v n m u q 0) (s1:1≤s) (hV:val v=val b*s) (hvn:val v<pw n) :
  val q=val a/val b∧val (BD (AX (u.take n) s) (u.take n).length)=val a%val b∧JG (u.take n):=by
 have ht:=h.top;rw[ZBf]at ht;have TFp:=h.sum;have u0:=Qe h.du;have hl:=h.hu;have hsp:=JN u n (by omega);have d0:=Qe (QU h.du n);have d1:=Qe (Ch h.du n);have hz:val (u.drop n)=0:=by
  apply X_;intro hc;have:pw n*1≤pw n*val (u.drop n):=W_ (by omega) (by have:=JI n;omega);omega
 have hut:val (u.take n)=val u:=by rw[hz,ZDi]at hsp;omega
 obtain⟨r,hr⟩:∃r,r=val a-val q*val b:=⟨_,rfl⟩
 have hus:val u=s*r:=by rw[hr];rw[hV]at TFp;grind
 have b0:=Qe hb;have r0:0≤r:=by
  apply X_;intro hc;have:s*r≤s*(-1):=W_ (by omega) (by omega);omega
 have rb:r<val b:=by
  apply X_;intro hc;have h1:s*val b≤s*r:=W_ (by omega) (by omega);rw[ZEE s (val b)]at h1;omega
 have ea:val a=val q*val b+r:=by omega
 have e1:val a/val b=val q:=by
  rw[ea,Int.add_comm,Int.add_mul_ediv_right _ _ (by omega),Int.ediv_eq_zero_of_lt r0 rb];omega
 have e2:val a%val b=r:=by
  rw[ea,Int.add_comm,Int.add_mul_emod_self_right];exact Int.emod_eq_of_lt r0 rb
 refine⟨e1.symm,?_,QU h.du n⟩;have e3:=Rp (a:=u.take n) (b:=s) (by omega);have e4:Kw (u.take n) s 0=0:=by
  unfold Kw;rw[ZBf,hut,hus,Int.mul_emod_right]
 rw[e4,hut,hus,Int.add_zero]at e3;rw[e2];exact(ZCD (by omega) e3).symm
end
end Go.Ab.N
