/- Contracts of functions, for every argument that fits. -/
import Derived.Test.YtcmfnmceomhgcaaGreatC1
set_option linter.unusedSimpArgs false
set_option linter.unusedVariables false
namespace Go.Ab.N
open Go Go.RowKit Go.Proofs
noncomputable section
set_option maxRecDepth 10000
set_option maxHeartbeats 2000000
open Classical
theorem Zr (l:List Int)(i:Nat)(x:Int)(h:i<l.length):DS (QL I 0 l) i (.int .i64 x)=QL I 0 (l.set i x):=pr I 0 l i x h
def A9 (a b:List Int)(n k:Nat):List Int:=B5 (fun j=>if j<k then Ay (dg a) (dg b) j else 0) (n+1)
theorem ET (a b:List Int)(n k:Nat):(A9 a b n k).length=n+1:=Qd _ _
theorem NT (a b:List Int)(n k:Nat)(h:k<n){x:Int}(hx:x=Ay (dg a) (dg b) k):(A9 a b n k).set k x=A9 a b n (k+1):=by
 unfold A9;rw[Bg _ _ _ _ (by omega)];refine KL fun q _=>?_
 by_cases e:q=k
 ·subst e;rw[if_pos rfl,if_pos (by omega),hx]
 ·rw[if_neg e]
  by_cases h1:q<k
  ·rw[if_pos h1,if_pos (by omega)]
  ·rw[if_neg h1,if_neg (by omega)]
theorem NS (a b:List Int)(n:Nat):(A9 a b n n).set n (Qi (dg a) (dg b) n)=A8 a b n:=by
 unfold A9 A8;rw[Bg _ _ _ _ (by omega),Ew];congr 1
 ·refine KL fun q hq=>?_
  rw[if_neg (by omega),if_pos hq]
 ·simp
theorem jp (A B:List Int)(ha:Jl A)(hb:Jl B)(la:A.length<10000000000000)(h:B.length≤A.length) :
  Fn Tryz.prog 188 [X8 A,X8 B] (X8 (A8 A B A.length)):=by
 obtain⟨R,hR⟩:∃R,R=X8 (A8 A B A.length):=⟨_,rfl⟩
 rw[←hR];have hR2:Settled R:=hR▸Xc _;have hF:(A.length<B.length)=False:=eq_false (by omega);have w0:IntKind.i64.wrap ((A.length:Int)+1)=((A.length+1:Nat):Int):=by rw[IntKind.wrap_i64];omega
 refine Fq Tryz.call188 Tryz.func188 10 [21,22,23] [] [] (by simp[Xc]) (Xk ?_);simp(maxSteps:=999999)only[AS.start,hF,w0,Int.toNat_natCast,↓X4,wA,seval,zA,wN];refine⟨⟨by omega,by omega⟩,?_⟩;refine Xj (fun k:Nat=>⟨10,[21,22,23],[X8 A,X8 B,.any,.any,.sl 0 0 (fun _=>.any) true,.osl 0 0 1 0 (A.length+1),I (Qi (dg A) (dg B) k),.any,.any,.any],
  [(21,X8 A),(22,I A.length),(23,I k)],[.row 0 (A.length+1) (QL I 0 (A9 A B A.length k))]⟩) (fun k=>k≤A.length) (fun k=>A.length-k) 0 (by omega)
  ?_ ?_
 ·refine(KH 0 (A.length+1) (QL I 0 (A9 A B A.length 0)) rfl (Nat.le_refl _) ?_).trans (Xi rfl ?_ ?_ ?_)
  ·intro j hj
   have:(A9 A B A.length 0).getD j 0=0:=by unfold A9;rw[CA _ _ _ hj,if_neg (by omega)]
   rw[AL,this];rfl
  ·simp[Xm,X8,Qs,I,Qi]
  ·simp[Xw,XA,X8,Qs,I]
  ·rfl
 intro k hk next
 have w1:=wj k (by omega);have b1:=DX (dg A) (dg B) k;have b2:=Qc ha k;have b3:=Qc hb k;have eA:A.getD k 0=dg A k:=rfl;have eB:B.getD k 0=dg B k:=rfl;unfold Q5 at b2 b3;have w2:IntKind.i64.wrap (dg A k+Qi (dg A) (dg B) k)=dg A k+Qi (dg A) (dg B) k:=by rw[IntKind.wrap_i64];omega
 have w3:IntKind.i64.wrap (dg A k+Qi (dg A) (dg B) k+dg B k)=dg A k+Qi (dg A) (dg B) k+dg B k:=by rw[IntKind.wrap_i64];omega
 have w4:IntKind.i64.wrap (dg A k+Qi (dg A) (dg B) k+dg B k-1000000000)=dg A k+Qi (dg A) (dg B) k+dg B k-1000000000:=by rw[IntKind.wrap_i64];omega
 have w5:IntKind.i64.wrap (dg A k+Qi (dg A) (dg B) k-1000000000)=dg A k+Qi (dg A) (dg B) k-1000000000:=by rw[IntKind.wrap_i64];omega
 have nB:¬k<B.length→dg B k=0:=fun h=>Hg (by omega)
 have fin:∀ (c x:Int),k<A.length→c=Qi (dg A) (dg B) (k+1)→x=Ay (dg A) (dg B) k →
   ∀tm,tm=[(21,X8 A),(22,I A.length),(23,I ((k+1:Nat):Int))]→True:=fun _ _ _ _ _ _ _=>trivial
 have sC:∀c:Int,(1000000000≤dg A k+dg B k+Qi (dg A) (dg B) k∧c=1∨¬1000000000≤dg A k+dg B k+Qi (dg A) (dg B) k∧c=0)→c=Qi (dg A) (dg B) (k+1):=by
  rintro c (⟨h1,rfl⟩ | ⟨h1,rfl⟩)
  ·simp only[Qi];rw[if_pos h1]
  ·simp only[Qi];rw[if_neg h1]
 have sO:∀x:Int,(1000000000≤dg A k+dg B k+Qi (dg A) (dg B) k∧x=dg A k+dg B k+Qi (dg A) (dg B) k-1000000000∨¬1000000000≤dg A k+dg B k+Qi (dg A) (dg B) k∧x=dg A k+dg B k+Qi (dg A) (dg B) k)→x=Ay (dg A) (dg B) k:=by
  rintro x (⟨h1,rfl⟩ | ⟨h1,rfl⟩)
  ·unfold Ay;rw[if_pos h1]
  ·unfold Ay;rw[if_neg h1]
 have up:∀x:Int,k<A.length→x=Ay (dg A) (dg B) k→DS (QL I 0 (A9 A B A.length k)) k (.int .i64 x)=QL I 0 (A9 A B A.length (k+1)):=fun x h hx=>by
  rw[Zr _ _ _ (by rw[ET];omega),NT _ _ _ _ h hx]
 have upE:k=A.length→DS (QL I 0 (A9 A B A.length k)) k (.int .i64 (Qi (dg A) (dg B) k))=QL I 0 (A8 A B A.length):=fun h=>by
  rw[Zr _ _ _ (by rw[ET];omega),h,NS]
 refine Xk ?_;simp(maxSteps:=999999)only[w1,w2,w3,w4,w5,eA,eB,↓X4,wA,seval,zA,wN];refine⟨fun h=>⟨h,h,fun hb'=>⟨hb',hb',fun hc=>⟨by omega,by omega,?_⟩,fun hc=>⟨by omega,by omega,?_⟩⟩,fun hb'=>⟨fun hc=>⟨by omega,by omega,?_⟩,fun hc=>⟨by omega,by omega,?_⟩⟩⟩,fun h=>⟨by omega,?_⟩⟩
 ·have e1:=sC 1 (.inl ⟨by omega,rfl⟩)
  have e2:=up _ h (sO _ (.inl ⟨by omega,(by omega:dg A k+Qi (dg A) (dg B) k+dg B k-1000000000=_)⟩));rw[e2];exact next (k+1) _ (by omega) (by omega) (Xi rfl (by simp[Xm,X8,Qs,I,←e1]) (by simp[Xw,XA,X8,Qs,I]) rfl)
 ·have e1:=sC 0 (.inr ⟨by omega,rfl⟩)
  have e2:=up _ h (sO _ (.inr ⟨by omega,(by omega:dg A k+Qi (dg A) (dg B) k+dg B k=_)⟩));rw[e2];exact next (k+1) _ (by omega) (by omega) (Xi rfl (by simp[Xm,X8,Qs,I,←e1]) (by simp[Xw,XA,X8,Qs,I]) rfl)
 ·have e0:=nB hb'
  have e1:=sC 1 (.inl ⟨by omega,rfl⟩);have e2:=up _ h (sO _ (.inl ⟨by omega,(by omega:dg A k+Qi (dg A) (dg B) k-1000000000=_)⟩));rw[e2];exact next (k+1) _ (by omega) (by omega) (Xi rfl (by simp[Xm,X8,Qs,I,←e1]) (by simp[Xw,XA,X8,Qs,I]) rfl)
 ·have e0:=nB hb'
  have e1:=sC 0 (.inr ⟨by omega,rfl⟩);have e2:=up _ h (sO _ (.inr ⟨by omega,(by omega:dg A k+Qi (dg A) (dg B) k=_)⟩));rw[e2];exact next (k+1) _ (by omega) (by omega) (Xi rfl (by simp[Xm,X8,Qs,I,←e1]) (by simp[Xw,XA,X8,Qs,I]) rfl)
 ·obtain rfl:k=A.length:=by omega
  rw[upE rfl,hR];refine C4 rfl ?_;have hl:(A8 A B A.length).length=A.length+1:=ES _ _ _;have:=Mu (e:=I) (d:=0) (l:=A8 A B A.length) (H:=[.row 0 (A.length+1) (QL I 0 (A8 A B A.length))]) (id:=0) (ver:=0) (n:=A.length+1) (off:=0) Xb (.inl rfl) (by omega) rfl;rw[hl]at this;exact this
theorem jq (A B:List Int)(ha:Jl A)(hb:Jl B)(la:A.length<10000000000000)(h:B.length<A.length) :
  Fn Tryz.prog 188 [X8 B,X8 A] (X8 (A8 A B A.length)):=by
 obtain⟨R,hR⟩:∃R,R=X8 (A8 A B A.length):=⟨_,rfl⟩
 rw[←hR];have hR2:Settled R:=hR▸Xc _;have hF:(B.length<A.length)=True:=eq_true h;have w0:IntKind.i64.wrap ((A.length:Int)+1)=((A.length+1:Nat):Int):=by rw[IntKind.wrap_i64];omega
 refine Fq Tryz.call188 Tryz.func188 10 [21,22,23] [] [] (by simp[Xc]) (Xk ?_);simp(maxSteps:=999999)only[AS.start,hF,w0,Int.toNat_natCast,↓X4,wA,seval,zA,wN];refine⟨⟨by omega,by omega⟩,?_⟩;refine Xj (fun k:Nat=>⟨10,[21,22,23],[X8 A,X8 B,.any,.any,.sl 0 0 (fun _=>.any) true,.osl 0 0 1 0 (A.length+1),I (Qi (dg A) (dg B) k),.any,.any,.any],
  [(21,X8 A),(22,I A.length),(23,I k)],[.row 0 (A.length+1) (QL I 0 (A9 A B A.length k))]⟩) (fun k=>k≤A.length) (fun k=>A.length-k) 0 (by omega)
  ?_ ?_
 ·refine(KH 0 (A.length+1) (QL I 0 (A9 A B A.length 0)) rfl (Nat.le_refl _) ?_).trans (Xi rfl ?_ ?_ ?_)
  ·intro j hj
   have:(A9 A B A.length 0).getD j 0=0:=by unfold A9;rw[CA _ _ _ hj,if_neg (by omega)]
   rw[AL,this];rfl
  ·simp[Xm,X8,Qs,I,Qi]
  ·simp[Xw,XA,X8,Qs,I]
  ·rfl
 intro k hk next
 have w1:=wj k (by omega);have b1:=DX (dg A) (dg B) k;have b2:=Qc ha k;have b3:=Qc hb k;have eA:A.getD k 0=dg A k:=rfl;have eB:B.getD k 0=dg B k:=rfl;unfold Q5 at b2 b3;have w2:IntKind.i64.wrap (dg A k+Qi (dg A) (dg B) k)=dg A k+Qi (dg A) (dg B) k:=by rw[IntKind.wrap_i64];omega
 have w3:IntKind.i64.wrap (dg A k+Qi (dg A) (dg B) k+dg B k)=dg A k+Qi (dg A) (dg B) k+dg B k:=by rw[IntKind.wrap_i64];omega
 have w4:IntKind.i64.wrap (dg A k+Qi (dg A) (dg B) k+dg B k-1000000000)=dg A k+Qi (dg A) (dg B) k+dg B k-1000000000:=by rw[IntKind.wrap_i64];omega
 have w5:IntKind.i64.wrap (dg A k+Qi (dg A) (dg B) k-1000000000)=dg A k+Qi (dg A) (dg B) k-1000000000:=by rw[IntKind.wrap_i64];omega
 have nB:¬k<B.length→dg B k=0:=fun h=>Hg (by omega)
 have fin:∀ (c x:Int),k<A.length→c=Qi (dg A) (dg B) (k+1)→x=Ay (dg A) (dg B) k →
   ∀tm,tm=[(21,X8 A),(22,I A.length),(23,I ((k+1:Nat):Int))]→True:=fun _ _ _ _ _ _ _=>trivial
 have sC:∀c:Int,(1000000000≤dg A k+dg B k+Qi (dg A) (dg B) k∧c=1∨¬1000000000≤dg A k+dg B k+Qi (dg A) (dg B) k∧c=0)→c=Qi (dg A) (dg B) (k+1):=by
  rintro c (⟨h1,rfl⟩ | ⟨h1,rfl⟩)
  ·simp only[Qi];rw[if_pos h1]
  ·simp only[Qi];rw[if_neg h1]
 have sO:∀x:Int,(1000000000≤dg A k+dg B k+Qi (dg A) (dg B) k∧x=dg A k+dg B k+Qi (dg A) (dg B) k-1000000000∨¬1000000000≤dg A k+dg B k+Qi (dg A) (dg B) k∧x=dg A k+dg B k+Qi (dg A) (dg B) k)→x=Ay (dg A) (dg B) k:=by
  rintro x (⟨h1,rfl⟩ | ⟨h1,rfl⟩)
  ·unfold Ay;rw[if_pos h1]
  ·unfold Ay;rw[if_neg h1]
 have up:∀x:Int,k<A.length→x=Ay (dg A) (dg B) k→DS (QL I 0 (A9 A B A.length k)) k (.int .i64 x)=QL I 0 (A9 A B A.length (k+1)):=fun x h hx=>by
  rw[Zr _ _ _ (by rw[ET];omega),NT _ _ _ _ h hx]
 have upE:k=A.length→DS (QL I 0 (A9 A B A.length k)) k (.int .i64 (Qi (dg A) (dg B) k))=QL I 0 (A8 A B A.length):=fun h=>by
  rw[Zr _ _ _ (by rw[ET];omega),h,NS]
 refine Xk ?_;simp(maxSteps:=999999)only[w1,w2,w3,w4,w5,eA,eB,↓X4,wA,seval,zA,wN];refine⟨fun h=>⟨h,h,fun hb'=>⟨hb',hb',fun hc=>⟨by omega,by omega,?_⟩,fun hc=>⟨by omega,by omega,?_⟩⟩,fun hb'=>⟨fun hc=>⟨by omega,by omega,?_⟩,fun hc=>⟨by omega,by omega,?_⟩⟩⟩,fun h=>⟨by omega,?_⟩⟩
 ·have e1:=sC 1 (.inl ⟨by omega,rfl⟩)
  have e2:=up _ h (sO _ (.inl ⟨by omega,(by omega:dg A k+Qi (dg A) (dg B) k+dg B k-1000000000=_)⟩));rw[e2];exact next (k+1) _ (by omega) (by omega) (Xi rfl (by simp[Xm,X8,Qs,I,←e1]) (by simp[Xw,XA,X8,Qs,I]) rfl)
 ·have e1:=sC 0 (.inr ⟨by omega,rfl⟩)
  have e2:=up _ h (sO _ (.inr ⟨by omega,(by omega:dg A k+Qi (dg A) (dg B) k+dg B k=_)⟩));rw[e2];exact next (k+1) _ (by omega) (by omega) (Xi rfl (by simp[Xm,X8,Qs,I,←e1]) (by simp[Xw,XA,X8,Qs,I]) rfl)
 ·have e0:=nB hb'
  have e1:=sC 1 (.inl ⟨by omega,rfl⟩);have e2:=up _ h (sO _ (.inl ⟨by omega,(by omega:dg A k+Qi (dg A) (dg B) k-1000000000=_)⟩));rw[e2];exact next (k+1) _ (by omega) (by omega) (Xi rfl (by simp[Xm,X8,Qs,I,←e1]) (by simp[Xw,XA,X8,Qs,I]) rfl)
 ·have e0:=nB hb'
  have e1:=sC 0 (.inr ⟨by omega,rfl⟩);have e2:=up _ h (sO _ (.inr ⟨by omega,(by omega:dg A k+Qi (dg A) (dg B) k=_)⟩));rw[e2];exact next (k+1) _ (by omega) (by omega) (Xi rfl (by simp[Xm,X8,Qs,I,←e1]) (by simp[Xw,XA,X8,Qs,I]) rfl)
 ·obtain rfl:k=A.length:=by omega
  rw[upE rfl,hR];refine C4 rfl ?_;have hl:(A8 A B A.length).length=A.length+1:=ES _ _ _;have:=Mu (e:=I) (d:=0) (l:=A8 A B A.length) (H:=[.row 0 (A.length+1) (QL I 0 (A8 A B A.length))]) (id:=0) (ver:=0) (n:=A.length+1) (off:=0) Xb (.inl rfl) (by omega) rfl;rw[hl]at this;exact this
theorem Wc (a b:List Int)(ha:Jl a)(hb:Jl b)(la:a.length<10000000000000)(lb:b.length<10000000000000) :
  ∃L,Jl L∧val L=val a+val b∧L.length≤max a.length b.length+1∧Fn Tryz.prog 188 [X8 a,X8 b] (X8 L):=by
 by_cases h:a.length<b.length
 ·exact⟨_,NQ hb ha _,by rw[NR _ _ _ (Nat.le_refl _) (by omega)];omega,by rw[ES];omega,jq b a hb ha lb h⟩
 ·exact⟨_,NQ ha hb _,by rw[NR _ _ _ (Nat.le_refl _) (by omega)],by rw[ES];omega,jp a b ha hb la (by omega)⟩
theorem Uw (neg:Bool)(L:List Int)(h:Jl L)(hl:L.length<4611686018427387904):Fn Tryz.prog 182 [.bool neg,X8 L] (zA (KC neg (val L))):=by
 rw[qt h];exact v7 neg L hl
theorem ZY (a b:List Int)(i:Nat):(J6 a b i).length=a.length:=Qd _ _
theorem aA (a b:List Int)(i:Nat)(h:i<a.length):(J6 a b i).getD i 0=dg a i-JM (dg a) (dg b) i:=by
 unfold J6;rw[CA _ _ _ h,if_neg (by omega),if_pos rfl]
theorem RF (a b:List Int)(i:Nat)(h:i+1<a.length):(J6 a b i).getD (i+1) 0=dg a (i+1):=by
 unfold J6;rw[CA _ _ _ h,if_neg (by omega),if_neg (by omega)]
theorem Ut (a b:List Int)(i:Nat)(h:i<a.length){x:Int}(hx:x=Bm (dg a) (dg b) i) (hc:JM (dg a) (dg b) (i+1)=0):(J6 a b i).set i x=J6 a b (i+1):=by
 unfold J6;rw[Bg _ _ _ _ h];refine KL fun q _=>?_
 by_cases e:q=i
 ·subst e;rw[if_pos rfl,if_pos (by omega),hx]
 ·rw[if_neg e]
  by_cases h1:q<i
  ·rw[if_pos h1,if_pos (by omega)]
  ·rw[if_neg h1,if_neg e,if_neg (by omega)]
   by_cases h2:q=i+1
   ·rw[if_pos h2,hc,h2];omega
   ·rw[if_neg h2]
theorem RG (a b:List Int)(i:Nat)(h:i+1<a.length){x y:Int}(hx:x=Bm (dg a) (dg b) i) (hc:JM (dg a) (dg b) (i+1)=1) (hy:y=dg a (i+1)-1):((J6 a b i).set i x).set (i+1) y=J6 a b (i+1):=by
 unfold J6;rw[Bg _ _ _ _ (by omega),Bg _ _ _ _ h];refine KL fun q _=>?_
 by_cases e:q=i+1
 ·subst e;rw[if_pos rfl,if_neg (by omega),if_pos rfl,hc,hy]
 ·rw[if_neg e]
  by_cases e2:q=i
  ·subst e2;rw[if_pos rfl,if_pos (by omega),hx]
  ·rw[if_neg e2]
   by_cases h1:q<i
   ·rw[if_pos h1,if_pos (by omega)]
   ·rw[if_neg h1,if_neg e2,if_neg (by omega),if_neg e]
theorem kg {a b:List Int}(ha:Jl a)(hb:Jl b)(hl:b.length≤a.length)(h:val b≤val a):JM (dg a) (dg b) a.length=0 :=
 WA (fun i _=>Qc ha i) (fun i _=>Qc hb i) (by rw[Eu b _ hl,Eu a _ (Nat.le_refl _)];exact h)
theorem iS (a b:List Int)(ha:Jl a)(hb:Jl b)(la:a.length<10000000000000)(hl:b.length≤a.length)(h:val b≤val a):Fn Tryz.prog 190 [X8 a,X8 b] (X8 (Zy a b)):=by
 obtain⟨R,hR⟩:∃R,R=X8 (Zy a b):=⟨_,rfl⟩
 rw[←hR];have hR2:Settled R:=hR▸Xc _;refine Fq Tryz.call190 Tryz.func190 7 [14,15] [] [] (by simp[Kc]) (Xk ?_);simp(maxSteps:=999999)only[AS.start,↓X4,wA,seval,zA,wN];refine⟨⟨by omega,by omega⟩,?_⟩;refine Xj (fun k:Nat=>⟨7,[14,15],[X8 a,X8 b,.any,.any,.sl 0 0 (fun _=>.any) true,.osl 0 0 1 0 a.length,.any],
  [(14,I a.length),(15,I k)],[.row 0 a.length (QL I 0 (J6 a b k))]⟩) (fun k=>k≤a.length) (fun k=>a.length-k) 0 (by omega)
  ?_ ?_
 ·refine(KH 0 a.length (QL I 0 (J6 a b 0)) rfl (Nat.le_refl _) ?_).trans (Xi rfl ?_ ?_ ?_)
  ·intro j hj
   unfold Lm;rw[if_pos (by omega),RH];rfl
  ·simp[Xm,X8,Qs,I]
  ·simp[Xw,XA,X8,Qs,I]
  ·rfl
 intro k hk next
 have w1:=wj k (by omega);by_cases hk2:k<a.length
 ·have hend:=kg ha hb hl h
  have b1:=GR (dg a) (dg b) k;have b2:=Qc ha k;have b3:=Qc hb k;have b4:=Qc ha (k+1);have eB:b.getD k 0=dg b k:=rfl;have eM:=aA a b k hk2;have eS:∀x,((J6 a b k).set k x).getD k 0=x:=fun x=>by rw[Qy _ _ _ _ (by rw[ZY];exact hk2),if_pos rfl]
  have hU:∀x:Int,DS (QL I 0 (J6 a b k)) k (.int .i64 x)=QL I 0 ((J6 a b k).set k x):=fun x=>Zr _ _ _ (by rw[ZY];exact hk2)
  have hU2:∀x y:Int,DS (QL I 0 ((J6 a b k).set k x)) k (.int .i64 y)=QL I 0 ((J6 a b k).set k y):=fun x y=>by rw[Zr _ _ _ (by rw[List.length_set,ZY];exact hk2),List.set_set]
  have e1:((k:Int)<a.length)=True:=eq_true (by omega);have e2:(k<a.length)=True:=eq_true hk2;have hs1:dg a k-dg b k-JM (dg a) (dg b) k<0→JM (dg a) (dg b) (k+1)=1∧dg a k-dg b k-JM (dg a) (dg b) k+1000000000=Bm (dg a) (dg b) k:=fun h=>⟨by simp only[JM];rw[if_pos h],by unfold Bm;rw[if_pos h]⟩
  have hs0:¬dg a k-dg b k-JM (dg a) (dg b) k<0→JM (dg a) (dg b) (k+1)=0∧dg a k-dg b k-JM (dg a) (dg b) k=Bm (dg a) (dg b) k:=fun h=>⟨by simp only[JM];rw[if_neg h],by unfold Bm;rw[if_neg h]⟩
  have nB:¬k<b.length→dg b k=0:=fun h=>Hg (by omega)
  have hroom:JM (dg a) (dg b) (k+1)=1→k+1<a.length:=fun h1=>by
   apply Classical.byContradiction;intro h2;rw[show k+1=a.length by omega,hend]at h1;omega
  have up2:∀x:Int,k+1<a.length→x=Bm (dg a) (dg b) k→JM (dg a) (dg b) (k+1)=1→DS (QL I 0 ((J6 a b k).set k x)) (k+1) (.int .i64 (IntKind.i64.wrap (((J6 a b k).set k x).getD (k+1) 0-1)))=QL I 0 (J6 a b (k+1)):=fun x hr hx hc=>by
   rw[Qy _ _ _ _ (by rw[ZY];exact hk2),if_neg (by omega),RF a b k hr];have w:IntKind.i64.wrap (dg a (k+1)-1)=dg a (k+1)-1:=by unfold Q5 at b4;rw[IntKind.wrap_i64];omega
   rw[w,Zr _ _ _ (by rw[List.length_set,ZY];exact hr),RG a b k hr hx hc rfl]
  have up1:∀x:Int,x=Bm (dg a) (dg b) k→JM (dg a) (dg b) (k+1)=0→(J6 a b k).set k x=J6 a b (k+1):=fun x hx hc=>Ut a b k hk2 hx hc
  unfold Q5 at b2 b3 b4;generalize hA:dg a k=A at *;generalize hB:dg b k=B at *;generalize hC:JM (dg a) (dg b) k=C at *;have w2:IntKind.i64.wrap (A-C-B)=A-C-B:=by rw[IntKind.wrap_i64];omega
  have w3:IntKind.i64.wrap (A-C-B+1000000000)=A-C-B+1000000000:=by rw[IntKind.wrap_i64];omega
  have w4:IntKind.i64.wrap (A-C+1000000000)=A-C+1000000000:=by rw[IntKind.wrap_i64];omega
  refine Xk ?_;simp(maxSteps:=999999)only[w1,w2,w3,w4,e1,e2,eM,eB,hB,eS,hU,hU2,↓X4,wA,seval,zA,wN];have set_same:(J6 a b k).set k (A-C)=J6 a b k:=by
   refine List.ext_getElem? fun q=>?_
   rw[List.getElem?_set];by_cases e:k=q
   ·subst e
    rw[if_pos rfl,if_pos (by rw[ZY];exact hk2),←eM,List.getD_eq_getElem?_getD,List.getElem?_eq_getElem (by rw[ZY];exact hk2)];rfl
   ·rw[if_neg e]
  refine⟨fun hb'=>⟨hb',hb',by omega,fun hc=>?_,fun hc=>?_⟩,fun hb'=>⟨fun hc=>?_,fun hc=>?_⟩⟩
  ·obtain⟨s1,s2⟩:=hs1 (by omega)
   have hr:=hroom s1;refine⟨by omega,hr,hr,hr,by omega,?_⟩;rw[up2 _ hr (by omega) s1];exact next (k+1) _ (by omega) (by omega) (Xi rfl (by simp[Xm,X8,Qs,I]) (by simp[Xw,XA,X8,Qs,I]) rfl)
  ·obtain⟨s1,s2⟩:=hs0 (by omega)
   rw[up1 _ (by omega) s1];exact next (k+1) _ (by omega) (by omega) (Xi rfl (by simp[Xm,X8,Qs,I]) (by simp[Xw,XA,X8,Qs,I]) rfl)
  ·have nB':=nB hb'
   obtain⟨s1,s2⟩:=hs1 (by omega);have hr:=hroom s1;refine⟨by omega,hr,hr,hr,by omega,?_⟩;rw[up2 _ hr (by omega) s1];exact next (k+1) _ (by omega) (by omega) (Xi rfl (by simp[Xm,X8,Qs,I]) (by simp[Xw,XA,X8,Qs,I]) rfl)
  ·have nB':=nB hb'
   obtain⟨s1,s2⟩:=hs0 (by omega);have:=up1 (A-C) (by omega) s1;rw[set_same]at this;rw[this];exact next (k+1) _ (by omega) (by omega) (Xi rfl (by simp[Xm,X8,Qs,I]) (by simp[Xw,XA,X8,Qs,I]) rfl)
 ·obtain rfl:k=a.length:=by omega
  refine Xk ?_;simp(maxSteps:=999999)only[↓X4,wA,seval,zA,wN];rw[hR];refine C4 rfl (AH Xb rfl rfl (Qd _ _).symm (by rw[Us]) (Nat.le_of_eq (Qd _ _)))
theorem LZ (a b:List Int)(ha:Jl a)(hb:Jl b)(la:a.length<10000000000000)(hl:b.length≤a.length)(h:val b≤val a) :
  ∃L,Jl L∧val L=val a-val b∧L.length≤a.length∧Fn Tryz.prog 190 [X8 a,X8 b] (X8 L) :=
 ⟨_,BV ha hb,BW ha hb hl h,Nat.le_of_eq (Qd _ _),iS a b ha hb la hl h⟩
def bl (z:Int):Nat:=(X9 z.natAbs).length
theorem E5 {n k:Nat}(h:(n:Int)<pw k):(X9 n).length≤k:=by
 apply Classical.byContradiction;intro h2;have hne:X9 n≠[]:=fun e=>by rw[e]at h2;simp at h2
 have h3:=CK (XV n) hne;rw[Xx]at h3;have h4:=Cl (show k≤(X9 n).length-1 by omega);omega
theorem OP (n:Nat):(n:Int)<pw (X9 n).length:=by
 have:=ZC (XN n);rwa[Xx]at this
theorem G2 {z:Int}{k:Nat}(h:(z.natAbs:Int)<pw k):bl z≤k:=E5 h
theorem Nj (z:Int):(z.natAbs:Int)<pw (bl z):=OP _
theorem eQ (z:Int):bl (-z)=bl z:=by unfold bl;rw[Int.natAbs_neg]
theorem QY {y z:Int}(h:y.natAbs≤z.natAbs):bl y≤bl z:=G2 (by have:=Nj z;omega)
theorem TS (x y:Int):bl (x+y)≤max (bl x) (bl y)+1:=by
 refine G2 ?_;have h1:=Nj x;have h2:=Nj y;have h3:=Cl (Nat.le_max_left (bl x) (bl y));have h4:=Cl (Nat.le_max_right (bl x) (bl y));have h5:((x+y).natAbs:Int)≤x.natAbs+y.natAbs:=by omega
 simp only[pw];omega
theorem JE (x y:Int):bl (x*y)≤bl x+bl y:=by
 refine G2 ?_;rw[Int.natAbs_mul,Do];have h1:=Nj x;have h2:=Nj y
 push_cast
 have h3:(x.natAbs:Int)*y.natAbs≤x.natAbs*pw (bl y):=Int.mul_le_mul_of_nonneg_left (by omega) (by omega);have h4:(x.natAbs:Int)*pw (bl y)<pw (bl x)*pw (bl y):=Int.mul_lt_mul_of_pos_right h1 (Jn _);omega
theorem GM (x:Int):KC (decide (x<0)) x.natAbs=x:=by
 unfold KC;by_cases h:x<0
 ·rw[if_pos (decide_eq_true h)];omega
 ·rw[if_neg (by simpa using h)];omega
def room:Nat:=1000000000000
theorem dU (x y:Int)(hx:bl x<room)(hy:bl y<room):Fn Tryz.prog 109 [zA x,zA y] (zA (x+y)):=by
 obtain⟨R,hR⟩:∃R,R=zA (x+y):=⟨_,rfl⟩
 have sR:Settled R:=hR▸XM _;unfold bl room at hx hy;have dx:=XN x.natAbs;have dy:=XN y.natAbs;have vx:=Xx x.natAbs;have vy:=Xx y.natAbs;have p1:(x<0↔y<0)→∃L,Fn Tryz.prog 188 [X8 (X9 x.natAbs),X8 (X9 y.natAbs)] (X8 L)∧Fn Tryz.prog 182 [.bool (decide (x<0)),X8 L] R:=fun h=>by
  obtain⟨L,l1,l2,l3,l4⟩:=Wc _ _ dx dy (by omega) (by omega);refine⟨L,l4,?_⟩;have e:KC (decide (x<0)) (val L)=x+y:=by
   rw[l2,vx,vy];unfold KC;by_cases h2:x<0
   ·rw[if_pos (decide_eq_true h2)];omega
   ·rw[if_neg (by simpa using h2)];omega
  have:=Uw (decide (x<0)) L l1 (by omega);rwa[e,←hR]at this
 have cmp:=Db _ _ (XV x.natAbs) (XV y.natAbs) (by omega);rw[vx,vy]at cmp;have p2:¬ (x<0↔y<0)→((x.natAbs:Int)-y.natAbs).sign<0→∃L,Fn Tryz.prog 190 [X8 (X9 y.natAbs),X8 (X9 x.natAbs)] (X8 L)∧Fn Tryz.prog 182 [.bool (decide (y<0)),X8 L] R:=fun h hc=>by
  have hlt:(x.natAbs:Int)-y.natAbs<0:=Int.sign_neg_iff.1 hc;have hl:(X9 x.natAbs).length≤(X9 y.natAbs).length:=QY (show x.natAbs≤y.natAbs by omega);obtain⟨L,l1,l2,l3,l4⟩:=LZ _ _ dy dx (by omega) hl (by omega);refine⟨L,l4,?_⟩;have e:KC (decide (y<0)) (val L)=x+y:=by
   rw[l2,vx,vy];unfold KC;by_cases h2:y<0
   ·rw[if_pos (decide_eq_true h2)];omega
   ·rw[if_neg (by simpa using h2)];omega
  have:=Uw (decide (y<0)) L l1 (by omega);rwa[e,←hR]at this
 have p3:¬ (x<0↔y<0)→¬ ((x.natAbs:Int)-y.natAbs).sign<0→∃L,Fn Tryz.prog 190 [X8 (X9 x.natAbs),X8 (X9 y.natAbs)] (X8 L)∧Fn Tryz.prog 182 [.bool (decide (x<0)),X8 L] R:=fun h hc=>by
  have hlt:¬ (x.natAbs:Int)-y.natAbs<0:=fun h=>hc (Int.sign_neg_iff.2 h)
  have hl:(X9 y.natAbs).length≤(X9 x.natAbs).length:=QY (show y.natAbs≤x.natAbs by omega);obtain⟨L,l1,l2,l3,l4⟩:=LZ _ _ dx dy (by omega) hl (by omega);refine⟨L,l4,?_⟩;have e:KC (decide (x<0)) (val L)=x+y:=by
   rw[l2,vx,vy];unfold KC;by_cases h2:x<0
   ·rw[if_pos (decide_eq_true h2)];omega
   ·rw[if_neg (by simpa using h2)];omega
  have:=Uw (decide (x<0)) L l1 (by omega);rwa[e,←hR]at this
 rw[←hR];refine Fq Tryz.call109 Tryz.func109 6 [] [] [] (by simp[Kc]) (Xk ?_);simp(maxSteps:=999999)only[AS.start,↓X4,wA,seval,zA,wN];refine Qg (fun h=>?_) (fun h=>?_)
 ·obtain⟨L,c1,c2⟩:=p1 (by simpa using h)
  refine X1 c1 rfl ?_;simp only[↓X4,wA,seval,zA,wN];refine X1 c2 rfl ?_;simp only[hR,↓X4,wA,seval,zA,wN];exact Q7 rfl XX rfl rfl rfl hR sR ⟨Weak.rfl' _,Weak.rfl' _,trivial⟩
 ·have h':¬ (x<0↔y<0):=by simpa using h
  refine X1 cmp rfl ?_;simp only[↓X4,wA,seval,zA,wN];refine⟨fun hc=>?_,fun hc=>?_⟩
  ·obtain⟨L,c1,c2⟩:=p2 h' hc
   refine X1 c1 rfl ?_;simp only[↓X4,wA,seval,zA,wN];refine X1 c2 rfl ?_;simp only[hR,↓X4,wA,seval,zA,wN];exact Q7 rfl XX rfl rfl rfl hR sR ⟨Weak.rfl' _,Weak.rfl' _,trivial⟩
  ·obtain⟨L,c1,c2⟩:=p3 h' hc
   refine X1 c1 rfl ?_;simp only[↓X4,wA,seval,zA,wN];refine X1 c2 rfl ?_;simp only[hR,↓X4,wA,seval,zA,wN];exact Q7 rfl XX rfl rfl rfl hR sR ⟨Weak.rfl' _,Weak.rfl' _,trivial⟩
theorem UX (s:Bool)(l:List Int):Settled (.agg [.bool s,X8 l]):=Qr (by simp[Xc,X5])
theorem T8 {H:List AO}{id ver:Nat}{l:List Int}(ho:H[id]?=some (.con ver l.length (QL I 0 l))):Ke H (.osl id ver 1 0 l.length) (X8 l) :=
 Zc ho (Nat.le_refl _) (fun h=>h) fun _ _=>XL _ _
theorem DH {m:Nat}{s:AS}(id slot:Nat){ver:Nat}{l:List Int}(ho:s.h[id]?=some (.row ver l.length (QL I 0 l))) (hs:s.sl.getD slot .any=.osl id ver 1 0 l.length) (hi:slot<s.n0) :
  Sub m s { s with sl:=s.sl.set slot (X8 l),h:=s.h.set id (.con ver l.length (QL I 0 l)) }:=by
 refine(XC id ho).trans ?_;have hlt:=(List.getElem?_eq_some_iff.1 ho).1;refine DI (s:={ s with h:=s.h.set id (.con ver l.length (QL I 0 l)) }) slot (X8 l) hi ?_;show Ke _ (s.sl.getD slot .any) _;rw[hs];exact T8 (by simp[hlt])
def iZ (a b:List Int)(p:List Int×Nat):Prop :=
 p.2≤a.length∧p.1.length=a.length+b.length∧Jl p.1∧(∀j,p.2+b.length≤j→p.1.getD j 0=0)∧val p.1=val (a.take p.2)*val b
def j8 (a b O:List Int)(i:Nat)(p:List Int×Int×Nat):Prop :=
 p.2.2≤b.length∧p.1.length=a.length+b.length∧Jl p.1∧Q5 p.2.1∧(∀j,i+b.length≤j→p.1.getD j 0=0)∧val p.1+p.2.1*pw (i+p.2.2)=val O+dg a i*val (b.take p.2.2)*pw i
theorem NI {a b O:List Int}{i:Nat}{O':List Int}{c:Int}{k:Nat}(ha:Jl a)(hb:Jl b)(hi:i<a.length)(hk:k<b.length)(h:j8 a b O i (O',c,k)) {v:Int} (hv:v=O'.getD (i+k) 0+dg a i*dg b k+c) :
  0≤v∧v<1000000000000000000∧j8 a b O i (O'.set (i+k) (v-v/1000000000*1000000000),v/1000000000,k+1):=by
 obtain⟨h1,h2,h3,h4,h5,h6⟩:=h;simp only at h1 h2 h3 h4 h5 h6;have o1:=Jt h3 (i+k);have m1:=BP (Qc ha i) (Qc hb k);unfold Q5 at o1 h4;have v0:0≤v:=by omega
 have v1:v<1000000000000000000:=by omega
 refine⟨v0,v1,by simp only;omega,by simp[h2],EH h3 _ ⟨by omega,by omega⟩,⟨by simp only;omega,by simp only;omega⟩,fun j hj=>?_,?_⟩
 ·simp only at hj ⊢
  rw[Qy _ _ _ _ (by omega),if_neg (by omega)];exact h5 j hj
 ·simp only
  rw[Ct _ _ _ (by omega),Jk b k hk,show i+(k+1)=(i+k)+1 by omega];have hd:dg b k=b.getD k 0:=rfl;rw[←hd];simp only[pw];generalize v/1000000000=q at *;generalize O'.getD (i+k) 0=o at *;have e:=Do i k;rw[e]at h6 ⊢;generalize pw i=P at *;generalize pw k=Q at *;generalize val (b.take k)=W at *;grind
theorem NH {a b O:List Int}{i:Nat}{O':List Int}{c:Int}(hi:i<a.length)(h0:iZ a b (O,i)) (h:j8 a b O i (O',c,b.length)):iZ a b (O'.set (i+b.length) c,i+1):=by
 obtain⟨h1,h2,h3,h4,h5,h6⟩:=h;simp only at h1 h2 h3 h4 h5 h6;obtain⟨_,_,_,_,g⟩:=h0;simp only at g;refine⟨by simp only;omega,by simp[h2],EH h3 _ h4,fun j hj=>?_,?_⟩
 ·simp only at hj ⊢
  rw[Qy _ _ _ _ (by omega),if_neg (by omega)];exact h5 j (by omega)
 ·simp only
  rw[Ct _ _ _ (by omega),h5 _ (Nat.le_refl _),Jk a i hi];rw[List.take_length]at h6;have hd:dg a i=a.getD i 0:=rfl;rw[←hd];rw[g]at h6;generalize pw i=P at *;generalize pw (i+b.length)=Q at *;generalize val (a.take i)=W at *;grind
theorem nY (sx sy:Bool)(a b:List Int)(ha:Jl a)(hb:Jl b)(la:a.length<room)(lb:b.length<room) :
  Fn Tryz.prog 102 [.agg [.bool sx,X8 a],.agg [.bool sy,X8 b]] (zA (KC (sx != sy) (val a*val b))):=by
 obtain⟨R,hR⟩:∃R,R=zA (KC (sx != sy) (val a*val b)):=⟨_,rfl⟩
 have sR:Settled R:=hR▸XM _;unfold room at la lb;rw[←hR];have w0:IntKind.i64.wrap ((a.length:Int)+b.length)=((a.length+b.length:Nat):Int):=by rw[IntKind.wrap_i64];omega
 refine Fq Tryz.call102 Tryz.func102 14 [47,48,49,54,55,56] [] [] (by simp[UX]) (Xk ?_);simp(maxSteps:=999999)only[AS.start,w0,Int.toNat_natCast,↓X4,wA,seval,zA,wN];refine(fun key=>⟨fun h1=>⟨fun h2=>⟨by omega,by omega,by omega,by omega,?c⟩,fun h2=>⟨⟨by omega,by omega⟩,key⟩⟩,fun h1=>⟨⟨by omega,by omega⟩,key⟩⟩) ?r
 case c =>
  obtain⟨p,rfl⟩:=List.length_eq_one_iff.1 (show a.length=1 by omega);obtain⟨q,rfl⟩:=List.length_eq_one_iff.1 (show b.length=1 by omega);have hp:=ha p (by simp);have hq:=hb q (by simp);have m1:=BP hp hq;unfold Q5 at hp hq;have e1:IntKind.u64.wrap p=p:=by rw[IntKind.wrap_u64];omega
  have e2:IntKind.u64.wrap q=q:=by rw[IntKind.wrap_u64];omega
  have e3:IntKind.u64.wrap (p*q)=p*q:=by rw[IntKind.wrap_u64];omega
  have c:=Z9 (sx != sy) (p*q) (by omega) (by omega);have e4:val [p]*val [q]=p*q:=by simp[val]
  rw[e4]at hR;rw[←hR]at c;simp only[List.getD_cons_zero,e1,e2,e3];have e5:(!sx == sy)=(sx != sy):=by cases sx <;> cases sy <;> rfl
  rw[e5];refine X1 c rfl ?_;simp only[hR,↓X4,wA,seval,zA,wN];exact Q7 rfl XX rfl rfl rfl hR sR ⟨Weak.rfl' _,Weak.rfl' _,trivial⟩
 refine Xj (fun p:List Int×Nat=>⟨14,[47,48,49,54,55,56],[.any,.any,.ref 0 0 0,.ref 1 0 0,.ref 2 0 0,X8 a,X8 b,.osl 3 0 1 0 (a.length+b.length),.any,.any,.any,.any,.any,.any],
  [(47,X8 a),(48,I a.length),(49,I p.2)],[.row 0 2 (Xf [.bool sx,X8 a]),.row 0 2 (Xf [.bool sy,X8 b]),.row 0 2 (Xf [.bool false,.sl 0 0 (fun _=>.any) true]),.row 0 (a.length+b.length) (QL I 0 p.1)]⟩)
  (iZ a b) (fun p=>a.length-p.2) (List.replicate (a.length+b.length) 0,0) ?_ ?_ ?_
 ·refine⟨Nat.zero_le _,by simp,fun d hd=>?_,fun j _=>?_,?_⟩
  ·rw[(List.mem_replicate.1 hd).2];exact⟨by omega,by omega⟩
  ·simp[List.getD_eq_getElem?_getD,List.getElem?_replicate]
   split <;> rfl
  ·simp only[List.take_zero];rw[F0];simp[val]
 ·refine(KH 3 (a.length+b.length) (QL I 0 (List.replicate (a.length+b.length) 0)) rfl (Nat.le_refl _) ?_).trans (Xi rfl ?_ ?_ ?_)
  ·intro j hj
   rw[AL];simp[List.getD_eq_getElem?_getD,List.getElem?_replicate,hj,I]
  ·simp[Xm,X8,Qs,I]
  ·simp[Xw,XA,X8,Qs,I]
  ·rfl
 rintro⟨O,i⟩ hO next
 obtain⟨g1,g2,g3,g4,g5⟩:=hO;simp only at g1 g2 g3 g4 g5;have w1:=wj i (by omega);by_cases hi:i<a.length
 ·have e1:((i:Int)<a.length)=True:=eq_true (by omega)
  have e2:(i<a.length)=True:=eq_true hi;have eA:a.getD i 0=dg a i:=rfl;refine Xk ?_;simp(maxSteps:=999999)only[w1,e1,e2,eA,↓X4,wA,seval,zA,wN];have hO:iZ a b (O,i):=⟨g1,g2,g3,g4,g5⟩
  refine Xj (fun p:List Int×Int×Nat=>⟨14,[47,48,49,54,55,56],[.any,.any,.ref 0 0 0,.ref 1 0 0,.ref 2 0 0,X8 a,X8 b,.osl 3 0 1 0 (a.length+b.length),I i,I (dg a i),I p.2.1,.any,.any,.any],
   [(54,X8 b),(55,I b.length),(56,I p.2.2),(47,X8 a),(48,I a.length),(49,I i)],[.row 0 2 (Xf [.bool sx,X8 a]),.row 0 2 (Xf [.bool sy,X8 b]),.row 0 2 (Xf [.bool false,.sl 0 0 (fun _=>.any) true]),.row 0 (a.length+b.length) (QL I 0 p.1)]⟩)
   (j8 a b O i) (fun p=>b.length-p.2.2) (O,0,0) ⟨Nat.zero_le _,g2,g3,⟨by simp,by simp⟩,g4,by simp[val]⟩ (Xi rfl (by simp[Xm,X8,Qs,I]) (by simp[Xw,XA,X8,Qs,I]) (by simp[X8,Qs])) ?_
  rintro⟨O',c,k⟩ hJ next2;obtain⟨j1,j2,j3,j4,j5,j6⟩:=id hJ;simp only at j1 j2 j3 j4 j5 j6;have w2:=wj k (by omega);by_cases hk:k<b.length
  ·obtain⟨v0,v1,hst⟩:=NI (a:=a) (b:=b) (O:=O) (i:=i) (O':=O') (c:=c) (k:=k) ha hb hi hk hJ rfl
   have o1:=Jt j3 (i+k);have m1:=BP (Qc ha i) (Qc hb k);have eB:b.getD k 0=dg b k:=rfl;have f1:((k:Int)<b.length)=True:=eq_true (by omega);have f2:(k<b.length)=True:=eq_true hk;have f3:IntKind.i64.wrap ((i:Int)+k)=((i+k:Nat):Int):=by rw[IntKind.wrap_i64];omega
   have f4:(i+k<a.length+b.length)=True:=eq_true (by omega);have f5:(i+k+1≤a.length+b.length)=True:=eq_true (by omega);unfold Q5 at o1 j4;have hU:∀x:Int,DS (QL I 0 O') (i+k) (.int .i64 x)=QL I 0 (O'.set (i+k) x):=fun x=>Zr _ _ _ (by omega)
   have q1:IntKind.i64.wrap (dg a i*dg b k)=dg a i*dg b k:=by rw[IntKind.wrap_i64];omega
   have q2:IntKind.i64.wrap (O'.getD (i+k) 0+dg a i*dg b k)=O'.getD (i+k) 0+dg a i*dg b k:=by rw[IntKind.wrap_i64];omega
   have q3:IntKind.i64.wrap (O'.getD (i+k) 0+dg a i*dg b k+c)=O'.getD (i+k) 0+dg a i*dg b k+c:=by rw[IntKind.wrap_i64];omega
   have q4:IntKind.i64.wrap ((O'.getD (i+k) 0+dg a i*dg b k+c).tdiv 1000000000)=(O'.getD (i+k) 0+dg a i*dg b k+c)/1000000000:=by
    rw[Int.tdiv_eq_ediv_of_nonneg v0,IntKind.wrap_i64];omega
   have q5:IntKind.i64.wrap ((O'.getD (i+k) 0+dg a i*dg b k+c)/1000000000*1000000000)=(O'.getD (i+k) 0+dg a i*dg b k+c)/1000000000*1000000000:=by
    rw[IntKind.wrap_i64];omega
   have q6:IntKind.i64.wrap (O'.getD (i+k) 0+dg a i*dg b k+c-(O'.getD (i+k) 0+dg a i*dg b k+c)/1000000000*1000000000)=O'.getD (i+k) 0+dg a i*dg b k+c-(O'.getD (i+k) 0+dg a i*dg b k+c)/1000000000*1000000000:=by
    rw[IntKind.wrap_i64];omega
   refine Xk ?_;simp(maxSteps:=999999)only[w2,f1,f2,f3,f4,f5,eB,q1,q2,q3,q4,q5,q6,hU,Int.toNat_natCast,Int.reduceEq,↓X4,wA,seval,zA,wN];exact next2 _ _ hst (by simp only;omega) (Xi rfl (by simp[Xm,X8,Qs,I]) (by simp[Xw,XA,X8,Qs,I]) (by simp[X8,Qs]))
  ·obtain rfl:k=b.length:=by omega
   have f3:IntKind.i64.wrap ((i:Int)+b.length)=((i+b.length:Nat):Int):=by rw[IntKind.wrap_i64];omega
   have f4:(i+b.length<a.length+b.length)=True:=eq_true (by omega);have f5:(i+b.length+1≤a.length+b.length)=True:=eq_true (by omega);have hU:∀x:Int,DS (QL I 0 O') (i+b.length) (.int .i64 x)=QL I 0 (O'.set (i+b.length) x):=fun x=>Zr _ _ _ (by omega)
   refine Xk ?_;simp(maxSteps:=999999)only[w1,w2,f3,f4,f5,hU,Int.toNat_natCast,Int.reduceEq,Int.lt_irrefl,↓X4,wA,seval,zA,wN];exact next _ _ (NH hi hO hJ) (by simp only;omega) (Xi rfl (by simp[Xm,X8,Qs,I]) (by simp[Xw,XA,X8,Qs,I]) (by simp[X8,Qs]))
 ·obtain rfl:i=a.length:=by omega
  rw[List.take_length]at g5;have c:=Uw (sx != sy) O g3 (by omega);rw[g5,←hR]at c;have e5:(!sx == sy)=(sx != sy):=by cases sx <;> cases sy <;> rfl
  have hrow:Sub (Ju Tryz.prog Tryz.f102 [] [] R).base (⟨14,[47,48,49,54,55,56],[.any,.any,.ref 0 0 0,.ref 1 0 0,.ref 2 0 0,X8 a,X8 b,.osl 3 0 1 0 (a.length+b.length),.any,.any,.any,.any,.any,.any],
    [(47,X8 a),(48,I a.length),(49,I a.length)],[.row 0 2 (Xf [.bool sx,X8 a]),.row 0 2 (Xf [.bool sy,X8 b]),.row 0 2 (Xf [.bool false,.sl 0 0 (fun _=>.any) true]),.row 0 (a.length+b.length) (QL I 0 O)]⟩)
    ⟨14,[47,48,49,54,55,56],[.any,.any,.ref 0 0 0,.ref 1 0 0,.ref 2 0 0,X8 a,X8 b,X8 O,.any,.any,.any,.any,.any,.any],
    [(47,X8 a),(48,I a.length),(49,I a.length)],[.row 0 2 (Xf [.bool sx,X8 a]),.row 0 2 (Xf [.bool sy,X8 b]),.row 0 2 (Xf [.bool false,.sl 0 0 (fun _=>.any) true]),.con 0 O.length (QL I 0 O)]⟩:=by
   rw[←g2];exact DH 3 7 rfl rfl (by simp)
  refine Run.sub ?_ hrow;refine Xk ?_;simp(maxSteps:=999999)only[Int.lt_irrefl,Nat.lt_irrefl,e5,↓X4,wA,seval,zA,wN];refine X1 c rfl ?_;simp only[hR,↓X4,wA,seval,zA,wN];exact Q7 rfl XX rfl rfl rfl hR sR ⟨Weak.rfl' _,Weak.rfl' _,trivial⟩
theorem Ee (x y:Int)(hx:bl x<room)(hy:bl y<room):Fn Tryz.prog 102 [zA x,zA y] (zA (x*y)):=by
 have h:=nY (decide (x<0)) (decide (y<0)) _ _ (XN x.natAbs) (XN y.natAbs) hx hy;have e:KC (decide (x<0) != decide (y<0)) (val (X9 x.natAbs)*val (X9 y.natAbs))=x*y:=by
  rw[Xx,Xx];have hx':=GM x;have hy':=GM y
  conv=>rhs;rw[←hx',←hy']
  generalize (x.natAbs:Int)=p;generalize (y.natAbs:Int)=q;unfold KC;by_cases h1:x<0 <;> by_cases h2:y<0 <;> simp[h1,h2,Int.neg_mul,Int.mul_neg]
 rw[e]at h;exact h
def Dt (a:List Int)(b:Int)(k:Nat):List Int:=B5 (fun j=>if k≤j then An a b j else 0) a.length
theorem S0 (a:List Int)(b:Int)(k:Nat):(Dt a b k).length=a.length:=Qd _ _
theorem S8 (a:List Int)(b:Int)(k:Nat)(h:k<a.length){x:Int}(hx:x=An a b k):(Dt a b (k+1)).set k x=Dt a b k:=by
 unfold Dt;rw[Bg _ _ _ _ h];refine KL fun q _=>?_
 by_cases e:q=k
 ·subst e;rw[if_pos rfl,if_pos (Nat.le_refl _),hx]
 ·rw[if_neg e]
  by_cases h1:k≤q
  ·rw[if_pos h1,if_pos (by omega)]
  ·rw[if_neg h1,if_neg (by omega)]
theorem NX (a:List Int)(b:Int):Dt a b 0=B5 (An a b) a.length:=KL fun q _=>if_pos (Nat.zero_le _)
theorem SF (a:List Int)(b:Int)(ha:Jl a)(hb:Q5 b)(hb0:b≠0)(la:a.length<10000000000000) :
  Fn Tryz.prog 238 [X8 a,I b] (.tup [X8 (B5 (An a b) a.length),I (val a%b)]):=by
 obtain⟨Q,hQ⟩:∃Q,Q=X8 (B5 (An a b) a.length):=⟨_,rfl⟩
 have sQ:Settled Q:=hQ▸Xc _;rw[←hQ];unfold Q5 at hb;refine Fq Tryz.call238 Tryz.func238 10 [] [] [] (by simp[Kc]) (Xk ?_);simp(maxSteps:=999999)only[AS.start,↓X4,wA,seval,zA,wN];refine⟨⟨by omega,by omega⟩,?_⟩;have w0:IntKind.i64.wrap ((a.length:Int)-1)=(a.length:Int)-1:=by rw[IntKind.wrap_i64];omega
 rw[w0];refine Xj (fun k:Nat=>⟨10,[],[X8 a,I b,.any,.any,.sl 0 0 (fun _=>.any) true,I 0,.osl 0 0 1 0 a.length,I (JV a b k),I ((k:Int)-1),.any],
  [],[.row 0 a.length (QL I 0 (Dt a b k))]⟩) (fun k=>k≤a.length) (fun k=>k) a.length (Nat.le_refl _)
  ?_ ?_
 ·refine(KH 0 a.length (QL I 0 (Dt a b a.length)) rfl (Nat.le_refl _) ?_).trans (Xi rfl ?_ ?_ ?_)
  ·intro j hj
   have:(Dt a b a.length).getD j 0=0:=by unfold Dt;rw[CA _ _ _ hj,if_neg (by omega)]
   rw[AL,this];rfl
  ·simp[Xm,X8,Qs,I,Mk]
  ·simp[Xw]
  ·rfl
 intro k hk next
 cases k with
 |zero =>
  have e1:((0:Int)≤0-1)=False:=eq_false (by omega);refine Xk ?_;simp(maxSteps:=999999)only[e1,↓X4,wA,seval,zA,wN];have e0:JV a b 0=val a%b:=by unfold JV;rw[List.drop_zero]
  rw[e0];refine oD rfl (CX ⟨?_,Q1 (Xb _) rfl,trivial⟩);rw[hQ];exact AH Xb rfl rfl (Qd _ _).symm (by rw[NX]) (Nat.le_of_eq (Qd _ _))
 |succ k =>
  have e1:((k+1:Nat):Int)-1=(k:Int):=by omega
  have w1:IntKind.i64.wrap ((k:Int)-1)=(k:Int)-1:=by rw[IntKind.wrap_i64];omega
  have e2:((k:Int)<a.length)=True:=eq_true (by omega);have e3:(k<a.length)=True:=eq_true (by omega);have e4:(b=0)=False:=eq_false hb0;have r1:0≤JV a b (k+1):=Int.emod_nonneg _ hb0;have r2:JV a b (k+1)<b:=Int.emod_lt_of_pos _ (by omega);have d1:=Qc ha k;unfold Q5 at d1;have eA:a.getD k 0=dg a k:=rfl;have q1:IntKind.i64.wrap (JV a b (k+1)*1000000000)=JV a b (k+1)*1000000000:=by rw[IntKind.wrap_i64];omega
  have q2:IntKind.i64.wrap (JV a b (k+1)*1000000000+dg a k)=JV a b (k+1)*1000000000+dg a k:=by rw[IntKind.wrap_i64];omega
  have v0:0≤JV a b (k+1)*1000000000+dg a k:=by omega
  have d2:=Ej (a:=a) (b:=b) ha (by omega) k;have eq:An a b k=(JV a b (k+1)*1000000000+dg a k)/b:=rfl;unfold Q5 at d2;have q3:IntKind.i64.wrap ((JV a b (k+1)*1000000000+dg a k).tdiv b)=An a b k:=by
   rw[Int.tdiv_eq_ediv_of_nonneg v0,←eq,IntKind.wrap_i64];omega
  have q4:(JV a b (k+1)*1000000000+dg a k).tmod b=JV a b k:=by
   rw[Int.tmod_eq_emod_of_nonneg v0,Hz a b k (by omega)];rfl
  have hU:DS (QL I 0 (Dt a b (k+1))) k (.int .i64 (An a b k))=QL I 0 (Dt a b k):=by
   rw[Zr _ _ _ (by rw[S0];omega),S8 a b k (by omega) rfl]
  refine Xk ?_;simp(maxSteps:=999999)only[e1,w1,e2,e3,e4,eA,q1,q2,q3,q4,hU,↓X4,wA,seval,zA,wN];exact⟨by omega,next k _ (by omega) (by omega) (BA (by simp[Xm,X8,Qs,I]) rfl)⟩
def Kj (a:List Int)(m:Int)(k:Nat):List Int:=B5 (fun j=>if j<k then FH (dg a) m j else 0) (a.length+1)
theorem DC (a:List Int)(m:Int)(k:Nat):(Kj a m k).length=a.length+1:=Qd _ _
def J7 (a:List Int)(m:Int):List Int:=B5 (FH (dg a) m) a.length ++ [Kw (dg a) m a.length]
theorem C5 (a:List Int)(m:Int):(J7 a m).length=a.length+1:=by simp[J7,Qd]
theorem Mr (a:List Int)(m:Int):val (J7 a m)=val a*m:=by
 unfold J7;rw[Ez,Qd,GY,W0,Eu a _ (Nat.le_refl _)]
theorem Mq {a:List Int}{m:Int}(ha:Jl a)(hm:Q5 m):Jl (J7 a m):=by
 unfold J7;exact Iu.2 ⟨Df fun i _=>j9 (Qc ha) hm i,KW.2 ⟨CQ (Qc ha) hm _,Cg⟩⟩
theorem Mt (a:List Int)(m:Int)(k:Nat)(h:k<a.length){x:Int}(hx:x=FH (dg a) m k):(Kj a m k).set k x=Kj a m (k+1):=by
 unfold Kj;rw[Bg _ _ _ _ (by omega)];refine KL fun q _=>?_
 by_cases e:q=k
 ·subst e;rw[if_pos rfl,if_pos (by omega),hx]
 ·rw[if_neg e]
  by_cases h1:q<k
  ·rw[if_pos h1,if_pos (by omega)]
  ·rw[if_neg h1,if_neg (by omega)]
theorem Ms (a:List Int)(m:Int):(Kj a m a.length).set a.length (Kw (dg a) m a.length)=J7 a m:=by
 unfold Kj J7;rw[Bg _ _ _ _ (by omega),Ew];congr 1
 ·refine KL fun q hq=>?_
  rw[if_neg (by omega),if_pos hq]
 ·simp
theorem b8 (a:List Int)(m:Int)(ha:Jl a)(hm:Q5 m)(la:a.length<10000000000) :
  Fn Tryz.prog 252 [X8 a,I m] (X8 (J7 a m)):=by
 have w0:IntKind.i64.wrap ((a.length:Int)+1)=((a.length+1:Nat):Int):=by rw[IntKind.wrap_i64];omega
 refine Fq Tryz.call252 Tryz.func252 10 [14,15,16] [] [] (by simp[Xc,Xb]) (Xk ?_);simp(maxSteps:=999999)only[AS.start,w0,Int.toNat_natCast,↓X4,wA,seval,zA,wN];refine⟨⟨by omega,by omega⟩,?_⟩;refine Xj (fun k:Nat=>⟨10,[14,15,16],[X8 a,I m,.any,.any,.sl 0 0 (fun _=>.any) true,.osl 0 0 1 0 (a.length+1),I (Kw (dg a) m k),.any,.any,.any],
  [(14,X8 a),(15,I a.length),(16,I k)],[.row 0 (a.length+1) (QL I 0 (Kj a m k))]⟩) (fun k=>k≤a.length) (fun k=>a.length-k) 0 (by omega)
  ?_ ?_
 ·refine(KH 0 (a.length+1) (QL I 0 (Kj a m 0)) rfl (Nat.le_refl _) ?_).trans (Xi rfl ?_ ?_ ?_)
  ·intro j hj
   have:(Kj a m 0).getD j 0=0:=by unfold Kj;rw[CA _ _ _ hj,if_neg (by omega)]
   rw[AL,this];rfl
  ·simp[Xm,X8,Qs,I,Kw]
  ·simp[Xw,XA,X8,Qs,I]
  ·rfl
 intro k hk next
 have w1:=wj k (by omega);have c1:=CQ (Qc ha) hm k;have m1:=BP (Qc ha k) hm;have eA:a.getD k 0=dg a k:=rfl;unfold Q5 at c1;have v0:0≤dg a k*m+Kw (dg a) m k:=by omega
 have eC:(dg a k*m+Kw (dg a) m k)/1000000000=Kw (dg a) m (k+1):=rfl;have eO:(dg a k*m+Kw (dg a) m k)%1000000000=FH (dg a) m k:=rfl;have c2:=CQ (Qc ha) hm (k+1);unfold Q5 at c2;have q1:IntKind.i64.wrap (dg a k*m)=dg a k*m:=by rw[IntKind.wrap_i64];omega
 have q2:IntKind.i64.wrap (dg a k*m+Kw (dg a) m k)=dg a k*m+Kw (dg a) m k:=by rw[IntKind.wrap_i64];omega
 have q3:IntKind.i64.wrap ((dg a k*m+Kw (dg a) m k).tdiv 1000000000)=Kw (dg a) m (k+1):=by
  rw[Int.tdiv_eq_ediv_of_nonneg v0,eC,IntKind.wrap_i64];omega
 have q4:(dg a k*m+Kw (dg a) m k).tmod 1000000000=FH (dg a) m k:=by
  rw[Int.tmod_eq_emod_of_nonneg v0,eO]
 by_cases hk2:k<a.length
 ·have e1:((k:Int)<a.length)=True:=eq_true (by omega)
  have e2:(k<a.length)=True:=eq_true hk2;have e3:(k<a.length+1)=True:=eq_true (by omega);have e4:(k+1≤a.length+1)=True:=eq_true (by omega);have e5:(k≤a.length)=True:=eq_true (by omega);have hU:DS (QL I 0 (Kj a m k)) k (.int .i64 (FH (dg a) m k))=QL I 0 (Kj a m (k+1)):=by
   rw[Zr _ _ _ (by rw[DC];omega),Mt a m k hk2 rfl]
  refine Xk ?_;simp(maxSteps:=999999)only[w1,e1,e2,e3,e4,e5,eA,q1,q2,q3,q4,hU,Int.reduceEq,↓X4,wA,seval,zA,wN];exact next (k+1) _ (by omega) (by omega) (Xi rfl (by simp[Xm,X8,Qs,I]) (by simp[Xw,XA,X8,Qs,I]) rfl)
 ·obtain rfl:k=a.length:=by omega
  have hU:DS (QL I 0 (Kj a m a.length)) a.length (.int .i64 (Kw (dg a) m a.length))=QL I 0 (J7 a m):=by
   rw[Zr _ _ _ (by rw[DC];omega),Ms]
  have e3:(a.length<a.length+1)=True:=eq_true (by omega);have e4:(a.length+1≤a.length+1)=True:=eq_true (by omega);refine Xk ?_;simp(maxSteps:=999999)only[w1,e3,e4,hU,Int.lt_irrefl,Nat.lt_irrefl,↓X4,wA,seval,zA,wN];exact C4 rfl (AH Xb rfl rfl (C5 _ _).symm rfl (Nat.le_of_eq (C5 _ _)))
theorem UP (a:List Int)(m:Int)(ha:Jl a)(hm:Q5 m)(la:a.length<10000000000) :
  HCall Tryz.prog 252 [X8 a,I m] [] (.osl 0 0 1 0 (a.length+1)) [.row 0 (a.length+1) (QL I 0 (J7 a m))]:=by
 have w0:IntKind.i64.wrap ((a.length:Int)+1)=((a.length+1:Nat):Int):=by rw[IntKind.wrap_i64];omega
 refine HCall.intro (fn:=Tryz.f252) Tryz.call252 Tryz.func252 rfl mixed 10 [14,15,16] [] [] (by kernel_rfl) (Nat.le_of_ble_eq_true rfl) (Xk ?_);simp(maxSteps:=999999)only[AS.start,w0,Int.toNat_natCast,↓X4,wA,seval,zA,wN];refine⟨⟨by omega,by omega⟩,?_⟩;refine Xj (fun k:Nat=>⟨10,[14,15,16],[X8 a,I m,.any,.any,.sl 0 0 (fun _=>.any) true,.osl 0 0 1 0 (a.length+1),I (Kw (dg a) m k),.any,.any,.any],
  [(14,X8 a),(15,I a.length),(16,I k)],[.row 0 (a.length+1) (QL I 0 (Kj a m k))]⟩) (fun k=>k≤a.length) (fun k=>a.length-k) 0 (by omega)
  ?_ ?_
 ·refine(KH 0 (a.length+1) (QL I 0 (Kj a m 0)) rfl (Nat.le_refl _) ?_).trans (Xi rfl ?_ ?_ ?_)
  ·intro j hj
   have:(Kj a m 0).getD j 0=0:=by unfold Kj;rw[CA _ _ _ hj,if_neg (by omega)]
   rw[AL,this];rfl
  ·simp[Xm,X8,Qs,I,Kw]
  ·simp[Xw,XA,X8,Qs,I]
  ·rfl
 intro k hk next
 have w1:=wj k (by omega);have c1:=CQ (Qc ha) hm k;have m1:=BP (Qc ha k) hm;have eA:a.getD k 0=dg a k:=rfl;unfold Q5 at c1;have v0:0≤dg a k*m+Kw (dg a) m k:=by omega
 have eC:(dg a k*m+Kw (dg a) m k)/1000000000=Kw (dg a) m (k+1):=rfl;have eO:(dg a k*m+Kw (dg a) m k)%1000000000=FH (dg a) m k:=rfl;have c2:=CQ (Qc ha) hm (k+1);unfold Q5 at c2;have q1:IntKind.i64.wrap (dg a k*m)=dg a k*m:=by rw[IntKind.wrap_i64];omega
 have q2:IntKind.i64.wrap (dg a k*m+Kw (dg a) m k)=dg a k*m+Kw (dg a) m k:=by rw[IntKind.wrap_i64];omega
 have q3:IntKind.i64.wrap ((dg a k*m+Kw (dg a) m k).tdiv 1000000000)=Kw (dg a) m (k+1):=by
  rw[Int.tdiv_eq_ediv_of_nonneg v0,eC,IntKind.wrap_i64];omega
 have q4:(dg a k*m+Kw (dg a) m k).tmod 1000000000=FH (dg a) m k:=by
  rw[Int.tmod_eq_emod_of_nonneg v0,eO]
 by_cases hk2:k<a.length
 ·have e1:((k:Int)<a.length)=True:=eq_true (by omega)
  have e2:(k<a.length)=True:=eq_true hk2;have e3:(k<a.length+1)=True:=eq_true (by omega);have e4:(k+1≤a.length+1)=True:=eq_true (by omega);have e5:(k≤a.length)=True:=eq_true (by omega);have hU:DS (QL I 0 (Kj a m k)) k (.int .i64 (FH (dg a) m k))=QL I 0 (Kj a m (k+1)):=by
   rw[Zr _ _ _ (by rw[DC];omega),Mt a m k hk2 rfl]
  refine Xk ?_;simp(maxSteps:=999999)only[w1,e1,e2,e3,e4,e5,eA,q1,q2,q3,q4,hU,Int.reduceEq,↓X4,wA,seval,zA,wN];exact next (k+1) _ (by omega) (by omega) (Xi rfl (by simp[Xm,X8,Qs,I]) (by simp[Xw,XA,X8,Qs,I]) rfl)
 ·obtain rfl:k=a.length:=by omega
  have hU:DS (QL I 0 (Kj a m a.length)) a.length (.int .i64 (Kw (dg a) m a.length))=QL I 0 (J7 a m):=by
   rw[Zr _ _ _ (by rw[DC];omega),Ms]
  have e3:(a.length<a.length+1)=True:=eq_true (by omega);have e4:(a.length+1≤a.length+1)=True:=eq_true (by omega);refine Xk ?_;simp(maxSteps:=999999)only[w1,e3,e4,hU,Int.lt_irrefl,Nat.lt_irrefl,↓X4,wA,seval,zA,wN];exact jE rfl rfl rfl
end
end Go.Ab.N
namespace Go.Ab.N
open Go.Ab
open Classical
noncomputable section
theorem aZ {b s:Int}(h1:1≤b)(h2:b<1000000000)(hs:s=1000000000/(b+1)):1≤s∧s≤500000000∧500000000≤b*s∧(b+1)*s≤1000000000:=by
 have e:=Int.mul_ediv_add_emod 1000000000 (b+1);have r1:=Int.emod_nonneg 1000000000 (show b+1≠0 by omega);have r2:=Int.emod_lt_of_pos 1000000000 (show 0<b+1 by omega);rw[←hs]at e;generalize (1000000000:Int)%(b+1)=r at *;have s1:1≤s:=by
  apply Classical.byContradiction;intro h;have:(b+1)*s≤(b+1)*0:=Int.mul_le_mul_of_nonneg_left (by omega) (by omega);omega
 have s2:s≤500000000:=by
  apply Classical.byContradiction;intro h;have:2*s≤(b+1)*s:=Int.mul_le_mul_of_nonneg_right (by omega) (by omega);omega
 refine⟨s1,s2,?_,by omega⟩;apply Classical.byContradiction;intro h;have e2:(b+1)*s=b*s+s:=by rw[Int.add_mul,Int.one_mul]
 by_cases hb:500000000≤b
 ·have:b*1≤b*s:=Int.mul_le_mul_of_nonneg_left s1 (by omega)
  omega
 ·have h3:500000000-b+1≤s:=by omega
  have h4:b*(500000000-b+1)≤b*s:=Int.mul_le_mul_of_nonneg_left h3 (by omega);have h5:0≤(b-1)*(500000000-b):=Int.mul_nonneg (by omega) (by omega);have h6:b*(500000000-b+1)=(b-1)*(500000000-b)+500000000:=by grind
  omega
theorem ii {W V T top g r v1:Int}(hT:0≤T)(hr:r<v1)(ht:top=g*v1+r)(hW:W<(top+1)*T) (hV:v1*T≤V) (hg:0≤g):W<(g+1)*V:=by
 have h1:(top+1)*T≤((g+1)*v1)*T:=Int.mul_le_mul_of_nonneg_right (by rw[Int.add_mul];omega) hT;have h2:(g+1)*(v1*T)≤(g+1)*V:=Int.mul_le_mul_of_nonneg_left hV (by omega);rw[Int.mul_assoc]at h1;omega
theorem Uf {W V P x t g:Int}(hP:0≤P)(hx:t+1≤g*x)(hW:W<(t+1)*P) (hV:x*P≤V) (hg:0≤g):W<g*V:=by
 have h1:(t+1)*P≤(g*x)*P:=Int.mul_le_mul_of_nonneg_right hx hP;have h2:g*(x*P)≤g*V:=Int.mul_le_mul_of_nonneg_left hV hg;rw[Int.mul_assoc]at h1;omega
theorem Ru {W V P x t g:Int}(hP:0<P)(hx:g*x≤t)(hW:t*P≤W)(hV:V<(x+1)*P) (hg:0≤g) (hgB:g≤1000000000) (hB:1000000000*P≤V):g*V<W+V:=by
 have h1:g*V≤g*((x+1)*P-1):=Int.mul_le_mul_of_nonneg_left (by omega) hg;have h2:(g*x)*P≤t*P:=Int.mul_le_mul_of_nonneg_right hx (by omega);have h3:g*((x+1)*P-1)=(g*x)*P+g*(P-1):=by grind
 have h4:g*(P-1)≤1000000000*(P-1):=Int.mul_le_mul_of_nonneg_right hgB (by omega);omega
def V1 (u v:List Int)(g:Int)(j n:Nat)(p:List Int×Int×Nat):Prop :=
 p.2.2≤n∧p.1.length=u.length∧Jl p.1∧0≤p.2.1∧p.2.1≤1000000000∧(∀i,i<j∨j+p.2.2≤i→p.1.getD i 0=u.getD i 0)∧val p.1-p.2.1*pw (j+p.2.2)=val u-g*val (v.take p.2.2)*pw j
theorem bH {u v u':List Int}{g c:Int}{j n i:Nat}(hv:Jl v)(hg0:0≤g)(hg:g≤1000000000)(hn:n≤v.length)(hj:j+n<u.length)(hi:i<n)(h:V1 u v g j n (u',c,i)) {w:Int} (hw:w=u'.getD (i+j) 0-g*dg v i-c) :
  -2000000000000000000<w∧w<1000000000∧V1 u v g j n (u'.set (i+j) (w%1000000000),-(w/1000000000),i+1):=by
 obtain⟨h1,h2,h3,h4,h5,h6,h7⟩:=h;simp only at h1 h2 h3 h4 h5 h6 h7;have o1:=Jt h3 (i+j);have d1:=Qc hv i;unfold Q5 at o1 d1;have m1:0≤g*dg v i:=Int.mul_nonneg hg0 d1.1;have m2:g*dg v i≤1000000000*dg v i:=Int.mul_le_mul_of_nonneg_right hg d1.1;refine⟨by omega,by omega,by simp only;omega,by simp[h2],EH h3 _ ⟨by omega,by omega⟩,by simp only;omega,by simp only;omega,fun k hk=>?_,?_⟩
 ·simp only at hk ⊢
  rw[Qy _ _ _ _ (by omega),if_neg (by omega)];exact h6 k (by omega)
 ·simp only
  rw[Ct _ _ _ (by omega),Jk v i (by omega),show j+(i+1)=(j+i)+1 by omega,show i+j=j+i by omega];rw[show i+j=j+i by omega]at hw;have hd:dg v i=v.getD i 0:=rfl;rw[←hd];have e:=Do j i;simp only[pw];rw[e]at h7 ⊢;have e2:=Int.mul_ediv_add_emod w 1000000000;generalize w/1000000000=q at *;generalize w%1000000000=r at *;generalize u'.getD (j+i) 0=o at *;generalize pw j=P at *;generalize pw i=Q at *;generalize val (v.take i)=W at *;grind
def dT (u v:List Int)(j n:Nat)(p:List Int×Int×Nat):Prop :=
 p.2.2≤n∧p.1.length=u.length∧(∀i,i≠j+n→Q5 (p.1.getD i 0))∧0≤p.2.1∧p.2.1≤1∧(∀i,i<j∨j+p.2.2≤i→p.1.getD i 0=u.getD i 0)∧val p.1+p.2.1*pw (j+p.2.2)=val u+val (v.take p.2.2)*pw j
theorem Ya {u v u':List Int}{c:Int}{j n i:Nat}(hv:Jl v)(hn:n≤v.length)(hj:j+n<u.length)(hi:i<n)(h:dT u v j n (u',c,i)) {w:Int} (hw:w=u'.getD (i+j) 0+dg v i+c) :
  0≤w∧w<2000000000∧dT u v j n (u'.set (i+j) (w%1000000000),w/1000000000,i+1):=by
 obtain⟨h1,h2,h3,h4,h5,h6,h7⟩:=h;simp only at h1 h2 h3 h4 h5 h6 h7;have o1:=h3 (i+j) (by omega);have d1:=Qc hv i;unfold Q5 at o1 d1;refine⟨by omega,by omega,by simp only;omega,by simp[h2],fun k hk=>?_,by simp only;omega,by simp only;omega,fun k hk=>?_,?_⟩
 ·simp only
  rw[Qy _ _ _ _ (by omega)]
  split
  ·exact⟨by omega,by omega⟩
  ·exact h3 k hk
 ·simp only at hk ⊢
  rw[Qy _ _ _ _ (by omega),if_neg (by omega)];exact h6 k (by omega)
 ·simp only
  rw[Ct _ _ _ (by omega),Jk v i (by omega),show j+(i+1)=(j+i)+1 by omega,show i+j=j+i by omega];rw[show i+j=j+i by omega]at hw;have hd:dg v i=v.getD i 0:=rfl;rw[←hd];have e:=Do j i;simp only[pw];rw[e]at h7 ⊢;have e2:=Int.mul_ediv_add_emod w 1000000000;generalize w/1000000000=q at *;generalize w%1000000000=r at *;generalize u'.getD (j+i) 0=o at *;generalize pw j=P at *;generalize pw i=Q at *;generalize val (v.take i)=W at *;grind
theorem Dj (l:List Int)(j i:Nat):(l.drop j).getD i 0=l.getD (j+i) 0:=by
 simp[List.getD_eq_getElem?_getD,List.getElem?_drop]
theorem BO {l:List Int}(h:Jl l)(j:Nat):Jl (l.drop j):=fun d hd=>h d (List.mem_of_mem_drop hd)
theorem bK {w:List Int}{n:Nat}(hw:Jl w)(hn:2≤n)(hl:n+1≤w.length)(hv:val w<pw (n+1)) :
  val (w.drop (n+1))=0∧∃lw,0≤lw∧lw<pw (n-2)∧val w=((w.getD n 0*1000000000+w.getD (n-1) 0)*1000000000+w.getD (n-2) 0)*pw (n-2)+lw:=by
 have h0:val (w.drop (n+1))=0:=by
  have e:=Jr w (n+1) hl;have h1:=Q2 (QF hw (n+1));have h2:=Q2 (BO hw (n+1));apply Classical.byContradiction;intro h;have:pw (n+1)*1≤pw (n+1)*val (w.drop (n+1)):=Int.mul_le_mul_of_nonneg_left (by omega) (by have:=Jn (n+1);omega);omega
 refine⟨h0,val (w.take (n-2)),Q2 (QF hw _),?_,?_⟩
 ·have:=ZC (QF hw (n-2))
  rwa[List.length_take,Nat.min_eq_left (by omega)]at this
 ·have e1:=Jr w (n-2) (by omega)
  have e2:=Km w (n-2) (by omega);have e3:=Km w (n-1) (by omega);have e4:=Km w n (by omega);rw[show n-2+1=n-1 by omega]at e2;rw[show n-1+1=n by omega]at e3;rw[h0]at e4;rw[e1,e2,e3,e4];generalize pw (n-2)=P;grind
theorem aw {v:List Int}{n:Nat}(hv:Jl v)(hn:2≤n)(hl:v.length=n) :
  ∃lv,0≤lv∧lv<pw (n-2)∧val v=(v.getD (n-1) 0*1000000000+v.getD (n-2) 0)*pw (n-2)+lv:=by
 refine⟨val (v.take (n-2)),Q2 (QF hv _),?_,?_⟩
 ·have:=ZC (QF hv (n-2))
  rwa[List.length_take,Nat.min_eq_left (by omega)]at this
 ·have e1:=Jr v (n-2) (by omega)
  have e2:=Km v (n-2) (by omega);have e3:=Km v (n-1) (by omega);rw[show n-2+1=n-1 by omega]at e2;rw[show n-1+1=n by omega,show v.drop n=[]from List.drop_of_length_le (by omega)]at e3;rw[e1,e2,e3];simp only[val];generalize pw (n-2)=P;grind
structure longI (A:Int)(v:List Int)(n m:Nat)(u q:List Int)(k:Nat):Prop where
 hk:k≤m
 hu:u.length=m+n
 du:Jl u
 hq:q.length=m
 dq:Jl q
 zq:∀i,i<k→q.getD i 0=0
 sum:A=val q*val v+val u
 top:val (u.drop k)<val v
theorem RC {A:Int}{v:List Int}{n m:Nat}{u q:List Int}{j:Nat}(h:longI A v n m u q (j+1)) (hv:Jl v) (hn:2≤n) (hl:v.length=n) (hv1:500000000≤v.getD (n-1) 0) :
  val (u.drop (j+n+1))=0∧0≤val (u.drop j)∧val (u.drop j)<1000000000*val v∧u.getD (j+n) 0≤v.getD (n-1) 0∧val v<pw n∧0<val v ∧
  (∃lw,0≤lw∧lw<pw (n-2)∧val (u.drop j)=((u.getD (j+n) 0*1000000000+u.getD (j+n-1) 0)*1000000000+u.getD (j+n-2) 0)*pw (n-2)+lw) ∧
  (∃lv,0≤lv∧lv<pw (n-2)∧val v=(v.getD (n-1) 0*1000000000+v.getD (n-2) 0)*pw (n-2)+lv):=by
 have hj:j+1≤m:=h.hk;have hul:=h.hu;have hvn:=ZC hv;rw[hl]at hvn;have d1:=Jt h.du j;unfold Q5 at d1;have e0:=Km u j (by omega);have ht:=h.top;have hW:val (u.drop j)<1000000000*val v:=by omega
 have hW0:=Q2 (BO h.du j);have hlt:val (u.drop j)<pw (n+1):=by simp only[pw];omega
 obtain⟨z,lw,w1,w2,w3⟩:=bK (BO h.du j) hn (by rw[List.length_drop];omega) hlt;obtain⟨lv,v1,v2,v3⟩:=aw hv hn hl;rw[Dj,Dj,Dj,show j+(n-1)=j+n-1 by omega,show j+(n-2)=j+n-2 by omega]at w3;rw[List.drop_drop,show j+(n+1)=j+n+1 by omega]at z;have hP:=Jn (n-2);have p1:=Jt hv (n-2);have p2:=Jt h.du (j+n-1);have p3:=Jt h.du (j+n-2);unfold Q5 at p1 p2 p3;have vpos:0<val v:=by
  rw[v3];have:0≤(v.getD (n-1) 0*1000000000+v.getD (n-2) 0-1)*pw (n-2):=Int.mul_nonneg (by omega) (by omega);rw[Int.sub_mul]at this;omega
 refine⟨z,hW0,hW,?_,hvn,vpos,⟨lw,w1,w2,w3⟩,⟨lv,v1,v2,v3⟩⟩;apply Classical.byContradiction;intro hc;have h1:(v.getD (n-1) 0+1)*1000000000*1000000000≤(u.getD (j+n) 0*1000000000+u.getD (j+n-1) 0)*1000000000+u.getD (j+n-2) 0:=by omega
 have h2:=Int.mul_le_mul_of_nonneg_right h1 (show 0≤pw (n-2)by omega);have h3:(v.getD (n-1) 0*1000000000+v.getD (n-2) 0+1)*pw (n-2)≤((v.getD (n-1) 0+1)*1000000000)*pw (n-2):=Int.mul_le_mul_of_nonneg_right (by omega) (by omega);rw[Int.add_mul,Int.one_mul]at h3;have h4:(v.getD (n-1) 0+1)*1000000000*1000000000*pw (n-2)=1000000000*(((v.getD (n-1) 0+1)*1000000000)*pw (n-2)):=by grind
 omega
theorem WC {u v u':List Int}{g c:Int}{j n:Nat}(hu:Jl u)(hl:v.length=n)(hj:j+n<u.length)(h:V1 u v g j n (u',c,n)) (hz:val (u.drop (j+n+1))=0) :
  val (u'.set (j+n) (u.getD (j+n) 0-c))=val u-g*val v*pw j∧u'.getD (j+n) 0=u.getD (j+n) 0 ∧
  (∃lo,0≤lo∧lo<pw n∧val (u.drop j)-g*val v=lo+pw n*(u.getD (j+n) 0-c)):=by
 obtain⟨h1,h2,h3,h4,h5,h6,h7⟩:=h;simp only at h1 h2 h3 h4 h5 h6 h7;have e0:=h6 (j+n) (.inr (Nat.le_refl _));have ev:v.take n=v:=by rw[←hl,List.take_length]
 rw[ev]at h7;have e1:val (u'.set (j+n) (u.getD (j+n) 0-c))=val u-g*val v*pw j:=by
  rw[Ct _ _ _ (by omega),e0];have:pw (j+n)*(u.getD (j+n) 0-c-u.getD (j+n) 0) = - (c*pw (j+n)):=by grind
  omega
 refine⟨e1,e0,val ((u'.drop j).take n),Q2 (QF (BO h3 j) n),?_,?_⟩
 ·have:=ZC (QF (BO h3 j) n)
  rwa[List.length_take,List.length_drop,Nat.min_eq_left (by omega)]at this
 ·have a1:=Jr u j (by omega)
  have a2:=Jr u' j (by omega);have a3:u'.take j=u.take j:=by
   refine List.ext_getElem (by rw[List.length_take,List.length_take];omega) fun i hi1 hi2=>?_
   rw[List.length_take]at hi1 hi2;rw[List.getElem_take,List.getElem_take];have:=h6 i (.inl (by omega));rwa[List.getD_eq_getElem?_getD,List.getD_eq_getElem?_getD,List.getElem?_eq_getElem (by omega),List.getElem?_eq_getElem (by omega)]at this
  have a4:=Jr (u'.drop j) n (by rw[List.length_drop];omega);rw[List.drop_drop]at a4;have a5:=Km u' (j+n) (by omega);have a6:u'.drop (j+n+1)=u.drop (j+n+1):=by
   refine List.ext_getElem (by rw[List.length_drop,List.length_drop];omega) fun i hi1 hi2=>?_
   rw[List.length_drop]at hi1 hi2;rw[List.getElem_drop,List.getElem_drop];have:=h6 (j+n+1+i) (.inr (by omega));rwa[List.getD_eq_getElem?_getD,List.getD_eq_getElem?_getD,List.getElem?_eq_getElem (by omega),List.getElem?_eq_getElem (by omega)]at this
  rw[a6,hz,e0]at a5;rw[a3]at a2;rw[a5]at a4;rw[a2,a4,a1,Do]at h7;have hp:=Jn j;have key:pw j*(val (u.drop j)-g*val v)=pw j*(val ((u'.drop j).take n)+pw n*(u.getD (j+n) 0-c)):=by grind
  exact Int.eq_of_mul_eq_mul_left (by omega) key
theorem bJ {u u':List Int}{j:Nat}(hl:u'.length=u.length)(hj:j≤u.length)(h:∀i,i<j→u'.getD i 0=u.getD i 0):u'.take j=u.take j:=by
 refine List.ext_getElem (by rw[List.length_take,List.length_take];omega) fun i hi1 hi2=>?_
 rw[List.length_take]at hi1 hi2;rw[List.getElem_take,List.getElem_take];have:=h i (by omega);rwa[List.getD_eq_getElem?_getD,List.getD_eq_getElem?_getD,List.getElem?_eq_getElem (by omega),List.getElem?_eq_getElem (by omega)]at this
theorem YK {u u':List Int}{j:Nat}(hl:u'.length=u.length)(h:∀i,j≤i→u'.getD i 0=u.getD i 0):u'.drop j=u.drop j:=by
 refine List.ext_getElem (by rw[List.length_drop,List.length_drop];omega) fun i hi1 hi2=>?_
 rw[List.length_drop]at hi1 hi2;rw[List.getElem_drop,List.getElem_drop];have:=h (j+i) (by omega);rwa[List.getD_eq_getElem?_getD,List.getD_eq_getElem?_getD,List.getElem?_eq_getElem (by omega),List.getElem?_eq_getElem (by omega)]at this
theorem Ta {u u':List Int}{j:Nat}{X:Int}(hl:u'.length=u.length)(hj:j≤u.length)(h:∀ i,i<j→u'.getD i 0=u.getD i 0)(hv:val u'=val u-X*pw j):val (u'.drop j)=val (u.drop j)-X:=by
 have a1:=Jr u j hj;have a2:=Jr u' j (by omega);rw[bJ hl hj h]at a2;have hp:=Jn j;have key:pw j*val (u'.drop j)=pw j*(val (u.drop j)-X):=by grind
 exact Int.eq_of_mul_eq_mul_left (by omega) key
theorem Lq {l:List Int}(h:∀i,i<l.length→Q5 (l.getD i 0)):Jl l:=Nq h
section
variable {A:Int} {v:List Int} {n m:Nat} {u q:List Int} {j:Nat} {g c:Int} {u':List Int}
theorem qy (h:longI A v n m u q (j+1)) (g:Int):val (q.set j g)=val q+pw j*g:=by
 have:=h.hk;rw[Ct _ _ _ (by rw[h.hq];omega),h.zq j (by omega),Int.sub_zero]
theorem aq (h:longI A v n m u q (j+1)) (hv:Jl v) (hl:v.length=n) (hvn:val v<pw n) (hV:0<val v) (hz:val (u.drop (j+n+1))=0) (hW:val (u.drop j)<1000000000*val v)
  (g0:0≤g) (g1:val (u.drop j)<(g+1)*val v) (hs:V1 u v g j n (u',c,n)) (hx:¬u.getD (j+n) 0-c<0) :
  longI A v n m (u'.set (j+n) (u.getD (j+n) 0-c)) (q.set j g) j∧Q5 g:=by
 have hj:j+1≤m:=h.hk;have hul:=h.hu;obtain⟨e1,e2,lo,l0,l1,l2⟩:=WC h.du hl (by omega) hs hz;obtain⟨_,s2,s3,_,_,s6,_⟩:=hs;simp only at s2 s3 s6;have hp:=Jn n;have b1:val (u.drop j)-g*val v<val v:=by rw[Int.add_mul]at g1;omega
 have x0:u.getD (j+n) 0-c=0:=by
  apply Classical.byContradiction;intro hne;have:pw n*1≤pw n*(u.getD (j+n) 0-c):=Int.mul_le_mul_of_nonneg_left (by omega) (by omega);omega
 have b0:0≤val (u.drop j)-g*val v:=by rw[l2,x0];omega
 have gB:g<1000000000:=by
  apply Classical.byContradiction;intro hc;have:1000000000*val v≤g*val v:=Int.mul_le_mul_of_nonneg_right (by omega) (by omega);omega
 have hd:=Ta (u:=u) (u':=u'.set (j+n) (u.getD (j+n) 0-c)) (j:=j) (X:=g*val v) (by simp[s2]) (by omega) (fun i hi=>by rw[Qy _ _ _ _ (by omega),if_neg (by omega)];exact s6 i (.inl hi)) e1;refine⟨⟨by omega,by simp[s2,hul],EH s3 _ (by rw[x0];exact⟨by omega,by omega⟩),by simp[h.hq],EH h.dq _ ⟨g0,gB⟩,fun i hi=>?_,?_,?_⟩,⟨g0,gB⟩⟩
 ·have:=h.hq
  rw[Qy _ _ _ _ (by omega),if_neg (by omega)];exact h.zq i (by omega)
 ·rw[qy h g,e1,h.sum];grind
 ·rw[hd];exact b1
theorem ap {c2:Int}{u2:List Int}(h:longI A v n m u q (j+1)) (hv:Jl v) (hl:v.length=n) (hvn:val v<pw n) (hV:0<val v) (hz:val (u.drop (j+n+1))=0)
  (hW0:0≤val (u.drop j)) (gB:g≤1000000000) (g2:g*val v<val (u.drop j)+val v) (hs:V1 u v g j n (u',c,n)) (hx:u.getD (j+n) 0-c<0)
  (ha:dT (u'.set (j+n) (u.getD (j+n) 0-c)) v j n (u2,c2,n)) :
  u2.getD (j+n) 0=u.getD (j+n) 0-c∧longI A v n m (u2.set (j+n) (u.getD (j+n) 0-c+c2)) (q.set j (g-1)) j∧Q5 (g-1):=by
 have hj:j+1≤m:=h.hk;have hul:=h.hu;obtain⟨e1,e2,lo,l0,l1,l2⟩:=WC h.du hl (by omega) hs hz;obtain⟨_,s2,s3,_,_,s6,_⟩:=hs;simp only at s2 s3 s6;have hp:=Jn n;have b1:val (u.drop j)-g*val v<0:=by
  have:pw n*(u.getD (j+n) 0-c)≤pw n*(-1):=Int.mul_le_mul_of_nonneg_left (by omega) (by omega);omega
 have gpos:0<g:=by
  apply Classical.byContradiction;intro hc;have:g*val v≤0*val v:=Int.mul_le_mul_of_nonneg_right (by omega) (by omega);omega
 obtain⟨_,t2,t3,t4,t5,t6,t7⟩:=ha;simp only[List.length_set]at t2 t3 t4 t5 t6 t7;have ev:v.take n=v:=by rw[←hl,List.take_length]
 rw[ev]at t7;have ex:u2.getD (j+n) 0=u.getD (j+n) 0-c:=by
  rw[t6 (j+n) (.inr (Nat.le_refl _)),Qy _ _ _ _ (by omega),if_pos rfl]
 have e3:val (u2.set (j+n) (u.getD (j+n) 0-c+c2))=val u-(g-1)*val v*pw j:=by
  rw[Ct _ _ _ (by omega),ex];rw[e1]at t7;have:pw (j+n)*(u.getD (j+n) 0-c+c2-(u.getD (j+n) 0-c))=c2*pw (j+n):=by grind
  have e4:(g-1)*val v*pw j=g*val v*pw j-val v*pw j:=by grind
  omega
 have below:∀i,i<j→(u2.set (j+n) (u.getD (j+n) 0-c+c2)).getD i 0=u.getD i 0:=fun i hi=>by
  rw[Qy _ _ _ _ (by omega),if_neg (by omega),t6 i (.inl hi),Qy _ _ _ _ (by omega),if_neg (by omega)];exact s6 i (.inl hi)
 have hd:=Ta (u:=u) (u':=u2.set (j+n) (u.getD (j+n) 0-c+c2)) (j:=j) (X:=(g-1)*val v) (by simp[t2,s2]) (by omega) below e3;have e5:(g-1)*val v=g*val v-val v:=by rw[Int.sub_mul];omega
 rw[e5]at hd;have above:(u2.set (j+n) (u.getD (j+n) 0-c+c2)).drop (j+n+1)=u.drop (j+n+1):=YK (by simp[t2,s2]) fun i hi=>by
  rw[Qy _ _ _ _ (by omega),if_neg (by omega),t6 i (.inr (by omega)),Qy _ _ _ _ (by omega),if_neg (by omega)];exact s6 i (.inr (by omega))
 have lowdig:Jl (((u2.set (j+n) (u.getD (j+n) 0-c+c2)).drop j).take n):=by
  refine Lq fun i hi=>?_
  rw[List.length_take,List.length_drop,List.length_set]at hi;rw[BF _ _ _ _ (by omega),Dj,Qy _ _ _ _ (by omega),if_neg (by omega)];exact t3 _ (by omega)
 have w0:=Q2 lowdig;have w1:=ZC lowdig;rw[List.length_take,List.length_drop,List.length_set,Nat.min_eq_left (by omega)]at w1;have w2:=Jr ((u2.set (j+n) (u.getD (j+n) 0-c+c2)).drop j) n (by rw[List.length_drop,List.length_set];omega);rw[List.drop_drop,Km _ (j+n) (by rw[List.length_set];omega),above,hz,Qy _ _ _ _ (by omega),if_pos rfl]at w2;rw[hd,Int.mul_zero,Int.add_zero]at w2;have x0:u.getD (j+n) 0-c+c2=0:=by
  generalize u.getD (j+n) 0-c+c2=x at *;apply Classical.byContradiction;intro hne;rcases Int.lt_or_gt_of_ne hne with hlt |hgt
  ·have:pw n*x≤pw n*(-1):=Int.mul_le_mul_of_nonneg_left (by omega) (by omega)
   omega
  ·have:pw n*1≤pw n*x:=Int.mul_le_mul_of_nonneg_left (by omega) (by omega)
   omega
 refine⟨ex,⟨by omega,by simp[t2,s2,hul],Lq fun i hi=>?_,by simp[h.hq],EH h.dq _ ⟨by omega,by omega⟩,fun i hi=>?_,?_,?_⟩,⟨by omega,by omega⟩⟩
 ·rw[List.length_set]at hi
  rw[Qy _ _ _ _ (by omega)]
  split
  ·rw[x0];exact⟨by omega,by omega⟩
  ·exact t3 i (by omega)
 ·have:=h.hq
  rw[Qy _ _ _ _ (by omega),if_neg (by omega)];exact h.zq i (by omega)
 ·rw[qy h (g-1),e3,h.sum];grind
 ·rw[hd];omega
end
end
end Go.Ab.N
namespace Go.Ab.N
open Go.Ab
open Classical
noncomputable section
structure winI (W V:Int)(top u2 v1 v2 P:Int):Prop where
 hP:0<P
 w:∃lw,0≤lw∧lw<P∧W=(top*1000000000+u2)*P+lw
 v:∃lv,0≤lv∧lv<P∧V=(v1*1000000000+v2)*P+lv
 du:Q5 u2
 dv:Q5 v2
 h1:500000000≤v1
 h2:v1<1000000000
 ht:0≤top∧top≤v1*1000000000+999999999
 hW:W<1000000000*V
structure guessI (W V top v1 g r:Int):Prop where
 e:top=g*v1+r
 r0:0≤r
 r1:r<1000000000
 g0:0≤g
 g1:g≤1000000001
 hi:W<(g+1)*V
def ig (W V g:Int):Prop:=0≤g∧g≤1000000000∧W<(g+1)*V∧g*V<W+V
section
variable {W V top u2 v1 v2 P g r:Int}
theorem winI.big (h:winI W V top u2 v1 v2 P):1000000000*P≤V∧(v1*1000000000+v2)*P≤V∧V<(v1*1000000000+v2+1)*P∧(top*1000000000+u2)*P≤W∧W<(top*1000000000+u2+1)*P∧0<V:=by
 obtain⟨lw,a1,a2,a3⟩:=h.w;obtain⟨lv,b1,b2,b3⟩:=h.v;have hv2:=h.dv;unfold Q5 at hv2;have hP:=h.hP;have h1:=h.h1;have c1:1000000000*P≤(v1*1000000000+v2)*P:=Int.mul_le_mul_of_nonneg_right (by omega) (by omega);have c2:(v1*1000000000+v2+1)*P=(v1*1000000000+v2)*P+P:=by rw[Int.add_mul,Int.one_mul]
 have c3:(top*1000000000+u2+1)*P=(top*1000000000+u2)*P+P:=by rw[Int.add_mul,Int.one_mul]
 omega
theorem Rv (h:winI W V top u2 v1 v2 P):guessI W V top v1 (top/v1) (top%v1):=by
 have h1:=h.h1;have h2:=h.h2;have ht:=h.ht;have hP:=h.hP;obtain⟨b1,b2,b3,b4,b5,b6⟩:=h.big;have e:=Int.mul_ediv_add_emod top v1;have r0:=Int.emod_nonneg top (show v1≠0 by omega);have r1:=Int.emod_lt_of_pos top (show 0<v1 by omega);have g0:0≤top/v1:=Int.ediv_nonneg ht.1 (by omega);generalize top/v1=g at *;generalize top%v1=r at *;have e':top=g*v1+r:=by rw[Int.mul_comm]at e;omega
 refine⟨e',r0,by omega,g0,?_,?_⟩
 ·apply Classical.byContradiction
  intro hc;have:1000000002*v1≤g*v1:=Int.mul_le_mul_of_nonneg_right (by omega) (by omega);omega
 ·have du:=h.du
  unfold Q5 at du;have dv:=h.dv;unfold Q5 at dv;refine ii (T:=1000000000*P) (v1:=v1) (r:=r) (top:=top) (by omega) r1 e' ?_ ?_ g0
  ·have c1:(top*1000000000+u2+1)*P≤((top+1)*1000000000)*P:=Int.mul_le_mul_of_nonneg_right (by omega) (by omega)
   have c2:((top+1)*1000000000)*P=(top+1)*(1000000000*P):=by rw[Int.mul_assoc]
   omega
  ·have c1:(v1*1000000000)*P≤(v1*1000000000+v2)*P:=Int.mul_le_mul_of_nonneg_right (by omega) (by omega)
   have c2:(v1*1000000000)*P=v1*(1000000000*P):=by rw[Int.mul_assoc]
   omega
theorem Ug (h:winI W V top u2 v1 v2 P)(hg:guessI W V top v1 g r)(h1:¬ 1000000000≤g)(h2:¬g*v2 > r*1000000000+u2):ig W V g:=by
 obtain⟨b1,b2,b3,b4,b5,b6⟩:=h.big;refine⟨hg.g0,by omega,hg.hi,?_⟩;refine Ru (P:=P) (x:=v1*1000000000+v2) (t:=top*1000000000+u2) h.hP ?_ b4 b3 hg.g0 (by omega) b1;have e:=hg.e;have:g*(v1*1000000000+v2)=(g*v1)*1000000000+g*v2:=by grind
 omega
theorem LM (h:winI W V top u2 v1 v2 P)(hg:guessI W V top v1 g r)(hc:1000000000≤g∨g*v2 > r*1000000000+u2):W<g*V:=by
 obtain⟨b1,b2,b3,b4,b5,b6⟩:=h.big;by_cases hgB:1000000000≤g
 ·have:1000000000*V≤g*V:=Int.mul_le_mul_of_nonneg_right hgB (by omega)
  have:=h.hW;omega
 ·refine Uf (P:=P) (x:=v1*1000000000+v2) (t:=top*1000000000+u2) (by have:=h.hP;omega) ?_ b5 b2 hg.g0
  have e:=hg.e;have:g*(v1*1000000000+v2)=(g*v1)*1000000000+g*v2:=by grind
  omega
theorem Hq (h:winI W V top u2 v1 v2 P)(hg:guessI W V top v1 g r)(hW0:0≤W)(hl:W<g*V):1≤g:=by
 have b6:=h.big.2.2.2.2.2;apply Classical.byContradiction;intro hc;have:g*V≤0*V:=Int.mul_le_mul_of_nonneg_right (by omega) (by omega);omega
theorem HV (h:winI W V top u2 v1 v2 P)(hg:guessI W V top v1 g r)(hW0:0≤W)(hl:W<g*V)(hr:1000000000≤r+v1):ig W V (g-1):=by
 obtain⟨b1,b2,b3,b4,b5,b6⟩:=h.big;have gp:=Hq h hg hW0 hl;have g1:=hg.g1;have du:=h.du;have dv:=h.dv;unfold Q5 at du dv;refine⟨by omega,by omega,by rw[show g-1+1=g by omega];exact hl,?_⟩;refine Ru (P:=P) (x:=v1*1000000000+v2) (t:=top*1000000000+u2) h.hP ?_ b4 b3 (by omega) (by omega) b1;have e:=hg.e;have e1:(g-1)*(v1*1000000000+v2)=(g*v1-v1)*1000000000+(g-1)*v2:=by grind
 have e2:(g-1)*v2≤1000000000*v2:=Int.mul_le_mul_of_nonneg_right (by omega) dv.1;omega
theorem LN (h:winI W V top u2 v1 v2 P)(hg:guessI W V top v1 g r)(hW0:0≤W)(hl:W<g*V)(hr:¬1000000000≤r+v1):guessI W V top v1 (g-1) (r+v1):=by
 have gp:=Hq h hg hW0 hl;have g1:=hg.g1;have r0:=hg.r0;have h1:=h.h1;refine⟨?_,by omega,by omega,by omega,by omega,by rw[show g-1+1=g by omega];exact hl⟩;have e:=hg.e;rw[Int.sub_mul,Int.one_mul];omega
end
theorem ar {A:Int}{v:List Int}{n m:Nat}{u q:List Int}{j:Nat}(h:longI A v n m u q (j+1)) (hv:Jl v) (hn:2≤n) (hl:v.length=n) (hv1:500000000≤v.getD (n-1) 0) :
  winI (val (u.drop j)) (val v) (u.getD (j+n) 0*1000000000+u.getD (j+n-1) 0) (u.getD (j+n-2) 0) (v.getD (n-1) 0) (v.getD (n-2) 0) (pw (n-2)):=by
 obtain⟨z,w0,w1,w2,w3,w4,w5,w6⟩:=RC h hv hn hl hv1;have d1:=Jt h.du (j+n);have d2:=Jt h.du (j+n-1);have d3:=Jt hv (n-1);unfold Q5 at d1 d2 d3;exact⟨Jn _,w5,w6,Jt h.du _,Jt hv _,hv1,d3.2,by omega,w1⟩
theorem Un {b:List Int}{s:Int}(hb:Ai b)(hn:2≤b.length)(hs:s=1000000000/(b.getD (b.length-1) 0+1)) :
  1≤s∧s≤500000000∧val ((J7 b s).take b.length)=val b*s∧Jl ((J7 b s).take b.length)∧((J7 b s).take b.length).length=b.length∧500000000≤((J7 b s).take b.length).getD (b.length-1) 0∧pw (b.length-1)*s≤val b*s:=by
 have hne:b≠[]:=fun e=>by rw[e]at hn;simp at hn
 have t0:=hb.2 hne;have t1:=Jt hb.1 (b.length-1);unfold Q5 at t1;obtain⟨s1,s2,s3,s4⟩:=aZ (b:=b.getD (b.length-1) 0) (by omega) t1.2 hs;have ds:Q5 s:=⟨by omega,by omega⟩
 have hd:=Mq hb.1 ds;have hl:=C5 b s;have hv:=Mr b s;have hP:=Jn (b.length-1);have e:=Jk b (b.length-1) (by omega);rw[show b.length-1+1=b.length by omega,List.take_length]at e;have e1:=Q2 (QF hb.1 (b.length-1));have e2:=ZC (QF hb.1 (b.length-1));rw[List.length_take,Nat.min_eq_left (by omega)]at e2;generalize hbt:b.getD (b.length-1) 0=t at *;have up:val b*s<pw b.length:=by
  have h1:val b<pw (b.length-1)*(t+1):=by rw[Int.mul_add,Int.mul_one];omega
  have h2:val b*s<(pw (b.length-1)*(t+1))*s:=Int.mul_lt_mul_of_pos_right h1 (by omega);have h3:(pw (b.length-1)*(t+1))*s=pw (b.length-1)*((t+1)*s):=by rw[Int.mul_assoc]
  have h4:pw (b.length-1)*((t+1)*s)≤pw (b.length-1)*1000000000:=Int.mul_le_mul_of_nonneg_left s4 (by omega);have h5:pw b.length=1000000000*pw (b.length-1):=by
   conv=>lhs;rw[show b.length=(b.length-1)+1 by omega]
   rfl
  omega
 have lo:pw (b.length-1)*(t*s)≤val b*s:=by
  have h1:pw (b.length-1)*t≤val b:=by omega
  have h2:(pw (b.length-1)*t)*s≤val b*s:=Int.mul_le_mul_of_nonneg_right h1 (by omega);rw[Int.mul_assoc]at h2;exact h2
 have lo1:pw (b.length-1)*s≤val b*s:=by
  have h1:pw (b.length-1)≤val b:=by
   have:pw (b.length-1)*1≤pw (b.length-1)*t:=Int.mul_le_mul_of_nonneg_left (by omega) (by omega);omega
  exact Int.mul_le_mul_of_nonneg_right h1 (by omega)
 have hlen:((J7 b s).take b.length).length=b.length:=by rw[List.length_take];omega
 have hsp:=Jr (J7 b s) b.length (by omega);have d0:=Q2 (QF hd b.length);have d1:=Q2 (BO hd b.length);have hz:val ((J7 b s).drop b.length)=0:=by
  apply Classical.byContradiction;intro hc;have:pw b.length*1≤pw b.length*val ((J7 b s).drop b.length):=Int.mul_le_mul_of_nonneg_left (by omega) (by have:=Jn b.length;omega);omega
 have hval:val ((J7 b s).take b.length)=val b*s:=by rw[hz,Int.mul_zero]at hsp;omega
 refine⟨s1,s2,hval,QF hd _,hlen,?_,lo1⟩;have dv:=QF hd b.length;generalize (J7 b s).take b.length=v at *;have f:=Jk v (b.length-1) (by omega);rw[show b.length-1+1=b.length by omega,show v.take b.length=v by rw[←hlen,List.take_length]]at f;have f2:=ZC (QF dv (b.length-1));rw[List.length_take,Nat.min_eq_left (by omega)]at f2;apply Classical.byContradiction;intro hc;have g1:pw (b.length-1)*(v.getD (b.length-1) 0+1)≤pw (b.length-1)*(t*s):=Int.mul_le_mul_of_nonneg_left (by omega) (by omega);rw[Int.mul_add,Int.mul_one]at g1;omega
theorem Nr (n:Nat):Jl (List.replicate n 0):=fun d hd=>by rw[(List.mem_replicate.1 hd).2];exact⟨by omega,by omega⟩
theorem Um {a b v:List Int}{s:Int}{m:Nat}(ha:Jl a)(hb:Ai b)(hn:2≤b.length)(hab:b.length≤a.length)(hm:m=a.length - b.length+1)(s1:1≤s)(s2:s≤500000000)(hV:val v=val b*s)(hlo:pw (b.length-1)*s≤val b*s) :
  longI (val a*s) v b.length m (J7 a s) (List.replicate m 0) m:=by
 have ds:Q5 s:=⟨by omega,by omega⟩
 have hd:=Mq ha ds;have hl:=C5 a s;have hv:=Mr a s;refine⟨Nat.le_refl _,by omega,hd,by simp,Nr m,fun i hi=>?_,by rw[F0,hv];omega,?_⟩
 ·simp[List.getD_eq_getElem?_getD,List.getElem?_replicate]
  split <;> rfl
 ·have hsp:=Jr (J7 a s) m (by omega)
  have d0:=Q2 (QF hd m);have la:=ZC ha;have e:pw a.length=pw m*pw (b.length-1):=by rw[←Do];congr 1;omega
  have hm0:=Jn m;apply Classical.byContradiction;intro hc;have h1:pw m*val v≤pw m*val ((J7 a s).drop m):=Int.mul_le_mul_of_nonneg_left (by omega) (by omega);have h2:val a*s<pw a.length*s:=Int.mul_lt_mul_of_pos_right la (by omega);have h3:pw m*(pw (b.length-1)*s)≤pw m*val v:=Int.mul_le_mul_of_nonneg_left (by omega) (by omega);rw[e,Int.mul_assoc]at h2;omega
theorem RB {a b v u q:List Int}{s:Int}{n m:Nat}(ha:Jl a)(hb:Jl b)(h:longI (val a*s) v n m u q 0) (s1:1≤s) (hV:val v=val b*s) (hvn:val v<pw n) :
  val q=val a/val b∧val (B5 (An (u.take n) s) (u.take n).length)=val a%val b∧Jl (u.take n):=by
 have ht:=h.top;rw[List.drop_zero]at ht;have hsum:=h.sum;have u0:=Q2 h.du;have hl:=h.hu;have hsp:=Jr u n (by omega);have d0:=Q2 (QF h.du n);have d1:=Q2 (BO h.du n);have hz:val (u.drop n)=0:=by
  apply Classical.byContradiction;intro hc;have:pw n*1≤pw n*val (u.drop n):=Int.mul_le_mul_of_nonneg_left (by omega) (by have:=Jn n;omega);omega
 have hut:val (u.take n)=val u:=by rw[hz,Int.mul_zero]at hsp;omega
 obtain⟨r,hr⟩:∃r,r=val a-val q*val b:=⟨_,rfl⟩
 have hus:val u=s*r:=by rw[hr];rw[hV]at hsum;grind
 have b0:=Q2 hb;have r0:0≤r:=by
  apply Classical.byContradiction;intro hc;have:s*r≤s*(-1):=Int.mul_le_mul_of_nonneg_left (by omega) (by omega);omega
 have rb:r<val b:=by
  apply Classical.byContradiction;intro hc;have h1:s*val b≤s*r:=Int.mul_le_mul_of_nonneg_left (by omega) (by omega);rw[Int.mul_comm s (val b)]at h1;omega
 have ea:val a=val q*val b+r:=by omega
 have e1:val a/val b=val q:=by
  rw[ea,Int.add_comm,Int.add_mul_ediv_right _ _ (by omega),Int.ediv_eq_zero_of_lt r0 rb];omega
 have e2:val a%val b=r:=by
  rw[ea,Int.add_comm,Int.add_mul_emod_self_right];exact Int.emod_eq_of_lt r0 rb
 refine⟨e1.symm,?_,QF h.du n⟩;have e3:=Pd (a:=u.take n) (b:=s) (by omega);have e4:JV (u.take n) s 0=0:=by
  unfold JV;rw[List.drop_zero,hut,hus,Int.mul_emod_right]
 rw[e4,hut,hus,Int.add_zero]at e3;rw[e2];exact(Int.eq_of_mul_eq_mul_left (by omega) e3).symm
end
end Go.Ab.N
