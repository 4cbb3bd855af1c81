/- Contracts of functions, for every argument that fits. -/
import Derived.Test.YtcmfnmceomhgcaaGreatC2
set_option linter.unusedSimpArgs false
set_option linter.unusedVariables false
namespace Go.Ab.N
open Go Go.RowKit Go.Proofs
noncomputable section
set_option maxRecDepth 10000
set_option pp.maxSteps 60000
set_option maxHeartbeats 2000000
open Classical
def qw (x:Int)(n:Nat):List Int:=X9 x.toNat ++ List.replicate (n-(X9 x.toNat).length) 0
theorem IC {x:Int}(h:0≤x)(n:Nat):val (qw x n)=x:=by
 unfold qw;rw[Po,F0,Xx];omega
theorem IA (x:Int)(n:Nat):Jl (qw x n):=Iu.2 ⟨XN _,Nr _⟩
theorem IB {x:Int}{n:Nat}(h:0≤x)(h2:x<pw n):(qw x n).length=n:=by
 have:=E5 (n:=x.toNat) (k:=n) (by omega);simp[qw];omega
def Cw (a b v:List Int)(s:Int)(m:Nat)(p:List Int×List Int×Nat):AS :=
 ⟨22,[117,118,172,173],[X8 a,X8 b,.any,.any,.sl 0 0 (fun _=>.any) true,.sl 0 0 (fun _=>.any) true,I s,.osl 0 0 1 0 (a.length+1),X8 v,I b.length,.osl 1 0 1 0 m,I ((p.2.2:Int)-1),.any,.any,.any,.any,.any,.any,.any,.any,.any,.any],
  [],[.row 0 (a.length+1) (QL I 0 p.1),.row 0 m (QL I 0 p.2.1)]⟩
theorem nT (a b:List Int)(ha:Jl a)(hb:Ai b)(hn:2≤b.length)(hab:b.length≤a.length)(la:a.length<1000000000) :
  ∃q r,Fn Tryz.prog 239 [X8 a,X8 b] (.tup [X8 q,X8 r])∧Jl q∧Jl r∧q.length≤a.length∧r.length≤b.length∧val q=val a/val b∧val r=val a%val b:=by
 have hne:b≠[]:=fun e=>by rw[e]at hn;simp at hn
 have t0:=hb.2 hne;have t1:=Jt hb.1 (b.length-1);unfold Q5 at t1;obtain⟨s,hs⟩:∃s,s=1000000000/(b.getD (b.length-1) 0+1):=⟨_,rfl⟩
 obtain⟨s1,s2,s3,s4,s5,s6,s7⟩:=Un hb hn hs;have ds:Q5 s:=⟨by omega,by omega⟩
 obtain⟨v,hv⟩:∃v,v=(J7 b s).take b.length:=⟨_,rfl⟩
 rw[←hv]at s3 s4 s5 s6;obtain⟨m,hm⟩:∃m,m=a.length-b.length+1:=⟨_,rfl⟩
 have hbeg:=Um (v:=v) ha hb hn hab hm s1 s2 s3 s7;have c1:=UP a s ha ds (by omega);have c2:=b8 b s hb.1 ds (by omega);have w0:IntKind.i64.wrap ((b.length:Int)-1)=((b.length-1:Nat):Int):=by rw[IntKind.wrap_i64];omega
 have w1:IntKind.i64.wrap (b.getD (b.length-1) 0+1)=b.getD (b.length-1) 0+1:=by rw[IntKind.wrap_i64];omega
 have w2:IntKind.i64.wrap (Int.tdiv 1000000000 (b.getD (b.length-1) 0+1))=s:=by
  rw[Int.tdiv_eq_ediv_of_nonneg (by omega),←hs,IntKind.wrap_i64];omega
 have w3:(b.getD (b.length-1) 0+1=0)=False:=eq_false (by omega);have w4:(b.length-1<b.length)=True:=eq_true (by omega);have w5:IntKind.i64.wrap ((a.length:Int)-b.length)=((m:Nat):Int)-1:=by rw[IntKind.wrap_i64];omega
 have w6:IntKind.i64.wrap ((m:Int)-1+1)=(m:Int):=by rw[IntKind.wrap_i64];omega
 have hvn:=ZC s4;rw[s5]at hvn;have key:∀Q R:AV,Settled Q→Settled R→(∀u q:List Int,longI (val a*s) v b.length m u q 0→Q=X8 q∧R=X8 (B5 (An (u.take b.length) s) (u.take b.length).length))→Fn Tryz.prog 239 [X8 a,X8 b] (.tup [Q,R]):=by
  intro Q R sQ sR hQR;refine Fq Tryz.call239 Tryz.func239 22 [117,118,172,173] [] [2] (by simp[Xc]) (Xk ?_);simp(maxSteps:=999999)only[AS.start,w0,w1,w2,w3,w4,Int.toNat_natCast,↓X4,wA,seval,zA,wN];refine XJ rfl c1 (Ll (by simp) (by simp)) (by simp) ⟨Weak.rfl' _,Weak.rfl' _,trivial⟩ ?_;simp(maxSteps:=999999)only[w0,w1,w2,w3,w4,Int.toNat_natCast,↓X4,wA,seval,zA,wN];refine X1 c2 rfl ?_;simp(maxSteps:=999999)only[w0,w1,w2,w3,w4,w5,w6,C5,Int.toNat_natCast,↓X4,wA,seval,zA,wN];refine⟨by omega,⟨by omega,by omega⟩,?_⟩;refine Xj (Cw a b v s m) (fun p=>longI (val a*s) v b.length m p.1 p.2.1 p.2.2) (fun p=>p.2.2) (J7 a s,List.replicate m 0,m) hbeg ?_ ?_
  ·refine(KH 1 m (QL I 0 (List.replicate m 0)) rfl (Nat.le_refl _) ?_).trans ?_
   ·intro j hj
    rw[AL];simp[List.getD_eq_getElem?_getD,List.getElem?_replicate,hj,I]
   have hwk:Weak (.sl ((b.length:Int)-0).toNat (min ((b.length:Int)-0).toNat (b.length+1)) (fun j=>.int .i64 ((J7 b s).getD j 0)) false) (X8 v):=GZ v (by omega) (by omega) fun j hj=>by
    rw[hv,BF _ _ _ _ (by omega)];rfl
   refine(ST 8 (X8 v) ?_ ?_).trans (Xi rfl ?_ ?_ ?_)
   ·simp
   ·exact hwk
   ·simp[Cw,Xm,X8,Qs,I]
   ·simp[Cw,Xw]
   ·rfl
  rintro⟨u,q,k⟩ hI next
  have hI':=hI;simp only at hI';cases k with
  |zero =>
   obtain⟨hQ,hR⟩:=hQR u q hI';obtain⟨z1,z2,z3⟩:=RB ha hb.1 hI' s1 s3 hvn;have hul:=hI'.hu;have hql:=hI'.hq;have cs:=SF (u.take b.length) s z3 ds (by omega) (by rw[List.length_take];omega);have e1:((0:Int)≤0-1)=False:=eq_false (by omega);have hfr:Sub (Ju Tryz.prog Tryz.f239 [] [2] (.tup [Q,R])).base (Cw a b v s m (u,q,0))
     ⟨22,[117,118,172,173],[X8 a,X8 b,.any,.any,.sl 0 0 (fun _=>.any) true,.sl 0 0 (fun _=>.any) true,I s,X8 u,X8 v,I b.length,.osl 1 0 1 0 m,I (((0:Nat):Int)-1),.any,.any,.any,.any,.any,.any,.any,.any,.any,.any],
     [],[.con 0 u.length (QL I 0 u),.row 0 m (QL I 0 q)]⟩:=by
    unfold Cw;rw[show a.length+1=u.length by omega];exact DH 0 7 rfl rfl (by simp)
   refine Run.sub ?_ hfr;refine Xk ?_;simp(maxSteps:=999999)only[e1,Int.toNat_natCast,↓X4,wA,seval,zA,wN];have hwk:Weak (.sl ((b.length:Int)-0).toNat (min ((b.length:Int)-0).toNat u.length) (fun j=>.int .i64 (u.getD j 0)) false) (X8 (u.take b.length)):=GZ (u.take b.length) (by rw[List.length_take];omega) (by rw[List.length_take];omega) fun j hj=>by
    rw[List.length_take]at hj;rw[BF _ _ _ _ (by omega)];rfl
   rw[←hR]at cs;refine⟨by omega,X0 cs ⟨hwk,Weak.rfl' _,trivial⟩ ?_⟩;simp(maxSteps:=999999)only[↓X4,wA,seval,zA,wN];refine oD rfl (CX ⟨?_,Q1 sR rfl,trivial⟩);rw[hQ];exact AH Xb rfl rfl hql.symm rfl (by omega)
  |succ j =>
   have hj:j+1≤m:=hI'.hk;have hul:=hI'.hu;have hql:=hI'.hq;have hwin:=ar hI' s4 hn s5 s6;obtain⟨z,wp0,wp1,wp2,wp3,wp4,_,_⟩:=RC hI' s4 hn s5 s6;have du0:=Jt hI'.du (j+b.length);have du1:=Jt hI'.du (j+b.length-1);have du2:=Jt hI'.du (j+b.length-2);have dv1:=Jt s4 (b.length-1);have dv2:=Jt s4 (b.length-2);unfold Q5 at du0 du1 du2 dv1 dv2;have e1:((j+1:Nat):Int)-1=(j:Int):=by omega
   have e2:((0:Int)≤(j:Int))=True:=eq_true (by omega);have f1:IntKind.i64.wrap ((j:Int)+b.length)=((j+b.length:Nat):Int):=by rw[IntKind.wrap_i64];omega
   have f2:IntKind.i64.wrap (((j+b.length:Nat):Int)-1)=((j+b.length-1:Nat):Int):=by rw[IntKind.wrap_i64];omega
   have f4:IntKind.i64.wrap ((b.length:Int)-2)=((b.length-2:Nat):Int):=by rw[IntKind.wrap_i64];omega
   have f5:IntKind.i64.wrap (((j+b.length:Nat):Int)-2)=((j+b.length-2:Nat):Int):=by rw[IntKind.wrap_i64];omega
   have i1:(j+b.length<a.length+1)=True:=eq_true (by omega);have i2:(j+b.length+1≤a.length+1)=True:=eq_true (by omega);have i3:(j+b.length-1<a.length+1)=True:=eq_true (by omega);have i4:(j+b.length-1+1≤a.length+1)=True:=eq_true (by omega);have i5:(j+b.length-2<a.length+1)=True:=eq_true (by omega);have i6:(j+b.length-2+1≤a.length+1)=True:=eq_true (by omega);have i7:(b.length-1<v.length)=True:=eq_true (by omega);have i8:(b.length-2<v.length)=True:=eq_true (by omega);have q1:IntKind.i64.wrap (u.getD (j+b.length) 0*1000000000)=u.getD (j+b.length) 0*1000000000:=by rw[IntKind.wrap_i64];omega
   have q2:IntKind.i64.wrap (u.getD (j+b.length) 0*1000000000+u.getD (j+b.length-1) 0)=u.getD (j+b.length) 0*1000000000+u.getD (j+b.length-1) 0:=by rw[IntKind.wrap_i64];omega
   have ht0:0≤u.getD (j+b.length) 0*1000000000+u.getD (j+b.length-1) 0:=by omega
   have hg0:=Rv hwin;have q3:IntKind.i64.wrap ((u.getD (j+b.length) 0*1000000000+u.getD (j+b.length-1) 0).tdiv (v.getD (b.length-1) 0))=(u.getD (j+b.length) 0*1000000000+u.getD (j+b.length-1) 0)/(v.getD (b.length-1) 0):=by
    have h1:=hg0.g0;have h2:=hg0.g1;rw[Int.tdiv_eq_ediv_of_nonneg ht0,IntKind.wrap_i64];omega
   have q4:(u.getD (j+b.length) 0*1000000000+u.getD (j+b.length-1) 0).tmod (v.getD (b.length-1) 0)=(u.getD (j+b.length) 0*1000000000+u.getD (j+b.length-1) 0)%(v.getD (b.length-1) 0):=Int.tmod_eq_emod_of_nonneg ht0;have q5:(v.getD (b.length-1) 0=0)=False:=eq_false (by omega);refine Xk ?_;simp(maxSteps:=999999)only[Cw,e1,e2,f1,f2,f4,f5,w0,i1,i2,i3,i4,i5,i6,i7,i8,q1,q2,q3,q4,q5,Int.toNat_natCast,↓X4,wA,seval,zA,wN];generalize htop:u.getD (j+b.length) 0*1000000000+u.getD (j+b.length-1) 0=top at *;refine Xj (fun p:Int×Int=>⟨22,[117,118,172,173],[X8 a,X8 b,.any,.any,.sl 0 0 (fun _=>.any) true,.sl 0 0 (fun _=>.any) true,I s,.osl 0 0 1 0 (a.length+1),X8 v,I b.length,.osl 1 0 1 0 m,I j,.any,I p.1,I p.2,.any,.any,.any,.any,.any,.any,.any],
    [],[.row 0 (a.length+1) (QL I 0 u),.row 0 m (QL I 0 q)]⟩) (fun p=>guessI (val (u.drop j)) (val v) top (v.getD (b.length-1) 0) p.1 p.2) (fun p=>p.1.toNat) (top/v.getD (b.length-1) 0,top%v.getD (b.length-1) 0) hg0
    (BA (by simp[Xm,X8,Qs,I]) rfl) ?_
   rintro⟨g,r⟩ hg next2;simp only at hg;have g0:=hg.g0;have g1:=hg.g1;have r0:=hg.r0;have r1:=hg.r1;have m0:0≤g*v.getD (b.length-2) 0:=Int.mul_nonneg g0 dv2.1;have m1:g*v.getD (b.length-2) 0≤1000000001*v.getD (b.length-2) 0:=Int.mul_le_mul_of_nonneg_right g1 dv2.1;have k1:IntKind.i64.wrap (g*v.getD (b.length-2) 0)=g*v.getD (b.length-2) 0:=by rw[IntKind.wrap_i64];omega
   have k2:IntKind.i64.wrap (r*1000000000)=r*1000000000:=by rw[IntKind.wrap_i64];omega
   have k3:IntKind.i64.wrap (r*1000000000+u.getD (j+b.length-2) 0)=r*1000000000+u.getD (j+b.length-2) 0:=by rw[IntKind.wrap_i64];omega
   have k4:IntKind.i64.wrap (g-1)=g-1:=by rw[IntKind.wrap_i64];omega
   have k5:IntKind.i64.wrap (r+v.getD (b.length-1) 0)=r+v.getD (b.length-1) 0:=by rw[IntKind.wrap_i64];omega
   refine Xk ?_;simp(maxSteps:=999999)only[e1,e2,f1,f2,f4,f5,w0,i1,i2,i3,i4,i5,i6,i7,i8,k1,k2,k3,k4,k5,Int.toNat_natCast,↓X4,wA,seval,zA,wN];generalize hF:(WS (Ju Tryz.prog Tryz.f239 [] [2] (.tup [Q,R])) _ Tag.mk)=F;suffices fin:∀G RR:Int,ig (val (u.drop j)) (val v) G→F ⟨22,[117,118,172,173],[.sl a.length a.length (QL I 0 a) false,.sl b.length b.length (QL I 0 b) false,.any,.any,.sl 0 0 (fun _=>.any) true,.sl 0 0 (fun _=>.any) true,.int .i64 s,.osl 0 0 1 0 (a.length+1),.sl v.length v.length (QL I 0 v) false,.int .i64 b.length,.osl 1 0 1 0 m,.int .i64 j,.any,.int .i64 G,.int .i64 RR,.int .i64 0,.any,.any,.any,.any,.any,.any],
     [(118,.int .i64 0),(117,.int .i64 b.length)],[.row 0 (a.length+1) (QL I 0 u),.row 0 m (QL I 0 q)]⟩by
    have gd:∀g' r',guessI (val (u.drop j)) (val v) top (v.getD (b.length-1) 0) g' r'→g'=g-1→r'=r+v.getD (b.length-1) 0→val (u.drop j)<g*val v→g'.toNat<g.toNat:=fun g' r' _ e _ hl=>by
     have:=Hq hwin hg wp0 hl;omega
    refine⟨fun b1=>?_,fun b1=>⟨fun b2=>?_,fun b2=>fin _ _ (Ug hwin hg b1 (by omega))⟩⟩
    ·have hl:=LM hwin hg (.inl b1)
     refine⟨fun b3=>fin _ _ (HV hwin hg wp0 hl b3),fun b3=>?_⟩;have hn2:=LN hwin hg wp0 hl b3;exact next2 (g-1,r+v.getD (b.length-1) 0) _ hn2 (gd _ _ hn2 rfl rfl hl) (BA (by simp[Xm,X8,Qs,I]) rfl)
    ·have hl:=LM hwin hg (.inr b2)
     refine⟨fun b3=>fin _ _ (HV hwin hg wp0 hl b3),fun b3=>?_⟩;have hn2:=LN hwin hg wp0 hl b3;exact next2 (g-1,r+v.getD (b.length-1) 0) _ hn2 (gd _ _ hn2 rfl rfl hl) (BA (by simp[Xm,X8,Qs,I]) rfl)
   clear next2 hg k1 k2 k3 k4 k5 m0 m1 g0 g1 r0 r1;subst hF;clear g r;intro g r hgood;obtain⟨g0,g1,g2,g3⟩:=hgood;have hsub0:V1 u v g j b.length (u,0,0):=⟨Nat.zero_le _,rfl,hI'.du,Int.le_refl _,by simp,fun _ _=>rfl,by simp[val]⟩
   refine Xj (fun p:List Int×Int×Nat=>⟨22,[117,118,172,173],[X8 a,X8 b,.any,.any,.sl 0 0 (fun _=>.any) true,.sl 0 0 (fun _=>.any) true,I s,.osl 0 0 1 0 (a.length+1),X8 v,I b.length,.osl 1 0 1 0 m,I j,.any,I g,.any,I p.2.1,.any,.any,.any,.any,.any,.any],
    [(118,I p.2.2),(117,I b.length)],[.row 0 (a.length+1) (QL I 0 p.1),.row 0 m (QL I 0 q)]⟩) (V1 u v g j b.length) (fun p=>b.length-p.2.2) (u,0,0) hsub0
    (Xi rfl (by simp[Xm,X8,Qs,I]) (by simp[Xw,XA,X8,Qs,I]) rfl) ?_
   rintro⟨u',c,i⟩ hs next3;obtain⟨j1,j2,j3,j4,j5,j6,j7⟩:=id hs;simp only at j1 j2 j3 j4 j5 j6 j7;by_cases hi:i<b.length
   ·obtain⟨y0,y1,y2⟩:=bH (u:=u) (v:=v) (g:=g) (j:=j) (n:=b.length) s4 g0 g1 (by omega) (by omega) hi hs rfl
    have x1:=Jt j3 (i+j);have x2:=Qc s4 i;unfold Q5 at x1 x2;have m0:0≤g*dg v i:=Int.mul_nonneg g0 x2.1;have m1:g*dg v i≤1000000000*dg v i:=Int.mul_le_mul_of_nonneg_right g1 x2.1;have wi:=wj i (by omega);have eV:v.getD i 0=dg v i:=rfl;have n1:((i:Int)<b.length)=True:=eq_true (by omega);have n2:IntKind.i64.wrap ((i:Int)+j)=((i+j:Nat):Int):=by rw[IntKind.wrap_i64];omega
    have n3:(i+j<a.length+1)=True:=eq_true (by omega);have n4:(i+j+1≤a.length+1)=True:=eq_true (by omega);have n5:(i<v.length)=True:=eq_true (by omega);have n6:(i<b.length)=True:=eq_true hi;have k1:IntKind.i64.wrap (g*dg v i)=g*dg v i:=by rw[IntKind.wrap_i64];omega
    have k2:IntKind.i64.wrap (u'.getD (i+j) 0-g*dg v i)=u'.getD (i+j) 0-g*dg v i:=by rw[IntKind.wrap_i64];omega
    have k3:IntKind.i64.wrap (u'.getD (i+j) 0-g*dg v i-c)=u'.getD (i+j) 0-g*dg v i-c:=by rw[IntKind.wrap_i64];omega
    have hU:∀x:Int,DS (QL I 0 u') (i+j) (.int .i64 x)=QL I 0 (u'.set (i+j) x):=fun x=>Zr _ _ _ (by omega)
    generalize hw:u'.getD (i+j) 0-g*dg v i-c=w at *;have k4:IntKind.i64.wrap (0-w) = -w:=by rw[IntKind.wrap_i64];omega
    have k4':IntKind.i64.wrap (-w) = -w:=by rw[IntKind.wrap_i64];omega
    have k5:IntKind.i64.wrap (-w+1000000000) = -w+1000000000:=by rw[IntKind.wrap_i64];omega
    have k6:IntKind.i64.wrap (-w+1000000000-1) = -w+1000000000-1:=by rw[IntKind.wrap_i64];omega
    have k8:IntKind.i64.wrap (-(w/1000000000)*1000000000) = -(w/1000000000)*1000000000:=by rw[IntKind.wrap_i64];omega
    have k9:IntKind.i64.wrap (w + -(w/1000000000)*1000000000)=w%1000000000:=by rw[IntKind.wrap_i64];omega
    by_cases hw0:w<0
    ·have k7:IntKind.i64.wrap ((-w+1000000000-1).tdiv 1000000000) = -(w/1000000000):=by rw[Int.tdiv_eq_ediv_of_nonneg (by omega),IntKind.wrap_i64];omega
     have hwT:(w<0)=True:=eq_true hw0;refine Xk ?_;simp(maxSteps:=999999)only[wi,eV,n1,n2,n3,n4,n5,n6,k1,k2,hw,k3,k4,k4',k5,k6,k7,k8,k9,hwT,hU,Int.toNat_natCast,Int.reduceEq,↓X4,wA,seval,zA,wN];exact next3 _ _ y2 (by simp only;omega) (Xi rfl (by simp[Xm,X8,Qs,I]) (by simp[Xw,XA,X8,Qs,I]) rfl)
    ·have hwF:(w<0)=False:=eq_false hw0
     refine Xk ?_;simp(maxSteps:=999999)only[wi,eV,n1,n2,n3,n4,n5,n6,k1,k2,hw,k3,hwF,hU,Int.toNat_natCast,Int.reduceEq,↓X4,wA,seval,zA,wN];have z1:w%1000000000=w:=by omega
     have z2:-(w/1000000000)=0:=by omega
     rw[z1,z2]at y2;exact next3 _ _ y2 (by simp only;omega) (Xi rfl (by simp[Xm,X8,Qs,I]) (by simp[Xw,XA,X8,Qs,I]) rfl)
   ·obtain rfl:i=b.length:=by omega
    have eT:u'.getD (j+b.length) 0=u.getD (j+b.length) 0:=j6 _ (.inr (Nat.le_refl _));have hU:∀x:Int,DS (QL I 0 u') (j+b.length) (.int .i64 x)=QL I 0 (u'.set (j+b.length) x):=fun x=>Zr _ _ _ (by omega)
    have eS:∀x:Int,(u'.set (j+b.length) x).getD (j+b.length) 0=x:=fun x=>by rw[Qy _ _ _ _ (by omega),if_pos rfl]
    have hQ1:∀x:Int,DS (QL I 0 q) j (.int .i64 x)=QL I 0 (q.set j x):=fun x=>Zr _ _ _ (by omega)
    have n7:(j<m)=True:=eq_true (by omega);have n8:(j+1≤m)=True:=eq_true (by omega);have n9:((j:Int)<m)=True:=eq_true (by omega);have wj1:IntKind.i64.wrap ((j:Int)-1)=(j:Int)-1:=by rw[IntKind.wrap_i64];omega
    have k1:IntKind.i64.wrap (u.getD (j+b.length) 0-c)=u.getD (j+b.length) 0-c:=by rw[IntKind.wrap_i64];omega
    by_cases hx:u.getD (j+b.length) 0-c<0
    ·have hxT:(u.getD (j+b.length) 0-c<0)=True:=eq_true hx
     have k2:IntKind.i64.wrap (g-1)=g-1:=by rw[IntKind.wrap_i64];omega
     refine Xk ?_;simp(maxSteps:=999999)only[f1,i1,i2,eT,eS,hU,hQ1,n7,n8,n9,wj1,k1,k2,hxT,Int.toNat_natCast,Int.reduceEq,Int.lt_irrefl,Nat.lt_irrefl,↓X4,wA,seval,zA,wN];generalize hxx:u.getD (j+b.length) 0-c=x at *;have hadd0:dT (u'.set (j+b.length) x) v j b.length (u'.set (j+b.length) x,0,0):=by
      refine⟨Nat.zero_le _,rfl,fun k hk=>?_,Int.le_refl _,by simp,fun _ _=>rfl,by simp[val]⟩;simp only;rw[Qy _ _ _ _ (by omega),if_neg hk];exact Jt j3 k
     refine Xj (fun p:List Int×Int×Nat=>⟨22,[117,118,172,173],[X8 a,X8 b,.any,.any,.sl 0 0 (fun _=>.any) true,.sl 0 0 (fun _=>.any) true,I s,.osl 0 0 1 0 (a.length+1),X8 v,I b.length,.osl 1 0 1 0 m,I j,.any,I (g-1),.any,I p.2.1,.any,.any,.any,.any,.any,.any],
      [(173,I p.2.2),(172,I b.length)],[.row 0 (a.length+1) (QL I 0 p.1),.row 0 m (QL I 0 q)]⟩) (dT (u'.set (j+b.length) x) v j b.length) (fun p=>b.length-p.2.2) (u'.set (j+b.length) x,0,0) hadd0
      (Xi rfl (by simp[Xm,X8,Qs,I]) (by simp[Xw,XA,X8,Qs,I]) rfl) ?_
     rintro⟨u2,c2,i⟩ hA next4;obtain⟨a1,a2,a3,a4,a5,a6,a7⟩:=id hA;simp only[List.length_set]at a1 a2 a3 a4 a5 a6 a7;by_cases hi:i<b.length
     ·obtain⟨y0,y1,y2⟩:=Ya (u:=u'.set (j+b.length) x) (v:=v) (j:=j) (n:=b.length) s4 (by omega) (by rw[List.length_set];omega) hi hA rfl
      have x1:=a3 (i+j) (by omega);have x2:=Qc s4 i;unfold Q5 at x1 x2;have wi:=wj i (by omega);have eV:v.getD i 0=dg v i:=rfl;have n2:IntKind.i64.wrap ((i:Int)+j)=((i+j:Nat):Int):=by rw[IntKind.wrap_i64];omega
      have m1:((i:Int)<b.length)=True:=eq_true (by omega);have m3:(i+j<a.length+1)=True:=eq_true (by omega);have m4:(i+j+1≤a.length+1)=True:=eq_true (by omega);have m5:(i<v.length)=True:=eq_true (by omega);have m6:(i<b.length)=True:=eq_true hi;have k3:IntKind.i64.wrap (u2.getD (i+j) 0+dg v i)=u2.getD (i+j) 0+dg v i:=by rw[IntKind.wrap_i64];omega
      have k4:IntKind.i64.wrap (u2.getD (i+j) 0+dg v i+c2)=u2.getD (i+j) 0+dg v i+c2:=by rw[IntKind.wrap_i64];omega
      have hU2:∀x:Int,DS (QL I 0 u2) (i+j) (.int .i64 x)=QL I 0 (u2.set (i+j) x):=fun x=>Zr _ _ _ (by omega)
      generalize hw:u2.getD (i+j) 0+dg v i+c2=w at *;have k5:IntKind.i64.wrap (w.tdiv 1000000000)=w/1000000000:=by rw[Int.tdiv_eq_ediv_of_nonneg y0,IntKind.wrap_i64];omega
      have k6:w.tmod 1000000000=w%1000000000:=Int.tmod_eq_emod_of_nonneg y0;refine Xk ?_;simp(maxSteps:=999999)only[wi,eV,n2,m1,m3,m4,m5,m6,k3,hw,k4,k5,k6,hU2,Int.toNat_natCast,Int.reduceEq,↓X4,wA,seval,zA,wN];exact next4 _ _ y2 (by simp only;omega) (Xi rfl (by simp[Xm,X8,Qs,I]) (by simp[Xw,XA,X8,Qs,I]) rfl)
     ·obtain rfl:i=b.length:=by omega
      rw[←hxx]at hA;obtain⟨ex,hnew,_⟩:=ap hI' s4 s5 wp3 wp4 z wp0 g1 g3 hs (by omega) hA;rw[hxx]at ex hnew;have hU2:∀x:Int,DS (QL I 0 u2) (j+b.length) (.int .i64 x)=QL I 0 (u2.set (j+b.length) x):=fun x=>Zr _ _ _ (by omega)
      have k3:IntKind.i64.wrap (x+c2)=x+c2:=by rw[IntKind.wrap_i64];omega
      refine Xk ?_;simp(maxSteps:=999999)only[f1,i1,i2,ex,k3,hU2,hQ1,n7,n8,n9,wj1,Int.toNat_natCast,Int.reduceEq,Int.lt_irrefl,Nat.lt_irrefl,↓X4,wA,seval,zA,wN];exact next (u2.set (j+b.length) (x+c2),q.set j (g-1),j) _ hnew (by simp only;omega) (Xi rfl (by simp[Cw,Xm,X8,Qs,I]) (by simp[Cw,Xw]) rfl)
    ·have hxF:(u.getD (j+b.length) 0-c<0)=False:=eq_false hx
     obtain⟨hnew,_⟩:=aq hI' s4 s5 wp3 wp4 z wp1 g0 g2 hs hx;refine Xk ?_;simp(maxSteps:=999999)only[f1,i1,i2,eT,eS,hU,hQ1,n7,n8,n9,wj1,k1,hxF,Int.toNat_natCast,Int.reduceEq,Int.lt_irrefl,Nat.lt_irrefl,↓X4,wA,seval,zA,wN];exact next (u'.set (j+b.length) (u.getD (j+b.length) 0-c),q.set j g,j) _ hnew (by simp only;omega) (Xi rfl (by simp[Cw,Xm,X8,Qs,I]) (by simp[Cw,Xw]) rfl)
 have b0:0<val b:=by
  have:=CK hb hne;have:=Jn (b.length-1);omega
 have a0:=Q2 ha;have x0:0≤val a/val b:=Int.ediv_nonneg a0 (by omega);have x1:val a/val b<pw m:=by
  refine Int.ediv_lt_of_lt_mul b0 ?_;have h1:=ZC ha;have h2:=CK hb hne;have h3:pw m*pw (b.length-1)≤pw m*val b:=Int.mul_le_mul_of_nonneg_left h2 (by have:=Jn m;omega);rw[←Do,show m+(b.length-1)=a.length by omega]at h3;omega
 have y0:0≤val a%val b:=Int.emod_nonneg _ (by omega);have y1:val a%val b<pw b.length:=by
  have h1:=Int.emod_lt_of_pos (val a) b0;have h2:=ZC hb.1;omega
 refine⟨qw (val a/val b) m,qw (val a%val b) b.length,key _ _ (Xc _) (Xc _) fun u q hI=>?_,IA _ _,IA _ _,by rw[IB x0 x1];omega,by rw[IB y0 y1];omega,IC x0 _,IC y0 _⟩;obtain⟨z1,z2,z3⟩:=RB ha hb.1 hI s1 s3 hvn;have hul:=hI.hu;constructor
 ·rw[IM (IA _ _) hI.dq (by rw[IB x0 x1,hI.hq]) (by rw[IC x0,z1])]
 ·have hd:Jl (B5 (An (u.take b.length) s) (u.take b.length).length):=Df fun i _=>Ej z3 (by omega) i
  have hlen:(qw (val a%val b) b.length).length=(B5 (An (u.take b.length) s) (u.take b.length).length).length:=by
   rw[IB y0 y1,Qd,List.length_take];omega
  rw[IM (IA _ _) hd hlen (by rw[IC y0,z2])]
end
end Go.Ab.N
namespace Go.Ab.N
open Go Go.Ab
open Classical
noncomputable section
def qd (r:Rat):Nat:=if r.den=1 then 0 else r.den
def qC (r:Rat):List AV:=[.bool (decide (r.num<0)),X8 (X9 r.num.natAbs),.bool false,X8 (X9 (qd r))]
def qA (r:Rat):AV:=.agg (qC r)
theorem Xa (r:Rat):Settled (qA r):=Qr (by simp[qC,Xc,X5])
def qb (r:Rat):Nat:=max (bl r.num) (bl r.den)
theorem Jz (r:Rat):bl r.num≤qb r:=Nat.le_max_left _ _
theorem JG (r:Rat):bl r.den≤qb r:=Nat.le_max_right _ _
theorem Dp (r:Rat):qb (-r)=qb r:=by unfold qb;rw[Rat.neg_num,Rat.neg_den,eQ]
theorem Dg (p q:Int)(h:q≠0):∃m:Int,m≠0∧p=(Rat.divInt p q).num*m∧q=(Rat.divInt p q).den*m :=
 Rat.divInt_num_den h (n':=(Rat.divInt p q).num) (d':=(Rat.divInt p q).den) (z':=(Rat.divInt p q).den_nz) (c:=(Rat.divInt p q).reduced) rfl
theorem Cx {x y m:Int}(hm:m≠0)(h:x=y*m):y.natAbs≤x.natAbs:=by
 rw[h,Int.natAbs_mul];exact Nat.le_mul_of_pos_right _ (by omega)
theorem KK (p q:Int)(k:Nat)(hk:1≤k)(hp:bl p≤k)(hq:bl q≤k):qb (Rat.divInt p q)≤k:=by
 by_cases h:q=0
 ·subst h
  rw[Rat.divInt_zero];have h1:bl (0:Rat).num=0:=by rw[Rat.zero_num];unfold bl;simp[Qj]
  have h2:bl ((0:Rat).den:Int)≤1:=by rw[Rat.zero_den];exact G2 (by simp[pw])
  unfold qb;omega
 ·obtain⟨m,h1,h2,h3⟩:=Dg p q h
  have h4:=QY (Cx h1 h2);have h5:=QY (Cx h1 h3);unfold qb;omega
theorem rE (r:Rat):1≤bl r.den:=by
 have:=r.den_nz;unfold bl;rw[Int.natAbs_natCast];have:X9 r.den≠[]:=Iv r.den_nz;exact Nat.one_le_iff_ne_zero.2 fun h=>this (List.length_eq_zero_iff.1 h)
theorem UF (r:Rat):1≤qb r:=Nat.le_trans (rE r) (JG r)
theorem Zi (n:Int)(d:Nat):mkRat n d=Rat.divInt n d:=(Rat.divInt_ofNat n d).symm
theorem ZA (a b:Rat):qb (a+b)≤qb a+qb b+1:=by
 rw[Rat.add_def',Zi];have h1:=JE a.num b.den;have h2:=JE b.num a.den;have h3:=JE a.den b.den;have h4:=TS (a.num*b.den) (b.num*a.den);have:=Jz a;have:=Jz b;have:=JG a;have:=JG b;have:=UF a;refine KK _ _ _ (by omega) (by omega) ?_
 push_cast;omega
theorem Qk (a b:Rat):qb (a*b)≤qb a+qb b:=by
 rw[Rat.mul_def',Zi];have h1:=JE a.num b.num;have h3:=JE a.den b.den;have:=Jz a;have:=Jz b;have:=JG a;have:=JG b;have:=UF a;refine KK _ _ _ (by omega) (by omega) ?_
 push_cast;omega
theorem Cy (a b:Rat):qb (a-b)≤qb a+qb b+1:=by
 have:=ZA a (-b);rw[Dp,←Rat.sub_eq_add_neg]at this;exact this
theorem jt (n:Int)(k:Nat)(hk:1≤k)(h:bl n≤k):qb (n:Rat)≤k:=by
 unfold qb;rw[Rat.num_intCast,Rat.den_intCast];have:bl ((1:Nat):Int)≤1:=G2 (by simp[pw]);omega
theorem Lt (p q:Int)(hq:q≠0)(h:Int.gcd p q=1):(Rat.divInt p q).num=q.sign*p∧(Rat.divInt p q).den=q.natAbs:=by
 have hg:Int.gcd q p=1:=by rw[Int.gcd_comm];exact h
 rw[Rat.num_divInt,Rat.den_divInt,hg,if_neg hq];simp
theorem DP (p q:Int)(hq:q≠0)(g:Int)(hg:g=Int.gcd p q):Rat.divInt (p/g) (q/g)=Rat.divInt p q∧Int.gcd (p/g) (q/g)=1∧q/g≠0:=by
 have hg0:0<Int.gcd p q:=Int.gcd_pos_of_ne_zero_right _ hq;obtain⟨x,hx⟩:∃x,p=g*x:=by
  have:=Int.gcd_dvd_left p q;rw[hg];exact this
 obtain⟨y,hy⟩:∃y,q=g*y:=by
  have:=Int.gcd_dvd_right p q;rw[hg];exact this
 have hgne:g≠0:=by omega
 have e1:p/g=x:=by rw[hx];exact Int.mul_ediv_cancel_left _ hgne
 have e2:q/g=y:=by rw[hy];exact Int.mul_ediv_cancel_left _ hgne
 rw[e1,e2];have e3:Int.gcd p q=g.natAbs*Int.gcd x y:=by
  conv=>lhs;rw[hx,hy]
  exact Int.gcd_mul_left ..
 refine⟨?_,?_,fun h=>hq (by rw[hy,h];simp)⟩
 ·conv=>rhs;rw[hx,hy]
  exact(Rat.divInt_mul_left hgne).symm
 ·have e4:g.natAbs=Int.gcd p q:=by omega
  rw[e4]at e3;exact(Nat.eq_of_mul_eq_mul_left hg0 (by omega)).symm
end
end Go.Ab.N
namespace Go.Ab.N
open Go Go.RowKit Go.Proofs
noncomputable section
set_option maxRecDepth 10000
set_option maxHeartbeats 2000000
open Classical
theorem Xs {P:Program}{s:AS}{t u id ver n:Nat}{L:List AV}(hk:Cc P u=some (some n)) (hs:s.get t=.ref id ver 0) (ho:s.h[id]?=some (.row ver n (Xf L))) (hn:L.length=n) :
  Zq P s (.cell t u)=some (.agg L):=by
 subst hn;unfold Zq;simp only;rw[hs,AR,hk,JZ,ho,K0,aO,Hd L _ _ (by omega)];simp[Q4]
theorem Dv {P:Program}{fn:Func}{str hcs:List Nat}{a b x y:AV}{s:AS}{r1 r2:ResultVar}(hr:fn.results=#[r1,r2])(h1:Zq P s r1=some x)(h2:Zq P s r2=some y)(g1:Zs s.h x a)(g2:Zs s.h y b) :
  RetOk (Ju P fn str hcs (.tup [a,b])) s :=
 ⟨.tup [x,y],by simp[ZN,OU,EK,hr,Jj,Bb,h1,h2],CX ⟨g1,g2,trivial⟩⟩
theorem oQ {H:List AO}{z:Int}{L M:List AV}(e:zA z=.agg M)(h:WeakL L M):Zs H (.agg L) (zA z):=by
 have:=XM z;rw[e]at this ⊢;exact XF this (ZR h)
theorem Wr {H:List AO}{z:Int}(hz:z=0)(f:Nat→AV)(t:Bool):Zs H (.agg [.bool false,.sl 0 0 f t]) (zA z):=by
 subst hz;exact oQ (M:=[.bool false,X8 []]) (by unfold zA;simp[Qj]) ⟨Weak.rfl' _,Qu _ _,trivial⟩
theorem K2 (n:Nat):bl (n:Int)=(X9 n).length:=by unfold bl;rw[Int.natAbs_natCast]
theorem QT (n:Nat):zA (n:Int)=.agg [.bool false,X8 (X9 n)]:=by
 unfold zA;rw[Int.natAbs_natCast,decide_eq_false (by omega)]
theorem R8 {n k:Nat}(h:(X9 n).length≤k):(n:Int)<pw k:=by
 have h1:=OP n;have h2:=Cl h;omega
theorem A7 {n:Nat}(h:(X9 n).length≤2):(n:Int)<1000000000000000000:=by
 have:=R8 h
 simpa [pw]using this
theorem Ns (A B:Nat)(hA:(X9 A).length<1000000000) (hB:(X9 B).length<1000000000) (hB0:B≠0) :
  Fn Tryz.prog 224 [X8 (X9 A),X8 (X9 B)] (.tup [zA ((A/B:Nat):Int),zA ((A%B:Nat):Int)]):=by
 have dA:=XN A;have dB:=XN B;have vA:=Xx A;have vB:=Xx B;have c1:=Pm _ dA;have c2:=Pm _ dB;rw[vA]at c1;rw[vB]at c2;have c3:=Db _ _ (XV A) (XV B) (by omega);rw[vA,vB]at c3;obtain⟨Q,hQ⟩:∃Q,Q=zA ((A/B:Nat):Int):=⟨_,rfl⟩
 obtain⟨R,hR⟩:∃R,R=zA ((A%B:Nat):Int):=⟨_,rfl⟩
 have sQ:Settled Q:=hQ▸XM _;have sR:Settled R:=hR▸XM _;have ofC:∀L:List Int,Jl L→L.length<1000000001→∀z:Nat,val L=z→Fn Tryz.prog 182 [.bool false,X8 L] (.agg [.bool false,X8 (X9 z)]):=fun L h1 h2 z h3=>by
  have:=Uw false L h1 (by omega);rw[h3]at this;rw[←QT];exact this
 have p1:(X9 A).length≤2→(X9 B).length≤2→IntKind.u64.wrap (IntKind.i64.wrap ((A:Int).tdiv B))=((A/B:Nat):Int)∧IntKind.u64.wrap ((A:Int).tmod B)=((A%B:Nat):Int)∧Fn Tryz.prog 181 [.bool false,.int .u64 ((A/B:Nat):Int)] (.agg [.bool false,X8 (X9 (A/B))])∧Fn Tryz.prog 181 [.bool false,.int .u64 ((A%B:Nat):Int)] (.agg [.bool false,X8 (X9 (A%B))]):=fun h1 h2=>by
  have l1:=A7 h1;have l2:=A7 h2;have e1:(A:Int).tdiv B=((A/B:Nat):Int):=rfl;have e2:(A:Int).tmod B=((A%B:Nat):Int):=rfl;have l3:A/B≤A:=Nat.div_le_self A B;have l4:A%B≤A:=Nat.mod_le A B;rw[e1,e2,←QT,←QT];generalize A/B=q at *;generalize A%B=r at *;refine⟨?_,?_,Z9 false _ (by omega) (by omega),Z9 false _ (by omega) (by omega)⟩
  ·have w1:IntKind.i64.wrap (q:Int)=q:=by rw[IntKind.wrap_i64];omega
   rw[w1,IntKind.wrap_u64];omega
  ·rw[IntKind.wrap_u64];omega
 have eQ2:=hQ.trans (QT (A/B));have eR2:=hR.trans (QT (A%B));rw[←hQ,←hR];have ret:∀ {s:AS},Zq Tryz.prog s (.cell 4 26)=some (.agg [.bool false,X8 (X9 (A/B))])→Zq Tryz.prog s (.cell 5 26)=some (.agg [.bool false,X8 (X9 (A%B))])→RetOk (Ju Tryz.prog Tryz.f224 [] [] (.tup [Q,R])) s:=fun h1 h2 =>
  Dv rfl h1 h2 (Q1 sQ eQ2.symm) (Q1 sR eR2.symm)
 have cofA:=ofC _ dA (by omega) _ vA;have hB1:(B:Int)=0→False:=fun h=>hB0 (by omega)
 by_cases hAB:(X9 A).length≤2∧(X9 B).length≤2
 ·obtain⟨w1,w2,cq,cr⟩:=p1 hAB.1 hAB.2
  have f1:((X9 A).length≤2)=True:=eq_true hAB.1;have f2:((X9 B).length≤2)=True:=eq_true hAB.2;have f3:((B:Int)=0)=False:=eq_false hB1;simp only[f1,decide_true,ite_true]at c1;simp only[f2,decide_true,ite_true]at c2;refine Fq Tryz.call224 Tryz.func224 14 [] [] [] (by simp[Kc]) (Xk ?_);simp(maxSteps:=999999)only[AS.start,↓X4,wA,seval,zA,wN];refine X1 c1 rfl ?_;simp only[↓X4,wA,seval,zA,wN];refine X1 c2 rfl ?_;simp only[f3,w1,w2,↓X4,wA,seval,zA,wN];refine X1 cq rfl ?_;simp only[f3,w1,w2,↓X4,wA,seval,zA,wN];refine X1 cr rfl ?_;simp only[↓X4,wA,seval,zA,wN];exact ret (Xs XX rfl rfl rfl) (Xs XX rfl rfl rfl)
 have lessK:A<B→Fn Tryz.prog 189 [X8 (X9 A),X8 (X9 B)] (I (-1)):=fun h=>by
  rw[Int.sign_eq_neg_one_of_neg (show(A:Int)-B<0 by omega)]at c3;exact c3
 have lessR:A<B→A/B=0∧A%B=A:=fun h=>⟨Nat.div_eq_of_lt h,Nat.mod_eq_of_lt h⟩
 have w3:((-1:Int)<0)=True:=eq_true (by omega);by_cases hA2:(X9 A).length≤2
 ·have hB2:¬ (X9 B).length≤2:=fun h=>hAB ⟨hA2,h⟩
  have hlt:A<B:=by
   have:=E0 (XV A) (XV B) (by omega);rw[vA,vB]at this;omega
  obtain⟨r1,r2⟩:=lessR hlt;have f1:((X9 A).length≤2)=True:=eq_true hA2;have f2:((X9 B).length≤2)=False:=eq_false hB2;simp only[f1,decide_true,ite_true]at c1;simp only[f2,decide_false,ite_false]at c2;refine Fq Tryz.call224 Tryz.func224 14 [] [] [] (by simp[Kc]) (Xk ?_);simp(maxSteps:=999999)only[AS.start,↓X4,wA,seval,zA,wN];refine X1 c1 rfl ?_;simp only[↓X4,wA,seval,zA,wN];refine X1 c2 rfl ?_;simp only[↓X4,wA,seval,zA,wN];refine X1 (lessK hlt) rfl ?_;simp only[w3,↓X4,wA,seval,zA,wN];refine X1 cofA rfl ?_;simp only[↓X4,wA,seval,zA,wN];exact Dv rfl (Xs XX rfl rfl rfl) (Xs XX rfl rfl rfl) (by rw[hQ];exact Wr (by rw[r1];rfl) _ _) (Q1 sR (by rw[eR2,r2];rfl))
 have f1:((X9 A).length≤2)=False:=eq_false hA2;simp only[f1,decide_false,ite_false]at c1;by_cases hlt:A<B
 ·obtain⟨r1,r2⟩:=lessR hlt
  refine Fq Tryz.call224 Tryz.func224 14 [] [] [] (by simp[Kc]) (Xk ?_);simp(maxSteps:=999999)only[AS.start,↓X4,wA,seval,zA,wN];refine X1 c1 rfl ?_;simp only[↓X4,wA,seval,zA,wN];refine X1 (lessK hlt) rfl ?_;simp only[w3,↓X4,wA,seval,zA,wN];refine X1 cofA rfl ?_;simp only[↓X4,wA,seval,zA,wN];exact Dv rfl (Xs XX rfl rfl rfl) (Xs XX rfl rfl rfl) (by rw[hQ];exact Wr (by rw[r1];rfl) _ _) (Q1 sR (by rw[eR2,r2];rfl))
 obtain⟨sg,hsg⟩:∃sg,sg=((A:Int)-B).sign:=⟨_,rfl⟩
 have hsg0:(sg<0)=False:=eq_false (by rw[hsg,Int.sign_neg_iff];omega);rw[←hsg]at c3;have hBA:(X9 B).length≤(X9 A).length:=by
  have:=QY (y:=(B:Int)) (z:=(A:Int)) (by omega);rwa[K2,K2]at this
 by_cases hB1':(X9 B).length=1
 ·obtain⟨d,hd⟩:=List.length_eq_one_iff.1 hB1'
  have hdd:Q5 d:=dB d (by rw[hd];simp);have hdB:d=B:=by rw[←vB,hd];simp[val]
  have hd0:d≠0:=by omega
  have cs:=SF (X9 A) d dA hdd hd0 (by omega);rw[vA,hdB]at cs;have dq:Jl (B5 (An (X9 A) B) (X9 A).length):=Df fun i _=>Ej dA (by omega) i
  have vq:val (B5 (An (X9 A) B) (X9 A).length)=((A/B:Nat):Int):=by
   have h1:=Pd (a:=X9 A) (b:=(B:Int)) (by omega);rw[vA]at h1;have h2:JV (X9 A) B 0=(A:Int)%B:=by unfold JV;rw[List.drop_zero,vA]
   rw[h2]at h1;have h3:=Int.emod_add_mul_ediv (A:Int) B;have h4:(B:Int)*val (B5 (An (X9 A) B) (X9 A).length)=B*((A:Int)/B):=by omega
   rw[Int.eq_of_mul_eq_mul_left (by omega) h4];rfl
  have cq:=ofC _ dq (by rw[Qd];omega) _ vq;generalize B5 (An (X9 A) B) (X9 A).length=L at *;have em:(A:Int)%B=((A%B:Nat):Int):=rfl;have wm:IntKind.u64.wrap ((A%B:Nat):Int)=((A%B:Nat):Int):=by
   have h1:A%B<B:=Nat.mod_lt _ (by omega);unfold Q5 at hdd;generalize A%B=r at *;rw[IntKind.wrap_u64];omega
  have cr:Fn Tryz.prog 181 [.bool false,.int .u64 ((A%B:Nat):Int)] (.agg [.bool false,X8 (X9 (A%B))]):=by
   have h1:A%B<B:=Nat.mod_lt _ (by omega);unfold Q5 at hdd;rw[←QT];generalize A%B=r at *;exact Z9 false _ (by omega) (by omega)
  rw[em]at cs;have f2:(((X9 B).length:Int)=1)=True:=eq_true (by omega);have f2':((X9 B).length=1)=True:=eq_true hB1';have f3:(0<(X9 B).length)=True:=eq_true (by omega);have f4:(X9 B).getD 0 0=(B:Int):=by rw[hd,←hdB];rfl
  refine Fq Tryz.call224 Tryz.func224 14 [] [] [] (by simp[Kc]) (Xk ?_);simp(maxSteps:=999999)only[AS.start,↓X4,wA,seval,zA,wN];refine X1 c1 rfl ?_;simp only[↓X4,wA,seval,zA,wN];refine X1 c3 rfl ?_;simp only[hsg0,f2,f2',f3,f4,↓X4,wA,seval,zA,wN];refine⟨by omega,X1 cs rfl ?_⟩;simp only[↓X4,wA,seval,zA,wN];refine X1 cq rfl ?_;simp only[wm,↓X4,wA,seval,zA,wN];refine X1 cr rfl ?_;simp only[↓X4,wA,seval,zA,wN];exact ret (Xs XX rfl rfl rfl) (Xs XX rfl rfl rfl)
 ·have hB2:2≤(X9 B).length:=by
   have:X9 B≠[]:=Iv hB0;have:(X9 B).length≠0:=fun h=>this (List.length_eq_zero_iff.1 h)
   omega
  obtain⟨q,r,cl,dq,dr,lq,lr,vq,vr⟩:=nT (X9 A) (X9 B) dA (XV B) hB2 hBA hA;rw[vA,vB]at vq vr;have cq:=ofC q dq (by omega) (A/B) (by rw[vq];rfl);have cr:=ofC r dr (by omega) (A%B) (by rw[vr];rfl);have f2':((X9 B).length=1)=False:=eq_false hB1';refine Fq Tryz.call224 Tryz.func224 14 [] [] [] (by simp[Kc]) (Xk ?_);simp(maxSteps:=999999)only[AS.start,↓X4,wA,seval,zA,wN];refine X1 c1 rfl ?_;simp only[↓X4,wA,seval,zA,wN];refine X1 c3 rfl ?_;simp only[hsg0,f2',↓X4,wA,seval,zA,wN];refine⟨fun h=>absurd h (by omega),fun _=>X1 cl rfl ?_⟩;simp only[↓X4,wA,seval,zA,wN];refine X1 cq rfl ?_;simp only[↓X4,wA,seval,zA,wN];refine X1 cr rfl ?_;simp only[↓X4,wA,seval,zA,wN];exact ret (Xs XX rfl rfl rfl) (Xs XX rfl rfl rfl)
theorem Lv (x y:Int)(hy:y≠0)(q r:Nat)(h:q=x.natAbs / y.natAbs)(hr:r=x.natAbs % y.natAbs)(q1 r1:Nat)(h1:if x<0∧r≠0 then q1=q+1∧r1=y.natAbs-r else q1=q∧r1=r) :
  x/y=KC (decide (x<0) != decide (y<0)) q1∧x%y=r1:=by
 have hya:0<y.natAbs:=by omega
 have e0:=Nat.mod_add_div x.natAbs y.natAbs;have e1:=Nat.mod_lt x.natAbs hya;rw[←h,←hr]at e0;rw[←hr]at e1;have e0':(r:Int)+y.natAbs*q=x.natAbs:=by exact_mod_cast e0
 have key:x/(y.natAbs:Int)=KC (decide (x<0)) q1∧x%(y.natAbs:Int)=r1:=by
  refine(Int.ediv_emod_unique (by omega)).2 ⟨?_,by omega,?_⟩
  ·unfold KC
   by_cases hx:x<0
   ·rw[if_pos (decide_eq_true hx)]
    by_cases hr0:r≠0
    ·rw[if_pos ⟨hx,hr0⟩]at h1
     obtain⟨rfl,rfl⟩:=h1;have:((y.natAbs-r:Nat):Int)=y.natAbs-r:=by omega
     rw[this]
     push_cast
     rw[Int.mul_neg,Int.mul_add];omega
    ·rw[if_neg (fun hh=>hr0 hh.2)]at h1
     obtain⟨rfl,rfl⟩:=h1;rw[Int.mul_neg];omega
   ·rw[if_neg (by simpa using hx)]
    rw[if_neg (fun hh=>hx hh.1)]at h1;obtain⟨rfl,rfl⟩:=h1;omega
  ·split at h1 <;> omega
 by_cases hy0:y<0
 ·have ey:(y.natAbs:Int) = -y:=by omega
  rw[ey,Int.ediv_neg,Int.emod_neg]at key;refine⟨?_,key.2⟩;have:=key.1;have e2:x/y = -KC (decide (x<0)) q1:=by omega
  rw[e2];unfold KC;rw[decide_eq_true hy0];by_cases hx:x<0 <;> simp[hx]
 ·have ey:(y.natAbs:Int)=y:=by omega
  rw[ey]at key;refine⟨?_,key.2⟩;rw[key.1,decide_eq_false hy0];cases decide (x<0) <;> rfl
theorem pD (neg:Bool)(u:Nat):zA (KC neg u)=.agg [.bool (neg && decide (u≠0)),X8 (X9 u)]:=by
 rw[l6 neg (by omega),Int.toNat_natCast];congr 3;simp
theorem fN (x y:Int)(hx:bl x<1000000000)(hy:bl y<1000000000)(hy0:y≠0):Fn Tryz.prog 185 [zA x,zA y] (.tup [zA (x/y),zA (x%y)]):=by
 have cd:=Ns x.natAbs y.natAbs hx hy (by omega);obtain⟨q,hq⟩:∃q,q=x.natAbs/y.natAbs:=⟨_,rfl⟩
 obtain⟨r,hr⟩:∃r,r=x.natAbs%y.natAbs:=⟨_,rfl⟩
 have hry:r<y.natAbs:=by rw[hr];exact Nat.mod_lt _ (by omega)
 have hqx:q≤x.natAbs:=by rw[hq];exact Nat.div_le_self _ _
 rw[←hq,←hr,QT,QT]at cd;have lq:(X9 q).length<1000000000:=by
  have:=QY (y:=(q:Int)) (z:=x) (by omega);rw[K2]at this;omega
 have lr:(X9 r).length<1000000000:=by
  have:=QY (y:=(r:Int)) (z:=y) (by omega);rw[K2]at this;omega
 have ly:(X9 y.natAbs).length<1000000000:=hy;have lry:(X9 r).length≤(X9 y.natAbs).length:=by
  have:=QY (y:=(r:Int)) (z:=y) (by omega);rw[K2]at this;exact this
 have ofC:∀L:List Int,Jl L→L.length<1000000002→∀z:Nat,val L=z→Fn Tryz.prog 182 [.bool false,X8 L] (.agg [.bool false,X8 (X9 z)]):=fun L h1 h2 z h3=>by
  have:=Uw false L h1 (by omega);rw[h3]at this;rw[←QT];exact this
 have y1:((X9 y.natAbs).length=0)=False:=eq_false (fun h=>by have:=digs_len_zero.1 h;omega);have y2:(((X9 y.natAbs).length:Int)=0)=False:=eq_false (fun h=>by have:=digs_len_zero.1 (show(X9 y.natAbs).length=0 by omega);omega);obtain⟨q1,r1,h1⟩:∃q1 r1,if x<0∧r≠0 then q1=q+1∧r1=y.natAbs-r else q1=q∧r1=r:=by
  by_cases h:x<0∧r≠0
  ·exact⟨q+1,y.natAbs-r,by rw[if_pos h];exact⟨rfl,rfl⟩⟩
  ·exact⟨q,r,by rw[if_neg h];exact⟨rfl,rfl⟩⟩
 obtain⟨e1,e2⟩:=Lv x y hy0 q r hq hr q1 r1 h1;obtain⟨Q,hQ⟩:∃Q,Q=zA (x/y):=⟨_,rfl⟩
 obtain⟨R,hR⟩:∃R,R=zA (x%y):=⟨_,rfl⟩
 have sQ:Settled Q:=hQ▸XM _;have sR:Settled R:=hR▸XM _;rw[←hQ,←hR];rw[e1,pD]at hQ;rw[e2,QT]at hR;have fin:∀ {s:AS} {t:Bool},t=((decide (x<0) != decide (y<0)) && decide (q1≠0))→Zq Tryz.prog s (.cell 4 26)=some (.agg [.bool t,X8 (X9 q1)])→Zq Tryz.prog s (.cell 5 26)=some (.agg [.bool false,X8 (X9 r1)]) →
   RetOk (Ju Tryz.prog Tryz.f185 [8,9000,90000007] [] (.tup [Q,R])) s:=fun ht h1 h2=>Dv rfl h1 h2 (Q1 sQ (by rw[hQ,ht])) (Q1 sR hR.symm)
 have g1:∀n:Nat,(0<(X9 n).length)=(n≠0):=fun n=>propext (by have:=@digs_len_zero n;omega)
 by_cases hc:x<0∧r≠0
 ·obtain⟨hx0,hr0⟩:=hc
  rw[if_pos ⟨hx0,hr0⟩]at h1;obtain⟨rfl,rfl⟩:=h1;obtain⟨L,l1,l2,l3,l4⟩:=Wc (X9 q) [1] (XN q) (KW.2 ⟨by unfold Q5;omega,Cg⟩) (by omega) (by simp);obtain⟨M,m1,m2,m3,m4⟩:=LZ (X9 y.natAbs) (X9 r) (XN _) (XN _) (by omega) lry (by rw[Xx,Xx];omega);have c2:=ofC L l1 (by simp at l3;omega) (q+1) (by rw[l2,Xx];simp[val]);have c3:=ofC M m1 (by omega) (y.natAbs-r) (by rw[m2,Xx,Xx];omega);have f1:(x<0)=True:=eq_true hx0;have f2:(0<(X9 r).length)=True:=eq_true (by rw[g1];exact hr0);have f3:(0<((X9 r).length:Int))=True:=eq_true (by have:=of_eq_true f2;omega);have f4:(0<(X9 (q+1)).length)=True:=eq_true (by rw[g1];omega);have f5:(0<((X9 (q+1)).length:Int))=True:=eq_true (by have:=of_eq_true f4;omega);refine Fq Tryz.call185 Tryz.func185 8 [] [8,9000,90000007] [] (by simp[Kc]) (Xk ?_);simp(maxSteps:=999999)only[AS.start,↓X4,wA,seval,zA,wN];simp only[y1,y2,f1,f2,f3,f4,f5,↓X4,wA,seval,zA,wN];refine X1 cd rfl ?_;simp only[y1,y2,f1,f2,f3,f4,f5,↓X4,wA,seval,zA,wN];refine X0 l4 ⟨Weak.rfl' _,BK rfl rfl,trivial⟩ ?_;simp only[y1,y2,f1,f2,f3,f4,f5,↓X4,wA,seval,zA,wN];refine X1 c2 rfl ?_;simp only[y1,y2,f1,f2,f3,f4,f5,↓X4,wA,seval,zA,wN];refine X1 m4 rfl ?_;simp only[y1,y2,f1,f2,f3,f4,f5,↓X4,wA,seval,zA,wN];refine X1 c3 rfl ?_;simp only[y1,y2,f1,f2,f3,f4,f5,↓X4,wA,seval,zA,wN];refine Qg (fun h=>fin ?_ (Xs XX rfl rfl rfl) (Xs XX rfl rfl rfl)) (fun h=>fin ?_ (Xs XX rfl rfl rfl) (Xs XX rfl rfl rfl))
  ·have:decide (y<0)=false:=by simpa using h
   simp[hx0,this]
  ·have:decide (y<0)=true:=by simpa using h
   simp[hx0,this]
 rw[if_neg hc]at h1;obtain⟨rfl,rfl⟩:=h1;have zr:∀h:x<0,(0<(X9 r1).length)=False:=fun h=>eq_false (by rw[g1];exact fun h2=>hc ⟨h,h2⟩)
 by_cases hx0:x<0
 ·have f1:(x<0)=True:=eq_true hx0
  have f2:=zr hx0;have f3:(0<((X9 r1).length:Int))=False:=eq_false (by have:=of_eq_false f2;omega);by_cases hq0:q1≠0
  ·have f4:(0<(X9 q1).length)=True:=eq_true (by rw[g1];exact hq0)
   have f5:(0<((X9 q1).length:Int))=True:=eq_true (by have:=of_eq_true f4;omega);refine Fq Tryz.call185 Tryz.func185 8 [] [8,9000,90000007] [] (by simp[Kc]) (Xk ?_);simp(maxSteps:=999999)only[AS.start,↓X4,wA,seval,zA,wN];simp only[y1,y2,f1,f2,f3,f4,f5,↓X4,wA,seval,zA,wN];refine X1 cd rfl ?_;simp only[y1,y2,f1,f2,f3,f4,f5,↓X4,wA,seval,zA,wN];refine Qg (fun h=>fin ?_ (Xs XX rfl rfl rfl) (Xs XX rfl rfl rfl)) (fun h=>fin ?_ (Xs XX rfl rfl rfl) (Xs XX rfl rfl rfl)) <;> simpa [hx0,hq0]using h
  ·have f4:(0<(X9 q1).length)=False:=eq_false (by rw[g1];exact hq0)
   have f5:(0<((X9 q1).length:Int))=False:=eq_false (by have:=of_eq_false f4;omega);refine Fq Tryz.call185 Tryz.func185 8 [] [8,9000,90000007] [] (by simp[Kc]) (Xk ?_);simp(maxSteps:=999999)only[AS.start,↓X4,wA,seval,zA,wN];simp only[y1,y2,f1,f2,f3,f4,f5,↓X4,wA,seval,zA,wN];refine X1 cd rfl ?_;simp only[y1,y2,f1,f2,f3,f4,f5,↓X4,wA,seval,zA,wN];refine Qg (fun h=>fin ?_ (Xs XX rfl rfl rfl) (Xs XX rfl rfl rfl)) (fun h=>fin ?_ (Xs XX rfl rfl rfl) (Xs XX rfl rfl rfl)) <;> simp[hq0]
 ·have f1:(x<0)=False:=eq_false hx0
  have f2:True=True:=rfl;have f3:True=True:=rfl;by_cases hq0:q1≠0
  ·have f4:(0<(X9 q1).length)=True:=eq_true (by rw[g1];exact hq0)
   have f5:(0<((X9 q1).length:Int))=True:=eq_true (by have:=of_eq_true f4;omega);refine Fq Tryz.call185 Tryz.func185 8 [] [8,9000,90000007] [] (by simp[Kc]) (Xk ?_);simp(maxSteps:=999999)only[AS.start,↓X4,wA,seval,zA,wN];simp only[y1,y2,f1,f2,f3,f4,f5,↓X4,wA,seval,zA,wN];refine X1 cd rfl ?_;simp only[y1,y2,f1,f2,f3,f4,f5,↓X4,wA,seval,zA,wN];refine Qg (fun h=>fin ?_ (Xs XX rfl rfl rfl) (Xs XX rfl rfl rfl)) (fun h=>fin ?_ (Xs XX rfl rfl rfl) (Xs XX rfl rfl rfl)) <;> simpa [hx0,hq0]using h
  ·have f4:(0<(X9 q1).length)=False:=eq_false (by rw[g1];exact hq0)
   have f5:(0<((X9 q1).length:Int))=False:=eq_false (by have:=of_eq_false f4;omega);refine Fq Tryz.call185 Tryz.func185 8 [] [8,9000,90000007] [] (by simp[Kc]) (Xk ?_);simp(maxSteps:=999999)only[AS.start,↓X4,wA,seval,zA,wN];simp only[y1,y2,f1,f2,f3,f4,f5,↓X4,wA,seval,zA,wN];refine X1 cd rfl ?_;simp only[y1,y2,f1,f2,f3,f4,f5,↓X4,wA,seval,zA,wN];refine Qg (fun h=>fin ?_ (Xs XX rfl rfl rfl) (Xs XX rfl rfl rfl)) (fun h=>fin ?_ (Xs XX rfl rfl rfl) (Xs XX rfl rfl rfl)) <;> simp[hq0]
def Av (x y:Int)(p:Nat×Nat):AS :=
  ⟨13,[],[zA x,zA y,.ref 0 0 0,.ref 1 0 0,.ref 2 0 0,.ref 3 0 0,.ref 4 0 0,.any,.any,.any,.any,.any,.any],[],
    [.con 0 2 (Xf [.bool (decide (x<0)),X8 (X9 x.natAbs)]),.con 0 2 (Xf [.bool (decide (y<0)),X8 (X9 y.natAbs)]),.row 0 2 (Xf [.bool false,.sl 0 0 (fun _=>.any) true]),
     .row 0 2 (Xf [.bool false,X8 (X9 p.1)]),.row 0 2 (Xf [.bool false,X8 (X9 p.2)])]⟩
def nN (x y:Int)(p:Nat×Nat):Prop:=Nat.gcd p.1 p.2=Int.gcd x y∧(X9 p.1).length<1000000000∧(X9 p.2).length<1000000000
theorem ic (x y:Int)(hx:bl x<1000000000)(hy:bl y<1000000000):Fn Tryz.prog 183 [zA x,zA y] (zA (Int.gcd x y)):=by
  have ofC:∀n:Nat,(X9 n).length<1000000002→Fn Tryz.prog 182 [.bool false,X8 (X9 n)] (.agg [.bool false,X8 (X9 n)]):=fun n h=>by
    have:=Uw false (X9 n) (XN n) (by omega);rw[Xx]at this;rw[←QT];exact this
  unfold bl at hx hy;have cx:=ofC x.natAbs (by omega);have cy:=ofC y.natAbs (by omega);obtain⟨R,hR⟩:∃R,R=zA (Int.gcd x y):=⟨_,rfl⟩
  have sR:Settled R:=hR▸XM _;rw[←hR];rw[QT]at hR;refine Fq Tryz.call183 Tryz.func183 13 [] [1,20000002,20000003,10,11000,110000012] [] (by simp[Kc]) (Xk ?_);simp(maxSteps:=999999)only[AS.start,↓X4,wA,seval,zA,wN];refine X1 cx rfl ?_;simp only[↓X4,wA,seval,zA,wN];refine X1 cy rfl ?_;simp only[↓X4,wA,seval,zA,wN];refine Xj (Av x y) (nN x y) (fun p=>p.2) (x.natAbs,y.natAbs) ⟨rfl,hx,hy⟩ ?_ ?_
  · unfold Av;exact(BA (by simp[zA,wN,Xm,X8,CP,Cf,Qs,I]) rfl)
  rintro⟨A,B⟩ ⟨g1,g2,g3⟩ next
  simp only at g1 g2 g3;by_cases hB:B=0
  · have f1:(0<(X9 B).length)=False:=eq_false (by have:=@digs_len_zero B;omega);have f2:(0<((X9 B).length:Int))=False:=eq_false (by have:=@digs_len_zero B;omega);refine Xk ?_;simp only[Av,f1,f2,↓X4,wA,seval,zA,wN];refine Q7 rfl XX rfl rfl rfl hR sR ?_;rw[hB,Nat.gcd_zero_right]at g1;rw[←g1];exact⟨Weak.rfl' _,Weak.rfl' _,trivial⟩
  have f1:(0<(X9 B).length)=True:=eq_true (by have:=@digs_len_zero B;omega);have f2:(0<((X9 B).length:Int))=True:=eq_true (by have:=@digs_len_zero B;omega);have c1:=Pm _ (XN A);have c2:=Pm _ (XN B);rw[Xx]at c1 c2;by_cases hAB:(X9 A).length≤2∧(X9 B).length≤2
  · have k1:((X9 A).length≤2)=True:=eq_true hAB.1;have k2:((X9 B).length≤2)=True:=eq_true hAB.2;simp only[k1,decide_true,ite_true]at c1;simp only[k2,decide_true,ite_true]at c2;have l1:=A7 hAB.1;have l2:=A7 hAB.2;refine Xk ?_;simp only[Av,f1,f2,↓X4,wA,seval,zA,wN];refine X1 c1 rfl ?_;simp only[↓X4,wA,seval,zA,wN];refine X1 c2 rfl ?_;simp only[↓X4,wA,seval,zA,wN];refine Xj (fun p:Nat×Nat=>⟨13,[],[zA x,zA y,.ref 0 0 0,.ref 1 0 0,.ref 2 0 0,.ref 3 0 0,.ref 4 0 0,I p.1,.any,I p.2,.any,.any,.any],[],
      [.con 0 2 (Xf [.bool (decide (x<0)),X8 (X9 x.natAbs)]),.con 0 2 (Xf [.bool (decide (y<0)),X8 (X9 y.natAbs)]),.row 0 2 (Xf [.bool false,.sl 0 0 (fun _=>.any) true]),
       .row 0 2 (Xf [.bool false,X8 (X9 A)]),.row 0 2 (Xf [.bool false,X8 (X9 B)])]⟩) (fun p=>Nat.gcd p.1 p.2=Int.gcd x y∧(p.1:Int)<1000000000000000000∧(p.2:Int)<1000000000000000000) (fun p=>p.2) (A,B) ⟨g1,l1,l2⟩ (BA (by simp[zA,wN,Xm,X8,CP,Cf,Qs,I]) rfl) ?_
    rintro⟨m,n⟩ ⟨h1,h2,h3⟩ next2;simp only at h1 h2 h3;by_cases hn:n=0
    · have j1:(0<(n:Int))=False:=eq_false (by omega);have j1':(0<n)=False:=eq_false (by omega);have hm:m=Int.gcd x y:=by rw[hn,Nat.gcd_zero_right]at h1;exact h1
      have w1:IntKind.u64.wrap (m:Int)=m:=by rw[IntKind.wrap_u64];omega
      have cu:Fn Tryz.prog 181 [.bool false,.int .u64 (m:Int)] (.agg [.bool false,X8 (X9 m)]):=by
        rw[←QT];exact Z9 false _ (by omega) (by omega)
      refine Xk ?_;simp only[j1,j1',w1,↓X4,wA,seval,zA,wN];refine X1 cu rfl ?_;simp only[↓X4,wA,seval,zA,wN];refine Q7 rfl XX rfl rfl rfl hR sR ?_;rw[←hm];exact⟨Weak.rfl' _,Weak.rfl' _,trivial⟩
    · have j1:(0<(n:Int))=True:=eq_true (by omega);have j1':(0<n)=True:=eq_true (by omega);have j2:((n:Int)=0)=False:=eq_false (by omega);have e2:(m:Int).tmod n=((m%n:Nat):Int):=rfl;have hlt:m%n<n:=Nat.mod_lt _ (by omega);refine Xk ?_;simp only[j1,j1',j2,e2,↓X4,wA,seval,zA,wN];refine next2 (n,m%n) _ ⟨?_,h3,by simp only;omega⟩ hlt (BA (by simp[zA,wN,Xm,X8,CP,Cf,Qs,I]) rfl);simp only;rw[←h1,Nat.gcd_comm m n,Nat.gcd_rec n m,Nat.gcd_comm]
  · have cd:=Ns A B g2 g3 hB;rw[QT,QT]at cd;have hlt:A%B<B:=Nat.mod_lt _ (by omega);have gnew:nN x y (B,A%B):=by
      refine⟨?_,g3,?_⟩
      · simp only;rw[←g1,Nat.gcd_comm A B,Nat.gcd_rec B A,Nat.gcd_comm]
      · have:=QY (y:=((A%B:Nat):Int)) (z:=(B:Int)) (by omega);rw[K2,K2]at this;simp only;omega
    by_cases hA2:(X9 A).length≤2
    · have k1:((X9 A).length≤2)=True:=eq_true hA2;have k2:((X9 B).length≤2)=False:=eq_false fun h=>hAB ⟨hA2,h⟩
      refine Xk ?_;simp only[Av,f1,f2,k1,k2,↓X4,wA,seval,zA,wN];refine X1 c1 rfl ?_;simp only[k1,k2,↓X4,wA,seval,zA,wN];refine X1 c2 rfl ?_;simp only[k1,k2,↓X4,wA,seval,zA,wN];refine X1 cd rfl ?_;simp only[k1,k2,↓X4,wA,seval,zA,wN];exact next (B,A%B) _ gnew hlt (XT (m:=5) (Nat.zero_le _) rfl (by simp[zA,wN,Av,Xm,X8,Qs,I]) (by simp[zA,wN,Av,Xw]) (by simp[zA,wN,Av,X8,Qs,I]) (by simp[zA,wN,Av,XW]) (by simp[zA,wN,Av,XW]) (by simp[zA,wN,Av,XW]))
    · have k1:((X9 A).length≤2)=False:=eq_false hA2;refine Xk ?_;simp only[Av,f1,f2,k1,↓X4,wA,seval,zA,wN];refine X1 c1 rfl ?_;simp only[k1,↓X4,wA,seval,zA,wN];refine X1 c2 rfl ?_;simp only[k1,↓X4,wA,seval,zA,wN];refine X1 cd rfl ?_;simp only[k1,↓X4,wA,seval,zA,wN];exact next (B,A%B) _ gnew hlt (XT (m:=5) (Nat.zero_le _) rfl (by simp[zA,wN,Av,Xm,X8,Qs,I]) (by simp[zA,wN,Av,Xw]) (by simp[zA,wN,Av,X8,Qs,I]) (by simp[zA,wN,Av,XW]) (by simp[zA,wN,Av,XW]) (by simp[zA,wN,Av,XW]))
def LP (p:Int→Bool)(s:List Int):Int:=if s.any p=true then(s.findIdx p:Nat)else -1
theorem LQ {p:Int→Bool}{s:List Int}{j:Nat}(hj:j<s.length)(h:p (s.getD j 0)=true) (hno:∀i,i<j→p (s.getD i 0)=false):LP p s=j:=by
 have at_:∀i (hi:i<s.length),s.getD i 0=s[i]:=fun i hi=>by rw[List.getD_eq_getElem?_getD,List.getElem?_eq_getElem hi];rfl
 have e:s.findIdx p=j:=by
  rw[List.findIdx_eq hj];exact⟨by rw[←at_ j hj];exact h,fun i hi=>by rw[←at_ i (by omega)];exact hno i hi⟩
 unfold LP;rw[if_pos (List.any_eq_true.2 ⟨_,Gh hj,h⟩),e]
theorem Hr {p:Int→Bool}{s:List Int}(hno:∀i,i<s.length→p (s.getD i 0)=false):LP p s = -1:=by
 unfold LP;rw[if_neg];intro h;obtain⟨x,hx,hp⟩:=List.any_eq_true.1 h;obtain⟨i,hi,rfl⟩:=List.getElem_of_mem hx;have:=hno i hi;rw[List.getD_eq_getElem?_getD,List.getElem?_eq_getElem hi]at this;simp only[Option.getD_some]at this;rw[this]at hp;cases hp
theorem Rx (p:Int→Bool)(s:List Int):decide (0≤LP p s)=s.any p:=by
 unfold LP;cases h:s.any p
 ·simp
 ·rw[if_pos rfl];exact decide_eq_true (by omega)
theorem aa (s:List Int)(f:FuncId)(caps:List AV)(p:Int→Bool)(hl:s.length<4611686018427387904)(hc:∀ a∈caps,Settled a)(hp:∀x∈s,Fn Tryz.prog f ([I x] ++ caps) (.bool (p x))) :
  Fn Tryz.prog 251 [X8 s,.fn f caps] (I (LP p s)):=by
 refine Fn.intro (fn:=Tryz.f251) Tryz.call251 Tryz.func251 rfl mixed 6 [6,7,8] [] [] (by kernel_rfl) (Nat.le_of_ble_eq_true rfl) (by simpa [Xc]using Jg hc) (Xk ?_);simp only[AS.start,↓X4,wA,seval,zA,wN];refine Xj (fun j:Nat=>⟨6,[6,7,8],[X8 s,.fn f caps,.any,.any,.any,.any],[(6,X8 s),(7,I s.length),(8,I j)],[]⟩) (fun j=>j≤s.length∧∀i,i<j→p (s.getD i 0)=false) (fun j=>s.length-j) 0 ⟨by omega,by omega⟩
  (Xi rfl (by simp[Xm,X8,Qs,I]) (by simp[Xw,XA,X8,Qs,I]) rfl) ?_
 rintro j ⟨hj,hno⟩ next
 have w1:=wj j (by omega);refine Xk ?_;simp only[w1,↓X4,wA,seval,zA,wN];refine⟨fun h=>⟨h,h,?_⟩,fun h=>Xo (v:=I (-1)) rfl rfl (Xb _) ?_⟩
 ·refine X0 (hp _ (Gh h)) (X2 _) ?_
  simp only[w1,↓X4,wA,seval,zA,wN];refine Qg (fun ht=>Xo (v:=I j) rfl rfl (Xb _) ?_) (fun hf=>next (j+1) _ ⟨by omega,fun i hi=>?_⟩ (by omega) (Xi rfl ?_ ?_ rfl))
  ·rw[LQ h ht hno]
  ·by_cases e:i=j
   ·rw[e];exact hf
   ·exact hno i (by omega)
  ·simp[Xm,X8,Qs,I]
  ·simp[Xw,XA,X8,Qs,I]
 ·rw[Hr fun i hi=>hno i (by omega)]
theorem ON (s:List Int)(f:FuncId)(caps:List AV)(p:Int→Bool)(hl:s.length<4611686018427387904)(hc:∀ a∈caps,Settled a)(hp:∀x∈s,Fn Tryz.prog f ([I x] ++ caps) (.bool (p x))) :
  Fn Tryz.prog 234 [X8 s,.fn f caps] (.bool (s.any p)):=by
 refine Fn.intro (fn:=Tryz.f234) Tryz.call234 Tryz.func234 rfl mixed 5 [] [] [] (by kernel_rfl) (Nat.le_of_ble_eq_true rfl) (by simpa [Xc]using Jg hc) (Xk ?_);simp only[AS.start,↓X4,wA,seval,zA,wN];have hi:=Rx p s;refine X1 (aa s f caps p hl hc hp) rfl ?_;simp only[↓X4,wA,seval,zA,wN];exact Xo (v:=.bool (decide (0≤LP p s))) rfl rfl (X5 _) (by rw[Rx])
def zR (neg:Bool)(d:List Int):AV:=.agg [.bool neg,X8 d]
theorem Xh (neg:Bool)(d:List Int):Settled (zR neg d):=Qr (by simp[Xc,X5])
def FZ (x:Int):Bool:=decide (x<0) || decide (1000000000≤x)
def Kn (neg:Bool)(d:List Int):Bool:=!(d.any FZ) && (if d.length=0 then !neg else decide (d.getD (d.length-1) 0≠0))
theorem Za (neg:Bool)(d:List Int):Kn neg d=true↔∃z:Int,neg=decide (z<0)∧d=X9 z.natAbs:=by
 have hd:(!(d.any FZ))=true↔Jl d:=by
  simp only[Bool.not_eq_true',List.any_eq_false,FZ,Bool.or_eq_true,decide_eq_true_eq,not_or];unfold Jl Q5;constructor
  ·intro h x hx
   have:=h x hx;omega
  ·intro h x hx
   have:=h x hx;omega
 unfold Kn;rw[Bool.and_eq_true,hd];constructor
 ·rintro⟨h1,h2⟩
  by_cases h0:d.length=0
  ·rw[if_pos h0]at h2
   obtain rfl:=List.length_eq_zero_iff.1 h0;exact⟨0,by simpa using h2,by simp[Qj]⟩
  ·rw[if_neg h0]at h2
   have hc:Ai d:=⟨h1,fun _=>by simpa using h2⟩
   have hne:d≠[]:=fun e=>h0 (by rw[e];rfl)
   have hp:0<val d:=by
    have:=CK hc hne;have:=Jn (d.length-1);omega
   refine⟨KC neg (val d),?_,?_⟩
   ·unfold KC;cases neg
    ·simp;omega
    ·simp;omega
   ·rw[show(KC neg (val d)).natAbs=(val d).toNat by unfold KC;split <;> omega]
    exact(AU hc).symm
 ·rintro⟨z,rfl,rfl⟩
  refine⟨XN _,?_⟩;by_cases h0:(X9 z.natAbs).length=0
  ·rw[if_pos h0]
   have:=digs_len_zero.1 h0;simp;omega
  ·rw[if_neg h0]
   exact decide_eq_true ((XV z.natAbs).2 fun e=>h0 (by rw[e];rfl))
theorem cw (x:Int):Fn Tryz.prog 235 [I x] (.bool (FZ x)):=by
 refine Fq Tryz.call235 Tryz.func235 3 [] [] [] (by simp[Kc]) (Xk ?_);simp(maxSteps:=999999)only[AS.start,↓X4,wA,seval,zA,wN];unfold FZ;refine⟨fun h=>Xo rfl rfl (X5 _) ?_,fun h=>Xo rfl rfl (X5 _) ?_⟩ <;> simp[AS.get,h]
theorem NB (neg:Bool)(d:List Int)(hl:d.length<4611686018427387904):Fn Tryz.prog 210 [zR neg d] (.bool (Kn neg d)):=by
 have c1:Fn Tryz.prog 234 [X8 d,.fn 235 []] (.bool (d.any FZ)):=ON d _ [] FZ hl (by simp) fun x _=>cw x
 obtain⟨V,hV⟩:∃V,V=Kn neg d:=⟨_,rfl⟩
 rw[←hV];unfold Kn at hV;have fin:∀ {s:AS} {v:Bool},s.get 2=.bool v→v=V→RetOk (Ju Tryz.prog Tryz.f210 [] [] (.bool V)) s:=fun h e=>Xo rfl h (X5 _) (by rw[e])
 by_cases h0:d.length=0
 ·have f1:(d.length=0)=True:=eq_true h0
  have f2:((d.length:Int)=0)=True:=eq_true (by omega);have f3:(0<d.length)=False:=eq_false (by omega);have f4:(0<(d.length:Int))=False:=eq_false (by omega);rw[if_pos h0]at hV;refine Fq Tryz.call210 Tryz.func210 3 [] [] [] (by simp[Xh]) (Xk ?_);simp only[AS.start,zR,f1,f2,f3,f4,↓X4,wA,seval,zA,wN];refine X1 c1 rfl ?_;cases neg
  all_goals
   simp only[f1,f2,f3,f4,↓X4,wA,seval,zA,wN];refine Qg (fun h=>fin rfl ?_) (fun h=>fin rfl ?_)
   all_goals rw[hV,h];rfl
 ·have f1:(d.length=0)=False:=eq_false h0
  have f2:((d.length:Int)=0)=False:=eq_false (by omega);have f3:(0<d.length)=True:=eq_true (by omega);have f4:(0<(d.length:Int))=True:=eq_true (by omega);have w1:IntKind.i64.wrap ((d.length:Int)-1)=((d.length-1:Nat):Int):=by rw[IntKind.wrap_i64];omega
  have f5:(d.length-1<d.length)=True:=eq_true (by omega);rw[if_neg h0]at hV;refine Fq Tryz.call210 Tryz.func210 3 [] [] [] (by simp[Xh]) (Xk ?_);simp only[AS.start,zR,f1,f2,f3,f4,w1,f5,Int.toNat_natCast,↓X4,wA,seval,zA,wN];refine X1 c1 rfl ?_;simp only[f1,f2,f3,f4,w1,f5,Int.toNat_natCast,↓X4,wA,seval,zA,wN];refine Qg (fun h=>fin rfl ?_) (fun h=>fin rfl ?_)
  all_goals rw[hV,h];simp
theorem WH (neg:Bool)(d:List Int):Fn Tryz.prog 184 [zR neg d] (.bool (!neg && decide (d=[1]))):=by
 have hone:(d=[1])↔d.length=1∧d.getD 0 0=1:=by
  constructor
  ·rintro rfl;exact⟨rfl,rfl⟩
  ·rintro⟨h1,h2⟩
   obtain⟨x,rfl⟩:=List.length_eq_one_iff.1 h1;rw[show x=1 from h2]
 obtain⟨V,hV⟩:∃V,V=(!neg && decide (d=[1])):=⟨_,rfl⟩
 rw[←hV];have fin:∀ {s:AS} {v:Bool},s.get 2=.bool v→v=V→RetOk (Ju Tryz.prog Tryz.f184 [] [] (.bool V)) s:=fun h e=>Xo rfl h (X5 _) (by rw[e])
 by_cases h0:d.length=1
 ·have f1:(d.length=1)=True:=eq_true h0
  have f2:((d.length:Int)=1)=True:=eq_true (by omega);have f3:(0<d.length)=True:=eq_true (by omega);have f4:(0<(d.length:Int))=True:=eq_true (by omega);refine Fq Tryz.call184 Tryz.func184 3 [] [] [] (by simp[Xh]) (Xk ?_);cases neg
  all_goals
   simp only[AS.start,zR,f1,f2,f3,f4,↓X4,wA,seval,zA,wN];exact fin rfl (by rw[hV];simp[hone,h0])
 ·have f1:(d.length=1)=False:=eq_false h0
  have f2:((d.length:Int)=1)=False:=eq_false (by omega);have hne:¬d=[1]:=fun h=>h0 (hone.1 h).1
  refine Fq Tryz.call184 Tryz.func184 3 [] [] [] (by simp[Xh]) (Xk ?_);cases neg
  all_goals
   simp only[AS.start,zR,f1,f2,↓X4,wA,seval,zA,wN];exact fin rfl (by rw[hV];simp[hne])
theorem Pn (z:Int):(!(decide (z<0)) && decide (X9 z.natAbs=[1]))=decide (z=1):=by
 have h1:X9 z.natAbs=[1]↔z.natAbs=1:=by
  constructor
  ·intro h
   have:=Xx z.natAbs;rw[h]at this;simp[val]at this;omega
  ·intro h;rw[h,Ga (by omega) (by omega)];rfl
 by_cases h:z<0
 ·simp[h];omega
 ·simp only[h,decide_false,Bool.not_false,Bool.true_and,decide_eq_decide,h1];omega
theorem GV (z:Int):Fn Tryz.prog 184 [zA z] (.bool (decide (z=1))):=by
 have:=WH (decide (z<0)) (X9 z.natAbs);rw[Pn]at this;exact this
theorem Ux:Fn Tryz.prog 186 [] (zA 1):=by
 refine Fq Tryz.call186 Tryz.func186 1 [] [] [] (by simp[Kc]) (Xk ?_);simp(maxSteps:=999999)only[AS.start,↓X4,wA,seval,zA,wN];refine X1 (FJ 1 ⟨by omega,by omega⟩) rfl ?_;simp only[↓X4,wA,seval,zA,wN];exact Q7 rfl XX rfl rfl rfl rfl (XM _) ⟨Weak.rfl' _,Weak.rfl' _,trivial⟩
theorem HY (x y:Int)(hx:bl x<1000000000)(hy:bl y<1000000000):Fn Tryz.prog 111 [zA x,zA y] (I (x-y).sign):=by
 unfold bl at hx hy;have c1:=Db (X9 x.natAbs) (X9 y.natAbs) (XV _) (XV _) (by omega);have c2:=Db (X9 y.natAbs) (X9 x.natAbs) (XV _) (XV _) (by omega);rw[Xx,Xx]at c1 c2;obtain⟨V,hV⟩:∃V,V=(x-y).sign:=⟨_,rfl⟩
 rw[←hV];have fin:∀ {s:AS} {v:Int},s.get 4=I v→v=V→RetOk (Ju Tryz.prog Tryz.f111 [] [] (I V)) s:=fun h e=>Xo rfl h (Xb _) (by rw[e])
 by_cases h1:x<0 <;> by_cases h2:y<0
 ·have f1:(x<0)=True:=eq_true h1
  have f2:(y<0)=True:=eq_true h2;refine Fq Tryz.call111 Tryz.func111 5 [] [] [] (by simp[Kc]) (Xk ?_);simp(maxSteps:=999999)only[AS.start,↓X4,wA,seval,zA,wN];simp only[f1,f2,↓X4,wA,seval,zA,wN];refine X1 c2 rfl ?_;simp only[↓X4,wA,seval,zA,wN];exact fin rfl (by rw[hV];congr 1;omega)
 ·have f1:(x<0)=True:=eq_true h1
  have f2:(y<0)=False:=eq_false h2;refine Fq Tryz.call111 Tryz.func111 5 [] [] [] (by simp[Kc]) (Xk ?_);simp(maxSteps:=999999)only[AS.start,↓X4,wA,seval,zA,wN];simp only[f1,f2,↓X4,wA,seval,zA,wN];exact fin rfl (by rw[hV,Int.sign_eq_neg_one_of_neg (by omega)])
 ·have f1:(x<0)=False:=eq_false h1
  have f2:(y<0)=True:=eq_true h2;refine Fq Tryz.call111 Tryz.func111 5 [] [] [] (by simp[Kc]) (Xk ?_);simp(maxSteps:=999999)only[AS.start,↓X4,wA,seval,zA,wN];simp only[f1,f2,↓X4,wA,seval,zA,wN];exact fin rfl (by rw[hV,Int.sign_eq_one_of_pos (by omega)])
 ·have f1:(x<0)=False:=eq_false h1
  have f2:(y<0)=False:=eq_false h2;refine Fq Tryz.call111 Tryz.func111 5 [] [] [] (by simp[Kc]) (Xk ?_);simp(maxSteps:=999999)only[AS.start,↓X4,wA,seval,zA,wN];simp only[f1,f2,↓X4,wA,seval,zA,wN];refine X1 c1 rfl ?_;simp only[↓X4,wA,seval,zA,wN];exact fin rfl (by rw[hV];congr 1;omega)
theorem J2 {P:Program}{fn:Func}{str hcs:List Nat}{r:AV}{s:AS}{t u id ver n:Nat}{L:List AV}(hr:fn.results=#[.cell t u])(hk:Cc P u=some (some n)) (hs:s.get t=.ref id ver 0)
  (ho:s.h[id]?=some (.row ver n (Xf L))) (hn:L.length=n) (hset:Settled r) (e:r=.agg L):RetOk (Ju P fn str hcs r) s:=Q7 hr hk hs ho hn e hset (X2 L)
theorem Ds (r:Rat):(X9 (qd r)).length=0↔r.den=1:=by
 rw[digs_len_zero];unfold qd;have:=r.den_nz
 split <;> omega
theorem Ma {r:Rat}(h:r.den=1):X9 (qd r)=[]:=by unfold qd;rw[if_pos h,Qj]
theorem ju {r:Rat}(h:¬r.den=1):X9 (qd r)=X9 r.den:=by unfold qd;rw[if_neg h]
theorem M9 {r:Rat}(h:r.den=1):qA r=.agg [.bool (decide (r.num<0)),X8 (X9 r.num.natAbs),.bool false,X8 []]:=by unfold qA qC;rw[Ma h]
theorem Wj {r:Rat}(h:¬r.den=1):qA r=.agg [.bool (decide (r.num<0)),X8 (X9 r.num.natAbs),.bool false,X8 (X9 r.den)]:=by unfold qA qC;rw[ju h]
theorem oa (r:Rat):(X9 r.num.natAbs).length=0↔r=0:=by
 rw[digs_len_zero,←Rat.num_eq_zero];omega
theorem kZ (r:Rat):zA r.den=.agg [.bool false,X8 (X9 r.den)]:=QT _
theorem De (r:Rat):Fn Tryz.prog 104 [qA r] (zA r.den):=by
 obtain⟨R,hR⟩:∃R,R=zA r.den:=⟨_,rfl⟩
 have sR:Settled R:=hR▸XM _;rw[←hR];rw[kZ]at hR;by_cases h:r.den=1
 ·have f1:((X9 (qd r)).length=0)=True:=eq_true ((Ds r).2 h)
  have f2:(((X9 (qd r)).length:Int)=0)=True:=eq_true (by have:=(Ds r).2 h;omega);refine Fq Tryz.call104 Tryz.func104 3 [] [] [] (by simp[Kc,Xa,Xh]) (Xk ?_);simp(maxSteps:=999999)only[AS.start,↓X4,wA,seval,zA,qA,qC,wN];simp only[f1,f2,↓X4,wA,seval,zA,qA,qC,wN];refine X1 Ux rfl ?_;simp only[↓X4,wA,seval,zA,qA,qC,wN];exact J2 rfl XX rfl rfl rfl sR (by rw[hR,h];rfl)
 ·have f1:((X9 (qd r)).length=0)=False:=eq_false fun e=>h ((Ds r).1 e)
  have f2:(((X9 (qd r)).length:Int)=0)=False:=eq_false fun e=>h ((Ds r).1 (by omega))
  refine Fq Tryz.call104 Tryz.func104 3 [] [] [] (by simp[Kc,Xa,Xh]) (Xk ?_);simp(maxSteps:=999999)only[AS.start,↓X4,wA,seval,zA,qA,qC,wN];simp only[f1,f2,↓X4,wA,seval,zA,qA,qC,wN];exact J2 rfl XX rfl rfl rfl sR (by rw[hR,ju h];rfl)
theorem qG {z:Int}(h:z<0):zA z=.agg [.bool true,X8 (X9 z.natAbs)]:=by unfold zA;rw[decide_eq_true h]
theorem WK {z:Int}(h:¬z<0):zA z=.agg [.bool false,X8 (X9 z.natAbs)]:=by unfold zA;rw[decide_eq_false h]
theorem EO (p q:Int)(hq:q≠0)(hg:Int.gcd p q=1):Fn Tryz.prog 105 [zA p,zA q] (qA (Rat.divInt p q)):=by
 obtain⟨e1,e2⟩:=Lt p q hq hg;obtain⟨R,hR⟩:∃R,R=qA (Rat.divInt p q):=⟨_,rfl⟩
 have sR:Settled R:=hR▸Xa _;rw[←hR];have key:∀p' q':Int,p'=q.sign*p→q'=q.natAbs→(q'=1→R=.agg [.bool (decide (p'<0)),X8 (X9 p'.natAbs),.bool false,X8 []])∧(¬q'=1→R=.agg [.bool (decide (p'<0)),X8 (X9 p'.natAbs),.bool false,X8 (X9 q'.natAbs)]):=by
  intro p' q' hp' hq';constructor
  ·intro h
   rw[hR,M9 (by omega),e1,hp']
  ·intro h
   rw[hR,Wj (by omega),e1,hp',e2,hq',Int.natAbs_natCast]
 by_cases h:q<0
 ·have f1:(q<0)=True:=eq_true h
  obtain⟨k1,k2⟩:=key (-p) (-q) (by rw[Int.sign_eq_neg_one_of_neg h];omega) (by omega);have cu:=GV (-q);have cn:=P4 q;rw[qG h]at cn;have f5:decide (-q<0)=false:=decide_eq_false (by omega);by_cases h1:-q=1
  ·simp only[h1,decide_true]at cu
   have hk:=k1 h1;refine Fq Tryz.call105 Tryz.func105 5 [] [] [] (by simp[Kc,Xa,Xh]) (Xk ?_);simp(maxSteps:=999999)only[AS.start,↓X4,wA,seval,zA,qA,qC,wN];simp only[f1,↓X4,wA,seval,zA,qA,qC,wN];refine X1 (P4 p) rfl ?_;simp only[f1,↓X4,wA,seval,zA,qA,qC,wN];refine X1 cn rfl ?_;simp only[f1,h1,↓X4,wA,seval,zA,qA,qC,wN];refine X1 cu rfl ?_;simp only[↓X4,wA,seval,zA,qA,qC,wN];exact Q7 rfl XR rfl rfl rfl hk sR ⟨Weak.rfl' _,Weak.rfl' _,Weak.rfl' _,Qu _ _,trivial⟩
  ·simp only[h1,decide_false]at cu
   have hk:=k2 h1;refine Fq Tryz.call105 Tryz.func105 5 [] [] [] (by simp[Kc,Xa,Xh]) (Xk ?_);simp(maxSteps:=999999)only[AS.start,↓X4,wA,seval,zA,qA,qC,wN];simp only[f1,↓X4,wA,seval,zA,qA,qC,wN];refine X1 (P4 p) rfl ?_;simp only[f1,↓X4,wA,seval,zA,qA,qC,wN];refine X1 cn rfl ?_;simp only[f1,↓X4,wA,seval,zA,qA,qC,wN];refine X1 cu rfl ?_;simp only[↓X4,wA,seval,zA,qA,qC,wN];exact J2 rfl XR rfl rfl rfl sR (by rw[hk,f5];rfl)
 ·have f1:(q<0)=False:=eq_false h
  obtain⟨k1,k2⟩:=key p q (by rw[Int.sign_eq_one_of_pos (by omega)];omega) (by omega);have cu:=GV q;rw[WK h]at cu;by_cases h1:q=1
  ·simp only[h1,decide_true]at cu
   have hk:=k1 h1;subst h1;refine Fq Tryz.call105 Tryz.func105 5 [] [] [] (by simp[Kc,Xa,Xh]) (Xk ?_);simp(maxSteps:=999999)only[AS.start,↓X4,wA,seval,zA,qA,qC,wN]
   try simp only[f1,↓X4,wA,seval,zA,qA,qC,wN]
   refine X1 cu rfl ?_;simp only[↓X4,wA,seval,zA,qA,qC,wN];exact Q7 rfl XR rfl rfl rfl hk sR ⟨Weak.rfl' _,Weak.rfl' _,Weak.rfl' _,Qu _ _,trivial⟩
  ·simp only[h1,decide_false]at cu
   have hk:=k2 h1;refine Fq Tryz.call105 Tryz.func105 5 [] [] [] (by simp[Kc,Xa,Xh]) (Xk ?_);simp(maxSteps:=999999)only[AS.start,↓X4,wA,seval,zA,qA,qC,wN];simp only[f1,↓X4,wA,seval,zA,qA,qC,wN];refine X1 cu rfl ?_;simp only[f1,↓X4,wA,seval,zA,qA,qC,wN];exact J2 rfl XR rfl rfl rfl sR (by rw[hk];rfl)
theorem Pb:qA 0=.agg [.bool false,X8 [],.bool false,X8 []]:=by
 rw[M9 (by rfl)];simp[Qj]
theorem Ix (p q:Int)(hp:bl p<1000000000)(hq:bl q<1000000000):Fn Tryz.prog 103 [zA p,zA q] (qA (Rat.divInt p q)):=by
 obtain⟨R,hR⟩:∃R,R=qA (Rat.divInt p q):=⟨_,rfl⟩
 have sR:Settled R:=hR▸Xa _;have zp:((X9 p.natAbs).length=0)=(p=0):=propext (digs_len_zero.trans (by omega));have zq:((X9 q.natAbs).length=0)=(q=0):=propext (digs_len_zero.trans (by omega));have z0:p=0∨q=0→R=.agg [.bool false,X8 [],.bool false,X8 []]:=by
  intro h;rw[hR,←Pb];rcases h with rfl |rfl
  ·rw[Rat.zero_divInt]
  ·rw[Rat.divInt_zero]
 rw[←hR];by_cases hq0:q=0
 ·have f1:(q=0)=True:=eq_true hq0
  have f2:(((X9 q.natAbs).length:Int)=0)=True:=eq_true (by have h:(X9 q.natAbs).length=0:=(by rw[zq];assumption);omega);refine Fq Tryz.call103 Tryz.func103 6 [] [] [] (by simp[Kc,Xa,Xh]) (Xk ?_);simp(maxSteps:=999999)only[AS.start,↓X4,wA,seval,zA,qA,qC,wN];simp only[zq,f1,f2,↓X4,wA,seval,zA,qA,qC,wN];exact Q7 rfl XR rfl rfl rfl (z0 (.inr hq0)) sR ⟨Weak.rfl' _,Qu _ _,Weak.rfl' _,Qu _ _,trivial⟩
 have f1:(q=0)=False:=eq_false hq0;have f2:(((X9 q.natAbs).length:Int)=0)=False:=eq_false (fun e=>hq0 (by rw[←zq];omega));by_cases hp0:p=0
 ·have f3:(p=0)=True:=eq_true hp0
  have f4:(((X9 p.natAbs).length:Int)=0)=True:=eq_true (by have h:(X9 p.natAbs).length=0:=(by rw[zp];assumption);omega);refine Fq Tryz.call103 Tryz.func103 6 [] [] [] (by simp[Kc,Xa,Xh]) (Xk ?_);simp(maxSteps:=999999)only[AS.start,↓X4,wA,seval,zA,qA,qC,wN];simp only[zp,zq,f1,f2,f3,f4,↓X4,wA,seval,zA,qA,qC,wN];exact Q7 rfl XR rfl rfl rfl (z0 (.inl hp0)) sR ⟨Weak.rfl' _,Qu _ _,Weak.rfl' _,Qu _ _,trivial⟩
 have f3:(p=0)=False:=eq_false hp0;have f4:(((X9 p.natAbs).length:Int)=0)=False:=eq_false (fun e=>hp0 (by rw[←zp];omega));have cg:=ic p q hp hq;have cu:=GV (Int.gcd p q);obtain⟨g,hg⟩:∃g:Int,g=Int.gcd p q:=⟨_,rfl⟩
 have hg0:0<Int.gcd p q:=Int.gcd_pos_of_ne_zero_right _ hq0;have hgq:bl g≤bl q:=QY (by
  have:=Nat.le_of_dvd (by omega) (Int.gcd_dvd_natAbs_right p q);omega)
 rw[←hg]at cg cu;by_cases h1:g=1
 ·have cl:=EO p q hq0 (by omega)
  rw[hR];rw[h1]at cg cu;simp only[decide_true]at cu;obtain⟨R',hR'⟩:∃R',R'=qA (Rat.divInt p q):=⟨_,rfl⟩
  rw[←hR']at cl ⊢;have sR':Settled R':=hR'▸Xa _;refine Fq Tryz.call103 Tryz.func103 6 [] [] [] (by simp[Kc,Xa,Xh]) (Xk ?_);simp(maxSteps:=999999)only[AS.start,↓X4,wA,seval,zA,qA,qC,wN];simp only[zp,zq,f1,f2,f3,f4,↓X4,wA,seval,zA,qA,qC,wN];refine X1 cg rfl ?_;simp only[↓X4,wA,seval,zA,qA,qC,wN];refine X1 cu rfl ?_;simp only[↓X4,wA,seval,zA,qA,qC,wN];refine X1 cl rfl ?_;simp only[hR',↓X4,wA,seval,zA,qA,qC,wN];exact J2 rfl XR rfl rfl rfl sR' (hR'.trans rfl)
 ·obtain⟨d1,d2,d3⟩:=DP p q hq0 g hg
  have cl:=EO (p/g) (q/g) d3 d2;rw[d1,←hR]at cl;simp only[h1,decide_false]at cu;have c1:=fN p g hp (by omega) (by omega);have c2:=fN q g hq (by omega) (by omega);refine Fq Tryz.call103 Tryz.func103 6 [] [] [] (by simp[Kc,Xa,Xh]) (Xk ?_);simp(maxSteps:=999999)only[AS.start,↓X4,wA,seval,zA,qA,qC,wN];simp only[zp,zq,f1,f2,f3,f4,↓X4,wA,seval,zA,qA,qC,wN];refine X1 cg rfl ?_;simp only[↓X4,wA,seval,zA,qA,qC,wN];refine X1 cu rfl ?_;simp only[↓X4,wA,seval,zA,qA,qC,wN];refine X1 c1 rfl ?_;simp only[↓X4,wA,seval,zA,qA,qC,wN];refine X1 c2 rfl ?_;simp only[↓X4,wA,seval,zA,qA,qC,wN];refine X1 cl rfl ?_;simp only[hR,↓X4,wA,seval,zA,qA,qC,wN];exact J2 rfl XR rfl rfl rfl sR (hR.trans rfl)
theorem Zt {n:Int}(h:BS n):bl n≤3:=G2 (by unfold BS at h;simp only[pw];omega)
theorem Cz (p q:Int)(hp:BS p)(hq:BS q):Fn Tryz.prog 114 [I p,I q] (qA (Rat.divInt p q)):=by
 obtain⟨R,hR⟩:∃R,R=qA (Rat.divInt p q):=⟨_,rfl⟩
 have sR:Settled R:=hR▸Xa _;have cm:=Ix p q (by have:=Zt hp;omega) (by have:=Zt hq;omega);rw[←hR]at cm ⊢;refine Fq Tryz.call114 Tryz.func114 5 [] [] [] (by simp[Kc,Xa,Xh]) (Xk ?_);simp(maxSteps:=999999)only[AS.start,↓X4,wA,seval,zA,qA,qC,wN];refine X1 (FJ p hp) rfl ?_;simp only[↓X4,wA,seval,zA,qA,qC,wN];refine X1 (FJ q hq) rfl ?_;simp only[↓X4,wA,seval,zA,qA,qC,wN];refine X1 cm rfl ?_;simp only[hR,↓X4,wA,seval,zA,qA,qC,wN];exact J2 rfl XR rfl rfl rfl sR (hR.trans rfl)
theorem Qe (r:Rat):Fn Tryz.prog 110 [qA r] (I r.num.sign):=by
 refine Fq Tryz.call110 Tryz.func110 3 [] [] [] (by simp[Kc,Xa,Xh]) (Xk ?_);simp(maxSteps:=999999)only[AS.start,↓X4,wA,seval,zA,qA,qC,wN];refine X1 (oS r.num) rfl ?_;simp only[↓X4,wA,seval,zA,qA,qC,wN];exact Xo rfl rfl (Xb _) rfl
theorem KA (r:Rat):Fn Tryz.prog 133 [qA r] (qA (-r)):=by
 obtain⟨R,hR⟩:∃R,R=qA (-r):=⟨_,rfl⟩
 have sR:Settled R:=hR▸Xa _;have e:R=.agg [.bool (decide (-r.num<0)),X8 (X9 (-r.num).natAbs),.bool false,X8 (X9 (qd r))]:=by rw[hR];rfl
 rw[←hR];refine Fq Tryz.call133 Tryz.func133 3 [] [] [] (by simp[Kc,Xa,Xh]) (Xk ?_);simp(maxSteps:=999999)only[AS.start,↓X4,wA,seval,zA,qA,qC,wN];refine X1 (P4 r.num) rfl ?_;simp only[↓X4,wA,seval,zA,qA,qC,wN];exact J2 rfl XR rfl rfl rfl sR (e.trans rfl)
def rm:Nat:=100000000
theorem IF {a:Rat}(h:a.den=1):a=((a.num:Int):Rat):=Rat.ext (by rw[Rat.num_intCast]) (by rw[h,Rat.den_intCast])
theorem m7 {a b:Rat}(ha:a.den=1)(hb:b.den=1):(a+b).num=a.num+b.num∧(a+b).den=1:=by
 rw[IF ha,IF hb,←Rat.intCast_add];exact⟨Rat.num_intCast _,Rat.den_intCast _⟩
theorem nZ {a b:Rat}(ha:a.den=1)(hb:b.den=1):(a*b).num=a.num*b.num∧(a*b).den=1:=by
 rw[IF ha,IF hb,←Rat.intCast_mul];exact⟨Rat.num_intCast _,Rat.den_intCast _⟩
theorem IE (r:Rat):(((X9 (qd r)).length:Int)=0)=(r.den=1):=propext (by rw[←Ds];omega)
theorem Ef (r:Rat):(((X9 r.num.natAbs).length:Int)=0)=(r=0):=propext (by rw[←oa];omega)
theorem Bt (a b:Rat)(ha:qb a≤rm)(hb:qb b≤rm):Fn Tryz.prog 40 [qA a,qA b] (qA (a+b)):=by
 unfold rm at ha hb;have a1:=Jz a;have a2:=JG a;have b1:=Jz b;have b2:=JG b;obtain⟨R,hR⟩:∃R,R=qA (a+b):=⟨_,rfl⟩
 have sR:Settled R:=hR▸Xa _;have la:=IE a;have lb:=IE b;have na:=Ef a;have nb:=Ef b;rw[←hR];by_cases hi:a.den=1∧b.den=1
 ·have f1:(a.den=1)=True:=eq_true hi.1
  have f2:(b.den=1)=True:=eq_true hi.2;obtain⟨e1,e2⟩:=m7 hi.1 hi.2;have hR':=hR.trans (M9 e2);rw[e1]at hR';refine Fq Tryz.call40 Tryz.func40 7 [] [7,80000002,80000003] [] (by simp[Kc,Xa,Xh]) (Xk ?_);simp(maxSteps:=999999)only[AS.start,↓X4,wA,seval,zA,qA,qC,wN];simp only[la,lb,f1,f2,↓X4,wA,seval,zA,qA,qC,wN];refine X1 (dU a.num b.num (by unfold room;omega) (by unfold room;omega)) rfl ?_;simp only[↓X4,wA,seval,zA,qA,qC,wN];exact Q7 rfl XR rfl rfl rfl hR' sR ⟨Weak.rfl' _,Weak.rfl' _,Weak.rfl' _,Qu _ _,trivial⟩
 have hnn:(a.den:Int)*b.den≠0:=Int.mul_ne_zero (by have:=a.den_nz;omega) (by have:=b.den_nz;omega);have e0:a+b=Rat.divInt (a.num*b.den+b.num*a.den) (a.den*b.den):=by
  rw[Rat.add_def',Zi];push_cast;rfl
 have m1:=JE a.num b.den;have m2:=JE b.num a.den;have m3:=JE a.den b.den;have m4:=TS (a.num*b.den) (b.num*a.den);have cA:=De a;have cB:=De b;have c1:=Ee a.num b.den (by unfold room;omega) (by unfold room;omega);have c2:=Ee b.num a.den (by unfold room;omega) (by unfold room;omega);have c3:=dU (a.num*b.den) (b.num*a.den) (by unfold room;omega) (by unfold room;omega);have c4:=Ee a.den b.den (by unfold room;omega) (by unfold room;omega);have c5:=Ix (a.num*b.den+b.num*a.den) (a.den*b.den) (by omega) (by omega);rw[←e0,←hR]at c5;by_cases f:a.den=1
 ·have f1:(a.den=1)=True:=eq_true f
  have f2:(b.den=1)=False:=eq_false fun e=>hi ⟨f,e⟩
  by_cases ha0:a=0
  ·have g1:(a=0)=True:=eq_true ha0
   have hR':R=qA b:=by rw[hR,ha0,Rat.zero_add]
   refine Fq Tryz.call40 Tryz.func40 7 [] [7,80000002,80000003] [] (by simp[Kc,Xa,Xh]) (Xk ?_);simp(maxSteps:=999999)only[AS.start,↓X4,wA,seval,zA,qA,qC,wN];simp only[la,lb,na,nb,f1,f2,g1,↓X4,wA,seval,zA,qA,qC,wN];exact J2 rfl XR rfl rfl rfl sR (hR'.trans rfl)
  have g1:(a=0)=False:=eq_false ha0;by_cases hb0:b=0
  ·have g2:(b=0)=True:=eq_true hb0
   have hR':R=qA a:=by rw[hR,hb0,Rat.add_zero]
   refine Fq Tryz.call40 Tryz.func40 7 [] [7,80000002,80000003] [] (by simp[Kc,Xa,Xh]) (Xk ?_);simp(maxSteps:=999999)only[AS.start,↓X4,wA,seval,zA,qA,qC,wN];simp only[la,lb,na,nb,f1,f2,g1,g2,↓X4,wA,seval,zA,qA,qC,wN];exact J2 rfl XR rfl rfl rfl sR (hR'.trans rfl)
  have g2:(b=0)=False:=eq_false hb0;refine Fq Tryz.call40 Tryz.func40 7 [] [7,80000002,80000003] [] (by simp[Kc,Xa,Xh]) (Xk ?_);simp(maxSteps:=999999)only[AS.start,↓X4,wA,seval,zA,qA,qC,wN];simp only[la,lb,na,nb,f1,f2,g1,g2,↓X4,wA,seval,zA,qA,qC,wN];refine X1 cA rfl ?_;simp only[↓X4,wA,seval,zA,qA,qC,wN];refine X1 cB rfl ?_;simp only[↓X4,wA,seval,zA,qA,qC,wN];refine X1 c1 rfl ?_;simp only[↓X4,wA,seval,zA,qA,qC,wN];refine X1 c2 rfl ?_;simp only[↓X4,wA,seval,zA,qA,qC,wN];refine X1 c3 rfl ?_;simp only[↓X4,wA,seval,zA,qA,qC,wN];refine X1 c4 rfl ?_;simp only[↓X4,wA,seval,zA,qA,qC,wN];refine X1 c5 rfl ?_;simp only[hR,↓X4,wA,seval,zA,qA,qC,wN];exact J2 rfl XR rfl rfl rfl sR (hR.trans rfl)
 ·have f1:(a.den=1)=False:=eq_false f
  have f2:True=True:=rfl;by_cases ha0:a=0
  ·have g1:(a=0)=True:=eq_true ha0
   have hR':R=qA b:=by rw[hR,ha0,Rat.zero_add]
   refine Fq Tryz.call40 Tryz.func40 7 [] [7,80000002,80000003] [] (by simp[Kc,Xa,Xh]) (Xk ?_);simp(maxSteps:=999999)only[AS.start,↓X4,wA,seval,zA,qA,qC,wN];simp only[la,lb,na,nb,f1,f2,g1,↓X4,wA,seval,zA,qA,qC,wN];exact J2 rfl XR rfl rfl rfl sR (hR'.trans rfl)
  have g1:(a=0)=False:=eq_false ha0;by_cases hb0:b=0
  ·have g2:(b=0)=True:=eq_true hb0
   have hR':R=qA a:=by rw[hR,hb0,Rat.add_zero]
   refine Fq Tryz.call40 Tryz.func40 7 [] [7,80000002,80000003] [] (by simp[Kc,Xa,Xh]) (Xk ?_);simp(maxSteps:=999999)only[AS.start,↓X4,wA,seval,zA,qA,qC,wN];simp only[la,lb,na,nb,f1,f2,g1,g2,↓X4,wA,seval,zA,qA,qC,wN];exact J2 rfl XR rfl rfl rfl sR (hR'.trans rfl)
  have g2:(b=0)=False:=eq_false hb0;refine Fq Tryz.call40 Tryz.func40 7 [] [7,80000002,80000003] [] (by simp[Kc,Xa,Xh]) (Xk ?_);simp(maxSteps:=999999)only[AS.start,↓X4,wA,seval,zA,qA,qC,wN];simp only[la,lb,na,nb,f1,f2,g1,g2,↓X4,wA,seval,zA,qA,qC,wN];refine X1 cA rfl ?_;simp only[↓X4,wA,seval,zA,qA,qC,wN];refine X1 cB rfl ?_;simp only[↓X4,wA,seval,zA,qA,qC,wN];refine X1 c1 rfl ?_;simp only[↓X4,wA,seval,zA,qA,qC,wN];refine X1 c2 rfl ?_;simp only[↓X4,wA,seval,zA,qA,qC,wN];refine X1 c3 rfl ?_;simp only[↓X4,wA,seval,zA,qA,qC,wN];refine X1 c4 rfl ?_;simp only[↓X4,wA,seval,zA,qA,qC,wN];refine X1 c5 rfl ?_;simp only[hR,↓X4,wA,seval,zA,qA,qC,wN];exact J2 rfl XR rfl rfl rfl sR (hR.trans rfl)
end
end Go.Ab.N
