/- Contracts of functions, for every argument that fits. -/
import Derived.Test.YtcmfnmceomhgcaaGreatC2
set_option linter.unusedSimpArgs false
set_option linter.unusedVariables false
open Go.Ab.AS renaming start→P'
open Go.IntKind renaming i64→Q_,wrap_u64→ZAY,u64→ZAh
open Int renaming reduceEq→zU,gcd→ZAd,gcd_pos_of_ne_zero_right→ZDB,mul_ediv_cancel_left→ZDT
open List renaming replicate→ZAJ,length_eq_zero_iff→ZBd
open Nat renaming gcd_comm→ZBm,gcd_zero_right→ZCx,div_le_self→ZDU
open Rat renaming divInt→O_,num_intCast→ZCS,den_intCast→ZCT,divInt_zero→ZET
namespace Go.Ab.N
open Go Go.RowKit Go.Proofs
theorem ZAb:type_of%@Int.natAbs_natCast:=@Int.natAbs_natCast
theorem ZBJ:type_of%@List.any_eq_true:=@List.any_eq_true
theorem ZB6:type_of%@Rat.zero_num:=@Rat.zero_num
theorem ZEH:type_of%@Rat.num_eq_zero:=@Rat.num_eq_zero
noncomputable section
set_option maxRecDepth 10000
set_option pp.maxSteps 60000
set_option maxHeartbeats 2000000
open Classical
def tE (x:Int)(n:Nat):List Int:=Xb x.toNat ++ ZAJ (n-(Xb x.toNat).length) 0
theorem Ly {x:Int}(h:0≤x)(n:Nat):val (tE x n)=x:=by
 unfold tE;rw[RB,FH,XG];omega
theorem Lw (x:Int)(n:Nat):JG (tE x n):=Lo.2 ⟨XZ _,Ox _⟩
theorem Lx {x:Int}{n:Nat}(h:0≤x)(h2:x<pw n):(tE x n).length=n:=by
 have:=Ey (n:=x.toNat) (k:=n) (by omega);simp[tE];omega
def D0 (a b v:List Int)(s:Int)(m:Nat)(p:List Int×List Int×Nat):AS :=
 ⟨22,[117,118,172,173],[X8 a,X8 b,.any,.any,.sl 0 0 (fun _=>.any) true,.sl 0 0 (fun _=>.any) true,I s,.osl 0 0 1 0 (a.length+1),X8 v,I b.length,.osl 1 0 1 0 m,I ((p.2.2:Int)-1),.any,.any,.any,.any,.any,.any,.any,.any,.any,.any],
  [],[.row 0 (a.length+1) (J0 I 0 p.1),.row 0 m (J0 I 0 p.2.1)]⟩
theorem qF (a b:List Int)(ha:JG a)(hb:AM b)(hn:2≤b.length)(hab:b.length≤a.length)(la:a.length<1000000000) :
  ∃q r,Fn Tryz.prog 239 [X8 a,X8 b] (.tup [X8 q,X8 r])∧JG q∧JG r∧q.length≤a.length∧r.length≤b.length∧val q=val a/val b∧val r=val a%val b:=by
 have hne:b≠[]:=fun e=>by rw[e]at hn;simp at hn
 have t0:=hb.2 hne;have t1:=JR hb.1 (b.length-1);unfold Qk at t1;obtain⟨s,hs⟩:∃s,s=1000000000/(b.getD (b.length-1) 0+1):=⟨_,rfl⟩
 obtain⟨s1,s2,s3,s4,s5,s6,s7⟩:=VE hb hn hs;have ds:Qk s:=⟨by omega,by omega⟩
 obtain⟨v,hv⟩:∃v,v=(Jq b s).take b.length:=⟨_,rfl⟩
 rw[←hv]at s3 s4 s5 s6;obtain⟨m,hm⟩:∃m,m=a.length-b.length+1:=⟨_,rfl⟩
 have TFq:=VD (v:=v) ha hb hn hab hm s1 s2 s3 s7;have c1:=W6 a s ha ds (by omega);have c2:=fA b s hb.1 ds (by omega);have w0:Q_.wrap ((b.length:Int)-1)=((b.length-1:Nat):Int):=by rw[M'];omega
 have w1:Q_.wrap (b.getD (b.length-1) 0+1)=b.getD (b.length-1) 0+1:=by rw[M'];omega
 have w2:Q_.wrap (Int.tdiv 1000000000 (b.getD (b.length-1) 0+1))=s:=by
  rw[q_ (by omega),←hs,M'];omega
 have w3:(b.getD (b.length-1) 0+1=0)=False:=Q' (by omega);have w4:(b.length-1<b.length)=True:=K_ (by omega);have w5:Q_.wrap ((a.length:Int)-b.length)=((m:Nat):Int)-1:=by rw[M'];omega
 have w6:Q_.wrap ((m:Int)-1+1)=(m:Int):=by rw[M'];omega
 have hvn:=Aa s4;rw[s5]at hvn;have key:∀Q R:AV,A_ Q→A_ R→(∀u q:List Int,TBI (val a*s) v b.length m u q 0→Q=X8 q∧R=X8 (BD (AX (u.take b.length) s) (u.take b.length).length))→Fn Tryz.prog 239 [X8 a,X8 b] (.tup [Q,R]):=by
  intro Q R sQ sR hQR;refine Fq Tryz.call239 Tryz.func239 22 [117,118,172,173] [] [2] (by simp[Xc]) (Xk ?_);simp(maxSteps:=999999)only[P',w0,w1,w2,w3,w4,T_,↓X6,wA,seval,zA,wN];refine Xz rfl c1 (Mh (by simp) (by simp)) (by simp) ⟨X' _,X' _,trivial⟩ ?_;simp(maxSteps:=999999)only[w0,w1,w2,w3,w4,T_,↓X6,wA,seval,zA,wN];refine X2 c2 rfl ?_;simp(maxSteps:=999999)only[w0,w1,w2,w3,w4,w5,w6,Cw,T_,↓X6,wA,seval,zA,wN];refine⟨by omega,⟨by omega,by omega⟩,?_⟩;refine Xi (D0 a b v s m) (fun p=>TBI (val a*s) v b.length m p.1 p.2.1 p.2.2) (fun p=>p.2.2) (Jq a s,ZAJ m 0,m) TFq ?_ ?_
  ·refine(Zh 1 m (J0 I 0 (ZAJ m 0)) rfl (N' _) ?_).trans ?_
   ·intro j hj
    rw[Bq];simp[K',ZAs,hj,I]
   have hwk:B_ (.sl ((b.length:Int)-0).toNat (min ((b.length:Int)-0).toNat (b.length+1)) (fun j=>.int .i64 ((Jq b s).getD j 0)) false) (X8 v):=HL v (by omega) (by omega) fun j hj=>by
    rw[hv,Ca _ _ _ _ (by omega)];rfl
   refine(Ud 8 (X8 v) ?_ ?_).trans (Xh rfl ?_ ?_ ?_)
   ·simp
   ·exact hwk
   ·simp[D0,Xm,X8,QE,I]
   ·simp[D0,Xu]
   ·rfl
  rintro⟨u,q,k⟩ hI next
  have hI':=hI;simp only at hI';cases k with
  |zero =>
   obtain⟨hQ,hR⟩:=hQR u q hI';obtain⟨z1,z2,z3⟩:=T2 ha hb.1 hI' s1 s3 hvn;have hul:=hI'.hu;have hql:=hI'.hq;have cs:=U2 (u.take b.length) s z3 ds (by omega) (by rw[o_];omega);have e1:((0:Int)≤0-1)=False:=Q' (by omega);have hfr:Sub (JK Tryz.prog Tryz.f239 [] [2] (.tup [Q,R])).base (D0 a b v s m (u,q,0))
     ⟨22,[117,118,172,173],[X8 a,X8 b,.any,.any,.sl 0 0 (fun _=>.any) true,.sl 0 0 (fun _=>.any) true,I s,X8 u,X8 v,I b.length,.osl 1 0 1 0 m,I (((0:Nat):Int)-1),.any,.any,.any,.any,.any,.any,.any,.any,.any,.any],
     [],[.con 0 u.length (J0 I 0 u),.row 0 m (J0 I 0 q)]⟩:=by
    unfold D0;rw[show a.length+1=u.length by omega];exact E8 0 7 rfl rfl (by simp)
   refine e_ ?_ hfr;refine Xk ?_;simp(maxSteps:=999999)only[e1,T_,↓X6,wA,seval,zA,wN];have hwk:B_ (.sl ((b.length:Int)-0).toNat (min ((b.length:Int)-0).toNat u.length) (fun j=>.int .i64 (u.getD j 0)) false) (X8 (u.take b.length)):=HL (u.take b.length) (by rw[o_];omega) (by rw[o_];omega) fun j hj=>by
    rw[o_]at hj;rw[Ca _ _ _ _ (by omega)];rfl
   rw[←hR]at cs;refine⟨by omega,X0 cs ⟨hwk,X' _,trivial⟩ ?_⟩;simp(maxSteps:=999999)only[↓X6,wA,seval,zA,wN];refine rj rfl (Dv ⟨?_,XU sR rfl,trivial⟩);rw[hQ];exact Bp X9 rfl rfl hql.symm rfl (by omega)
  |succ j =>
   have hj:j+1≤m:=hI'.hk;have hul:=hI'.hu;have hql:=hI'.hq;have TCF:=dD hI' s4 hn s5 s6;obtain⟨z,wp0,wp1,wp2,wp3,wp4,_,_⟩:=T3 hI' s4 hn s5 s6;have du0:=JR hI'.du (j+b.length);have du1:=JR hI'.du (j+b.length-1);have du2:=JR hI'.du (j+b.length-2);have dv1:=JR s4 (b.length-1);have dv2:=JR s4 (b.length-2);unfold Qk at du0 du1 du2 dv1 dv2;have e1:((j+1:Nat):Int)-1=(j:Int):=by omega
   have e2:((0:Int)≤(j:Int))=True:=K_ (by omega);have f1:Q_.wrap ((j:Int)+b.length)=((j+b.length:Nat):Int):=by rw[M'];omega
   have f2:Q_.wrap (((j+b.length:Nat):Int)-1)=((j+b.length-1:Nat):Int):=by rw[M'];omega
   have f4:Q_.wrap ((b.length:Int)-2)=((b.length-2:Nat):Int):=by rw[M'];omega
   have f5:Q_.wrap (((j+b.length:Nat):Int)-2)=((j+b.length-2:Nat):Int):=by rw[M'];omega
   have i1:(j+b.length<a.length+1)=True:=K_ (by omega);have i2:(j+b.length+1≤a.length+1)=True:=K_ (by omega);have i3:(j+b.length-1<a.length+1)=True:=K_ (by omega);have i4:(j+b.length-1+1≤a.length+1)=True:=K_ (by omega);have i5:(j+b.length-2<a.length+1)=True:=K_ (by omega);have i6:(j+b.length-2+1≤a.length+1)=True:=K_ (by omega);have i7:(b.length-1<v.length)=True:=K_ (by omega);have i8:(b.length-2<v.length)=True:=K_ (by omega);have q1:Q_.wrap (u.getD (j+b.length) 0*1000000000)=u.getD (j+b.length) 0*1000000000:=by rw[M'];omega
   have q2:Q_.wrap (u.getD (j+b.length) 0*1000000000+u.getD (j+b.length-1) 0)=u.getD (j+b.length) 0*1000000000+u.getD (j+b.length-1) 0:=by rw[M'];omega
   have ht0:0≤u.getD (j+b.length) 0*1000000000+u.getD (j+b.length-1) 0:=by omega
   have hg0:=SS TCF;have q3:Q_.wrap ((u.getD (j+b.length) 0*1000000000+u.getD (j+b.length-1) 0).tdiv (v.getD (b.length-1) 0))=(u.getD (j+b.length) 0*1000000000+u.getD (j+b.length-1) 0)/(v.getD (b.length-1) 0):=by
    have h1:=hg0.g0;have h2:=hg0.g1;rw[q_ ht0,M'];omega
   have q4:(u.getD (j+b.length) 0*1000000000+u.getD (j+b.length-1) 0).tmod (v.getD (b.length-1) 0)=(u.getD (j+b.length) 0*1000000000+u.getD (j+b.length-1) 0)%(v.getD (b.length-1) 0):=ZAA ht0;have q5:(v.getD (b.length-1) 0=0)=False:=Q' (by omega);refine Xk ?_;simp(maxSteps:=999999)only[D0,e1,e2,f1,f2,f4,f5,w0,i1,i2,i3,i4,i5,i6,i7,i8,q1,q2,q3,q4,q5,T_,↓X6,wA,seval,zA,wN];generalize TGf:u.getD (j+b.length) 0*1000000000+u.getD (j+b.length-1) 0=top at *;refine Xi (fun p:Int×Int=>⟨22,[117,118,172,173],[X8 a,X8 b,.any,.any,.sl 0 0 (fun _=>.any) true,.sl 0 0 (fun _=>.any) true,I s,.osl 0 0 1 0 (a.length+1),X8 v,I b.length,.osl 1 0 1 0 m,I j,.any,I p.1,I p.2,.any,.any,.any,.any,.any,.any,.any],
    [],[.row 0 (a.length+1) (J0 I 0 u),.row 0 m (J0 I 0 q)]⟩) (fun p=>TBB (val (u.drop j)) (val v) top (v.getD (b.length-1) 0) p.1 p.2) (fun p=>p.1.toNat) (top/v.getD (b.length-1) 0,top%v.getD (b.length-1) 0) hg0
    (ZS (by simp[Xm,X8,QE,I]) rfl) ?_
   rintro⟨g,r⟩ hg TAS;simp only at hg;have g0:=hg.g0;have g1:=hg.g1;have r0:=hg.r0;have r1:=hg.r1;have m0:0≤g*v.getD (b.length-2) 0:=ZBO g0 dv2.1;have m1:g*v.getD (b.length-2) 0≤1000000001*v.getD (b.length-2) 0:=l_ g1 dv2.1;have k1:Q_.wrap (g*v.getD (b.length-2) 0)=g*v.getD (b.length-2) 0:=by rw[M'];omega
   have k2:Q_.wrap (r*1000000000)=r*1000000000:=by rw[M'];omega
   have k3:Q_.wrap (r*1000000000+u.getD (j+b.length-2) 0)=r*1000000000+u.getD (j+b.length-2) 0:=by rw[M'];omega
   have k4:Q_.wrap (g-1)=g-1:=by rw[M'];omega
   have k5:Q_.wrap (r+v.getD (b.length-1) 0)=r+v.getD (b.length-1) 0:=by rw[M'];omega
   refine Xk ?_;simp(maxSteps:=999999)only[e1,e2,f1,f2,f4,f5,w0,i1,i2,i3,i4,i5,i6,i7,i8,k1,k2,k3,k4,k5,T_,↓X6,wA,seval,zA,wN];generalize hF:(aH (JK Tryz.prog Tryz.f239 [] [2] (.tup [Q,R])) _ Tag.mk)=F;suffices fin:∀G RR:Int,kA (val (u.drop j)) (val v) G→F ⟨22,[117,118,172,173],[.sl a.length a.length (J0 I 0 a) false,.sl b.length b.length (J0 I 0 b) false,.any,.any,.sl 0 0 (fun _=>.any) true,.sl 0 0 (fun _=>.any) true,.int .i64 s,.osl 0 0 1 0 (a.length+1),.sl v.length v.length (J0 I 0 v) false,.int .i64 b.length,.osl 1 0 1 0 m,.int .i64 j,.any,.int .i64 G,.int .i64 RR,.int .i64 0,.any,.any,.any,.any,.any,.any],
     [(118,.int .i64 0),(117,.int .i64 b.length)],[.row 0 (a.length+1) (J0 I 0 u),.row 0 m (J0 I 0 q)]⟩by
    have gd:∀g' r',TBB (val (u.drop j)) (val v) top (v.getD (b.length-1) 0) g' r'→g'=g-1→r'=r+v.getD (b.length-1) 0→val (u.drop j)<g*val v→g'.toNat<g.toNat:=fun g' r' _ e _ hl=>by
     have:=Ia TCF hg wp0 hl;omega
    refine⟨fun b1=>?_,fun b1=>⟨fun b2=>?_,fun b2=>fin _ _ (Vv TCF hg b1 (by omega))⟩⟩
    ·have hl:=MG TCF hg (.inl b1)
     refine⟨fun b3=>fin _ _ (ID TCF hg wp0 hl b3),fun b3=>?_⟩;have hn2:=MH TCF hg wp0 hl b3;exact TAS (g-1,r+v.getD (b.length-1) 0) _ hn2 (gd _ _ hn2 rfl rfl hl) (ZS (by simp[Xm,X8,QE,I]) rfl)
    ·have hl:=MG TCF hg (.inr b2)
     refine⟨fun b3=>fin _ _ (ID TCF hg wp0 hl b3),fun b3=>?_⟩;have hn2:=MH TCF hg wp0 hl b3;exact TAS (g-1,r+v.getD (b.length-1) 0) _ hn2 (gd _ _ hn2 rfl rfl hl) (ZS (by simp[Xm,X8,QE,I]) rfl)
   clear TAS hg k1 k2 k3 k4 k5 m0 m1 g0 g1 r0 r1;subst hF;clear g r;intro g r TBv;obtain⟨g0,g1,g2,g3⟩:=TBv;have TEq:Wj u v g j b.length (u,0,0):=⟨p_ _,rfl,hI'.du,ZB0 _,by simp,fun _ _=>rfl,by simp[val]⟩
   refine Xi (fun p:List Int×Int×Nat=>⟨22,[117,118,172,173],[X8 a,X8 b,.any,.any,.sl 0 0 (fun _=>.any) true,.sl 0 0 (fun _=>.any) true,I s,.osl 0 0 1 0 (a.length+1),X8 v,I b.length,.osl 1 0 1 0 m,I j,.any,I g,.any,I p.2.1,.any,.any,.any,.any,.any,.any],
    [(118,I p.2.2),(117,I b.length)],[.row 0 (a.length+1) (J0 I 0 p.1),.row 0 m (J0 I 0 q)]⟩) (Wj u v g j b.length) (fun p=>b.length-p.2.2) (u,0,0) TEq
    (Xh rfl (by simp[Xm,X8,QE,I]) (by simp[Xu,XJ,X8,QE,I]) rfl) ?_
   rintro⟨u',c,i⟩ hs TDg;obtain⟨j1,j2,j3,j4,j5,j6,j7⟩:=id hs;simp only at j1 j2 j3 j4 j5 j6 j7;by_cases hi:i<b.length
   ·obtain⟨y0,y1,y2⟩:=fL (u:=u) (v:=v) (g:=g) (j:=j) (n:=b.length) s4 g0 g1 (by omega) (by omega) hi hs rfl
    have x1:=JR j3 (i+j);have x2:=Qn s4 i;unfold Qk at x1 x2;have m0:0≤g*dg v i:=ZBO g0 x2.1;have m1:g*dg v i≤1000000000*dg v i:=l_ g1 x2.1;have wi:=wj i (by omega);have eV:v.getD i 0=dg v i:=rfl;have n1:((i:Int)<b.length)=True:=K_ (by omega);have n2:Q_.wrap ((i:Int)+j)=((i+j:Nat):Int):=by rw[M'];omega
    have n3:(i+j<a.length+1)=True:=K_ (by omega);have n4:(i+j+1≤a.length+1)=True:=K_ (by omega);have n5:(i<v.length)=True:=K_ (by omega);have n6:(i<b.length)=True:=K_ hi;have k1:Q_.wrap (g*dg v i)=g*dg v i:=by rw[M'];omega
    have k2:Q_.wrap (u'.getD (i+j) 0-g*dg v i)=u'.getD (i+j) 0-g*dg v i:=by rw[M'];omega
    have k3:Q_.wrap (u'.getD (i+j) 0-g*dg v i-c)=u'.getD (i+j) 0-g*dg v i-c:=by rw[M'];omega
    have hU:∀x:Int,Ek (J0 I 0 u') (i+j) (.int .i64 x)=J0 I 0 (u'.set (i+j) x):=fun x=>ZY _ _ _ (by omega)
    generalize hw:u'.getD (i+j) 0-g*dg v i-c=w at *;have k4:Q_.wrap (0-w) = -w:=by rw[M'];omega
    have k4':Q_.wrap (-w) = -w:=by rw[M'];omega
    have k5:Q_.wrap (-w+1000000000) = -w+1000000000:=by rw[M'];omega
    have k6:Q_.wrap (-w+1000000000-1) = -w+1000000000-1:=by rw[M'];omega
    have k8:Q_.wrap (-(w/1000000000)*1000000000) = -(w/1000000000)*1000000000:=by rw[M'];omega
    have k9:Q_.wrap (w + -(w/1000000000)*1000000000)=w%1000000000:=by rw[M'];omega
    by_cases hw0:w<0
    ·have k7:Q_.wrap ((-w+1000000000-1).tdiv 1000000000) = -(w/1000000000):=by rw[q_ (by omega),M'];omega
     have hwT:(w<0)=True:=K_ hw0;refine Xk ?_;simp(maxSteps:=999999)only[wi,eV,n1,n2,n3,n4,n5,n6,k1,k2,hw,k3,k4,k4',k5,k6,k7,k8,k9,hwT,hU,T_,zU,↓X6,wA,seval,zA,wN];exact TDg _ _ y2 (by simp only;omega) (Xh rfl (by simp[Xm,X8,QE,I]) (by simp[Xu,XJ,X8,QE,I]) rfl)
    ·have hwF:(w<0)=False:=Q' hw0
     refine Xk ?_;simp(maxSteps:=999999)only[wi,eV,n1,n2,n3,n4,n5,n6,k1,k2,hw,k3,hwF,hU,T_,zU,↓X6,wA,seval,zA,wN];have z1:w%1000000000=w:=by omega
     have z2:-(w/1000000000)=0:=by omega
     rw[z1,z2]at y2;exact TDg _ _ y2 (by simp only;omega) (Xh rfl (by simp[Xm,X8,QE,I]) (by simp[Xu,XJ,X8,QE,I]) rfl)
   ·obtain rfl:i=b.length:=by omega
    have eT:u'.getD (j+b.length) 0=u.getD (j+b.length) 0:=j6 _ (.inr (N' _));have hU:∀x:Int,Ek (J0 I 0 u') (j+b.length) (.int .i64 x)=J0 I 0 (u'.set (j+b.length) x):=fun x=>ZY _ _ _ (by omega)
    have eS:∀x:Int,(u'.set (j+b.length) x).getD (j+b.length) 0=x:=fun x=>by rw[QK _ _ _ _ (by omega),N_ rfl]
    have hQ1:∀x:Int,Ek (J0 I 0 q) j (.int .i64 x)=J0 I 0 (q.set j x):=fun x=>ZY _ _ _ (by omega)
    have n7:(j<m)=True:=K_ (by omega);have n8:(j+1≤m)=True:=K_ (by omega);have n9:((j:Int)<m)=True:=K_ (by omega);have wj1:Q_.wrap ((j:Int)-1)=(j:Int)-1:=by rw[M'];omega
    have k1:Q_.wrap (u.getD (j+b.length) 0-c)=u.getD (j+b.length) 0-c:=by rw[M'];omega
    by_cases hx:u.getD (j+b.length) 0-c<0
    ·have hxT:(u.getD (j+b.length) 0-c<0)=True:=K_ hx
     have k2:Q_.wrap (g-1)=g-1:=by rw[M'];omega
     refine Xk ?_;simp(maxSteps:=999999)only[f1,i1,i2,eT,eS,hU,hQ1,n7,n8,n9,wj1,k1,k2,hxT,T_,zU,ZAE,zZ,↓X6,wA,seval,zA,wN];generalize hxx:u.getD (j+b.length) 0-c=x at *;have TEr:ic (u'.set (j+b.length) x) v j b.length (u'.set (j+b.length) x,0,0):=by
      refine⟨p_ _,rfl,fun k hk=>?_,ZB0 _,by simp,fun _ _=>rfl,by simp[val]⟩;simp only;rw[QK _ _ _ _ (by omega),M_ hk];exact JR j3 k
     refine Xi (fun p:List Int×Int×Nat=>⟨22,[117,118,172,173],[X8 a,X8 b,.any,.any,.sl 0 0 (fun _=>.any) true,.sl 0 0 (fun _=>.any) true,I s,.osl 0 0 1 0 (a.length+1),X8 v,I b.length,.osl 1 0 1 0 m,I j,.any,I (g-1),.any,I p.2.1,.any,.any,.any,.any,.any,.any],
      [(173,I p.2.2),(172,I b.length)],[.row 0 (a.length+1) (J0 I 0 p.1),.row 0 m (J0 I 0 q)]⟩) (ic (u'.set (j+b.length) x) v j b.length) (fun p=>b.length-p.2.2) (u'.set (j+b.length) x,0,0) TEr
      (Xh rfl (by simp[Xm,X8,QE,I]) (by simp[Xu,XJ,X8,QE,I]) rfl) ?_
     rintro⟨u2,c2,i⟩ hA TEs;obtain⟨a1,a2,a3,a4,a5,a6,a7⟩:=id hA;simp only[V_]at a1 a2 a3 a4 a5 a6 a7;by_cases hi:i<b.length
     ·obtain⟨y0,y1,y2⟩:=aQ (u:=u'.set (j+b.length) x) (v:=v) (j:=j) (n:=b.length) s4 (by omega) (by rw[V_];omega) hi hA rfl
      have x1:=a3 (i+j) (by omega);have x2:=Qn s4 i;unfold Qk at x1 x2;have wi:=wj i (by omega);have eV:v.getD i 0=dg v i:=rfl;have n2:Q_.wrap ((i:Int)+j)=((i+j:Nat):Int):=by rw[M'];omega
      have m1:((i:Int)<b.length)=True:=K_ (by omega);have m3:(i+j<a.length+1)=True:=K_ (by omega);have m4:(i+j+1≤a.length+1)=True:=K_ (by omega);have m5:(i<v.length)=True:=K_ (by omega);have m6:(i<b.length)=True:=K_ hi;have k3:Q_.wrap (u2.getD (i+j) 0+dg v i)=u2.getD (i+j) 0+dg v i:=by rw[M'];omega
      have k4:Q_.wrap (u2.getD (i+j) 0+dg v i+c2)=u2.getD (i+j) 0+dg v i+c2:=by rw[M'];omega
      have hU2:∀x:Int,Ek (J0 I 0 u2) (i+j) (.int .i64 x)=J0 I 0 (u2.set (i+j) x):=fun x=>ZY _ _ _ (by omega)
      generalize hw:u2.getD (i+j) 0+dg v i+c2=w at *;have k5:Q_.wrap (w.tdiv 1000000000)=w/1000000000:=by rw[q_ y0,M'];omega
      have k6:w.tmod 1000000000=w%1000000000:=ZAA y0;refine Xk ?_;simp(maxSteps:=999999)only[wi,eV,n2,m1,m3,m4,m5,m6,k3,hw,k4,k5,k6,hU2,T_,zU,↓X6,wA,seval,zA,wN];exact TEs _ _ y2 (by simp only;omega) (Xh rfl (by simp[Xm,X8,QE,I]) (by simp[Xu,XJ,X8,QE,I]) rfl)
     ·obtain rfl:i=b.length:=by omega
      rw[←hxx]at hA;obtain⟨ex,TDP,_⟩:=dz hI' s4 s5 wp3 wp4 z wp0 g1 g3 hs (by omega) hA;rw[hxx]at ex TDP;have hU2:∀x:Int,Ek (J0 I 0 u2) (j+b.length) (.int .i64 x)=J0 I 0 (u2.set (j+b.length) x):=fun x=>ZY _ _ _ (by omega)
      have k3:Q_.wrap (x+c2)=x+c2:=by rw[M'];omega
      refine Xk ?_;simp(maxSteps:=999999)only[f1,i1,i2,ex,k3,hU2,hQ1,n7,n8,n9,wj1,T_,zU,ZAE,zZ,↓X6,wA,seval,zA,wN];exact next (u2.set (j+b.length) (x+c2),q.set j (g-1),j) _ TDP (by simp only;omega) (Xh rfl (by simp[D0,Xm,X8,QE,I]) (by simp[D0,Xu]) rfl)
    ·have hxF:(u.getD (j+b.length) 0-c<0)=False:=Q' hx
     obtain⟨TDP,_⟩:=dC hI' s4 s5 wp3 wp4 z wp1 g0 g2 hs hx;refine Xk ?_;simp(maxSteps:=999999)only[f1,i1,i2,eT,eS,hU,hQ1,n7,n8,n9,wj1,k1,hxF,T_,zU,ZAE,zZ,↓X6,wA,seval,zA,wN];exact next (u'.set (j+b.length) (u.getD (j+b.length) 0-c),q.set j g,j) _ TDP (by simp only;omega) (Xh rfl (by simp[D0,Xm,X8,QE,I]) (by simp[D0,Xu]) rfl)
 have b0:0<val b:=by
  have:=Df hb hne;have:=JI (b.length-1);omega
 have a0:=Qe ha;have x0:0≤val a/val b:=ZEF a0 (by omega);have x1:val a/val b<pw m:=by
  refine Int.ediv_lt_of_lt_mul b0 ?_;have h1:=Aa ha;have h2:=Df hb hne;have h3:pw m*pw (b.length-1)≤pw m*val b:=W_ h2 (by have:=JI m;omega);rw[←DS,show m+(b.length-1)=a.length by omega]at h3;omega
 have y0:0≤val a%val b:=ZBr _ (by omega);have y1:val a%val b<pw b.length:=by
  have h1:=ZBN (val a) b0;have h2:=Aa hb.1;omega
 refine⟨tE (val a/val b) m,tE (val a%val b) b.length,key _ _ (Xc _) (Xc _) fun u q hI=>?_,Lw _ _,Lw _ _,by rw[Lx x0 x1];omega,by rw[Lx y0 y1];omega,Ly x0 _,Ly y0 _⟩;obtain⟨z1,z2,z3⟩:=T2 ha hb.1 hI s1 s3 hvn;have hul:=hI.hu;constructor
 ·rw[LM (Lw _ _) hI.dq (by rw[Lx x0 x1,hI.hq]) (by rw[Ly x0,z1])]
 ·have hd:JG (BD (AX (u.take b.length) s) (u.take b.length).length):=DK fun i _=>EL z3 (by omega) i
  have hlen:(tE (val a%val b) b.length).length=(BD (AX (u.take b.length) s) (u.take b.length).length).length:=by
   rw[Lx y0 y1,Qp,o_];omega
  rw[LM (Lw _ _) hd hlen (by rw[Ly y0,z2])]
end
end Go.Ab.N
namespace Go.Ab.N
open Go Go.Ab
open Classical
noncomputable section
def qd (r:Rat):Nat:=if r.den=1 then 0 else r.den
def qC (r:Rat):List AV:=[.bool (decide (r.num<0)),X8 (Xb r.num.natAbs),.bool false,X8 (Xb (qd r))]
def qA (r:Rat):AV:=.agg (qC r)
theorem Xa (r:Rat):A_ (qA r):=QD (by simp[qC,Xc,X5])
def qb (r:Rat):Nat:=max (bl r.num) (bl r.den)
theorem K0 (r:Rat):bl r.num≤qb r:=Nat.le_max_left _ _
theorem K8 (r:Rat):bl r.den≤qb r:=Nat.le_max_right _ _
theorem Cs (r:Rat):qb (-r)=qb r:=by unfold qb;rw[Rat.neg_num,Rat.neg_den,iL]
theorem DL (p q:Int)(h:q≠0):∃m:Int,m≠0∧p=(O_ p q).num*m∧q=(O_ p q).den*m :=
 Rat.divInt_num_den h (n':=(O_ p q).num) (d':=(O_ p q).den) (z':=(O_ p q).den_nz) (c:=(O_ p q).reduced) rfl
theorem D2 {x y m:Int}(hm:m≠0)(h:x=y*m):y.natAbs≤x.natAbs:=by
 rw[h,ZBg];exact Nat.le_mul_of_pos_right _ (by omega)
theorem Zk (p q:Int)(k:Nat)(hk:1≤k)(hp:bl p≤k)(hq:bl q≤k):qb (O_ p q)≤k:=by
 by_cases h:q=0
 ·subst h
  rw[ZET];have h1:bl (0:Rat).num=0:=by rw[ZB6];unfold bl;simp[Qu]
  have h2:bl ((0:Rat).den:Int)≤1:=by rw[Rat.zero_den];exact GE (by simp[pw])
  unfold qb;omega
 ·obtain⟨m,h1,h2,h3⟩:=DL p q h
  have h4:=Jd (D2 h1 h2);have h5:=Jd (D2 h1 h3);unfold qb;omega
theorem uW (r:Rat):1≤bl r.den:=by
 have:=r.den_nz;unfold bl;rw[ZAb];have:Xb r.den≠[]:=Lp r.den_nz;exact Nat.one_le_iff_ne_zero.2 fun h=>this (ZBd.1 h)
theorem VY (r:Rat):1≤qb r:=k_ (uW r) (K8 r)
theorem ZP (n:Int)(d:Nat):mkRat n d=O_ n d:=(Rat.divInt_ofNat n d).symm
theorem A8 (a b:Rat):qb (a+b)≤qb a+qb b+1:=by
 rw[Rat.add_def',ZP];have h1:=K5 a.num b.den;have h2:=K5 b.num a.den;have h3:=K5 a.den b.den;have h4:=V7 (a.num*b.den) (b.num*a.den);have:=K0 a;have:=K0 b;have:=K8 a;have:=K8 b;have:=VY a;refine Zk _ _ _ (by omega) (by omega) ?_
 push_cast;omega
theorem Qo (a b:Rat):qb (a*b)≤qb a+qb b:=by
 rw[Rat.mul_def',ZP];have h1:=K5 a.num b.num;have h3:=K5 a.den b.den;have:=K0 a;have:=K0 b;have:=K8 a;have:=K8 b;have:=VY a;refine Zk _ _ _ (by omega) (by omega) ?_
 push_cast;omega
theorem BS (a b:Rat):qb (a-b)≤qb a+qb b+1:=by
 have:=A8 a (-b);rw[Cs,←Rat.sub_eq_add_neg]at this;exact this
theorem m7 (n:Int)(k:Nat)(hk:1≤k)(h:bl n≤k):qb (n:Rat)≤k:=by
 unfold qb;rw[ZCS,ZCT];have:bl ((1:Nat):Int)≤1:=GE (by simp[pw]);omega
theorem Mo (p q:Int)(hq:q≠0)(h:ZAd p q=1):(O_ p q).num=q.sign*p∧(O_ p q).den=q.natAbs:=by
 have hg:ZAd q p=1:=by rw[Int.gcd_comm];exact h
 rw[Rat.num_divInt,Rat.den_divInt,hg,M_ hq];simp
theorem Ef (p q:Int)(hq:q≠0)(g:Int)(hg:g=ZAd p q):O_ (p/g) (q/g)=O_ p q∧ZAd (p/g) (q/g)=1∧q/g≠0:=by
 have hg0:0<ZAd p q:=ZDB _ hq;obtain⟨x,hx⟩:∃x,p=g*x:=by
  have:=Int.gcd_dvd_left p q;rw[hg];exact this
 obtain⟨y,hy⟩:∃y,q=g*y:=by
  have:=Int.gcd_dvd_right p q;rw[hg];exact this
 have TD9:g≠0:=by omega
 have e1:p/g=x:=by rw[hx];exact ZDT _ TD9
 have e2:q/g=y:=by rw[hy];exact ZDT _ TD9
 rw[e1,e2];have e3:ZAd p q=g.natAbs*ZAd x y:=by
  conv=>lhs;rw[hx,hy]
  exact Int.gcd_mul_left ..
 refine⟨?_,?_,fun h=>hq (by rw[hy,h];simp)⟩
 ·conv=>rhs;rw[hx,hy]
  exact(Rat.divInt_mul_left TD9).symm
 ·have e4:g.natAbs=ZAd p q:=by omega
  rw[e4]at e3;exact(Nat.eq_of_mul_eq_mul_left hg0 (by omega)).symm
end
end Go.Ab.N
namespace Go.Ab.N
open Go Go.RowKit Go.Proofs
noncomputable section
set_option maxRecDepth 10000
set_option maxHeartbeats 2000000
open Classical
theorem Xs {P:Program}{s:AS}{t u id ver n:Nat}{L:List AV}(hk:CD P u=some (some n)) (hs:s.get t=.ref id ver 0) (ho:s.h[id]?=some (.row ver n (Xf L))) (hn:L.length=n) :
  ZX P s (.cell t u)=some (.agg L):=by
 subst hn;unfold ZX;simp only;rw[hs,Bu,hk,KA,ho,KB,eJ,I0 L _ _ (by omega)];simp[Qd]
theorem FA {P:Program}{fn:Func}{str hcs:List Nat}{a b x y:AV}{s:AS}{r1 r2:ResultVar}(hr:fn.results=#[r1,r2])(h1:ZX P s r1=some x)(h2:ZX P s r2=some y)(g1:Zs s.h x a)(g2:Zs s.h y b) :
  TAC (JK P fn str hcs (.tup [a,b])) s :=
 ⟨.tup [x,y],by simp[Al,R5,Fk,hr,JC,BH,h1,h2],Dv ⟨g1,g2,trivial⟩⟩
theorem rB {H:List AO}{z:Int}{L M:List AV}(e:zA z=.agg M)(h:TAR L M):Zs H (.agg L) (zA z):=by
 have:=XT z;rw[e]at this ⊢;exact Xw this (JX h)
theorem YV {H:List AO}{z:Int}(hz:z=0)(f:Nat→AV)(t:Bool):Zs H (.agg [.bool false,.sl 0 0 f t]) (zA z):=by
 subst hz;exact rB (M:=[.bool false,X8 []]) (by unfold zA;simp[Qu]) ⟨X' _,QG _ _,trivial⟩
theorem KC (n:Nat):bl (n:Int)=(Xb n).length:=by unfold bl;rw[ZAb]
theorem Ja (n:Nat):zA (n:Int)=.agg [.bool false,X8 (Xb n)]:=by
 unfold zA;rw[ZAb,Y_ (by omega)]
theorem Sx {n k:Nat}(h:(Xb n).length≤k):(n:Int)<pw k:=by
 have h1:=PZ n;have h2:=CO h;omega
theorem Ax {n:Nat}(h:(Xb n).length≤2):(n:Int)<1000000000000000000:=by
 have:=Sx h
 simpa [pw]using this
theorem Oy (A B:Nat)(hA:(Xb A).length<1000000000) (hB:(Xb B).length<1000000000) (hB0:B≠0) :
  Fn Tryz.prog 224 [X8 (Xb A),X8 (Xb B)] (.tup [zA ((A/B:Nat):Int),zA ((A%B:Nat):Int)]):=by
 have dA:=XZ A;have dB:=XZ B;have vA:=XG A;have vB:=XG B;have c1:=Rz _ dA;have c2:=Rz _ dB;rw[vA]at c1;rw[vB]at c2;have c3:=DH _ _ (Q6 A) (Q6 B) (by omega);rw[vA,vB]at c3;obtain⟨Q,hQ⟩:∃Q,Q=zA ((A/B:Nat):Int):=⟨_,rfl⟩
 obtain⟨R,hR⟩:∃R,R=zA ((A%B:Nat):Int):=⟨_,rfl⟩
 have sQ:A_ Q:=hQ▸XT _;have sR:A_ R:=hR▸XT _;have ofC:∀L:List Int,JG L→L.length<1000000001→∀z:Nat,val L=z→Fn Tryz.prog 182 [.bool false,X8 L] (.agg [.bool false,X8 (Xb z)]):=fun L h1 h2 z h3=>by
  have:=VM false L h1 (by omega);rw[h3]at this;rw[←Ja];exact this
 have p1:(Xb A).length≤2→(Xb B).length≤2→ZAh.wrap (Q_.wrap ((A:Int).tdiv B))=((A/B:Nat):Int)∧ZAh.wrap ((A:Int).tmod B)=((A%B:Nat):Int)∧Fn Tryz.prog 181 [.bool false,.int .u64 ((A/B:Nat):Int)] (.agg [.bool false,X8 (Xb (A/B))])∧Fn Tryz.prog 181 [.bool false,.int .u64 ((A%B:Nat):Int)] (.agg [.bool false,X8 (Xb (A%B))]):=fun h1 h2=>by
  have l1:=Ax h1;have l2:=Ax h2;have e1:(A:Int).tdiv B=((A/B:Nat):Int):=rfl;have e2:(A:Int).tmod B=((A%B:Nat):Int):=rfl;have l3:A/B≤A:=ZDU A B;have l4:A%B≤A:=Nat.mod_le A B;rw[e1,e2,←Ja,←Ja];generalize A/B=q at *;generalize A%B=r at *;refine⟨?_,?_,ZG false _ (by omega) (by omega),ZG false _ (by omega) (by omega)⟩
  ·have w1:Q_.wrap (q:Int)=q:=by rw[M'];omega
   rw[w1,ZAY];omega
  ·rw[ZAY];omega
 have eQ2:=hQ.trans (Ja (A/B));have eR2:=hR.trans (Ja (A%B));rw[←hQ,←hR];have ret:∀ {s:AS},ZX Tryz.prog s (.cell 4 26)=some (.agg [.bool false,X8 (Xb (A/B))])→ZX Tryz.prog s (.cell 5 26)=some (.agg [.bool false,X8 (Xb (A%B))])→TAC (JK Tryz.prog Tryz.f224 [] [] (.tup [Q,R])) s:=fun h1 h2 =>
  FA rfl h1 h2 (XU sQ eQ2.symm) (XU sR eR2.symm)
 have TEt:=ofC _ dA (by omega) _ vA;have hB1:(B:Int)=0→False:=fun h=>hB0 (by omega)
 by_cases hAB:(Xb A).length≤2∧(Xb B).length≤2
 ·obtain⟨w1,w2,cq,cr⟩:=p1 hAB.1 hAB.2
  have f1:((Xb A).length≤2)=True:=K_ hAB.1;have f2:((Xb B).length≤2)=True:=K_ hAB.2;have f3:((B:Int)=0)=False:=Q' hB1;simp only[f1,decide_true,ite_true]at c1;simp only[f2,decide_true,ite_true]at c2;refine Fq Tryz.call224 Tryz.func224 14 [] [] [] (by simp[KJ]) (Xk ?_);simp(maxSteps:=999999)only[P',↓X6,wA,seval,zA,wN];refine X2 c1 rfl ?_;simp only[↓X6,wA,seval,zA,wN];refine X2 c2 rfl ?_;simp only[f3,w1,w2,↓X6,wA,seval,zA,wN];refine X2 cq rfl ?_;simp only[f3,w1,w2,↓X6,wA,seval,zA,wN];refine X2 cr rfl ?_;simp only[↓X6,wA,seval,zA,wN];exact ret (Xs Q8 rfl rfl rfl) (Xs Q8 rfl rfl rfl)
 have TDh:A<B→Fn Tryz.prog 189 [X8 (Xb A),X8 (Xb B)] (I (-1)):=fun h=>by
  rw[n_ (show(A:Int)-B<0 by omega)]at c3;exact c3
 have TDi:A<B→A/B=0∧A%B=A:=fun h=>⟨Nat.div_eq_of_lt h,ZAB h⟩
 have w3:((-1:Int)<0)=True:=K_ (by omega);by_cases hA2:(Xb A).length≤2
 ·have hB2:¬ (Xb B).length≤2:=fun h=>hAB ⟨hA2,h⟩
  have hlt:A<B:=by
   have:=Eu (Q6 A) (Q6 B) (by omega);rw[vA,vB]at this;omega
  obtain⟨r1,r2⟩:=TDi hlt;have f1:((Xb A).length≤2)=True:=K_ hA2;have f2:((Xb B).length≤2)=False:=Q' hB2;simp only[f1,decide_true,ite_true]at c1;simp only[f2,decide_false,ite_false]at c2;refine Fq Tryz.call224 Tryz.func224 14 [] [] [] (by simp[KJ]) (Xk ?_);simp(maxSteps:=999999)only[P',↓X6,wA,seval,zA,wN];refine X2 c1 rfl ?_;simp only[↓X6,wA,seval,zA,wN];refine X2 c2 rfl ?_;simp only[↓X6,wA,seval,zA,wN];refine X2 (TDh hlt) rfl ?_;simp only[w3,↓X6,wA,seval,zA,wN];refine X2 TEt rfl ?_;simp only[↓X6,wA,seval,zA,wN];exact FA rfl (Xs Q8 rfl rfl rfl) (Xs Q8 rfl rfl rfl) (by rw[hQ];exact YV (by rw[r1];rfl) _ _) (XU sR (by rw[eR2,r2];rfl))
 have f1:((Xb A).length≤2)=False:=Q' hA2;simp only[f1,decide_false,ite_false]at c1;by_cases hlt:A<B
 ·obtain⟨r1,r2⟩:=TDi hlt
  refine Fq Tryz.call224 Tryz.func224 14 [] [] [] (by simp[KJ]) (Xk ?_);simp(maxSteps:=999999)only[P',↓X6,wA,seval,zA,wN];refine X2 c1 rfl ?_;simp only[↓X6,wA,seval,zA,wN];refine X2 (TDh hlt) rfl ?_;simp only[w3,↓X6,wA,seval,zA,wN];refine X2 TEt rfl ?_;simp only[↓X6,wA,seval,zA,wN];exact FA rfl (Xs Q8 rfl rfl rfl) (Xs Q8 rfl rfl rfl) (by rw[hQ];exact YV (by rw[r1];rfl) _ _) (XU sR (by rw[eR2,r2];rfl))
 obtain⟨sg,hsg⟩:∃sg,sg=((A:Int)-B).sign:=⟨_,rfl⟩
 have TEu:(sg<0)=False:=Q' (by rw[hsg,ZBI];omega);rw[←hsg]at c3;have hBA:(Xb B).length≤(Xb A).length:=by
  have:=Jd (y:=(B:Int)) (z:=(A:Int)) (by omega);rwa[KC,KC]at this
 by_cases TEA:(Xb B).length=1
 ·obtain⟨d,hd⟩:=ZBk.1 TEA
  have hdd:Qk d:=dB d (by rw[hd];simp);have hdB:d=B:=by rw[←vB,hd];simp[val]
  have hd0:d≠0:=by omega
  have cs:=U2 (Xb A) d dA hdd hd0 (by omega);rw[vA,hdB]at cs;have dq:JG (BD (AX (Xb A) B) (Xb A).length):=DK fun i _=>EL dA (by omega) i
  have vq:val (BD (AX (Xb A) B) (Xb A).length)=((A/B:Nat):Int):=by
   have h1:=Rp (a:=Xb A) (b:=(B:Int)) (by omega);rw[vA]at h1;have h2:Kw (Xb A) B 0=(A:Int)%B:=by unfold Kw;rw[ZBf,vA]
   rw[h2]at h1;have h3:=Int.emod_add_mul_ediv (A:Int) B;have h4:(B:Int)*val (BD (AX (Xb A) B) (Xb A).length)=B*((A:Int)/B):=by omega
   rw[Int.eq_of_mul_eq_mul_left (by omega) h4];rfl
  have cq:=ofC _ dq (by rw[Qp];omega) _ vq;generalize BD (AX (Xb A) B) (Xb A).length=L at *;have em:(A:Int)%B=((A%B:Nat):Int):=rfl;have wm:ZAh.wrap ((A%B:Nat):Int)=((A%B:Nat):Int):=by
   have h1:A%B<B:=z_ _ (by omega);unfold Qk at hdd;generalize A%B=r at *;rw[ZAY];omega
  have cr:Fn Tryz.prog 181 [.bool false,.int .u64 ((A%B:Nat):Int)] (.agg [.bool false,X8 (Xb (A%B))]):=by
   have h1:A%B<B:=z_ _ (by omega);unfold Qk at hdd;rw[←Ja];generalize A%B=r at *;exact ZG false _ (by omega) (by omega)
  rw[em]at cs;have f2:(((Xb B).length:Int)=1)=True:=K_ (by omega);have f2':((Xb B).length=1)=True:=K_ TEA;have f3:(0<(Xb B).length)=True:=K_ (by omega);have f4:(Xb B).getD 0 0=(B:Int):=by rw[hd,←hdB];rfl
  refine Fq Tryz.call224 Tryz.func224 14 [] [] [] (by simp[KJ]) (Xk ?_);simp(maxSteps:=999999)only[P',↓X6,wA,seval,zA,wN];refine X2 c1 rfl ?_;simp only[↓X6,wA,seval,zA,wN];refine X2 c3 rfl ?_;simp only[TEu,f2,f2',f3,f4,↓X6,wA,seval,zA,wN];refine⟨by omega,X2 cs rfl ?_⟩;simp only[↓X6,wA,seval,zA,wN];refine X2 cq rfl ?_;simp only[wm,↓X6,wA,seval,zA,wN];refine X2 cr rfl ?_;simp only[↓X6,wA,seval,zA,wN];exact ret (Xs Q8 rfl rfl rfl) (Xs Q8 rfl rfl rfl)
 ·have hB2:2≤(Xb B).length:=by
   have:Xb B≠[]:=Lp hB0;have:(Xb B).length≠0:=fun h=>this (ZBd.1 h)
   omega
  obtain⟨q,r,cl,dq,dr,lq,lr,vq,vr⟩:=qF (Xb A) (Xb B) dA (Q6 B) hB2 hBA hA;rw[vA,vB]at vq vr;have cq:=ofC q dq (by omega) (A/B) (by rw[vq];rfl);have cr:=ofC r dr (by omega) (A%B) (by rw[vr];rfl);have f2':((Xb B).length=1)=False:=Q' TEA;refine Fq Tryz.call224 Tryz.func224 14 [] [] [] (by simp[KJ]) (Xk ?_);simp(maxSteps:=999999)only[P',↓X6,wA,seval,zA,wN];refine X2 c1 rfl ?_;simp only[↓X6,wA,seval,zA,wN];refine X2 c3 rfl ?_;simp only[TEu,f2',↓X6,wA,seval,zA,wN];refine⟨fun h=>absurd h (by omega),fun _=>X2 cl rfl ?_⟩;simp only[↓X6,wA,seval,zA,wN];refine X2 cq rfl ?_;simp only[↓X6,wA,seval,zA,wN];refine X2 cr rfl ?_;simp only[↓X6,wA,seval,zA,wN];exact ret (Xs Q8 rfl rfl rfl) (Xs Q8 rfl rfl rfl)
theorem Mp (x y:Int)(hy:y≠0)(q r:Nat)(h:q=x.natAbs / y.natAbs)(hr:r=x.natAbs % y.natAbs)(q1 r1:Nat)(h1:if x<0∧r≠0 then q1=q+1∧r1=y.natAbs-r else q1=q∧r1=r) :
  x/y=Z9 (decide (x<0) != decide (y<0)) q1∧x%y=r1:=by
 have hya:0<y.natAbs:=by omega
 have e0:=Nat.mod_add_div x.natAbs y.natAbs;have e1:=z_ x.natAbs hya;rw[←h,←hr]at e0;rw[←hr]at e1;have e0':(r:Int)+y.natAbs*q=x.natAbs:=by exact_mod_cast e0
 have key:x/(y.natAbs:Int)=Z9 (decide (x<0)) q1∧x%(y.natAbs:Int)=r1:=by
  refine(Int.ediv_emod_unique (by omega)).2 ⟨?_,by omega,?_⟩
  ·unfold Z9
   by_cases hx:x<0
   ·rw[N_ (Y' hx)]
    by_cases hr0:r≠0
    ·rw[N_ ⟨hx,hr0⟩]at h1
     obtain⟨rfl,rfl⟩:=h1;have:((y.natAbs-r:Nat):Int)=y.natAbs-r:=by omega
     rw[this]
     push_cast
     rw[Int.mul_neg,ZDS];omega
    ·rw[M_ (fun hh=>hr0 hh.2)]at h1
     obtain⟨rfl,rfl⟩:=h1;rw[Int.mul_neg];omega
   ·rw[M_ (by simpa using hx)]
    rw[M_ (fun hh=>hx hh.1)]at h1;obtain⟨rfl,rfl⟩:=h1;omega
  ·split at h1 <;> omega
 by_cases hy0:y<0
 ·have ey:(y.natAbs:Int) = -y:=by omega
  rw[ey,Int.ediv_neg,Int.emod_neg]at key;refine⟨?_,key.2⟩;have:=key.1;have e2:x/y = -Z9 (decide (x<0)) q1:=by omega
  rw[e2];unfold Z9;rw[Y' hy0];by_cases hx:x<0 <;> simp[hx]
 ·have ey:(y.natAbs:Int)=y:=by omega
  rw[ey]at key;refine⟨?_,key.2⟩;rw[key.1,Y_ hy0];cases decide (x<0) <;> rfl
theorem se (neg:Bool)(u:Nat):zA (Z9 neg u)=.agg [.bool (neg && decide (u≠0)),X8 (Xb u)]:=by
 rw[nJ neg (by omega),T_];congr 3;simp
theorem jk (x y:Int)(hx:bl x<1000000000)(hy:bl y<1000000000)(hy0:y≠0):Fn Tryz.prog 185 [zA x,zA y] (.tup [zA (x/y),zA (x%y)]):=by
 have cd:=Oy x.natAbs y.natAbs hx hy (by omega);obtain⟨q,hq⟩:∃q,q=x.natAbs/y.natAbs:=⟨_,rfl⟩
 obtain⟨r,hr⟩:∃r,r=x.natAbs%y.natAbs:=⟨_,rfl⟩
 have hry:r<y.natAbs:=by rw[hr];exact z_ _ (by omega)
 have hqx:q≤x.natAbs:=by rw[hq];exact ZDU _ _
 rw[←hq,←hr,Ja,Ja]at cd;have lq:(Xb q).length<1000000000:=by
  have:=Jd (y:=(q:Int)) (z:=x) (by omega);rw[KC]at this;omega
 have lr:(Xb r).length<1000000000:=by
  have:=Jd (y:=(r:Int)) (z:=y) (by omega);rw[KC]at this;omega
 have ly:(Xb y.natAbs).length<1000000000:=hy;have lry:(Xb r).length≤(Xb y.natAbs).length:=by
  have:=Jd (y:=(r:Int)) (z:=y) (by omega);rw[KC]at this;exact this
 have ofC:∀L:List Int,JG L→L.length<1000000002→∀z:Nat,val L=z→Fn Tryz.prog 182 [.bool false,X8 L] (.agg [.bool false,X8 (Xb z)]):=fun L h1 h2 z h3=>by
  have:=VM false L h1 (by omega);rw[h3]at this;rw[←Ja];exact this
 have y1:((Xb y.natAbs).length=0)=False:=Q' (fun h=>by have:=TAA.1 h;omega);have y2:(((Xb y.natAbs).length:Int)=0)=False:=Q' (fun h=>by have:=TAA.1 (show(Xb y.natAbs).length=0 by omega);omega);obtain⟨q1,r1,h1⟩:∃q1 r1,if x<0∧r≠0 then q1=q+1∧r1=y.natAbs-r else q1=q∧r1=r:=by
  by_cases h:x<0∧r≠0
  ·exact⟨q+1,y.natAbs-r,by rw[N_ h];exact⟨rfl,rfl⟩⟩
  ·exact⟨q,r,by rw[M_ h];exact⟨rfl,rfl⟩⟩
 obtain⟨e1,e2⟩:=Mp x y hy0 q r hq hr q1 r1 h1;obtain⟨Q,hQ⟩:∃Q,Q=zA (x/y):=⟨_,rfl⟩
 obtain⟨R,hR⟩:∃R,R=zA (x%y):=⟨_,rfl⟩
 have sQ:A_ Q:=hQ▸XT _;have sR:A_ R:=hR▸XT _;rw[←hQ,←hR];rw[e1,se]at hQ;rw[e2,Ja]at hR;have fin:∀ {s:AS} {t:Bool},t=((decide (x<0) != decide (y<0)) && decide (q1≠0))→ZX Tryz.prog s (.cell 4 26)=some (.agg [.bool t,X8 (Xb q1)])→ZX Tryz.prog s (.cell 5 26)=some (.agg [.bool false,X8 (Xb r1)]) →
   TAC (JK Tryz.prog Tryz.f185 [8,9000,90000007] [] (.tup [Q,R])) s:=fun ht h1 h2=>FA rfl h1 h2 (XU sQ (by rw[hQ,ht])) (XU sR hR.symm)
 have g1:∀n:Nat,(0<(Xb n).length)=(n≠0):=fun n=>propext (by have:=@TAA n;omega)
 by_cases hc:x<0∧r≠0
 ·obtain⟨hx0,hr0⟩:=hc
  rw[N_ ⟨hx0,hr0⟩]at h1;obtain⟨rfl,rfl⟩:=h1;obtain⟨L,l1,l2,l3,l4⟩:=YG (Xb q) [1] (XZ q) (Zw.2 ⟨by unfold Qk;omega,CJ⟩) (by omega) (by simp);obtain⟨M,m1,m2,m3,m4⟩:=MT (Xb y.natAbs) (Xb r) (XZ _) (XZ _) (by omega) lry (by rw[XG,XG];omega);have c2:=ofC L l1 (by simp at l3;omega) (q+1) (by rw[l2,XG];simp[val]);have c3:=ofC M m1 (by omega) (y.natAbs-r) (by rw[m2,XG,XG];omega);have f1:(x<0)=True:=K_ hx0;have f2:(0<(Xb r).length)=True:=K_ (by rw[g1];exact hr0);have f3:(0<((Xb r).length:Int))=True:=K_ (by have:=of_eq_true f2;omega);have f4:(0<(Xb (q+1)).length)=True:=K_ (by rw[g1];omega);have f5:(0<((Xb (q+1)).length:Int))=True:=K_ (by have:=of_eq_true f4;omega);refine Fq Tryz.call185 Tryz.func185 8 [] [8,9000,90000007] [] (by simp[KJ]) (Xk ?_);simp(maxSteps:=999999)only[P',↓X6,wA,seval,zA,wN];simp only[y1,y2,f1,f2,f3,f4,f5,↓X6,wA,seval,zA,wN];refine X2 cd rfl ?_;simp only[y1,y2,f1,f2,f3,f4,f5,↓X6,wA,seval,zA,wN];refine X0 l4 ⟨X' _,Ce rfl rfl,trivial⟩ ?_;simp only[y1,y2,f1,f2,f3,f4,f5,↓X6,wA,seval,zA,wN];refine X2 c2 rfl ?_;simp only[y1,y2,f1,f2,f3,f4,f5,↓X6,wA,seval,zA,wN];refine X2 m4 rfl ?_;simp only[y1,y2,f1,f2,f3,f4,f5,↓X6,wA,seval,zA,wN];refine X2 c3 rfl ?_;simp only[y1,y2,f1,f2,f3,f4,f5,↓X6,wA,seval,zA,wN];refine Qs (fun h=>fin ?_ (Xs Q8 rfl rfl rfl) (Xs Q8 rfl rfl rfl)) (fun h=>fin ?_ (Xs Q8 rfl rfl rfl) (Xs Q8 rfl rfl rfl))
  ·have:decide (y<0)=false:=by simpa using h
   simp[hx0,this]
  ·have:decide (y<0)=true:=by simpa using h
   simp[hx0,this]
 rw[M_ hc]at h1;obtain⟨rfl,rfl⟩:=h1;have zr:∀h:x<0,(0<(Xb r1).length)=False:=fun h=>Q' (by rw[g1];exact fun h2=>hc ⟨h,h2⟩)
 by_cases hx0:x<0
 ·have f1:(x<0)=True:=K_ hx0
  have f2:=zr hx0;have f3:(0<((Xb r1).length:Int))=False:=Q' (by have:=of_eq_false f2;omega);by_cases hq0:q1≠0
  ·have f4:(0<(Xb q1).length)=True:=K_ (by rw[g1];exact hq0)
   have f5:(0<((Xb q1).length:Int))=True:=K_ (by have:=of_eq_true f4;omega);refine Fq Tryz.call185 Tryz.func185 8 [] [8,9000,90000007] [] (by simp[KJ]) (Xk ?_);simp(maxSteps:=999999)only[P',↓X6,wA,seval,zA,wN];simp only[y1,y2,f1,f2,f3,f4,f5,↓X6,wA,seval,zA,wN];refine X2 cd rfl ?_;simp only[y1,y2,f1,f2,f3,f4,f5,↓X6,wA,seval,zA,wN];refine Qs (fun h=>fin ?_ (Xs Q8 rfl rfl rfl) (Xs Q8 rfl rfl rfl)) (fun h=>fin ?_ (Xs Q8 rfl rfl rfl) (Xs Q8 rfl rfl rfl)) <;> simpa [hx0,hq0]using h
  ·have f4:(0<(Xb q1).length)=False:=Q' (by rw[g1];exact hq0)
   have f5:(0<((Xb q1).length:Int))=False:=Q' (by have:=of_eq_false f4;omega);refine Fq Tryz.call185 Tryz.func185 8 [] [8,9000,90000007] [] (by simp[KJ]) (Xk ?_);simp(maxSteps:=999999)only[P',↓X6,wA,seval,zA,wN];simp only[y1,y2,f1,f2,f3,f4,f5,↓X6,wA,seval,zA,wN];refine X2 cd rfl ?_;simp only[y1,y2,f1,f2,f3,f4,f5,↓X6,wA,seval,zA,wN];refine Qs (fun h=>fin ?_ (Xs Q8 rfl rfl rfl) (Xs Q8 rfl rfl rfl)) (fun h=>fin ?_ (Xs Q8 rfl rfl rfl) (Xs Q8 rfl rfl rfl)) <;> simp[hq0]
 ·have f1:(x<0)=False:=Q' hx0
  have f2:True=True:=rfl;have f3:True=True:=rfl;by_cases hq0:q1≠0
  ·have f4:(0<(Xb q1).length)=True:=K_ (by rw[g1];exact hq0)
   have f5:(0<((Xb q1).length:Int))=True:=K_ (by have:=of_eq_true f4;omega);refine Fq Tryz.call185 Tryz.func185 8 [] [8,9000,90000007] [] (by simp[KJ]) (Xk ?_);simp(maxSteps:=999999)only[P',↓X6,wA,seval,zA,wN];simp only[y1,y2,f1,f2,f3,f4,f5,↓X6,wA,seval,zA,wN];refine X2 cd rfl ?_;simp only[y1,y2,f1,f2,f3,f4,f5,↓X6,wA,seval,zA,wN];refine Qs (fun h=>fin ?_ (Xs Q8 rfl rfl rfl) (Xs Q8 rfl rfl rfl)) (fun h=>fin ?_ (Xs Q8 rfl rfl rfl) (Xs Q8 rfl rfl rfl)) <;> simpa [hx0,hq0]using h
  ·have f4:(0<(Xb q1).length)=False:=Q' (by rw[g1];exact hq0)
   have f5:(0<((Xb q1).length:Int))=False:=Q' (by have:=of_eq_false f4;omega);refine Fq Tryz.call185 Tryz.func185 8 [] [8,9000,90000007] [] (by simp[KJ]) (Xk ?_);simp(maxSteps:=999999)only[P',↓X6,wA,seval,zA,wN];simp only[y1,y2,f1,f2,f3,f4,f5,↓X6,wA,seval,zA,wN];refine X2 cd rfl ?_;simp only[y1,y2,f1,f2,f3,f4,f5,↓X6,wA,seval,zA,wN];refine Qs (fun h=>fin ?_ (Xs Q8 rfl rfl rfl) (Xs Q8 rfl rfl rfl)) (fun h=>fin ?_ (Xs Q8 rfl rfl rfl) (Xs Q8 rfl rfl rfl)) <;> simp[hq0]
def Bd (x y:Int)(p:Nat×Nat):AS :=
  ⟨13,[],[zA x,zA y,.ref 0 0 0,.ref 1 0 0,.ref 2 0 0,.ref 3 0 0,.ref 4 0 0,.any,.any,.any,.any,.any,.any],[],
    [.con 0 2 (Xf [.bool (decide (x<0)),X8 (Xb x.natAbs)]),.con 0 2 (Xf [.bool (decide (y<0)),X8 (Xb y.natAbs)]),.row 0 2 (Xf [.bool false,.sl 0 0 (fun _=>.any) true]),
     .row 0 2 (Xf [.bool false,X8 (Xb p.1)]),.row 0 2 (Xf [.bool false,X8 (Xb p.2)])]⟩
def qx (x y:Int)(p:Nat×Nat):Prop:=Nat.gcd p.1 p.2=ZAd x y∧(Xb p.1).length<1000000000∧(Xb p.2).length<1000000000
theorem kw (x y:Int)(hx:bl x<1000000000)(hy:bl y<1000000000):Fn Tryz.prog 183 [zA x,zA y] (zA (ZAd x y)):=by
  have ofC:∀n:Nat,(Xb n).length<1000000002→Fn Tryz.prog 182 [.bool false,X8 (Xb n)] (.agg [.bool false,X8 (Xb n)]):=fun n h=>by
    have:=VM false (Xb n) (XZ n) (by omega);rw[XG]at this;rw[←Ja];exact this
  unfold bl at hx hy;have cx:=ofC x.natAbs (by omega);have cy:=ofC y.natAbs (by omega);obtain⟨R,hR⟩:∃R,R=zA (ZAd x y):=⟨_,rfl⟩
  have sR:A_ R:=hR▸XT _;rw[←hR];rw[Ja]at hR;refine Fq Tryz.call183 Tryz.func183 13 [] [1,20000002,20000003,10,11000,110000012] [] (by simp[KJ]) (Xk ?_);simp(maxSteps:=999999)only[P',↓X6,wA,seval,zA,wN];refine X2 cx rfl ?_;simp only[↓X6,wA,seval,zA,wN];refine X2 cy rfl ?_;simp only[↓X6,wA,seval,zA,wN];refine Xi (Bd x y) (qx x y) (fun p=>p.2) (x.natAbs,y.natAbs) ⟨rfl,hx,hy⟩ ?_ ?_
  · unfold Bd;exact(ZS (by simp[zA,wN,Xm,X8,Dm,CH,QE,I]) rfl)
  rintro⟨A,B⟩ ⟨g1,g2,g3⟩ next
  simp only at g1 g2 g3;by_cases hB:B=0
  · have f1:(0<(Xb B).length)=False:=Q' (by have:=@TAA B;omega);have f2:(0<((Xb B).length:Int))=False:=Q' (by have:=@TAA B;omega);refine Xk ?_;simp only[Bd,f1,f2,↓X6,wA,seval,zA,wN];refine Ql rfl Q8 rfl rfl rfl hR sR ?_;rw[hB,ZCx]at g1;rw[←g1];exact⟨X' _,X' _,trivial⟩
  have f1:(0<(Xb B).length)=True:=K_ (by have:=@TAA B;omega);have f2:(0<((Xb B).length:Int))=True:=K_ (by have:=@TAA B;omega);have c1:=Rz _ (XZ A);have c2:=Rz _ (XZ B);rw[XG]at c1 c2;by_cases hAB:(Xb A).length≤2∧(Xb B).length≤2
  · have k1:((Xb A).length≤2)=True:=K_ hAB.1;have k2:((Xb B).length≤2)=True:=K_ hAB.2;simp only[k1,decide_true,ite_true]at c1;simp only[k2,decide_true,ite_true]at c2;have l1:=Ax hAB.1;have l2:=Ax hAB.2;refine Xk ?_;simp only[Bd,f1,f2,↓X6,wA,seval,zA,wN];refine X2 c1 rfl ?_;simp only[↓X6,wA,seval,zA,wN];refine X2 c2 rfl ?_;simp only[↓X6,wA,seval,zA,wN];refine Xi (fun p:Nat×Nat=>⟨13,[],[zA x,zA y,.ref 0 0 0,.ref 1 0 0,.ref 2 0 0,.ref 3 0 0,.ref 4 0 0,I p.1,.any,I p.2,.any,.any,.any],[],
      [.con 0 2 (Xf [.bool (decide (x<0)),X8 (Xb x.natAbs)]),.con 0 2 (Xf [.bool (decide (y<0)),X8 (Xb y.natAbs)]),.row 0 2 (Xf [.bool false,.sl 0 0 (fun _=>.any) true]),
       .row 0 2 (Xf [.bool false,X8 (Xb A)]),.row 0 2 (Xf [.bool false,X8 (Xb B)])]⟩) (fun p=>Nat.gcd p.1 p.2=ZAd x y∧(p.1:Int)<1000000000000000000∧(p.2:Int)<1000000000000000000) (fun p=>p.2) (A,B) ⟨g1,l1,l2⟩ (ZS (by simp[zA,wN,Xm,X8,Dm,CH,QE,I]) rfl) ?_
    rintro⟨m,n⟩ ⟨h1,h2,h3⟩ TAS;simp only at h1 h2 h3;by_cases hn:n=0
    · have j1:(0<(n:Int))=False:=Q' (by omega);have j1':(0<n)=False:=Q' (by omega);have hm:m=ZAd x y:=by rw[hn,ZCx]at h1;exact h1
      have w1:ZAh.wrap (m:Int)=m:=by rw[ZAY];omega
      have cu:Fn Tryz.prog 181 [.bool false,.int .u64 (m:Int)] (.agg [.bool false,X8 (Xb m)]):=by
        rw[←Ja];exact ZG false _ (by omega) (by omega)
      refine Xk ?_;simp only[j1,j1',w1,↓X6,wA,seval,zA,wN];refine X2 cu rfl ?_;simp only[↓X6,wA,seval,zA,wN];refine Ql rfl Q8 rfl rfl rfl hR sR ?_;rw[←hm];exact⟨X' _,X' _,trivial⟩
    · have j1:(0<(n:Int))=True:=K_ (by omega);have j1':(0<n)=True:=K_ (by omega);have j2:((n:Int)=0)=False:=Q' (by omega);have e2:(m:Int).tmod n=((m%n:Nat):Int):=rfl;have hlt:m%n<n:=z_ _ (by omega);refine Xk ?_;simp only[j1,j1',j2,e2,↓X6,wA,seval,zA,wN];refine TAS (n,m%n) _ ⟨?_,h3,by simp only;omega⟩ hlt (ZS (by simp[zA,wN,Xm,X8,Dm,CH,QE,I]) rfl);simp only;rw[←h1,ZBm m n,Nat.gcd_rec n m,ZBm]
  · have cd:=Oy A B g2 g3 hB;rw[Ja,Ja]at cd;have hlt:A%B<B:=z_ _ (by omega);have TC8:qx x y (B,A%B):=by
      refine⟨?_,g3,?_⟩
      · simp only;rw[←g1,ZBm A B,Nat.gcd_rec B A,ZBm]
      · have:=Jd (y:=((A%B:Nat):Int)) (z:=(B:Int)) (by omega);rw[KC,KC]at this;simp only;omega
    by_cases hA2:(Xb A).length≤2
    · have k1:((Xb A).length≤2)=True:=K_ hA2;have k2:((Xb B).length≤2)=False:=Q' fun h=>hAB ⟨hA2,h⟩
      refine Xk ?_;simp only[Bd,f1,f2,k1,k2,↓X6,wA,seval,zA,wN];refine X2 c1 rfl ?_;simp only[k1,k2,↓X6,wA,seval,zA,wN];refine X2 c2 rfl ?_;simp only[k1,k2,↓X6,wA,seval,zA,wN];refine X2 cd rfl ?_;simp only[k1,k2,↓X6,wA,seval,zA,wN];exact next (B,A%B) _ TC8 hlt (XD (m:=5) (p_ _) rfl (by simp[zA,wN,Bd,Xm,X8,QE,I]) (by simp[zA,wN,Bd,Xu]) (by simp[zA,wN,Bd,X8,QE,I]) (by simp[zA,wN,Bd,XK]) (by simp[zA,wN,Bd,XK]) (by simp[zA,wN,Bd,XK]))
    · have k1:((Xb A).length≤2)=False:=Q' hA2;refine Xk ?_;simp only[Bd,f1,f2,k1,↓X6,wA,seval,zA,wN];refine X2 c1 rfl ?_;simp only[k1,↓X6,wA,seval,zA,wN];refine X2 c2 rfl ?_;simp only[k1,↓X6,wA,seval,zA,wN];refine X2 cd rfl ?_;simp only[k1,↓X6,wA,seval,zA,wN];exact next (B,A%B) _ TC8 hlt (XD (m:=5) (p_ _) rfl (by simp[zA,wN,Bd,Xm,X8,QE,I]) (by simp[zA,wN,Bd,Xu]) (by simp[zA,wN,Bd,X8,QE,I]) (by simp[zA,wN,Bd,XK]) (by simp[zA,wN,Bd,XK]) (by simp[zA,wN,Bd,XK]))
def MJ (p:Int→Bool)(s:List Int):Int:=if s.any p=true then(s.findIdx p:Nat)else -1
theorem MK {p:Int→Bool}{s:List Int}{j:Nat}(hj:j<s.length)(h:p (s.getD j 0)=true) (hno:∀i,i<j→p (s.getD i 0)=false):MJ p s=j:=by
 have at_:∀i (hi:i<s.length),s.getD i 0=s[i]:=fun i hi=>by rw[K',U_ hi];rfl
 have e:s.findIdx p=j:=by
  rw[List.findIdx_eq hj];exact⟨by rw[←at_ j hj];exact h,fun i hi=>by rw[←at_ i (by omega)];exact hno i hi⟩
 unfold MJ;rw[N_ (ZBJ.2 ⟨_,GV hj,h⟩),e]
theorem Ib {p:Int→Bool}{s:List Int}(hno:∀i,i<s.length→p (s.getD i 0)=false):MJ p s = -1:=by
 unfold MJ;rw[M_];intro h;obtain⟨x,hx,hp⟩:=ZBJ.1 h;obtain⟨i,hi,rfl⟩:=ZAI hx;have:=hno i hi;rw[K',U_ hi]at this;simp only[ZBH]at this;rw[this]at hp;cases hp
theorem SV (p:Int→Bool)(s:List Int):decide (0≤MJ p s)=s.any p:=by
 unfold MJ;cases h:s.any p
 ·simp
 ·rw[N_ rfl];exact Y' (by omega)
theorem di (s:List Int)(f:FuncId)(G_:List AV)(p:Int→Bool)(hl:s.length<4611686018427387904)(hc:∀ a∈G_,A_ a)(hp:∀x∈s,Fn Tryz.prog f ([I x] ++ G_) (.bool (p x))) :
  Fn Tryz.prog 251 [X8 s,.fn f G_] (I (MJ p s)):=by
 refine y_ (fn:=Tryz.f251) Tryz.call251 Tryz.func251 rfl mixed 6 [6,7,8] [] [] (by kernel_rfl) (L' rfl) (by simpa [Xc]using Kd hc) (Xk ?_);simp only[P',↓X6,wA,seval,zA,wN];refine Xi (fun j:Nat=>⟨6,[6,7,8],[X8 s,.fn f G_,.any,.any,.any,.any],[(6,X8 s),(7,I s.length),(8,I j)],[]⟩) (fun j=>j≤s.length∧∀i,i<j→p (s.getD i 0)=false) (fun j=>s.length-j) 0 ⟨by omega,by omega⟩
  (Xh rfl (by simp[Xm,X8,QE,I]) (by simp[Xu,XJ,X8,QE,I]) rfl) ?_
 rintro j ⟨hj,hno⟩ next
 have w1:=wj j (by omega);refine Xk ?_;simp only[w1,↓X6,wA,seval,zA,wN];refine⟨fun h=>⟨h,h,?_⟩,fun h=>Xp (v:=I (-1)) rfl rfl (X9 _) ?_⟩
 ·refine X0 (hp _ (GV h)) (X1 _) ?_
  simp only[w1,↓X6,wA,seval,zA,wN];refine Qs (fun ht=>Xp (v:=I j) rfl rfl (X9 _) ?_) (fun hf=>next (j+1) _ ⟨by omega,fun i hi=>?_⟩ (by omega) (Xh rfl ?_ ?_ rfl))
  ·rw[MK h ht hno]
  ·by_cases e:i=j
   ·rw[e];exact hf
   ·exact hno i (by omega)
  ·simp[Xm,X8,QE,I]
  ·simp[Xu,XJ,X8,QE,I]
 ·rw[Ib fun i hi=>hno i (by omega)]
theorem PV (s:List Int)(f:FuncId)(G_:List AV)(p:Int→Bool)(hl:s.length<4611686018427387904)(hc:∀ a∈G_,A_ a)(hp:∀x∈s,Fn Tryz.prog f ([I x] ++ G_) (.bool (p x))) :
  Fn Tryz.prog 234 [X8 s,.fn f G_] (.bool (s.any p)):=by
 refine y_ (fn:=Tryz.f234) Tryz.call234 Tryz.func234 rfl mixed 5 [] [] [] (by kernel_rfl) (L' rfl) (by simpa [Xc]using Kd hc) (Xk ?_);simp only[P',↓X6,wA,seval,zA,wN];have hi:=SV p s;refine X2 (di s f G_ p hl hc hp) rfl ?_;simp only[↓X6,wA,seval,zA,wN];exact Xp (v:=.bool (decide (0≤MJ p s))) rfl rfl (X5 _) (by rw[SV])
def zR (neg:Bool)(d:List Int):AV:=.agg [.bool neg,X8 d]
theorem Xj (neg:Bool)(d:List Int):A_ (zR neg d):=QD (by simp[Xc,X5])
def GB (x:Int):Bool:=decide (x<0) || decide (1000000000≤x)
def KQ (neg:Bool)(d:List Int):Bool:=!(d.any GB) && (if d.length=0 then !neg else decide (d.getD (d.length-1) 0≠0))
theorem ZI (neg:Bool)(d:List Int):KQ neg d=true↔∃z:Int,neg=decide (z<0)∧d=Xb z.natAbs:=by
 have hd:(!(d.any GB))=true↔JG d:=by
  simp only[ZDQ,List.any_eq_false,GB,Bool.or_eq_true,decide_eq_true_eq,not_or];unfold JG Qk;constructor
  ·intro h x hx
   have:=h x hx;omega
  ·intro h x hx
   have:=h x hx;omega
 unfold KQ;rw[w_,hd];constructor
 ·rintro⟨h1,h2⟩
  by_cases h0:d.length=0
  ·rw[N_ h0]at h2
   obtain rfl:=ZBd.1 h0;exact⟨0,by simpa using h2,by simp[Qu]⟩
  ·rw[M_ h0]at h2
   have hc:AM d:=⟨h1,fun _=>by simpa using h2⟩
   have hne:d≠[]:=fun e=>h0 (by rw[e];rfl)
   have hp:0<val d:=by
    have:=Df hc hne;have:=JI (d.length-1);omega
   refine⟨Z9 neg (val d),?_,?_⟩
   ·unfold Z9;cases neg
    ·simp;omega
    ·simp;omega
   ·rw[show(Z9 neg (val d)).natAbs=(val d).toNat by unfold Z9;split <;> omega]
    exact(Bv hc).symm
 ·rintro⟨z,rfl,rfl⟩
  refine⟨XZ _,?_⟩;by_cases h0:(Xb z.natAbs).length=0
  ·rw[N_ h0]
   have:=TAA.1 h0;simp;omega
  ·rw[M_ h0]
   exact Y' ((Q6 z.natAbs).2 fun e=>h0 (by rw[e];rfl))
theorem fT (x:Int):Fn Tryz.prog 235 [I x] (.bool (GB x)):=by
 refine Fq Tryz.call235 Tryz.func235 3 [] [] [] (by simp[KJ]) (Xk ?_);simp(maxSteps:=999999)only[P',↓X6,wA,seval,zA,wN];unfold GB;refine⟨fun h=>Xp rfl rfl (X5 _) ?_,fun h=>Xp rfl rfl (X5 _) ?_⟩ <;> simp[AS.get,h]
theorem OK (neg:Bool)(d:List Int)(hl:d.length<4611686018427387904):Fn Tryz.prog 210 [zR neg d] (.bool (KQ neg d)):=by
 have c1:Fn Tryz.prog 234 [X8 d,.fn 235 []] (.bool (d.any GB)):=PV d _ [] GB hl (by simp) fun x _=>fT x
 obtain⟨V,hV⟩:∃V,V=KQ neg d:=⟨_,rfl⟩
 rw[←hV];unfold KQ at hV;have fin:∀ {s:AS} {v:Bool},s.get 2=.bool v→v=V→TAC (JK Tryz.prog Tryz.f210 [] [] (.bool V)) s:=fun h e=>Xp rfl h (X5 _) (by rw[e])
 by_cases h0:d.length=0
 ·have f1:(d.length=0)=True:=K_ h0
  have f2:((d.length:Int)=0)=True:=K_ (by omega);have f3:(0<d.length)=False:=Q' (by omega);have f4:(0<(d.length:Int))=False:=Q' (by omega);rw[N_ h0]at hV;refine Fq Tryz.call210 Tryz.func210 3 [] [] [] (by simp[Xj]) (Xk ?_);simp only[P',zR,f1,f2,f3,f4,↓X6,wA,seval,zA,wN];refine X2 c1 rfl ?_;cases neg
  all_goals
   simp only[f1,f2,f3,f4,↓X6,wA,seval,zA,wN];refine Qs (fun h=>fin rfl ?_) (fun h=>fin rfl ?_)
   all_goals rw[hV,h];rfl
 ·have f1:(d.length=0)=False:=Q' h0
  have f2:((d.length:Int)=0)=False:=Q' (by omega);have f3:(0<d.length)=True:=K_ (by omega);have f4:(0<(d.length:Int))=True:=K_ (by omega);have w1:Q_.wrap ((d.length:Int)-1)=((d.length-1:Nat):Int):=by rw[M'];omega
  have f5:(d.length-1<d.length)=True:=K_ (by omega);rw[M_ h0]at hV;refine Fq Tryz.call210 Tryz.func210 3 [] [] [] (by simp[Xj]) (Xk ?_);simp only[P',zR,f1,f2,f3,f4,w1,f5,T_,↓X6,wA,seval,zA,wN];refine X2 c1 rfl ?_;simp only[f1,f2,f3,f4,w1,f5,T_,↓X6,wA,seval,zA,wN];refine Qs (fun h=>fin rfl ?_) (fun h=>fin rfl ?_)
  all_goals rw[hV,h];simp
theorem au (neg:Bool)(d:List Int):Fn Tryz.prog 184 [zR neg d] (.bool (!neg && decide (d=[1]))):=by
 have TA8:(d=[1])↔d.length=1∧d.getD 0 0=1:=by
  constructor
  ·rintro rfl;exact⟨rfl,rfl⟩
  ·rintro⟨h1,h2⟩
   obtain⟨x,rfl⟩:=ZBk.1 h1;rw[show x=1 from h2]
 obtain⟨V,hV⟩:∃V,V=(!neg && decide (d=[1])):=⟨_,rfl⟩
 rw[←hV];have fin:∀ {s:AS} {v:Bool},s.get 2=.bool v→v=V→TAC (JK Tryz.prog Tryz.f184 [] [] (.bool V)) s:=fun h e=>Xp rfl h (X5 _) (by rw[e])
 by_cases h0:d.length=1
 ·have f1:(d.length=1)=True:=K_ h0
  have f2:((d.length:Int)=1)=True:=K_ (by omega);have f3:(0<d.length)=True:=K_ (by omega);have f4:(0<(d.length:Int))=True:=K_ (by omega);refine Fq Tryz.call184 Tryz.func184 3 [] [] [] (by simp[Xj]) (Xk ?_);cases neg
  all_goals
   simp only[P',zR,f1,f2,f3,f4,↓X6,wA,seval,zA,wN];exact fin rfl (by rw[hV];simp[TA8,h0])
 ·have f1:(d.length=1)=False:=Q' h0
  have f2:((d.length:Int)=1)=False:=Q' (by omega);have hne:¬d=[1]:=fun h=>h0 (TA8.1 h).1
  refine Fq Tryz.call184 Tryz.func184 3 [] [] [] (by simp[Xj]) (Xk ?_);cases neg
  all_goals
   simp only[P',zR,f1,f2,↓X6,wA,seval,zA,wN];exact fin rfl (by rw[hV];simp[hne])
theorem RA (z:Int):(!(decide (z<0)) && decide (Xb z.natAbs=[1]))=decide (z=1):=by
 have h1:Xb z.natAbs=[1]↔z.natAbs=1:=by
  constructor
  ·intro h
   have:=XG z.natAbs;rw[h]at this;simp[val]at this;omega
  ·intro h;rw[h,GN (by omega) (by omega)];rfl
 by_cases h:z<0
 ·simp[h];omega
 ·simp only[h,decide_false,Bool.not_false,ZBF,decide_eq_decide,h1];omega
theorem HH (z:Int):Fn Tryz.prog 184 [zA z] (.bool (decide (z=1))):=by
 have:=au (decide (z<0)) (Xb z.natAbs);rw[RA]at this;exact this
theorem VN:Fn Tryz.prog 186 [] (zA 1):=by
 refine Fq Tryz.call186 Tryz.func186 1 [] [] [] (by simp[KJ]) (Xk ?_);simp(maxSteps:=999999)only[P',↓X6,wA,seval,zA,wN];refine X2 (Gp 1 ⟨by omega,by omega⟩) rfl ?_;simp only[↓X6,wA,seval,zA,wN];exact Ql rfl Q8 rfl rfl rfl rfl (XT _) ⟨X' _,X' _,trivial⟩
theorem IE (x y:Int)(hx:bl x<1000000000)(hy:bl y<1000000000):Fn Tryz.prog 111 [zA x,zA y] (I (x-y).sign):=by
 unfold bl at hx hy;have c1:=DH (Xb x.natAbs) (Xb y.natAbs) (Q6 _) (Q6 _) (by omega);have c2:=DH (Xb y.natAbs) (Xb x.natAbs) (Q6 _) (Q6 _) (by omega);rw[XG,XG]at c1 c2;obtain⟨V,hV⟩:∃V,V=(x-y).sign:=⟨_,rfl⟩
 rw[←hV];have fin:∀ {s:AS} {v:Int},s.get 4=I v→v=V→TAC (JK Tryz.prog Tryz.f111 [] [] (I V)) s:=fun h e=>Xp rfl h (X9 _) (by rw[e])
 by_cases h1:x<0 <;> by_cases h2:y<0
 ·have f1:(x<0)=True:=K_ h1
  have f2:(y<0)=True:=K_ h2;refine Fq Tryz.call111 Tryz.func111 5 [] [] [] (by simp[KJ]) (Xk ?_);simp(maxSteps:=999999)only[P',↓X6,wA,seval,zA,wN];simp only[f1,f2,↓X6,wA,seval,zA,wN];refine X2 c2 rfl ?_;simp only[↓X6,wA,seval,zA,wN];exact fin rfl (by rw[hV];congr 1;omega)
 ·have f1:(x<0)=True:=K_ h1
  have f2:(y<0)=False:=Q' h2;refine Fq Tryz.call111 Tryz.func111 5 [] [] [] (by simp[KJ]) (Xk ?_);simp(maxSteps:=999999)only[P',↓X6,wA,seval,zA,wN];simp only[f1,f2,↓X6,wA,seval,zA,wN];exact fin rfl (by rw[hV,n_ (by omega)])
 ·have f1:(x<0)=False:=Q' h1
  have f2:(y<0)=True:=K_ h2;refine Fq Tryz.call111 Tryz.func111 5 [] [] [] (by simp[KJ]) (Xk ?_);simp(maxSteps:=999999)only[P',↓X6,wA,seval,zA,wN];simp only[f1,f2,↓X6,wA,seval,zA,wN];exact fin rfl (by rw[hV,u_ (by omega)])
 ·have f1:(x<0)=False:=Q' h1
  have f2:(y<0)=False:=Q' h2;refine Fq Tryz.call111 Tryz.func111 5 [] [] [] (by simp[KJ]) (Xk ?_);simp(maxSteps:=999999)only[P',↓X6,wA,seval,zA,wN];simp only[f1,f2,↓X6,wA,seval,zA,wN];refine X2 c1 rfl ?_;simp only[↓X6,wA,seval,zA,wN];exact fin rfl (by rw[hV];congr 1;omega)
theorem Jh {P:Program}{fn:Func}{str hcs:List Nat}{r:AV}{s:AS}{t u id ver n:Nat}{L:List AV}(hr:fn.results=#[.cell t u])(hk:CD P u=some (some n)) (hs:s.get t=.ref id ver 0)
  (ho:s.h[id]?=some (.row ver n (Xf L))) (hn:L.length=n) (TAG:A_ r) (e:r=.agg L):TAC (JK P fn str hcs r) s:=Ql hr hk hs ho hn e TAG (X1 L)
theorem DT (r:Rat):(Xb (qd r)).length=0↔r.den=1:=by
 rw[TAA];unfold qd;have:=r.den_nz
 split <;> omega
theorem N6 {r:Rat}(h:r.den=1):Xb (qd r)=[]:=by unfold qd;rw[N_ h,Qu]
theorem m8 {r:Rat}(h:¬r.den=1):Xb (qd r)=Xb r.den:=by unfold qd;rw[M_ h]
theorem N5 {r:Rat}(h:r.den=1):qA r=.agg [.bool (decide (r.num<0)),X8 (Xb r.num.natAbs),.bool false,X8 []]:=by unfold qA qC;rw[N6 h]
theorem YN {r:Rat}(h:¬r.den=1):qA r=.agg [.bool (decide (r.num<0)),X8 (Xb r.num.natAbs),.bool false,X8 (Xb r.den)]:=by unfold qA qC;rw[m8 h]
theorem qP (r:Rat):(Xb r.num.natAbs).length=0↔r=0:=by
 rw[TAA,←ZEH];omega
theorem nI (r:Rat):zA r.den=.agg [.bool false,X8 (Xb r.den)]:=Ja _
theorem DJ (r:Rat):Fn Tryz.prog 104 [qA r] (zA r.den):=by
 obtain⟨R,hR⟩:∃R,R=zA r.den:=⟨_,rfl⟩
 have sR:A_ R:=hR▸XT _;rw[←hR];rw[nI]at hR;by_cases h:r.den=1
 ·have f1:((Xb (qd r)).length=0)=True:=K_ ((DT r).2 h)
  have f2:(((Xb (qd r)).length:Int)=0)=True:=K_ (by have:=(DT r).2 h;omega);refine Fq Tryz.call104 Tryz.func104 3 [] [] [] (by simp[KJ,Xa,Xj]) (Xk ?_);simp(maxSteps:=999999)only[P',↓X6,wA,seval,zA,qA,qC,wN];simp only[f1,f2,↓X6,wA,seval,zA,qA,qC,wN];refine X2 VN rfl ?_;simp only[↓X6,wA,seval,zA,qA,qC,wN];exact Jh rfl Q8 rfl rfl rfl sR (by rw[hR,h];rfl)
 ·have f1:((Xb (qd r)).length=0)=False:=Q' fun e=>h ((DT r).1 e)
  have f2:(((Xb (qd r)).length:Int)=0)=False:=Q' fun e=>h ((DT r).1 (by omega))
  refine Fq Tryz.call104 Tryz.func104 3 [] [] [] (by simp[KJ,Xa,Xj]) (Xk ?_);simp(maxSteps:=999999)only[P',↓X6,wA,seval,zA,qA,qC,wN];simp only[f1,f2,↓X6,wA,seval,zA,qA,qC,wN];exact Jh rfl Q8 rfl rfl rfl sR (by rw[hR,m8 h];rfl)
theorem tT {z:Int}(h:z<0):zA z=.agg [.bool true,X8 (Xb z.natAbs)]:=by unfold zA;rw[Y' h]
theorem az {z:Int}(h:¬z<0):zA z=.agg [.bool false,X8 (Xb z.natAbs)]:=by unfold zA;rw[Y_ h]
theorem Fr (p q:Int)(hq:q≠0)(hg:ZAd p q=1):Fn Tryz.prog 105 [zA p,zA q] (qA (O_ p q)):=by
 obtain⟨e1,e2⟩:=Mo p q hq hg;obtain⟨R,hR⟩:∃R,R=qA (O_ p q):=⟨_,rfl⟩
 have sR:A_ R:=hR▸Xa _;rw[←hR];have key:∀p' q':Int,p'=q.sign*p→q'=q.natAbs→(q'=1→R=.agg [.bool (decide (p'<0)),X8 (Xb p'.natAbs),.bool false,X8 []])∧(¬q'=1→R=.agg [.bool (decide (p'<0)),X8 (Xb p'.natAbs),.bool false,X8 (Xb q'.natAbs)]):=by
  intro p' q' hp' hq';constructor
  ·intro h
   rw[hR,N5 (by omega),e1,hp']
  ·intro h
   rw[hR,YN (by omega),e1,hp',e2,hq',ZAb]
 by_cases h:q<0
 ·have f1:(q<0)=True:=K_ h
  obtain⟨k1,k2⟩:=key (-p) (-q) (by rw[n_ h];omega) (by omega);have cu:=HH (-q);have cn:=Rh q;rw[tT h]at cn;have f5:decide (-q<0)=false:=Y_ (by omega);by_cases h1:-q=1
  ·simp only[h1,decide_true]at cu
   have hk:=k1 h1;refine Fq Tryz.call105 Tryz.func105 5 [] [] [] (by simp[KJ,Xa,Xj]) (Xk ?_);simp(maxSteps:=999999)only[P',↓X6,wA,seval,zA,qA,qC,wN];simp only[f1,↓X6,wA,seval,zA,qA,qC,wN];refine X2 (Rh p) rfl ?_;simp only[f1,↓X6,wA,seval,zA,qA,qC,wN];refine X2 cn rfl ?_;simp only[f1,h1,↓X6,wA,seval,zA,qA,qC,wN];refine X2 cu rfl ?_;simp only[↓X6,wA,seval,zA,qA,qC,wN];exact Ql rfl XY rfl rfl rfl hk sR ⟨X' _,X' _,X' _,QG _ _,trivial⟩
  ·simp only[h1,decide_false]at cu
   have hk:=k2 h1;refine Fq Tryz.call105 Tryz.func105 5 [] [] [] (by simp[KJ,Xa,Xj]) (Xk ?_);simp(maxSteps:=999999)only[P',↓X6,wA,seval,zA,qA,qC,wN];simp only[f1,↓X6,wA,seval,zA,qA,qC,wN];refine X2 (Rh p) rfl ?_;simp only[f1,↓X6,wA,seval,zA,qA,qC,wN];refine X2 cn rfl ?_;simp only[f1,↓X6,wA,seval,zA,qA,qC,wN];refine X2 cu rfl ?_;simp only[↓X6,wA,seval,zA,qA,qC,wN];exact Jh rfl XY rfl rfl rfl sR (by rw[hk,f5];rfl)
 ·have f1:(q<0)=False:=Q' h
  obtain⟨k1,k2⟩:=key p q (by rw[u_ (by omega)];omega) (by omega);have cu:=HH q;rw[az h]at cu;by_cases h1:q=1
  ·simp only[h1,decide_true]at cu
   have hk:=k1 h1;subst h1;refine Fq Tryz.call105 Tryz.func105 5 [] [] [] (by simp[KJ,Xa,Xj]) (Xk ?_);simp(maxSteps:=999999)only[P',↓X6,wA,seval,zA,qA,qC,wN]
   try simp only[f1,↓X6,wA,seval,zA,qA,qC,wN]
   refine X2 cu rfl ?_;simp only[↓X6,wA,seval,zA,qA,qC,wN];exact Ql rfl XY rfl rfl rfl hk sR ⟨X' _,X' _,X' _,QG _ _,trivial⟩
  ·simp only[h1,decide_false]at cu
   have hk:=k2 h1;refine Fq Tryz.call105 Tryz.func105 5 [] [] [] (by simp[KJ,Xa,Xj]) (Xk ?_);simp(maxSteps:=999999)only[P',↓X6,wA,seval,zA,qA,qC,wN];simp only[f1,↓X6,wA,seval,zA,qA,qC,wN];refine X2 cu rfl ?_;simp only[f1,↓X6,wA,seval,zA,qA,qC,wN];exact Jh rfl XY rfl rfl rfl sR (by rw[hk];rfl)
theorem Ro:qA 0=.agg [.bool false,X8 [],.bool false,X8 []]:=by
 rw[N5 (by rfl)];simp[Qu]
theorem Lt (p q:Int)(hp:bl p<1000000000)(hq:bl q<1000000000):Fn Tryz.prog 103 [zA p,zA q] (qA (O_ p q)):=by
 obtain⟨R,hR⟩:∃R,R=qA (O_ p q):=⟨_,rfl⟩
 have sR:A_ R:=hR▸Xa _;have zp:((Xb p.natAbs).length=0)=(p=0):=propext (TAA.trans (by omega));have zq:((Xb q.natAbs).length=0)=(q=0):=propext (TAA.trans (by omega));have z0:p=0∨q=0→R=.agg [.bool false,X8 [],.bool false,X8 []]:=by
  intro h;rw[hR,←Ro];rcases h with rfl |rfl
  ·rw[Rat.zero_divInt]
  ·rw[ZET]
 rw[←hR];by_cases hq0:q=0
 ·have f1:(q=0)=True:=K_ hq0
  have f2:(((Xb q.natAbs).length:Int)=0)=True:=K_ (by have h:(Xb q.natAbs).length=0:=(by rw[zq];assumption);omega);refine Fq Tryz.call103 Tryz.func103 6 [] [] [] (by simp[KJ,Xa,Xj]) (Xk ?_);simp(maxSteps:=999999)only[P',↓X6,wA,seval,zA,qA,qC,wN];simp only[zq,f1,f2,↓X6,wA,seval,zA,qA,qC,wN];exact Ql rfl XY rfl rfl rfl (z0 (.inr hq0)) sR ⟨X' _,QG _ _,X' _,QG _ _,trivial⟩
 have f1:(q=0)=False:=Q' hq0;have f2:(((Xb q.natAbs).length:Int)=0)=False:=Q' (fun e=>hq0 (by rw[←zq];omega));by_cases hp0:p=0
 ·have f3:(p=0)=True:=K_ hp0
  have f4:(((Xb p.natAbs).length:Int)=0)=True:=K_ (by have h:(Xb p.natAbs).length=0:=(by rw[zp];assumption);omega);refine Fq Tryz.call103 Tryz.func103 6 [] [] [] (by simp[KJ,Xa,Xj]) (Xk ?_);simp(maxSteps:=999999)only[P',↓X6,wA,seval,zA,qA,qC,wN];simp only[zp,zq,f1,f2,f3,f4,↓X6,wA,seval,zA,qA,qC,wN];exact Ql rfl XY rfl rfl rfl (z0 (.inl hp0)) sR ⟨X' _,QG _ _,X' _,QG _ _,trivial⟩
 have f3:(p=0)=False:=Q' hp0;have f4:(((Xb p.natAbs).length:Int)=0)=False:=Q' (fun e=>hp0 (by rw[←zp];omega));have cg:=kw p q hp hq;have cu:=HH (ZAd p q);obtain⟨g,hg⟩:∃g:Int,g=ZAd p q:=⟨_,rfl⟩
 have hg0:0<ZAd p q:=ZDB _ hq0;have hgq:bl g≤bl q:=Jd (by
  have:=Nat.le_of_dvd (by omega) (Int.gcd_dvd_natAbs_right p q);omega)
 rw[←hg]at cg cu;by_cases h1:g=1
 ·have cl:=Fr p q hq0 (by omega)
  rw[hR];rw[h1]at cg cu;simp only[decide_true]at cu;obtain⟨R',hR'⟩:∃R',R'=qA (O_ p q):=⟨_,rfl⟩
  rw[←hR']at cl ⊢;have sR':A_ R':=hR'▸Xa _;refine Fq Tryz.call103 Tryz.func103 6 [] [] [] (by simp[KJ,Xa,Xj]) (Xk ?_);simp(maxSteps:=999999)only[P',↓X6,wA,seval,zA,qA,qC,wN];simp only[zp,zq,f1,f2,f3,f4,↓X6,wA,seval,zA,qA,qC,wN];refine X2 cg rfl ?_;simp only[↓X6,wA,seval,zA,qA,qC,wN];refine X2 cu rfl ?_;simp only[↓X6,wA,seval,zA,qA,qC,wN];refine X2 cl rfl ?_;simp only[hR',↓X6,wA,seval,zA,qA,qC,wN];exact Jh rfl XY rfl rfl rfl sR' (hR'.trans rfl)
 ·obtain⟨d1,d2,d3⟩:=Ef p q hq0 g hg
  have cl:=Fr (p/g) (q/g) d3 d2;rw[d1,←hR]at cl;simp only[h1,decide_false]at cu;have c1:=jk p g hp (by omega) (by omega);have c2:=jk q g hq (by omega) (by omega);refine Fq Tryz.call103 Tryz.func103 6 [] [] [] (by simp[KJ,Xa,Xj]) (Xk ?_);simp(maxSteps:=999999)only[P',↓X6,wA,seval,zA,qA,qC,wN];simp only[zp,zq,f1,f2,f3,f4,↓X6,wA,seval,zA,qA,qC,wN];refine X2 cg rfl ?_;simp only[↓X6,wA,seval,zA,qA,qC,wN];refine X2 cu rfl ?_;simp only[↓X6,wA,seval,zA,qA,qC,wN];refine X2 c1 rfl ?_;simp only[↓X6,wA,seval,zA,qA,qC,wN];refine X2 c2 rfl ?_;simp only[↓X6,wA,seval,zA,qA,qC,wN];refine X2 cl rfl ?_;simp only[hR,↓X6,wA,seval,zA,qA,qC,wN];exact Jh rfl XY rfl rfl rfl sR (hR.trans rfl)
theorem ZZ {n:Int}(h:ZO n):bl n≤3:=GE (by unfold ZO at h;simp only[pw];omega)
theorem D3 (p q:Int)(hp:ZO p)(hq:ZO q):Fn Tryz.prog 114 [I p,I q] (qA (O_ p q)):=by
 obtain⟨R,hR⟩:∃R,R=qA (O_ p q):=⟨_,rfl⟩
 have sR:A_ R:=hR▸Xa _;have cm:=Lt p q (by have:=ZZ hp;omega) (by have:=ZZ hq;omega);rw[←hR]at cm ⊢;refine Fq Tryz.call114 Tryz.func114 5 [] [] [] (by simp[KJ,Xa,Xj]) (Xk ?_);simp(maxSteps:=999999)only[P',↓X6,wA,seval,zA,qA,qC,wN];refine X2 (Gp p hp) rfl ?_;simp only[↓X6,wA,seval,zA,qA,qC,wN];refine X2 (Gp q hq) rfl ?_;simp only[↓X6,wA,seval,zA,qA,qC,wN];refine X2 cm rfl ?_;simp only[hR,↓X6,wA,seval,zA,qA,qC,wN];exact Jh rfl XY rfl rfl rfl sR (hR.trans rfl)
theorem Qv (r:Rat):Fn Tryz.prog 110 [qA r] (I r.num.sign):=by
 refine Fq Tryz.call110 Tryz.func110 3 [] [] [] (by simp[KJ,Xa,Xj]) (Xk ?_);simp(maxSteps:=999999)only[P',↓X6,wA,seval,zA,qA,qC,wN];refine X2 (rD r.num) rfl ?_;simp only[↓X6,wA,seval,zA,qA,qC,wN];exact Xp rfl rfl (X9 _) rfl
theorem Z6 (r:Rat):Fn Tryz.prog 133 [qA r] (qA (-r)):=by
 obtain⟨R,hR⟩:∃R,R=qA (-r):=⟨_,rfl⟩
 have sR:A_ R:=hR▸Xa _;have e:R=.agg [.bool (decide (-r.num<0)),X8 (Xb (-r.num).natAbs),.bool false,X8 (Xb (qd r))]:=by rw[hR];rfl
 rw[←hR];refine Fq Tryz.call133 Tryz.func133 3 [] [] [] (by simp[KJ,Xa,Xj]) (Xk ?_);simp(maxSteps:=999999)only[P',↓X6,wA,seval,zA,qA,qC,wN];refine X2 (Rh r.num) rfl ?_;simp only[↓X6,wA,seval,zA,qA,qC,wN];exact Jh rfl XY rfl rfl rfl sR (e.trans rfl)
def rm:Nat:=100000000
theorem LA {a:Rat}(h:a.den=1):a=((a.num:Int):Rat):=Rat.ext (by rw[ZCS]) (by rw[h,ZCT])
theorem oE {a b:Rat}(ha:a.den=1)(hb:b.den=1):(a+b).num=a.num+b.num∧(a+b).den=1:=by
 rw[LA ha,LA hb,←Rat.intCast_add];exact⟨ZCS _,ZCT _⟩
theorem qM {a b:Rat}(ha:a.den=1)(hb:b.den=1):(a*b).num=a.num*b.num∧(a*b).den=1:=by
 rw[LA ha,LA hb,←Rat.intCast_mul];exact⟨ZCS _,ZCT _⟩
theorem Lz (r:Rat):(((Xb (qd r)).length:Int)=0)=(r.den=1):=propext (by rw[←DT];omega)
theorem EH (r:Rat):(((Xb r.num.natAbs).length:Int)=0)=(r=0):=propext (by rw[←qP];omega)
theorem C5 (a b:Rat)(ha:qb a≤rm)(hb:qb b≤rm):Fn Tryz.prog 40 [qA a,qA b] (qA (a+b)):=by
 unfold rm at ha hb;have a1:=K0 a;have a2:=K8 a;have b1:=K0 b;have b2:=K8 b;obtain⟨R,hR⟩:∃R,R=qA (a+b):=⟨_,rfl⟩
 have sR:A_ R:=hR▸Xa _;have la:=Lz a;have lb:=Lz b;have na:=EH a;have nb:=EH b;rw[←hR];by_cases hi:a.den=1∧b.den=1
 ·have f1:(a.den=1)=True:=K_ hi.1
  have f2:(b.den=1)=True:=K_ hi.2;obtain⟨e1,e2⟩:=oE hi.1 hi.2;have hR':=hR.trans (N5 e2);rw[e1]at hR';refine Fq Tryz.call40 Tryz.func40 7 [] [7,80000002,80000003] [] (by simp[KJ,Xa,Xj]) (Xk ?_);simp(maxSteps:=999999)only[P',↓X6,wA,seval,zA,qA,qC,wN];simp only[la,lb,f1,f2,↓X6,wA,seval,zA,qA,qC,wN];refine X2 (ie a.num b.num (by unfold room;omega) (by unfold room;omega)) rfl ?_;simp only[↓X6,wA,seval,zA,qA,qC,wN];exact Ql rfl XY rfl rfl rfl hR' sR ⟨X' _,X' _,X' _,QG _ _,trivial⟩
 have hnn:(a.den:Int)*b.den≠0:=Int.mul_ne_zero (by have:=a.den_nz;omega) (by have:=b.den_nz;omega);have e0:a+b=O_ (a.num*b.den+b.num*a.den) (a.den*b.den):=by
  rw[Rat.add_def',ZP];push_cast;rfl
 have m1:=K5 a.num b.den;have m2:=K5 b.num a.den;have m3:=K5 a.den b.den;have m4:=V7 (a.num*b.den) (b.num*a.den);have cA:=DJ a;have cB:=DJ b;have c1:=EG a.num b.den (by unfold room;omega) (by unfold room;omega);have c2:=EG b.num a.den (by unfold room;omega) (by unfold room;omega);have c3:=ie (a.num*b.den) (b.num*a.den) (by unfold room;omega) (by unfold room;omega);have c4:=EG a.den b.den (by unfold room;omega) (by unfold room;omega);have c5:=Lt (a.num*b.den+b.num*a.den) (a.den*b.den) (by omega) (by omega);rw[←e0,←hR]at c5;by_cases f:a.den=1
 ·have f1:(a.den=1)=True:=K_ f
  have f2:(b.den=1)=False:=Q' fun e=>hi ⟨f,e⟩
  by_cases ha0:a=0
  ·have g1:(a=0)=True:=K_ ha0
   have hR':R=qA b:=by rw[hR,ha0,Rat.zero_add]
   refine Fq Tryz.call40 Tryz.func40 7 [] [7,80000002,80000003] [] (by simp[KJ,Xa,Xj]) (Xk ?_);simp(maxSteps:=999999)only[P',↓X6,wA,seval,zA,qA,qC,wN];simp only[la,lb,na,nb,f1,f2,g1,↓X6,wA,seval,zA,qA,qC,wN];exact Jh rfl XY rfl rfl rfl sR (hR'.trans rfl)
  have g1:(a=0)=False:=Q' ha0;by_cases hb0:b=0
  ·have g2:(b=0)=True:=K_ hb0
   have hR':R=qA a:=by rw[hR,hb0,Rat.add_zero]
   refine Fq Tryz.call40 Tryz.func40 7 [] [7,80000002,80000003] [] (by simp[KJ,Xa,Xj]) (Xk ?_);simp(maxSteps:=999999)only[P',↓X6,wA,seval,zA,qA,qC,wN];simp only[la,lb,na,nb,f1,f2,g1,g2,↓X6,wA,seval,zA,qA,qC,wN];exact Jh rfl XY rfl rfl rfl sR (hR'.trans rfl)
  have g2:(b=0)=False:=Q' hb0;refine Fq Tryz.call40 Tryz.func40 7 [] [7,80000002,80000003] [] (by simp[KJ,Xa,Xj]) (Xk ?_);simp(maxSteps:=999999)only[P',↓X6,wA,seval,zA,qA,qC,wN];simp only[la,lb,na,nb,f1,f2,g1,g2,↓X6,wA,seval,zA,qA,qC,wN];refine X2 cA rfl ?_;simp only[↓X6,wA,seval,zA,qA,qC,wN];refine X2 cB rfl ?_;simp only[↓X6,wA,seval,zA,qA,qC,wN];refine X2 c1 rfl ?_;simp only[↓X6,wA,seval,zA,qA,qC,wN];refine X2 c2 rfl ?_;simp only[↓X6,wA,seval,zA,qA,qC,wN];refine X2 c3 rfl ?_;simp only[↓X6,wA,seval,zA,qA,qC,wN];refine X2 c4 rfl ?_;simp only[↓X6,wA,seval,zA,qA,qC,wN];refine X2 c5 rfl ?_;simp only[hR,↓X6,wA,seval,zA,qA,qC,wN];exact Jh rfl XY rfl rfl rfl sR (hR.trans rfl)
 ·have f1:(a.den=1)=False:=Q' f
  have f2:True=True:=rfl;by_cases ha0:a=0
  ·have g1:(a=0)=True:=K_ ha0
   have hR':R=qA b:=by rw[hR,ha0,Rat.zero_add]
   refine Fq Tryz.call40 Tryz.func40 7 [] [7,80000002,80000003] [] (by simp[KJ,Xa,Xj]) (Xk ?_);simp(maxSteps:=999999)only[P',↓X6,wA,seval,zA,qA,qC,wN];simp only[la,lb,na,nb,f1,f2,g1,↓X6,wA,seval,zA,qA,qC,wN];exact Jh rfl XY rfl rfl rfl sR (hR'.trans rfl)
  have g1:(a=0)=False:=Q' ha0;by_cases hb0:b=0
  ·have g2:(b=0)=True:=K_ hb0
   have hR':R=qA a:=by rw[hR,hb0,Rat.add_zero]
   refine Fq Tryz.call40 Tryz.func40 7 [] [7,80000002,80000003] [] (by simp[KJ,Xa,Xj]) (Xk ?_);simp(maxSteps:=999999)only[P',↓X6,wA,seval,zA,qA,qC,wN];simp only[la,lb,na,nb,f1,f2,g1,g2,↓X6,wA,seval,zA,qA,qC,wN];exact Jh rfl XY rfl rfl rfl sR (hR'.trans rfl)
  have g2:(b=0)=False:=Q' hb0;refine Fq Tryz.call40 Tryz.func40 7 [] [7,80000002,80000003] [] (by simp[KJ,Xa,Xj]) (Xk ?_);simp(maxSteps:=999999)only[P',↓X6,wA,seval,zA,qA,qC,wN];simp only[la,lb,na,nb,f1,f2,g1,g2,↓X6,wA,seval,zA,qA,qC,wN];refine X2 cA rfl ?_;simp only[↓X6,wA,seval,zA,qA,qC,wN];refine X2 cB rfl ?_;simp only[↓X6,wA,seval,zA,qA,qC,wN];refine X2 c1 rfl ?_;simp only[↓X6,wA,seval,zA,qA,qC,wN];refine X2 c2 rfl ?_;simp only[↓X6,wA,seval,zA,qA,qC,wN];refine X2 c3 rfl ?_;simp only[↓X6,wA,seval,zA,qA,qC,wN];refine X2 c4 rfl ?_;simp only[↓X6,wA,seval,zA,qA,qC,wN];refine X2 c5 rfl ?_;simp only[hR,↓X6,wA,seval,zA,qA,qC,wN];exact Jh rfl XY rfl rfl rfl sR (hR.trans rfl)
end
end Go.Ab.N
