/- Contracts of functions, for every argument that fits. -/
import Derived.Test.YtcmfnmceomhgcaaGreatC2
set_option linter.unusedSimpArgs false
set_option linter.unusedVariables false
open Go.Ab.AS renaming start→O_
open Go.IntKind renaming i64→Q_,wrap_u64→ZAi,u64→ZAq
open Int renaming reduceEq→ZAC,gcd→ZAn,gcd_pos_of_ne_zero_right→ZDG,mul_ediv_cancel_left→ZDZ
open List renaming replicate→ZAP,length_eq_zero_iff→ZBe
open Nat renaming gcd_comm→ZBn,gcd_zero_right→ZC4,div_le_self→ZDa
open Rat renaming divInt→P',num_intCast→ZCX,den_intCast→ZCY,divInt_zero→ZEV
namespace Go.Ab.N
open Go Go.RowKit Go.Proofs
theorem ZAl:type_of%@Int.natAbs_natCast:=@Int.natAbs_natCast
theorem ZB9:type_of%@Rat.zero_num:=@Rat.zero_num
theorem ZCA:type_of%@List.any_eq_true:=@List.any_eq_true
theorem ZEJ:type_of%@Rat.num_eq_zero:=@Rat.num_eq_zero
noncomputable section
set_option maxRecDepth 10000
set_option pp.maxSteps 60000
set_option maxHeartbeats 2000000
open Classical
def tY (x:Int)(n:Nat):List Int:=Xa x.toNat ++ ZAP (n-(Xa x.toNat).length) 0
theorem LN {x:Int}(h:0≤x)(n:Nat):val (tY x n)=x:=by
 unfold tY;rw[RS,FR,XJ];omega
theorem LK (x:Int)(n:Nat):JO (tY x n):=LA.2 ⟨XW _,Ox _⟩
theorem LM {x:Int}{n:Nat}(h:0≤x)(h2:x<pw n):(tY x n).length=n:=by
 have:=EK (n:=x.toNat) (k:=n) (by omega);simp[tY];omega
def D6 (a b v:List Int)(s:Int)(m:Nat)(p:List Int×List Int×Nat):AS :=
 ⟨22,[117,118,172,173],[X9 a,X9 b,.any,.any,.sl 0 0 (fun _=>.any) true,.sl 0 0 (fun _=>.any) true,I s,.osl 0 0 1 0 (a.length+1),X9 v,I b.length,.osl 1 0 1 0 m,I ((p.2.2:Int)-1),.any,.any,.any,.any,.any,.any,.any,.any,.any,.any],
  [],[.row 0 (a.length+1) (J8 I 0 p.1),.row 0 m (J8 I 0 p.2.1)]⟩
theorem qY (a b:List Int)(ha:JO a)(hb:AP b)(hn:2≤b.length)(hab:b.length≤a.length)(la:a.length<1000000000) :
  ∃q r,Fn Tryz.prog 239 [X9 a,X9 b] (.tup [X9 q,X9 r])∧JO q∧JO r∧q.length≤a.length∧r.length≤b.length∧val q=val a/val b∧val r=val a%val b:=by
 have hne:b≠[]:=fun e=>by rw[e]at hn;simp at hn
 have t0:=hb.2 hne;have t1:=JW hb.1 (b.length-1);unfold Qi at t1;obtain⟨s,hs⟩:∃s,s=1000000000/(b.getD (b.length-1) 0+1):=⟨_,rfl⟩
 obtain⟨s1,s2,s3,s4,s5,s6,s7⟩:=VZ hb hn hs;have ds:Qi s:=⟨by omega,by omega⟩
 obtain⟨v,hv⟩:∃v,v=(Jz b s).take b.length:=⟨_,rfl⟩
 rw[←hv]at s3 s4 s5 s6;obtain⟨m,hm⟩:∃m,m=a.length-b.length+1:=⟨_,rfl⟩
 have TFq:=VY (v:=v) ha hb hn hab hm s1 s2 s3 s7;have c1:=Wr a s ha ds (by omega);have c2:=fV b s hb.1 ds (by omega);have w0:Q_.wrap ((b.length:Int)-1)=((b.length-1:Nat):Int):=by rw[M'];omega
 have w1:Q_.wrap (b.getD (b.length-1) 0+1)=b.getD (b.length-1) 0+1:=by rw[M'];omega
 have w2:Q_.wrap (Int.tdiv 1000000000 (b.getD (b.length-1) 0+1))=s:=by
  rw[r_ (by omega),←hs,M'];omega
 have w3:(b.getD (b.length-1) 0+1=0)=False:=R_ (by omega);have w4:(b.length-1<b.length)=True:=L' (by omega);have w5:Q_.wrap ((a.length:Int)-b.length)=((m:Nat):Int)-1:=by rw[M'];omega
 have w6:Q_.wrap ((m:Int)-1+1)=(m:Int):=by rw[M'];omega
 have hvn:=Ah s4;rw[s5]at hvn;have key:∀Q R:AV,A_ Q→A_ R→(∀u q:List Int,TBJ (val a*s) v b.length m u q 0→Q=X9 q∧R=X9 (BH (AY (u.take b.length) s) (u.take b.length).length))→Fn Tryz.prog 239 [X9 a,X9 b] (.tup [Q,R]):=by
  intro Q R sQ sR hQR;refine Fq Tryz.call239 Tryz.func239 22 [117,118,172,173] [] [2] (by simp[Xd]) (Xk ?_);simp(maxSteps:=999999)only[O_,w0,w1,w2,w3,w4,U',↓X6,wA,seval,zA,wN];refine XC rfl c1 (Mr (by simp) (by simp)) (by simp) ⟨U_ _,U_ _,trivial⟩ ?_;simp(maxSteps:=999999)only[w0,w1,w2,w3,w4,U',↓X6,wA,seval,zA,wN];refine X2 c2 rfl ?_;simp(maxSteps:=999999)only[w0,w1,w2,w3,w4,w5,w6,CH,U',↓X6,wA,seval,zA,wN];refine⟨by omega,⟨by omega,by omega⟩,?_⟩;refine Xj (D6 a b v s m) (fun p=>TBJ (val a*s) v b.length m p.1 p.2.1 p.2.2) (fun p=>p.2.2) (Jz a s,ZAP m 0,m) TFq ?_ ?_
  ·refine(Zm 1 m (J8 I 0 (ZAP m 0)) rfl (N' _) ?_).trans ?_
   ·intro j hj
    rw[Bs];simp[K',ZAx,hj,I]
   have hwk:B' (.sl ((b.length:Int)-0).toNat (min ((b.length:Int)-0).toNat (b.length+1)) (fun j=>.int .i64 ((Jz b s).getD j 0)) false) (X9 v):=HY v (by omega) (by omega) fun j hj=>by
    rw[hv,Cm _ _ _ _];rfl
   refine(DC 8 (X9 v) ?_ ?_).trans (Xh rfl ?_ ?_ ?_)
   ·simp
   ·exact hwk
   ·simp[D6,Xo,X9,QG,I]
   ·simp[D6,Xx]
   ·rfl
  rintro⟨u,q,k⟩ hI next
  have hI':=hI;simp only at hI';cases k with
  |zero =>
   obtain⟨hQ,hR⟩:=hQR u q hI';obtain⟨z1,z2,z3⟩:=Tg ha hb.1 hI' s1 s3 hvn;have hul:=hI'.hu;have hql:=hI'.hq;have cs:=Uj (u.take b.length) s z3 ds (by omega) (by rw[v_];omega);have e1:((0:Int)≤0-1)=False:=R_ (by omega);have hfr:Sub (JK Tryz.prog Tryz.f239 [] [2] (.tup [Q,R])).base (D6 a b v s m (u,q,0))
     ⟨22,[117,118,172,173],[X9 a,X9 b,.any,.any,.sl 0 0 (fun _=>.any) true,.sl 0 0 (fun _=>.any) true,I s,X9 u,X9 v,I b.length,.osl 1 0 1 0 m,I (((0:Nat):Int)-1),.any,.any,.any,.any,.any,.any,.any,.any,.any,.any],
     [],[.con 0 u.length (J8 I 0 u),.row 0 m (J8 I 0 q)]⟩:=by
    unfold D6;rw[show a.length+1=u.length by omega];exact El 0 7 rfl rfl (by simp)
   refine d_ ?_ hfr;refine Xk ?_;simp(maxSteps:=999999)only[e1,U',↓X6,wA,seval,zA,wN];have hwk:B' (.sl ((b.length:Int)-0).toNat (min ((b.length:Int)-0).toNat u.length) (fun j=>.int .i64 (u.getD j 0)) false) (X9 (u.take b.length)):=HY (u.take b.length) (by rw[v_];omega) (by rw[v_];omega) fun j hj=>by
    rw[v_]at hj;rw[Cm _ _ _ _];rfl
   rw[←hR]at cs;refine⟨by omega,X0 cs ⟨hwk,U_ _,trivial⟩ ?_⟩;simp(maxSteps:=999999)only[↓X6,wA,seval,zA,wN];refine rE rfl (DA ⟨?_,XY sR rfl,trivial⟩);rw[hQ];exact Bq X8 rfl rfl hql.symm rfl (by omega)
  |succ j =>
   have hj:j+1≤m:=hI'.hk;have hul:=hI'.hu;have hql:=hI'.hq;have TCF:=eE hI' s4 hn s5 s6;obtain⟨z,wp0,wp1,wp2,wp3,wp4,_,_⟩:=Th hI' s4 hn s5 s6;have du0:=JW hI'.du (j+b.length);have du1:=JW hI'.du (j+b.length-1);have du2:=JW hI'.du (j+b.length-2);have dv1:=JW s4 (b.length-1);have dv2:=JW s4 (b.length-2);unfold Qi at du0 du1 du2 dv1 dv2;have e1:((j+1:Nat):Int)-1=(j:Int):=by omega
   have e2:((0:Int)≤(j:Int))=True:=L' (by omega);have f1:Q_.wrap ((j:Int)+b.length)=((j+b.length:Nat):Int):=by rw[M'];omega
   have f2:Q_.wrap (((j+b.length:Nat):Int)-1)=((j+b.length-1:Nat):Int):=by rw[M'];omega
   have f4:Q_.wrap ((b.length:Int)-2)=((b.length-2:Nat):Int):=by rw[M'];omega
   have f5:Q_.wrap (((j+b.length:Nat):Int)-2)=((j+b.length-2:Nat):Int):=by rw[M'];omega
   have i1:(j+b.length<a.length+1)=True:=L' (by omega);have i2:(j+b.length+1≤a.length+1)=True:=L' (by omega);have i3:(j+b.length-1<a.length+1)=True:=L' (by omega);have i4:(j+b.length-1+1≤a.length+1)=True:=L' (by omega);have i5:(j+b.length-2<a.length+1)=True:=L' (by omega);have i6:(j+b.length-2+1≤a.length+1)=True:=L' (by omega);have i7:(b.length-1<v.length)=True:=L' (by omega);have i8:(b.length-2<v.length)=True:=L' (by omega);have q1:Q_.wrap (u.getD (j+b.length) 0*1000000000)=u.getD (j+b.length) 0*1000000000:=by rw[M'];omega
   have q2:Q_.wrap (u.getD (j+b.length) 0*1000000000+u.getD (j+b.length-1) 0)=u.getD (j+b.length) 0*1000000000+u.getD (j+b.length-1) 0:=by rw[M'];omega
   have ht0:0≤u.getD (j+b.length) 0*1000000000+u.getD (j+b.length-1) 0:=by omega
   have hg0:=T9 TCF;have q3:Q_.wrap ((u.getD (j+b.length) 0*1000000000+u.getD (j+b.length-1) 0).tdiv (v.getD (b.length-1) 0))=(u.getD (j+b.length) 0*1000000000+u.getD (j+b.length-1) 0)/(v.getD (b.length-1) 0):=by
    have h1:=hg0.g0;have h2:=hg0.g1;rw[r_ ht0,M'];omega
   have q4:(u.getD (j+b.length) 0*1000000000+u.getD (j+b.length-1) 0).tmod (v.getD (b.length-1) 0)=(u.getD (j+b.length) 0*1000000000+u.getD (j+b.length-1) 0)%(v.getD (b.length-1) 0):=ZAH ht0;have q5:(v.getD (b.length-1) 0=0)=False:=R_ (by omega);refine Xk ?_;simp(maxSteps:=999999)only[D6,e1,e2,f1,f2,f4,f5,w0,i1,i2,i3,i4,i5,i6,i7,i8,q1,q2,q3,q4,q5,U',↓X6,wA,seval,zA,wN];generalize TGg:u.getD (j+b.length) 0*1000000000+u.getD (j+b.length-1) 0=top at *;refine Xj (fun p:Int×Int=>⟨22,[117,118,172,173],[X9 a,X9 b,.any,.any,.sl 0 0 (fun _=>.any) true,.sl 0 0 (fun _=>.any) true,I s,.osl 0 0 1 0 (a.length+1),X9 v,I b.length,.osl 1 0 1 0 m,I j,.any,I p.1,I p.2,.any,.any,.any,.any,.any,.any,.any],
    [],[.row 0 (a.length+1) (J8 I 0 u),.row 0 m (J8 I 0 q)]⟩) (fun p=>TBA (val (u.drop j)) (val v) top (v.getD (b.length-1) 0) p.1 p.2) (fun p=>p.1.toNat) (top/v.getD (b.length-1) 0,top%v.getD (b.length-1) 0) hg0
    (ZZ (by simp[Xo,X9,QG,I]) rfl) ?_
   rintro⟨g,r⟩ hg TAT;simp only at hg;have g0:=hg.g0;have g1:=hg.g1;have r0:=hg.r0;have r1:=hg.r1;have m0:0≤g*v.getD (b.length-2) 0:=ZBP g0 dv2.1;have m1:g*v.getD (b.length-2) 0≤1000000001*v.getD (b.length-2) 0:=l_ g1 dv2.1;have k1:Q_.wrap (g*v.getD (b.length-2) 0)=g*v.getD (b.length-2) 0:=by rw[M'];omega
   have k2:Q_.wrap (r*1000000000)=r*1000000000:=by rw[M'];omega
   have k3:Q_.wrap (r*1000000000+u.getD (j+b.length-2) 0)=r*1000000000+u.getD (j+b.length-2) 0:=by rw[M'];omega
   have k4:Q_.wrap (g-1)=g-1:=by rw[M'];omega
   have k5:Q_.wrap (r+v.getD (b.length-1) 0)=r+v.getD (b.length-1) 0:=by rw[M'];omega
   refine Xk ?_;simp(maxSteps:=999999)only[e1,e2,f1,f2,f4,f5,w0,i1,i2,i3,i4,i5,i6,i7,i8,k1,k2,k3,k4,k5,U',↓X6,wA,seval,zA,wN];generalize hF:(bm (JK Tryz.prog Tryz.f239 [] [2] (.tup [Q,R])) _ Tag.mk)=F;suffices fin:∀G RR:Int,kW (val (u.drop j)) (val v) G→F ⟨22,[117,118,172,173],[.sl a.length a.length (J8 I 0 a) false,.sl b.length b.length (J8 I 0 b) false,.any,.any,.sl 0 0 (fun _=>.any) true,.sl 0 0 (fun _=>.any) true,.int .i64 s,.osl 0 0 1 0 (a.length+1),.sl v.length v.length (J8 I 0 v) false,.int .i64 b.length,.osl 1 0 1 0 m,.int .i64 j,.any,.int .i64 G,.int .i64 RR,.int .i64 0,.any,.any,.any,.any,.any,.any],
     [(118,.int .i64 0),(117,.int .i64 b.length)],[.row 0 (a.length+1) (J8 I 0 u),.row 0 m (J8 I 0 q)]⟩by
    have gd:∀g' r',TBA (val (u.drop j)) (val v) top (v.getD (b.length-1) 0) g' r'→g'=g-1→r'=r+v.getD (b.length-1) 0→val (u.drop j)<g*val v→g'.toNat<g.toNat:=fun g' r' _ e _ hl=>by
     have:=Ik TCF hg wp0 hl;omega
    refine⟨fun b1=>?_,fun b1=>⟨fun b2=>?_,fun b2=>fin _ _ (VP TCF hg b1 (by omega))⟩⟩
    ·have hl:=MK TCF hg (.inl b1)
     refine⟨fun b3=>fin _ _ (IP TCF hg wp0 hl b3),fun b3=>?_⟩;have hn2:=ML TCF hg wp0 hl b3;exact TAT (g-1,r+v.getD (b.length-1) 0) _ hn2 (gd _ _ hn2 rfl rfl hl) (ZZ (by simp[Xo,X9,QG,I]) rfl)
    ·have hl:=MK TCF hg (.inr b2)
     refine⟨fun b3=>fin _ _ (IP TCF hg wp0 hl b3),fun b3=>?_⟩;have hn2:=ML TCF hg wp0 hl b3;exact TAT (g-1,r+v.getD (b.length-1) 0) _ hn2 (gd _ _ hn2 rfl rfl hl) (ZZ (by simp[Xo,X9,QG,I]) rfl)
   clear TAT hg k1 k2 k3 k4 k5 m0 m1 g0 g1 r0 r1;subst hF;clear g r;intro g r TBw;obtain⟨g0,g1,g2,g3⟩:=TBw;have TEo:WF u v g j b.length (u,0,0):=⟨p_ _,rfl,hI'.du,ZB2 _,by simp,fun _ _=>rfl,by simp[val]⟩
   refine Xj (fun p:List Int×Int×Nat=>⟨22,[117,118,172,173],[X9 a,X9 b,.any,.any,.sl 0 0 (fun _=>.any) true,.sl 0 0 (fun _=>.any) true,I s,.osl 0 0 1 0 (a.length+1),X9 v,I b.length,.osl 1 0 1 0 m,I j,.any,I g,.any,I p.2.1,.any,.any,.any,.any,.any,.any],
    [(118,I p.2.2),(117,I b.length)],[.row 0 (a.length+1) (J8 I 0 p.1),.row 0 m (J8 I 0 q)]⟩) (WF u v g j b.length) (fun p=>b.length-p.2.2) (u,0,0) TEo
    (Xh rfl (by simp[Xo,X9,QG,I]) (by simp[Xx,XM,X9,QG,I]) rfl) ?_
   rintro⟨u',c,i⟩ hs TDk;obtain⟨j1,j2,j3,j4,j5,j6,j7⟩:=id hs;simp only at j1 j2 j3 j4 j5 j6 j7;by_cases hi:i<b.length
   ·obtain⟨y0,y1,y2⟩:=ge (u:=u) (v:=v) (g:=g) (j:=j) (n:=b.length) s4 g0 g1 (by omega) (by omega) hi hs rfl
    have x1:=JW j3 (i+j);have x2:=Qo s4 i;unfold Qi at x1 x2;have m0:0≤g*dg v i:=ZBP g0 x2.1;have m1:g*dg v i≤1000000000*dg v i:=l_ g1 x2.1;have wi:=wj i;have eV:v.getD i 0=dg v i:=rfl;have n1:((i:Int)<b.length)=True:=L' (by omega);have n2:Q_.wrap ((i:Int)+j)=((i+j:Nat):Int):=by rw[M'];omega
    have n3:(i+j<a.length+1)=True:=L' (by omega);have n4:(i+j+1≤a.length+1)=True:=L' (by omega);have n5:(i<v.length)=True:=L' (by omega);have n6:(i<b.length)=True:=L' hi;have k1:Q_.wrap (g*dg v i)=g*dg v i:=by rw[M'];omega
    have k2:Q_.wrap (u'.getD (i+j) 0-g*dg v i)=u'.getD (i+j) 0-g*dg v i:=by rw[M'];omega
    have k3:Q_.wrap (u'.getD (i+j) 0-g*dg v i-c)=u'.getD (i+j) 0-g*dg v i-c:=by rw[M'];omega
    have hU:∀x:Int,De (J8 I 0 u') (i+j) (.int .i64 x)=J8 I 0 (u'.set (i+j) x):=fun x=>A9 _ _ _
    generalize hw:u'.getD (i+j) 0-g*dg v i-c=w at *;have k4:Q_.wrap (0-w) = -w:=by rw[M'];omega
    have k4':Q_.wrap (-w) = -w:=by rw[M'];omega
    have k5:Q_.wrap (-w+1000000000) = -w+1000000000:=by rw[M'];omega
    have k6:Q_.wrap (-w+1000000000-1) = -w+1000000000-1:=by rw[M'];omega
    have k8:Q_.wrap (-(w/1000000000)*1000000000) = -(w/1000000000)*1000000000:=by rw[M'];omega
    have k9:Q_.wrap (w + -(w/1000000000)*1000000000)=w%1000000000:=by rw[M'];omega
    by_cases hw0:w<0
    ·have k7:Q_.wrap ((-w+1000000000-1).tdiv 1000000000) = -(w/1000000000):=by rw[r_ (by omega),M'];omega
     have hwT:(w<0)=True:=L' hw0;refine Xk ?_;simp(maxSteps:=999999)only[wi,eV,n1,n2,n3,n4,n5,n6,k1,k2,hw,k3,k4,k4',k5,k6,k7,k8,k9,hwT,hU,U',ZAC,↓X6,wA,seval,zA,wN];exact TDk _ _ y2 (by simp only;omega) (Xh rfl (by simp[Xo,X9,QG,I]) (by simp[Xx,XM,X9,QG,I]) rfl)
    ·have hwF:(w<0)=False:=R_ hw0
     refine Xk ?_;simp(maxSteps:=999999)only[wi,eV,n1,n2,n3,n4,n5,n6,k1,k2,hw,k3,hwF,hU,U',ZAC,↓X6,wA,seval,zA,wN];have z1:w%1000000000=w:=by omega
     have z2:-(w/1000000000)=0:=by omega
     rw[z1,z2]at y2;exact TDk _ _ y2 (by simp only;omega) (Xh rfl (by simp[Xo,X9,QG,I]) (by simp[Xx,XM,X9,QG,I]) rfl)
   ·obtain rfl:i=b.length:=by omega
    have eT:u'.getD (j+b.length) 0=u.getD (j+b.length) 0:=j6 _ (.inr (N' _));have hU:∀x:Int,De (J8 I 0 u') (j+b.length) (.int .i64 x)=J8 I 0 (u'.set (j+b.length) x):=fun x=>A9 _ _ _
    have eS:∀x:Int,(u'.set (j+b.length) x).getD (j+b.length) 0=x:=fun x=>by rw[QM _ _ _ _,N_ rfl]
    have hQ1:∀x:Int,De (J8 I 0 q) j (.int .i64 x)=J8 I 0 (q.set j x):=fun x=>A9 _ _ _
    have n7:(j<m)=True:=L' (by omega);have n8:(j+1≤m)=True:=L' (by omega);have n9:((j:Int)<m)=True:=L' (by omega);have wj1:Q_.wrap ((j:Int)-1)=(j:Int)-1:=by rw[M'];omega
    have k1:Q_.wrap (u.getD (j+b.length) 0-c)=u.getD (j+b.length) 0-c:=by rw[M'];omega
    by_cases hx:u.getD (j+b.length) 0-c<0
    ·have hxT:(u.getD (j+b.length) 0-c<0)=True:=L' hx
     have k2:Q_.wrap (g-1)=g-1:=by rw[M'];omega
     refine Xk ?_;simp(maxSteps:=999999)only[f1,i1,i2,eT,eS,hU,hQ1,n7,n8,n9,wj1,k1,k2,hxT,U',ZAC,ZAM,ZAG,↓X6,wA,seval,zA,wN];generalize hxx:u.getD (j+b.length) 0-c=x at *;have TEp:iF (u'.set (j+b.length) x) v j b.length (u'.set (j+b.length) x,0,0):=by
      refine⟨p_ _,rfl,fun k hk=>?_,ZB2 _,by simp,fun _ _=>rfl,by simp[val]⟩;simp only;rw[QM _ _ _ _,M_ hk];exact JW j3 k
     refine Xj (fun p:List Int×Int×Nat=>⟨22,[117,118,172,173],[X9 a,X9 b,.any,.any,.sl 0 0 (fun _=>.any) true,.sl 0 0 (fun _=>.any) true,I s,.osl 0 0 1 0 (a.length+1),X9 v,I b.length,.osl 1 0 1 0 m,I j,.any,I (g-1),.any,I p.2.1,.any,.any,.any,.any,.any,.any],
      [(173,I p.2.2),(172,I b.length)],[.row 0 (a.length+1) (J8 I 0 p.1),.row 0 m (J8 I 0 q)]⟩) (iF (u'.set (j+b.length) x) v j b.length) (fun p=>b.length-p.2.2) (u'.set (j+b.length) x,0,0) TEp
      (Xh rfl (by simp[Xo,X9,QG,I]) (by simp[Xx,XM,X9,QG,I]) rfl) ?_
     rintro⟨u2,c2,i⟩ hA TEq;obtain⟨a1,a2,a3,a4,a5,a6,a7⟩:=id hA;simp only[X_]at a1 a2 a3 a4 a5 a6 a7;by_cases hi:i<b.length
     ·obtain⟨y0,y1,y2⟩:=cz (u:=u'.set (j+b.length) x) (v:=v) (j:=j) (n:=b.length) s4 (by omega) (by rw[X_];omega) hi hA rfl
      have x1:=a3 (i+j) (by omega);have x2:=Qo s4 i;unfold Qi at x1 x2;have wi:=wj i;have eV:v.getD i 0=dg v i:=rfl;have n2:Q_.wrap ((i:Int)+j)=((i+j:Nat):Int):=by rw[M'];omega
      have m1:((i:Int)<b.length)=True:=L' (by omega);have m3:(i+j<a.length+1)=True:=L' (by omega);have m4:(i+j+1≤a.length+1)=True:=L' (by omega);have m5:(i<v.length)=True:=L' (by omega);have m6:(i<b.length)=True:=L' hi;have k3:Q_.wrap (u2.getD (i+j) 0+dg v i)=u2.getD (i+j) 0+dg v i:=by rw[M'];omega
      have k4:Q_.wrap (u2.getD (i+j) 0+dg v i+c2)=u2.getD (i+j) 0+dg v i+c2:=by rw[M'];omega
      have hU2:∀x:Int,De (J8 I 0 u2) (i+j) (.int .i64 x)=J8 I 0 (u2.set (i+j) x):=fun x=>A9 _ _ _
      generalize hw:u2.getD (i+j) 0+dg v i+c2=w at *;have k5:Q_.wrap (w.tdiv 1000000000)=w/1000000000:=by rw[r_ y0,M'];omega
      have k6:w.tmod 1000000000=w%1000000000:=ZAH y0;refine Xk ?_;simp(maxSteps:=999999)only[wi,eV,n2,m1,m3,m4,m5,m6,k3,hw,k4,k5,k6,hU2,U',ZAC,↓X6,wA,seval,zA,wN];exact TEq _ _ y2 (by simp only;omega) (Xh rfl (by simp[Xo,X9,QG,I]) (by simp[Xx,XM,X9,QG,I]) rfl)
     ·obtain rfl:i=b.length:=by omega
      rw[←hxx]at hA;obtain⟨ex,TDT,_⟩:=ez hI' s4 s5 wp3 wp4 z wp0 g1 g3 hs (by omega) hA;rw[hxx]at ex TDT;have hU2:∀x:Int,De (J8 I 0 u2) (j+b.length) (.int .i64 x)=J8 I 0 (u2.set (j+b.length) x):=fun x=>A9 _ _ _
      have k3:Q_.wrap (x+c2)=x+c2:=by rw[M'];omega
      refine Xk ?_;simp(maxSteps:=999999)only[f1,i1,i2,ex,k3,hU2,hQ1,n7,n8,n9,wj1,U',ZAC,ZAM,ZAG,↓X6,wA,seval,zA,wN];exact next (u2.set (j+b.length) (x+c2),q.set j (g-1),j) _ TDT (by simp only;omega) (Xh rfl (by simp[D6,Xo,X9,QG,I]) (by simp[D6,Xx]) rfl)
    ·have hxF:(u.getD (j+b.length) 0-c<0)=False:=R_ hx
     obtain⟨TDT,_⟩:=eD hI' s4 s5 wp3 wp4 z wp1 g0 g2 hs hx;refine Xk ?_;simp(maxSteps:=999999)only[f1,i1,i2,eT,eS,hU,hQ1,n7,n8,n9,wj1,k1,hxF,U',ZAC,ZAM,ZAG,↓X6,wA,seval,zA,wN];exact next (u'.set (j+b.length) (u.getD (j+b.length) 0-c),q.set j g,j) _ TDT (by simp only;omega) (Xh rfl (by simp[D6,Xo,X9,QG,I]) (by simp[D6,Xx]) rfl)
 have b0:0<val b:=by
  have:=Dl hb hne;have:=JP (b.length-1);omega
 have a0:=Qc ha;have x0:0≤val a/val b:=ZEH a0 (by omega);have x1:val a/val b<pw m:=by
  refine Int.ediv_lt_of_lt_mul b0 ?_;have h1:=Ah ha;have h2:=Dl hb hne;have h3:pw m*pw (b.length-1)≤pw m*val b:=X' h2 (by have:=JP m;omega);rw[←E5,show m+(b.length-1)=a.length by omega]at h3;omega
 have y0:0≤val a%val b:=ZBr _ (by omega);have y1:val a%val b<pw b.length:=by
  have h1:=ZBO (val a) b0;have h2:=Ah hb.1;omega
 refine⟨tY (val a/val b) m,tY (val a%val b) b.length,key _ _ (Xd _) (Xd _) fun u q hI=>?_,LK _ _,LK _ _,by rw[LM x0 x1];omega,by rw[LM y0 y1];omega,LN x0 _,LN y0 _⟩;obtain⟨z1,z2,z3⟩:=Tg ha hb.1 hI s1 s3 hvn;have hul:=hI.hu;constructor
 ·rw[LV (LK _ _) hI.dq (by rw[LM x0 x1,hI.hq]) (by rw[LN x0,z1])]
 ·have hd:JO (BH (AY (u.take b.length) s) (u.take b.length).length):=DW fun i _=>EY z3 (by omega) i
  have hlen:(tY (val a%val b) b.length).length=(BH (AY (u.take b.length) s) (u.take b.length).length).length:=by
   rw[LM y0 y1,Qq,v_];omega
  rw[LV (LK _ _) hd hlen (by rw[LN y0,z2])]
end
end Go.Ab.N
namespace Go.Ab.N
open Go Go.Ab
open Classical
noncomputable section
def qd (r:Rat):Nat:=if r.den=1 then 0 else r.den
def qC (r:Rat):List AV:=[.bool (decide (r.num<0)),X9 (Xa r.num.natAbs),.bool false,X9 (Xa (qd r))]
def qA (r:Rat):AV:=.agg (qC r)
theorem Xb (r:Rat):A_ (qA r):=XE (by simp[qC,Xd,X5])
def qb (r:Rat):Nat:=max (bl r.num) (bl r.den)
theorem Jy (r:Rat):bl r.num≤qb r:=Nat.le_max_left _ _
theorem JZ (r:Rat):bl r.den≤qb r:=Nat.le_max_right _ _
theorem Bj (r:Rat):qb (-r)=qb r:=by unfold qb;rw[Rat.neg_num,Rat.neg_den,jd]
theorem DX (p q:Int)(h:q≠0):∃m:Int,m≠0∧p=(P' p q).num*m∧q=(P' p q).den*m :=
 Rat.divInt_num_den h (n':=(P' p q).num) (d':=(P' p q).den) (z':=(P' p q).den_nz) (c:=(P' p q).reduced) rfl
theorem D8 {x y m:Int}(hm:m≠0)(h:x=y*m):y.natAbs≤x.natAbs:=by
 rw[h,Int.natAbs_mul];exact Nat.le_mul_of_pos_right _ (by omega)
theorem Zq (p q:Int)(k:Nat)(hk:1≤k:=by omega)(hp:bl p≤k:=by omega)(hq:bl q≤k:=by omega):qb (P' p q)≤k:=by
 by_cases h:q=0
 ·subst h
  rw[ZEV];have h1:bl (0:Rat).num=0:=by rw[ZB9];unfold bl;simp[Qu]
  have h2:bl ((0:Rat).den:Int)≤1:=by rw[Rat.zero_den];exact GL (by simp[pw])
  unfold qb;omega
 ·obtain⟨m,h1,h2,h3⟩:=DX p q h
  have h4:=Jm (D8 h1 h2);have h5:=Jm (D8 h1 h3);unfold qb;omega
theorem vE (r:Rat):1≤bl r.den:=by
 have:=r.den_nz;unfold bl;rw[ZAl];have:Xa r.den≠[]:=LB r.den_nz;exact Nat.one_le_iff_ne_zero.2 fun h=>this (ZBe.1 h)
theorem Ry (r:Rat):1≤qb r:=m_ (vE r) (JZ r)
theorem Z8 (n:Int)(d:Nat):mkRat n d=P' n d:=(Rat.divInt_ofNat n d).symm
theorem KE (a b:Rat):qb (a+b)≤qb a+qb b+1:=by
 rw[Rat.add_def',Z8];have h1:=JV a.num b.den;have h2:=JV b.num a.den;have h3:=JV a.den b.den;have h4:=Vp (a.num*b.den) (b.num*a.den);have:=Jy a;have:=Jy b;have:=JZ a;have:=JZ b;have:=Ry a;refine Zq _ _ _ (by omega) (by omega) ?_
 push_cast;omega
theorem Qa (a b:Rat):qb (a*b)≤qb a+qb b:=by
 rw[Rat.mul_def',Z8];have h1:=JV a.num b.num;have h3:=JV a.den b.den;have:=Jy a;have:=Jy b;have:=JZ a;have:=JZ b;have:=Ry a;refine Zq _ _ _ (by omega) (by omega) ?_
 push_cast;omega
theorem C3 (a b:Rat):qb (a-b)≤qb a+qb b+1:=by
 have:=KE a (-b);rw[Bj,←Rat.sub_eq_add_neg]at this;exact this
theorem mv (n:Int)(k:Nat)(hk:1≤k)(h:bl n≤k):qb (n:Rat)≤k:=by
 unfold qb;rw[ZCX,ZCY];have:bl ((1:Nat):Int)≤1:=GL (by simp[pw]);omega
theorem Mx (p q:Int)(hq:q≠0)(h:ZAn p q=1):(P' p q).num=q.sign*p∧(P' p q).den=q.natAbs:=by
 have hg:ZAn q p=1:=by rw[Int.gcd_comm];exact h
 rw[Rat.num_divInt,Rat.den_divInt,hg,M_ hq];simp
theorem Es (p q:Int)(hq:q≠0)(g:Int)(hg:g=ZAn p q):P' (p/g) (q/g)=P' p q∧ZAn (p/g) (q/g)=1∧q/g≠0:=by
 have hg0:0<ZAn p q:=ZDG _ hq;obtain⟨x,hx⟩:∃x,p=g*x:=by
  have:=Int.gcd_dvd_left p q;rw[hg];exact this
 obtain⟨y,hy⟩:∃y,q=g*y:=by
  have:=Int.gcd_dvd_right p q;rw[hg];exact this
 have TEC:g≠0:=by omega
 have e1:p/g=x:=by rw[hx];exact ZDZ _ TEC
 have e2:q/g=y:=by rw[hy];exact ZDZ _ TEC
 rw[e1,e2];have e3:ZAn p q=g.natAbs*ZAn x y:=by
  conv=>lhs;rw[hx,hy]
  exact Int.gcd_mul_left ..
 refine⟨?_,?_,fun h=>hq (by rw[hy,h];simp)⟩
 ·conv=>rhs;rw[hx,hy]
  exact(Rat.divInt_mul_left TEC).symm
 ·have e4:g.natAbs=ZAn p q:=by omega
  rw[e4]at e3;exact(Nat.eq_of_mul_eq_mul_left hg0 (by omega)).symm
end
end Go.Ab.N
namespace Go.Ab.N
open Go Go.RowKit Go.Proofs
noncomputable section
set_option maxRecDepth 10000
set_option maxHeartbeats 2000000
open Classical
theorem Xt {P:Program}{s:AS}{t u id ver n:Nat}{L:List AV}(hk:Cy P u=some (some n)) (hs:s.get t=.ref id ver 0) (ho:s.h[id]?=some (.row ver n (Xf L))) (hn:L.length=n) :
  A8 P s (.cell t u)=some (.agg L):=by
 subst hn;unfold A8;simp only;rw[hs,BA,hk,Kz,ho,KA,fF,I9 L _ _ (by omega)];simp[Qf]
theorem FK {P:Program}{fn:Func}{str hcs:List Nat}{a b x y:AV}{s:AS}{r1 r2:ResultVar}(hr:fn.results=#[r1,r2])(h1:A8 P s r1=some x)(h2:A8 P s r2=some y)(g1:ZA s.h x a)(g2:ZA s.h y b) :
  TAC (JK P fn str hcs (.tup [a,b])) s :=
 ⟨.tup [x,y],by simp[Au,Rd,Fz,hr,JL,BO,h1,h2],DA ⟨g1,g2,trivial⟩⟩
theorem rQ {H:List AO}{z:Int}{L M:List AV}(e:zA z=.agg M)(h:TAF L M):ZA H (.agg L) (zA z):=by
 have:=XS z;rw[e]at this ⊢;exact Xp this (JR h)
theorem aD {H:List AO}{z:Int}(hz:z=0)(f:Nat→AV)(t:Bool):ZA H (.agg [.bool false,.sl 0 0 f t]) (zA z):=by
 subst hz;exact rQ (M:=[.bool false,X9 []]) (by unfold zA;simp[Qu]) ⟨U_ _,QI _ _,trivial⟩
theorem KC (n:Nat):bl (n:Int)=(Xa n).length:=by unfold bl;rw[ZAl]
theorem Jb (n:Nat):zA (n:Int)=.agg [.bool false,X9 (Xa n)]:=by
 unfold zA;rw[ZAl,Z_ (by omega)]
theorem SK {n k:Nat}(h:(Xa n).length≤k):(n:Int)<pw k:=by
 have h1:=R8 n;have h2:=CU h;omega
theorem AD {n:Nat}(h:(Xa n).length≤2):(n:Int)<1000000000000000000:=by
 have:=SK h
 simpa [pw]using this
theorem Oy (A B:Nat)(hA:(Xa A).length<1000000000) (hB:(Xa B).length<1000000000) (hB0:B≠0) :
  Fn Tryz.prog 224 [X9 (Xa A),X9 (Xa B)] (.tup [zA ((A/B:Nat):Int),zA ((A%B:Nat):Int)]):=by
 have dA:=XW A;have dB:=XW B;have vA:=XJ A;have vB:=XJ B;have c1:=RO _ dA;have c2:=RO _ dB;rw[vA]at c1;rw[vB]at c2;have c3:=DT _ _ (Q4 A) (Q4 B);rw[vA,vB]at c3;obtain⟨Q,hQ⟩:∃Q,Q=zA ((A/B:Nat):Int):=⟨_,rfl⟩
 obtain⟨R,hR⟩:∃R,R=zA ((A%B:Nat):Int):=⟨_,rfl⟩
 have sQ:A_ Q:=hQ▸XS _;have sR:A_ R:=hR▸XS _;have ofC:∀L:List Int,JO L→L.length<1000000001→∀z:Nat,val L=z→Fn Tryz.prog 182 [.bool false,X9 L] (.agg [.bool false,X9 (Xa z)]):=fun L h1 h2 z h3=>by
  have:=W7 false L h1;rw[h3]at this;rw[←Jb];exact this
 have p1:(Xa A).length≤2→(Xa B).length≤2→ZAq.wrap (Q_.wrap ((A:Int).tdiv B))=((A/B:Nat):Int)∧ZAq.wrap ((A:Int).tmod B)=((A%B:Nat):Int)∧Fn Tryz.prog 181 [.bool false,.int .u64 ((A/B:Nat):Int)] (.agg [.bool false,X9 (Xa (A/B))])∧Fn Tryz.prog 181 [.bool false,.int .u64 ((A%B:Nat):Int)] (.agg [.bool false,X9 (Xa (A%B))]):=fun h1 h2=>by
  have l1:=AD h1;have l2:=AD h2;have e1:(A:Int).tdiv B=((A/B:Nat):Int):=rfl;have e2:(A:Int).tmod B=((A%B:Nat):Int):=rfl;have l3:A/B≤A:=ZDa A B;have l4:A%B≤A:=Nat.mod_le A B;rw[e1,e2,←Jb,←Jb];generalize A/B=q at *;generalize A%B=r at *;refine⟨?_,?_,ZQ false _,ZQ false _⟩
  ·have w1:Q_.wrap (q:Int)=q:=by rw[M'];omega
   rw[w1,ZAi];omega
  ·rw[ZAi];omega
 have eQ2:=hQ.trans (Jb (A/B));have eR2:=hR.trans (Jb (A%B));rw[←hQ,←hR];have ret:∀ {s:AS},A8 Tryz.prog s (.cell 4 26)=some (.agg [.bool false,X9 (Xa (A/B))])→A8 Tryz.prog s (.cell 5 26)=some (.agg [.bool false,X9 (Xa (A%B))])→TAC (JK Tryz.prog Tryz.f224 [] [] (.tup [Q,R])) s:=fun h1 h2 =>
  FK rfl h1 h2 (XY sQ eQ2.symm) (XY sR eR2.symm)
 have TEr:=ofC _ dA (by omega) _ vA;have hB1:(B:Int)=0→False:=fun h=>hB0 (by omega)
 by_cases hAB:(Xa A).length≤2∧(Xa B).length≤2
 ·obtain⟨w1,w2,cq,cr⟩:=p1 hAB.1 hAB.2
  have f1:((Xa A).length≤2)=True:=L' hAB.1;have f2:((Xa B).length≤2)=True:=L' hAB.2;have f3:((B:Int)=0)=False:=R_ hB1;simp only[f1,decide_true,ite_true]at c1;simp only[f2,decide_true,ite_true]at c2;refine Fq Tryz.call224 Tryz.func224 14 [] [] [] (by simp[KM]) (Xk ?_);simp(maxSteps:=999999)only[O_,↓X6,wA,seval,zA,wN];refine X2 c1 rfl ?_;simp only[↓X6,wA,seval,zA,wN];refine X2 c2 rfl ?_;simp only[f3,w1,w2,↓X6,wA,seval,zA,wN];refine X2 cq rfl ?_;simp only[f3,w1,w2,↓X6,wA,seval,zA,wN];refine X2 cr rfl ?_;simp only[↓X6,wA,seval,zA,wN];exact ret (Xt Q5 rfl rfl rfl) (Xt Q5 rfl rfl rfl)
 have TDl:A<B→Fn Tryz.prog 189 [X9 (Xa A),X9 (Xa B)] (I (-1)):=fun h=>by
  rw[o_ (show(A:Int)-B<0 by omega)]at c3;exact c3
 have TDm:A<B→A/B=0∧A%B=A:=fun h=>⟨Nat.div_eq_of_lt h,ZAJ h⟩
 have w3:((-1:Int)<0)=True:=L' (by omega);by_cases hA2:(Xa A).length≤2
 ·have hB2:¬ (Xa B).length≤2:=fun h=>hAB ⟨hA2,h⟩
  have hlt:A<B:=by
   have:=EG (Q4 A) (Q4 B) (by omega);rw[vA,vB]at this;omega
  obtain⟨r1,r2⟩:=TDm hlt;have f1:((Xa A).length≤2)=True:=L' hA2;have f2:((Xa B).length≤2)=False:=R_ hB2;simp only[f1,decide_true,ite_true]at c1;simp only[f2,decide_false,ite_false]at c2;refine Fq Tryz.call224 Tryz.func224 14 [] [] [] (by simp[KM]) (Xk ?_);simp(maxSteps:=999999)only[O_,↓X6,wA,seval,zA,wN];refine X2 c1 rfl ?_;simp only[↓X6,wA,seval,zA,wN];refine X2 c2 rfl ?_;simp only[↓X6,wA,seval,zA,wN];refine X2 (TDl hlt) rfl ?_;simp only[w3,↓X6,wA,seval,zA,wN];refine X2 TEr rfl ?_;simp only[↓X6,wA,seval,zA,wN];exact FK rfl (Xt Q5 rfl rfl rfl) (Xt Q5 rfl rfl rfl) (by rw[hQ];exact aD (by rw[r1];rfl) _ _) (XY sR (by rw[eR2,r2];rfl))
 have f1:((Xa A).length≤2)=False:=R_ hA2;simp only[f1,decide_false,ite_false]at c1;by_cases hlt:A<B
 ·obtain⟨r1,r2⟩:=TDm hlt
  refine Fq Tryz.call224 Tryz.func224 14 [] [] [] (by simp[KM]) (Xk ?_);simp(maxSteps:=999999)only[O_,↓X6,wA,seval,zA,wN];refine X2 c1 rfl ?_;simp only[↓X6,wA,seval,zA,wN];refine X2 (TDl hlt) rfl ?_;simp only[w3,↓X6,wA,seval,zA,wN];refine X2 TEr rfl ?_;simp only[↓X6,wA,seval,zA,wN];exact FK rfl (Xt Q5 rfl rfl rfl) (Xt Q5 rfl rfl rfl) (by rw[hQ];exact aD (by rw[r1];rfl) _ _) (XY sR (by rw[eR2,r2];rfl))
 obtain⟨sg,hsg⟩:∃sg,sg=((A:Int)-B).sign:=⟨_,rfl⟩
 have TEs:(sg<0)=False:=R_ (by rw[hsg,ZA6];omega);rw[←hsg]at c3;have hBA:(Xa B).length≤(Xa A).length:=by
  have:=Jm (y:=(B:Int)) (z:=(A:Int));rwa[KC,KC]at this
 by_cases TED:(Xa B).length=1
 ·obtain⟨d,hd⟩:=ZBl.1 TED
  have hdd:Qi d:=dB d (by rw[hd];simp);have hdB:d=B:=by rw[←vB,hd];simp[val]
  have hd0:d≠0:=by omega
  have cs:=Uj (Xa A) d dA hdd hd0 (by omega);rw[vA,hdB]at cs;have dq:JO (BH (AY (Xa A) B) (Xa A).length):=DW fun i _=>EY dA (by omega) i
  have vq:val (BH (AY (Xa A) B) (Xa A).length)=((A/B:Nat):Int):=by
   have h1:=Rz (a:=Xa A) (b:=(B:Int)) (by omega);rw[vA]at h1;have h2:Ku (Xa A) B 0=(A:Int)%B:=by unfold Ku;rw[ZBg,vA]
   rw[h2]at h1;have h3:=Int.emod_add_mul_ediv (A:Int) B;have h4:(B:Int)*val (BH (AY (Xa A) B) (Xa A).length)=B*((A:Int)/B):=by omega
   rw[Int.eq_of_mul_eq_mul_left (by omega) h4];rfl
  have cq:=ofC _ dq (by rw[Qq];omega) _ vq;generalize BH (AY (Xa A) B) (Xa A).length=L at *;have em:(A:Int)%B=((A%B:Nat):Int):=rfl;have wm:ZAq.wrap ((A%B:Nat):Int)=((A%B:Nat):Int):=by
   have h1:A%B<B:=ZAI _ (by omega);unfold Qi at hdd;generalize A%B=r at *;rw[ZAi];omega
  have cr:Fn Tryz.prog 181 [.bool false,.int .u64 ((A%B:Nat):Int)] (.agg [.bool false,X9 (Xa (A%B))]):=by
   have h1:A%B<B:=ZAI _ (by omega);unfold Qi at hdd;rw[←Jb];generalize A%B=r at *;exact ZQ false _
  rw[em]at cs;have f2:(((Xa B).length:Int)=1)=True:=L' (by omega);have f2':((Xa B).length=1)=True:=L' TED;have f3:(0<(Xa B).length)=True:=L' (by omega);have f4:(Xa B).getD 0 0=(B:Int):=by rw[hd,←hdB];rfl
  refine Fq Tryz.call224 Tryz.func224 14 [] [] [] (by simp[KM]) (Xk ?_);simp(maxSteps:=999999)only[O_,↓X6,wA,seval,zA,wN];refine X2 c1 rfl ?_;simp only[↓X6,wA,seval,zA,wN];refine X2 c3 rfl ?_;simp only[TEs,f2,f2',f3,f4,↓X6,wA,seval,zA,wN];refine⟨by omega,X2 cs rfl ?_⟩;simp only[↓X6,wA,seval,zA,wN];refine X2 cq rfl ?_;simp only[wm,↓X6,wA,seval,zA,wN];refine X2 cr rfl ?_;simp only[↓X6,wA,seval,zA,wN];exact ret (Xt Q5 rfl rfl rfl) (Xt Q5 rfl rfl rfl)
 ·have hB2:2≤(Xa B).length:=by
   have:Xa B≠[]:=LB hB0;have:(Xa B).length≠0:=fun h=>this (ZBe.1 h)
   omega
  obtain⟨q,r,cl,dq,dr,lq,lr,vq,vr⟩:=qY (Xa A) (Xa B) dA (Q4 B) hB2 hBA hA;rw[vA,vB]at vq vr;have cq:=ofC q dq (by omega) (A/B) (by rw[vq];rfl);have cr:=ofC r dr (by omega) (A%B) (by rw[vr];rfl);have f2':((Xa B).length=1)=False:=R_ TED;refine Fq Tryz.call224 Tryz.func224 14 [] [] [] (by simp[KM]) (Xk ?_);simp(maxSteps:=999999)only[O_,↓X6,wA,seval,zA,wN];refine X2 c1 rfl ?_;simp only[↓X6,wA,seval,zA,wN];refine X2 c3 rfl ?_;simp only[TEs,f2',↓X6,wA,seval,zA,wN];refine⟨fun h=>absurd h (by omega),fun _=>X2 cl rfl ?_⟩;simp only[↓X6,wA,seval,zA,wN];refine X2 cq rfl ?_;simp only[↓X6,wA,seval,zA,wN];refine X2 cr rfl ?_;simp only[↓X6,wA,seval,zA,wN];exact ret (Xt Q5 rfl rfl rfl) (Xt Q5 rfl rfl rfl)
theorem My (x y:Int)(hy:y≠0)(q r:Nat)(h:q=x.natAbs / y.natAbs)(hr:r=x.natAbs % y.natAbs)(q1 r1:Nat)(h1:if x<0∧r≠0 then q1=q+1∧r1=y.natAbs-r else q1=q∧r1=r) :
  x/y=Zg (decide (x<0) != decide (y<0)) q1∧x%y=r1:=by
 have hya:0<y.natAbs:=by omega
 have e0:=Nat.mod_add_div x.natAbs y.natAbs;have e1:=ZAI x.natAbs hya;rw[←h,←hr]at e0;rw[←hr]at e1;have e0':(r:Int)+y.natAbs*q=x.natAbs:=by exact_mod_cast e0
 have key:x/(y.natAbs:Int)=Zg (decide (x<0)) q1∧x%(y.natAbs:Int)=r1:=by
  refine(Int.ediv_emod_unique (by omega)).2 ⟨?_,by omega,?_⟩
  ·unfold Zg
   by_cases hx:x<0
   ·rw[N_ (c_ hx)]
    by_cases hr0:r≠0
    ·rw[N_ ⟨hx,hr0⟩]at h1
     obtain⟨rfl,rfl⟩:=h1;have:((y.natAbs-r:Nat):Int)=y.natAbs-r:=by omega
     rw[this]
     push_cast
     rw[Int.mul_neg,ZDY];omega
    ·rw[M_ (fun hh=>hr0 hh.2)]at h1
     obtain⟨rfl,rfl⟩:=h1;rw[Int.mul_neg];omega
   ·rw[M_ (by simpa using hx)]
    rw[M_ (fun hh=>hx hh.1)]at h1;obtain⟨rfl,rfl⟩:=h1;omega
  ·split at h1 <;> omega
 by_cases hy0:y<0
 ·have ey:(y.natAbs:Int) = -y:=by omega
  rw[ey,Int.ediv_neg,Int.emod_neg]at key;refine⟨?_,key.2⟩;have:=key.1;have e2:x/y = -Zg (decide (x<0)) q1:=by omega
  rw[e2];unfold Zg;rw[c_ hy0];by_cases hx:x<0 <;> simp[hx]
 ·have ey:(y.natAbs:Int)=y:=by omega
  rw[ey]at key;refine⟨?_,key.2⟩;rw[key.1,Z_ hy0];cases decide (x<0) <;> rfl
theorem sW (neg:Bool)(u:Nat):zA (Zg neg u)=.agg [.bool (neg && decide (u≠0)),X9 (Xa u)]:=by
 rw[o8 neg (by omega),U'];congr 3;simp
theorem jF (x y:Int)(hx:bl x<1000000000)(hy:bl y<1000000000)(hy0:y≠0):Fn Tryz.prog 185 [zA x,zA y] (.tup [zA (x/y),zA (x%y)]):=by
 have cd:=Oy x.natAbs y.natAbs hx hy (by omega);obtain⟨q,hq⟩:∃q,q=x.natAbs/y.natAbs:=⟨_,rfl⟩
 obtain⟨r,hr⟩:∃r,r=x.natAbs%y.natAbs:=⟨_,rfl⟩
 have hry:r<y.natAbs:=by rw[hr];exact ZAI _ (by omega)
 have hqx:q≤x.natAbs:=by rw[hq];exact ZDa _ _
 rw[←hq,←hr,Jb,Jb]at cd;have lq:(Xa q).length<1000000000:=by
  have:=Jm (y:=(q:Int)) (z:=x);rw[KC]at this;omega
 have lr:(Xa r).length<1000000000:=by
  have:=Jm (y:=(r:Int)) (z:=y);rw[KC]at this;omega
 have ly:(Xa y.natAbs).length<1000000000:=hy;have lry:(Xa r).length≤(Xa y.natAbs).length:=by
  have:=Jm (y:=(r:Int)) (z:=y);rw[KC]at this;exact this
 have ofC:∀L:List Int,JO L→L.length<1000000002→∀z:Nat,val L=z→Fn Tryz.prog 182 [.bool false,X9 L] (.agg [.bool false,X9 (Xa z)]):=fun L h1 h2 z h3=>by
  have:=W7 false L h1;rw[h3]at this;rw[←Jb];exact this
 have y1:((Xa y.natAbs).length=0)=False:=R_ (fun h=>by have:=TAA.1 h;omega);have y2:(((Xa y.natAbs).length:Int)=0)=False:=R_ (fun h=>by have:=TAA.1 (show(Xa y.natAbs).length=0 by omega);omega);obtain⟨q1,r1,h1⟩:∃q1 r1,if x<0∧r≠0 then q1=q+1∧r1=y.natAbs-r else q1=q∧r1=r:=by
  by_cases h:x<0∧r≠0
  ·exact⟨q+1,y.natAbs-r,by rw[N_ h];exact⟨rfl,rfl⟩⟩
  ·exact⟨q,r,by rw[M_ h];exact⟨rfl,rfl⟩⟩
 obtain⟨e1,e2⟩:=My x y hy0 q r hq hr q1 r1 h1;obtain⟨Q,hQ⟩:∃Q,Q=zA (x/y):=⟨_,rfl⟩
 obtain⟨R,hR⟩:∃R,R=zA (x%y):=⟨_,rfl⟩
 have sQ:A_ Q:=hQ▸XS _;have sR:A_ R:=hR▸XS _;rw[←hQ,←hR];rw[e1,sW]at hQ;rw[e2,Jb]at hR;have fin:∀ {s:AS} {t:Bool},t=((decide (x<0) != decide (y<0)) && decide (q1≠0))→A8 Tryz.prog s (.cell 4 26)=some (.agg [.bool t,X9 (Xa q1)])→A8 Tryz.prog s (.cell 5 26)=some (.agg [.bool false,X9 (Xa r1)]) →
   TAC (JK Tryz.prog Tryz.f185 [8,9000,90000007] [] (.tup [Q,R])) s:=fun ht h1 h2=>FK rfl h1 h2 (XY sQ (by rw[hQ,ht])) (XY sR hR.symm)
 have g1:∀n:Nat,(0<(Xa n).length)=(n≠0):=fun n=>propext (by have:=@TAA n;omega)
 by_cases hc:x<0∧r≠0
 ·obtain⟨hx0,hr0⟩:=hc
  rw[N_ ⟨hx0,hr0⟩]at h1;obtain⟨rfl,rfl⟩:=h1;obtain⟨L,l1,l2,l3,l4⟩:=ah (Xa q) [1] (XW q) (ZD.2 ⟨by unfold Qi;omega,CP⟩) (by omega) (by simp);obtain⟨M,m1,m2,m3,m4⟩:=N1 (Xa y.natAbs) (Xa r) (XW _) (XW _) (by omega) lry (by rw[XJ,XJ];omega);have c2:=ofC L l1 (by simp at l3;omega) (q+1) (by rw[l2,XJ];simp[val]);have c3:=ofC M m1 (by omega) (y.natAbs-r) (by rw[m2,XJ,XJ];omega);have f1:(x<0)=True:=L' hx0;have f2:(0<(Xa r).length)=True:=L' (by rw[g1];exact hr0);have f3:(0<((Xa r).length:Int))=True:=L' (by have:=of_eq_true f2;omega);have f4:(0<(Xa (q+1)).length)=True:=L' (by rw[g1];omega);have f5:(0<((Xa (q+1)).length:Int))=True:=L' (by have:=of_eq_true f4;omega);refine Fq Tryz.call185 Tryz.func185 8 [] [8,9000,90000007] [] (by simp[KM]) (Xk ?_);simp(maxSteps:=999999)only[O_,↓X6,wA,seval,zA,wN];simp only[y1,y2,f1,f2,f3,f4,f5,↓X6,wA,seval,zA,wN];refine X2 cd rfl ?_;simp only[y1,y2,f1,f2,f3,f4,f5,↓X6,wA,seval,zA,wN];refine X0 l4 ⟨U_ _,Cr rfl rfl,trivial⟩ ?_;simp only[y1,y2,f1,f2,f3,f4,f5,↓X6,wA,seval,zA,wN];refine X2 c2 rfl ?_;simp only[y1,y2,f1,f2,f3,f4,f5,↓X6,wA,seval,zA,wN];refine X2 m4 rfl ?_;simp only[y1,y2,f1,f2,f3,f4,f5,↓X6,wA,seval,zA,wN];refine X2 c3 rfl ?_;simp only[y1,y2,f1,f2,f3,f4,f5,↓X6,wA,seval,zA,wN];refine Qs (fun h=>fin ?_ (Xt Q5 rfl rfl rfl) (Xt Q5 rfl rfl rfl)) (fun h=>fin ?_ (Xt Q5 rfl rfl rfl) (Xt Q5 rfl rfl rfl))
  ·have:decide (y<0)=false:=by simpa using h
   simp[hx0,this]
  ·have:decide (y<0)=true:=by simpa using h
   simp[hx0,this]
 rw[M_ hc]at h1;obtain⟨rfl,rfl⟩:=h1;have zr:∀h:x<0,(0<(Xa r1).length)=False:=fun h=>R_ (by rw[g1];exact fun h2=>hc ⟨h,h2⟩)
 by_cases hx0:x<0
 ·have f1:(x<0)=True:=L' hx0
  have f2:=zr hx0;have f3:(0<((Xa r1).length:Int))=False:=R_ (by have:=of_eq_false f2;omega);by_cases hq0:q1≠0
  ·have f4:(0<(Xa q1).length)=True:=L' (by rw[g1];exact hq0)
   have f5:(0<((Xa q1).length:Int))=True:=L' (by have:=of_eq_true f4;omega);refine Fq Tryz.call185 Tryz.func185 8 [] [8,9000,90000007] [] (by simp[KM]) (Xk ?_);simp(maxSteps:=999999)only[O_,↓X6,wA,seval,zA,wN];simp only[y1,y2,f1,f2,f3,f4,f5,↓X6,wA,seval,zA,wN];refine X2 cd rfl ?_;simp only[y1,y2,f1,f2,f3,f4,f5,↓X6,wA,seval,zA,wN];refine Qs (fun h=>fin ?_ (Xt Q5 rfl rfl rfl) (Xt Q5 rfl rfl rfl)) (fun h=>fin ?_ (Xt Q5 rfl rfl rfl) (Xt Q5 rfl rfl rfl)) <;> simpa [hx0,hq0]using h
  ·have f4:(0<(Xa q1).length)=False:=R_ (by rw[g1];exact hq0)
   have f5:(0<((Xa q1).length:Int))=False:=R_ (by have:=of_eq_false f4;omega);refine Fq Tryz.call185 Tryz.func185 8 [] [8,9000,90000007] [] (by simp[KM]) (Xk ?_);simp(maxSteps:=999999)only[O_,↓X6,wA,seval,zA,wN];simp only[y1,y2,f1,f2,f3,f4,f5,↓X6,wA,seval,zA,wN];refine X2 cd rfl ?_;simp only[y1,y2,f1,f2,f3,f4,f5,↓X6,wA,seval,zA,wN];refine Qs (fun h=>fin ?_ (Xt Q5 rfl rfl rfl) (Xt Q5 rfl rfl rfl)) (fun h=>fin ?_ (Xt Q5 rfl rfl rfl) (Xt Q5 rfl rfl rfl)) <;> simp[hq0]
 ·have f1:(x<0)=False:=R_ hx0
  have f2:True=True:=rfl;have f3:True=True:=rfl;by_cases hq0:q1≠0
  ·have f4:(0<(Xa q1).length)=True:=L' (by rw[g1];exact hq0)
   have f5:(0<((Xa q1).length:Int))=True:=L' (by have:=of_eq_true f4;omega);refine Fq Tryz.call185 Tryz.func185 8 [] [8,9000,90000007] [] (by simp[KM]) (Xk ?_);simp(maxSteps:=999999)only[O_,↓X6,wA,seval,zA,wN];simp only[y1,y2,f1,f2,f3,f4,f5,↓X6,wA,seval,zA,wN];refine X2 cd rfl ?_;simp only[y1,y2,f1,f2,f3,f4,f5,↓X6,wA,seval,zA,wN];refine Qs (fun h=>fin ?_ (Xt Q5 rfl rfl rfl) (Xt Q5 rfl rfl rfl)) (fun h=>fin ?_ (Xt Q5 rfl rfl rfl) (Xt Q5 rfl rfl rfl)) <;> simpa [hx0,hq0]using h
  ·have f4:(0<(Xa q1).length)=False:=R_ (by rw[g1];exact hq0)
   have f5:(0<((Xa q1).length:Int))=False:=R_ (by have:=of_eq_false f4;omega);refine Fq Tryz.call185 Tryz.func185 8 [] [8,9000,90000007] [] (by simp[KM]) (Xk ?_);simp(maxSteps:=999999)only[O_,↓X6,wA,seval,zA,wN];simp only[y1,y2,f1,f2,f3,f4,f5,↓X6,wA,seval,zA,wN];refine X2 cd rfl ?_;simp only[y1,y2,f1,f2,f3,f4,f5,↓X6,wA,seval,zA,wN];refine Qs (fun h=>fin ?_ (Xt Q5 rfl rfl rfl) (Xt Q5 rfl rfl rfl)) (fun h=>fin ?_ (Xt Q5 rfl rfl rfl) (Xt Q5 rfl rfl rfl)) <;> simp[hq0]
def Bb (x y:Int)(p:Nat×Nat):AS :=
  ⟨13,[],[zA x,zA y,.ref 0 0 0,.ref 1 0 0,.ref 2 0 0,.ref 3 0 0,.ref 4 0 0,.any,.any,.any,.any,.any,.any],[],
    [.con 0 2 (Xf [.bool (decide (x<0)),X9 (Xa x.natAbs)]),.con 0 2 (Xf [.bool (decide (y<0)),X9 (Xa y.natAbs)]),.row 0 2 (Xf [.bool false,.sl 0 0 (fun _=>.any) true]),
     .row 0 2 (Xf [.bool false,X9 (Xa p.1)]),.row 0 2 (Xf [.bool false,X9 (Xa p.2)])]⟩
def qS (x y:Int)(p:Nat×Nat):Prop:=Nat.gcd p.1 p.2=ZAn x y∧(Xa p.1).length<1000000000∧(Xa p.2).length<1000000000
theorem kT (x y:Int)(hx:bl x<1000000000)(hy:bl y<1000000000):Fn Tryz.prog 183 [zA x,zA y] (zA (ZAn x y)):=by
  have ofC:∀n:Nat,(Xa n).length<1000000002→Fn Tryz.prog 182 [.bool false,X9 (Xa n)] (.agg [.bool false,X9 (Xa n)]):=fun n h=>by
    have:=W7 false (Xa n) (XW n);rw[XJ]at this;rw[←Jb];exact this
  unfold bl at hx hy;have cx:=ofC x.natAbs (by omega);have cy:=ofC y.natAbs (by omega);obtain⟨R,hR⟩:∃R,R=zA (ZAn x y):=⟨_,rfl⟩
  have sR:A_ R:=hR▸XS _;rw[←hR];rw[Jb]at hR;refine Fq Tryz.call183 Tryz.func183 13 [] [1,20000002,20000003,10,11000,110000012] [] (by simp[KM]) (Xk ?_);simp(maxSteps:=999999)only[O_,↓X6,wA,seval,zA,wN];refine X2 cx rfl ?_;simp only[↓X6,wA,seval,zA,wN];refine X2 cy rfl ?_;simp only[↓X6,wA,seval,zA,wN];refine Xj (Bb x y) (qS x y) (fun p=>p.2) (x.natAbs,y.natAbs) ⟨rfl,hx,hy⟩ ?_ ?_
  · unfold Bb;exact(ZZ (by simp[zA,wN,Xo,X9,Dq,CN,QG,I]) rfl)
  rintro⟨A,B⟩ ⟨g1,g2,g3⟩ next
  simp only at g1 g2 g3;by_cases hB:B=0
  · have f1:(0<(Xa B).length)=False:=R_ (by have:=@TAA B;omega);have f2:(0<((Xa B).length:Int))=False:=R_ (by have:=@TAA B;omega);refine Xk ?_;simp only[Bb,f1,f2,↓X6,wA,seval,zA,wN];refine Ql rfl Q5 rfl rfl rfl hR sR ?_;rw[hB,ZC4]at g1;rw[←g1];exact⟨U_ _,U_ _,trivial⟩
  have f1:(0<(Xa B).length)=True:=L' (by have:=@TAA B;omega);have f2:(0<((Xa B).length:Int))=True:=L' (by have:=@TAA B;omega);have c1:=RO _ (XW A);have c2:=RO _ (XW B);rw[XJ]at c1 c2;by_cases hAB:(Xa A).length≤2∧(Xa B).length≤2
  · have k1:((Xa A).length≤2)=True:=L' hAB.1;have k2:((Xa B).length≤2)=True:=L' hAB.2;simp only[k1,decide_true,ite_true]at c1;simp only[k2,decide_true,ite_true]at c2;have l1:=AD hAB.1;have l2:=AD hAB.2;refine Xk ?_;simp only[Bb,f1,f2,↓X6,wA,seval,zA,wN];refine X2 c1 rfl ?_;simp only[↓X6,wA,seval,zA,wN];refine X2 c2 rfl ?_;simp only[↓X6,wA,seval,zA,wN];refine Xj (fun p:Nat×Nat=>⟨13,[],[zA x,zA y,.ref 0 0 0,.ref 1 0 0,.ref 2 0 0,.ref 3 0 0,.ref 4 0 0,I p.1,.any,I p.2,.any,.any,.any],[],
      [.con 0 2 (Xf [.bool (decide (x<0)),X9 (Xa x.natAbs)]),.con 0 2 (Xf [.bool (decide (y<0)),X9 (Xa y.natAbs)]),.row 0 2 (Xf [.bool false,.sl 0 0 (fun _=>.any) true]),
       .row 0 2 (Xf [.bool false,X9 (Xa A)]),.row 0 2 (Xf [.bool false,X9 (Xa B)])]⟩) (fun p=>Nat.gcd p.1 p.2=ZAn x y∧(p.1:Int)<1000000000000000000∧(p.2:Int)<1000000000000000000) (fun p=>p.2) (A,B) ⟨g1,l1,l2⟩ (ZZ (by simp[zA,wN,Xo,X9,Dq,CN,QG,I]) rfl) ?_
    rintro⟨m,n⟩ ⟨h1,h2,h3⟩ TAT;simp only at h1 h2 h3;by_cases hn:n=0
    · have j1:(0<(n:Int))=False:=R_ (by omega);have j1':(0<n)=False:=R_ (by omega);have hm:m=ZAn x y:=by rw[hn,ZC4]at h1;exact h1
      have w1:ZAq.wrap (m:Int)=m:=by rw[ZAi];omega
      have cu:Fn Tryz.prog 181 [.bool false,.int .u64 (m:Int)] (.agg [.bool false,X9 (Xa m)]):=by
        rw[←Jb];exact ZQ false _
      refine Xk ?_;simp only[j1,j1',w1,↓X6,wA,seval,zA,wN];refine X2 cu rfl ?_;simp only[↓X6,wA,seval,zA,wN];refine Ql rfl Q5 rfl rfl rfl hR sR ?_;rw[←hm];exact⟨U_ _,U_ _,trivial⟩
    · have j1:(0<(n:Int))=True:=L' (by omega);have j1':(0<n)=True:=L' (by omega);have j2:((n:Int)=0)=False:=R_ (by omega);have e2:(m:Int).tmod n=((m%n:Nat):Int):=rfl;have hlt:m%n<n:=ZAI _ (by omega);refine Xk ?_;simp only[j1,j1',j2,e2,↓X6,wA,seval,zA,wN];refine TAT (n,m%n) _ ⟨?_,h3,by simp only;omega⟩ hlt (ZZ (by simp[zA,wN,Xo,X9,Dq,CN,QG,I]) rfl);simp only;rw[←h1,ZBn m n,Nat.gcd_rec n m,ZBn]
  · have cd:=Oy A B g2 g3 hB;rw[Jb,Jb]at cd;have hlt:A%B<B:=ZAI _ (by omega);have TDB:qS x y (B,A%B):=by
      refine⟨?_,g3,?_⟩
      · simp only;rw[←g1,ZBn A B,Nat.gcd_rec B A,ZBn]
      · have:=Jm (y:=((A%B:Nat):Int)) (z:=(B:Int));rw[KC,KC]at this;simp only;omega
    by_cases hA2:(Xa A).length≤2
    · have k1:((Xa A).length≤2)=True:=L' hA2;have k2:((Xa B).length≤2)=False:=R_ fun h=>hAB ⟨hA2,h⟩
      refine Xk ?_;simp only[Bb,f1,f2,k1,k2,↓X6,wA,seval,zA,wN];refine X2 c1 rfl ?_;simp only[k1,k2,↓X6,wA,seval,zA,wN];refine X2 c2 rfl ?_;simp only[k1,k2,↓X6,wA,seval,zA,wN];refine X2 cd rfl ?_;simp only[k1,k2,↓X6,wA,seval,zA,wN];exact next (B,A%B) _ TDB hlt (XG (m:=5) (p_ _) rfl (by simp[zA,wN,Bb,Xo,X9,QG,I]) (by simp[zA,wN,Bb,Xx]) (by simp[zA,wN,Bb,X9,QG,I]) (by simp[zA,wN,Bb,XP]) (by simp[zA,wN,Bb,XP]) (by simp[zA,wN,Bb,XP]))
    · have k1:((Xa A).length≤2)=False:=R_ hA2;refine Xk ?_;simp only[Bb,f1,f2,k1,↓X6,wA,seval,zA,wN];refine X2 c1 rfl ?_;simp only[k1,↓X6,wA,seval,zA,wN];refine X2 c2 rfl ?_;simp only[k1,↓X6,wA,seval,zA,wN];refine X2 cd rfl ?_;simp only[k1,↓X6,wA,seval,zA,wN];exact next (B,A%B) _ TDB hlt (XG (m:=5) (p_ _) rfl (by simp[zA,wN,Bb,Xo,X9,QG,I]) (by simp[zA,wN,Bb,Xx]) (by simp[zA,wN,Bb,X9,QG,I]) (by simp[zA,wN,Bb,XP]) (by simp[zA,wN,Bb,XP]) (by simp[zA,wN,Bb,XP]))
def MN (p:Int→Bool)(s:List Int):Int:=if s.any p=true then(s.findIdx p:Nat)else -1
theorem MP {p:Int→Bool}{s:List Int}{j:Nat}(hj:j<s.length)(h:p (s.getD j 0)=true) (hno:∀i,i<j→p (s.getD i 0)=false):MN p s=j:=by
 have at_:∀i (hi:i<s.length),s.getD i 0=s[i]:=fun i hi=>by rw[K',V' hi];rfl
 have e:s.findIdx p=j:=by
  rw[List.findIdx_eq hj];exact⟨by rw[←at_ j hj];exact h,fun i hi=>by rw[←at_ i (by omega)];exact hno i hi⟩
 unfold MN;rw[N_ (ZCA.2 ⟨_,H5 hj,h⟩),e]
theorem In {p:Int→Bool}{s:List Int}(hno:∀i,i<s.length→p (s.getD i 0)=false):MN p s = -1:=by
 unfold MN;rw[M_];intro h;obtain⟨x,hx,hp⟩:=ZCA.1 h;obtain⟨i,hi,rfl⟩:=ZAT hx;have:=hno i hi;rw[K',V' hi]at this;simp only[ZBK]at this;rw[this]at hp;cases hp
theorem Td (p:Int→Bool)(s:List Int):decide (0≤MN p s)=s.any p:=by
 unfold MN;cases h:s.any p
 ·simp
 ·rw[N_ rfl];exact c_ (by omega)
theorem dU (s:List Int)(f:FuncId)(G_:List AV)(p:Int→Bool)(hl:s.length<4611686018427387904)(hc:∀ a∈G_,A_ a)(hp:∀x∈s,Fn Tryz.prog f ([I x] ++ G_) (.bool (p x))) :
  Fn Tryz.prog 251 [X9 s,.fn f G_] (I (MN p s)):=by
 refine q_ (fn:=Tryz.f251) Tryz.call251 Tryz.func251 rfl mixed 6 [6,7,8] [] [] (by kernel_rfl) (K_ rfl) (by simpa [Xd]using Kg hc) (Xk ?_);simp only[O_,↓X6,wA,seval,zA,wN];refine Xj (fun j:Nat=>⟨6,[6,7,8],[X9 s,.fn f G_,.any,.any,.any,.any],[(6,X9 s),(7,I s.length),(8,I j)],[]⟩) (fun j=>j≤s.length∧∀i,i<j→p (s.getD i 0)=false) (fun j=>s.length-j) 0 ⟨by omega,by omega⟩
  (Xh rfl (by simp[Xo,X9,QG,I]) (by simp[Xx,XM,X9,QG,I]) rfl) ?_
 rintro j ⟨hj,hno⟩ next
 have w1:=wj j;refine Xk ?_;simp only[w1,↓X6,wA,seval,zA,wN];refine⟨fun h=>⟨h,h,?_⟩,fun h=>Xn (v:=I (-1)) rfl rfl (X8 _) ?_⟩
 ·refine X0 (hp _ (H5 h)) (X1 _) ?_
  simp only[w1,↓X6,wA,seval,zA,wN];refine Qs (fun ht=>Xn (v:=I j) rfl rfl (X8 _) ?_) (fun hf=>next (j+1) _ ⟨by omega,fun i hi=>?_⟩ (by omega) (Xh rfl ?_ ?_ rfl))
  ·rw[MP h ht hno]
  ·by_cases e:i=j
   ·rw[e];exact hf
   ·exact hno i (by omega)
  ·simp[Xo,X9,QG,I]
  ·simp[Xx,XM,X9,QG,I]
 ·rw[In fun i hi=>hno i (by omega)]
theorem R4 (s:List Int)(f:FuncId)(G_:List AV)(p:Int→Bool)(hl:s.length<4611686018427387904)(hc:∀ a∈G_,A_ a)(hp:∀x∈s,Fn Tryz.prog f ([I x] ++ G_) (.bool (p x))) :
  Fn Tryz.prog 234 [X9 s,.fn f G_] (.bool (s.any p)):=by
 refine q_ (fn:=Tryz.f234) Tryz.call234 Tryz.func234 rfl mixed 5 [] [] [] (by kernel_rfl) (K_ rfl) (by simpa [Xd]using Kg hc) (Xk ?_);simp only[O_,↓X6,wA,seval,zA,wN];have hi:=Td p s;refine X2 (dU s f G_ p hl hc hp) rfl ?_;simp only[↓X6,wA,seval,zA,wN];exact Xn (v:=.bool (decide (0≤MN p s))) rfl rfl (X5 _) (by rw[Td])
def zR (neg:Bool)(d:List Int):AV:=.agg [.bool neg,X9 d]
theorem Xi (neg:Bool)(d:List Int):A_ (zR neg d):=XE (by simp[Xd,X5])
def GI (x:Int):Bool:=decide (x<0) || decide (1000000000≤x)
def KV (neg:Bool)(d:List Int):Bool:=!(d.any GI) && (if d.length=0 then !neg else decide (d.getD (d.length-1) 0≠0))
theorem ZR (neg:Bool)(d:List Int):KV neg d=true↔∃z:Int,neg=decide (z<0)∧d=Xa z.natAbs:=by
 have hd:(!(d.any GI))=true↔JO d:=by
  simp only[ZDW,List.any_eq_false,GI,Bool.or_eq_true,decide_eq_true_eq,not_or];unfold JO Qi;constructor
  ·intro h x hx
   have:=h x hx;omega
  ·intro h x hx
   have:=h x hx;omega
 unfold KV;rw[x_,hd];constructor
 ·rintro⟨h1,h2⟩
  by_cases h0:d.length=0
  ·rw[N_ h0]at h2
   obtain rfl:=ZBe.1 h0;exact⟨0,by simpa using h2,by simp[Qu]⟩
  ·rw[M_ h0]at h2
   have hc:AP d:=⟨h1,fun _=>by simpa using h2⟩
   have hne:d≠[]:=fun e=>h0 (by rw[e];rfl)
   have hp:0<val d:=by
    have:=Dl hc hne;have:=JP (d.length-1);omega
   refine⟨Zg neg (val d),?_,?_⟩
   ·unfold Zg;cases neg
    ·simp;omega
    ·simp;omega
   ·rw[show(Zg neg (val d)).natAbs=(val d).toNat by unfold Zg;split <;> omega]
    exact(BC hc).symm
 ·rintro⟨z,rfl,rfl⟩
  refine⟨XW _,?_⟩;by_cases h0:(Xa z.natAbs).length=0
  ·rw[N_ h0]
   have:=TAA.1 h0;simp;omega
  ·rw[M_ h0]
   exact c_ ((Q4 z.natAbs).2 fun e=>h0 (by rw[e];rfl))
theorem gr (x:Int):Fn Tryz.prog 235 [I x] (.bool (GI x)):=by
 refine Fq Tryz.call235 Tryz.func235 3 [] [] [] (by simp[KM]) (Xk ?_);simp(maxSteps:=999999)only[O_,↓X6,wA,seval,zA,wN];unfold GI;refine⟨fun h=>Xn rfl rfl (X5 _) ?_,fun h=>Xn rfl rfl (X5 _) ?_⟩ <;> simp[AS.get,h]
theorem OK (neg:Bool)(d:List Int)(hl:d.length<4611686018427387904):Fn Tryz.prog 210 [zR neg d] (.bool (KV neg d)):=by
 have c1:Fn Tryz.prog 234 [X9 d,.fn 235 []] (.bool (d.any GI)):=R4 d _ [] GI hl (by simp) fun x _=>gr x
 obtain⟨V,hV⟩:∃V,V=KV neg d:=⟨_,rfl⟩
 rw[←hV];unfold KV at hV;have fin:∀ {s:AS} {v:Bool},s.get 2=.bool v→v=V→TAC (JK Tryz.prog Tryz.f210 [] [] (.bool V)) s:=fun h e=>Xn rfl h (X5 _) (by rw[e])
 by_cases h0:d.length=0
 ·have f1:(d.length=0)=True:=L' h0
  have f2:((d.length:Int)=0)=True:=L' (by omega);have f3:(0<d.length)=False:=R_ (by omega);have f4:(0<(d.length:Int))=False:=R_ (by omega);rw[N_ h0]at hV;refine Fq Tryz.call210 Tryz.func210 3 [] [] [] (by simp[Xi]) (Xk ?_);simp only[O_,zR,f1,f2,f3,f4,↓X6,wA,seval,zA,wN];refine X2 c1 rfl ?_;cases neg
  all_goals
   simp only[f1,f2,f3,f4,↓X6,wA,seval,zA,wN];refine Qs (fun h=>fin rfl ?_) (fun h=>fin rfl ?_)
   all_goals rw[hV,h];rfl
 ·have f1:(d.length=0)=False:=R_ h0
  have f2:((d.length:Int)=0)=False:=R_ (by omega);have f3:(0<d.length)=True:=L' (by omega);have f4:(0<(d.length:Int))=True:=L' (by omega);have w1:Q_.wrap ((d.length:Int)-1)=((d.length-1:Nat):Int):=by rw[M'];omega
  have f5:(d.length-1<d.length)=True:=L' (by omega);rw[M_ h0]at hV;refine Fq Tryz.call210 Tryz.func210 3 [] [] [] (by simp[Xi]) (Xk ?_);simp only[O_,zR,f1,f2,f3,f4,w1,f5,U',↓X6,wA,seval,zA,wN];refine X2 c1 rfl ?_;simp only[f1,f2,f3,f4,w1,f5,U',↓X6,wA,seval,zA,wN];refine Qs (fun h=>fin rfl ?_) (fun h=>fin rfl ?_)
  all_goals rw[hV,h];simp
theorem aT (neg:Bool)(d:List Int):Fn Tryz.prog 184 [zR neg d] (.bool (!neg && decide (d=[1]))):=by
 have TA9:(d=[1])↔d.length=1∧d.getD 0 0=1:=by
  constructor
  ·rintro rfl;exact⟨rfl,rfl⟩
  ·rintro⟨h1,h2⟩
   obtain⟨x,rfl⟩:=ZBl.1 h1;rw[show x=1 from h2]
 obtain⟨V,hV⟩:∃V,V=(!neg && decide (d=[1])):=⟨_,rfl⟩
 rw[←hV];have fin:∀ {s:AS} {v:Bool},s.get 2=.bool v→v=V→TAC (JK Tryz.prog Tryz.f184 [] [] (.bool V)) s:=fun h e=>Xn rfl h (X5 _) (by rw[e])
 by_cases h0:d.length=1
 ·have f1:(d.length=1)=True:=L' h0
  have f2:((d.length:Int)=1)=True:=L' (by omega);have f3:(0<d.length)=True:=L' (by omega);have f4:(0<(d.length:Int))=True:=L' (by omega);refine Fq Tryz.call184 Tryz.func184 3 [] [] [] (by simp[Xi]) (Xk ?_);cases neg
  all_goals
   simp only[O_,zR,f1,f2,f3,f4,↓X6,wA,seval,zA,wN];exact fin rfl (by rw[hV];simp[TA9,h0])
 ·have f1:(d.length=1)=False:=R_ h0
  have f2:((d.length:Int)=1)=False:=R_ (by omega);have hne:¬d=[1]:=fun h=>h0 (TA9.1 h).1
  refine Fq Tryz.call184 Tryz.func184 3 [] [] [] (by simp[Xi]) (Xk ?_);cases neg
  all_goals
   simp only[O_,zR,f1,f2,↓X6,wA,seval,zA,wN];exact fin rfl (by rw[hV];simp[hne])
theorem RP (z:Int):(!(decide (z<0)) && decide (Xa z.natAbs=[1]))=decide (z=1):=by
 have h1:Xa z.natAbs=[1]↔z.natAbs=1:=by
  constructor
  ·intro h
   have:=XJ z.natAbs;rw[h]at this;simp[val]at this;omega
  ·intro h;rw[h,GV];rfl
 by_cases h:z<0
 ·simp[h];omega
 ·simp only[h,decide_false,Bool.not_false,ZBt,decide_eq_decide,h1];omega
theorem HU (z:Int):Fn Tryz.prog 184 [zA z] (.bool (decide (z=1))):=by
 have:=aT (decide (z<0)) (Xa z.natAbs);rw[RP]at this;exact this
theorem W8:Fn Tryz.prog 186 [] (zA 1):=by
 refine Fq Tryz.call186 Tryz.func186 1 [] [] [] (by simp[KM]) (Xk ?_);simp(maxSteps:=999999)only[O_,↓X6,wA,seval,zA,wN];refine X2 (Gr 1 ⟨by omega,by omega⟩) rfl ?_;simp only[↓X6,wA,seval,zA,wN];exact Ql rfl Q5 rfl rfl rfl rfl (XS _) ⟨U_ _,U_ _,trivial⟩
theorem IR (x y:Int)(hx:bl x<1000000000)(hy:bl y<1000000000):Fn Tryz.prog 111 [zA x,zA y] (I (x-y).sign):=by
 unfold bl at hx hy;have c1:=DT (Xa x.natAbs) (Xa y.natAbs) (Q4 _) (Q4 _);have c2:=DT (Xa y.natAbs) (Xa x.natAbs) (Q4 _) (Q4 _);rw[XJ,XJ]at c1 c2;obtain⟨V,hV⟩:∃V,V=(x-y).sign:=⟨_,rfl⟩
 rw[←hV];have fin:∀ {s:AS} {v:Int},s.get 4=I v→v=V→TAC (JK Tryz.prog Tryz.f111 [] [] (I V)) s:=fun h e=>Xn rfl h (X8 _) (by rw[e])
 by_cases h1:x<0 <;> by_cases h2:y<0
 ·have f1:(x<0)=True:=L' h1
  have f2:(y<0)=True:=L' h2;refine Fq Tryz.call111 Tryz.func111 5 [] [] [] (by simp[KM]) (Xk ?_);simp(maxSteps:=999999)only[O_,↓X6,wA,seval,zA,wN];simp only[f1,f2,↓X6,wA,seval,zA,wN];refine X2 c2 rfl ?_;simp only[↓X6,wA,seval,zA,wN];exact fin rfl (by rw[hV];congr 1;omega)
 ·have f1:(x<0)=True:=L' h1
  have f2:(y<0)=False:=R_ h2;refine Fq Tryz.call111 Tryz.func111 5 [] [] [] (by simp[KM]) (Xk ?_);simp(maxSteps:=999999)only[O_,↓X6,wA,seval,zA,wN];simp only[f1,f2,↓X6,wA,seval,zA,wN];exact fin rfl (by rw[hV,o_ (by omega)])
 ·have f1:(x<0)=False:=R_ h1
  have f2:(y<0)=True:=L' h2;refine Fq Tryz.call111 Tryz.func111 5 [] [] [] (by simp[KM]) (Xk ?_);simp(maxSteps:=999999)only[O_,↓X6,wA,seval,zA,wN];simp only[f1,f2,↓X6,wA,seval,zA,wN];exact fin rfl (by rw[hV,u_ (by omega)])
 ·have f1:(x<0)=False:=R_ h1
  have f2:(y<0)=False:=R_ h2;refine Fq Tryz.call111 Tryz.func111 5 [] [] [] (by simp[KM]) (Xk ?_);simp(maxSteps:=999999)only[O_,↓X6,wA,seval,zA,wN];simp only[f1,f2,↓X6,wA,seval,zA,wN];refine X2 c1 rfl ?_;simp only[↓X6,wA,seval,zA,wN];exact fin rfl (by rw[hV];congr 1;omega)
theorem Jf {P:Program}{fn:Func}{str hcs:List Nat}{r:AV}{s:AS}{t u id ver n:Nat}{L:List AV}(hr:fn.results=#[.cell t u])(hk:Cy P u=some (some n)) (hs:s.get t=.ref id ver 0)
  (ho:s.h[id]?=some (.row ver n (Xf L))) (hn:L.length=n) (TAM:A_ r) (e:r=.agg L):TAC (JK P fn str hcs r) s:=Ql hr hk hs ho hn e TAM (X1 L)
theorem E6 (r:Rat):(Xa (qd r)).length=0↔r.den=1:=by
 rw[TAA];unfold qd;have:=r.den_nz
 split <;> omega
theorem Nc {r:Rat}(h:r.den=1):Xa (qd r)=[]:=by unfold qd;rw[N_ h,Qu]
theorem mw {r:Rat}(h:¬r.den=1):Xa (qd r)=Xa r.den:=by unfold qd;rw[M_ h]
theorem Nb {r:Rat}(h:r.den=1):qA r=.agg [.bool (decide (r.num<0)),X9 (Xa r.num.natAbs),.bool false,X9 []]:=by unfold qA qC;rw[Nc h]
theorem ap {r:Rat}(h:¬r.den=1):qA r=.agg [.bool (decide (r.num<0)),X9 (Xa r.num.natAbs),.bool false,X9 (Xa r.den)]:=by unfold qA qC;rw[mw h]
theorem rf (r:Rat):(Xa r.num.natAbs).length=0↔r=0:=by
 rw[TAA,←ZEJ];omega
theorem nZ (r:Rat):zA r.den=.agg [.bool false,X9 (Xa r.den)]:=Jb _
theorem DV (r:Rat):Fn Tryz.prog 104 [qA r] (zA r.den):=by
 obtain⟨R,hR⟩:∃R,R=zA r.den:=⟨_,rfl⟩
 have sR:A_ R:=hR▸XS _;rw[←hR];rw[nZ]at hR;by_cases h:r.den=1
 ·have f1:((Xa (qd r)).length=0)=True:=L' ((E6 r).2 h)
  have f2:(((Xa (qd r)).length:Int)=0)=True:=L' (by have:=(E6 r).2 h;omega);refine Fq Tryz.call104 Tryz.func104 3 [] [] [] (by simp[KM,Xb,Xi]) (Xk ?_);simp(maxSteps:=999999)only[O_,↓X6,wA,seval,zA,qA,qC,wN];simp only[f1,f2,↓X6,wA,seval,zA,qA,qC,wN];refine X2 W8 rfl ?_;simp only[↓X6,wA,seval,zA,qA,qC,wN];exact Jf rfl Q5 rfl rfl rfl sR (by rw[hR,h];rfl)
 ·have f1:((Xa (qd r)).length=0)=False:=R_ fun e=>h ((E6 r).1 e)
  have f2:(((Xa (qd r)).length:Int)=0)=False:=R_ fun e=>h ((E6 r).1 (by omega))
  refine Fq Tryz.call104 Tryz.func104 3 [] [] [] (by simp[KM,Xb,Xi]) (Xk ?_);simp(maxSteps:=999999)only[O_,↓X6,wA,seval,zA,qA,qC,wN];simp only[f1,f2,↓X6,wA,seval,zA,qA,qC,wN];exact Jf rfl Q5 rfl rfl rfl sR (by rw[hR,mw h];rfl)
theorem um {z:Int}(h:z<0):zA z=.agg [.bool true,X9 (Xa z.natAbs)]:=by unfold zA;rw[c_ h]
theorem aX {z:Int}(h:¬z<0):zA z=.agg [.bool false,X9 (Xa z.natAbs)]:=by unfold zA;rw[Z_ h]
theorem FD (p q:Int)(hq:q≠0)(hg:ZAn p q=1):Fn Tryz.prog 105 [zA p,zA q] (qA (P' p q)):=by
 obtain⟨e1,e2⟩:=Mx p q hq hg;obtain⟨R,hR⟩:∃R,R=qA (P' p q):=⟨_,rfl⟩
 have sR:A_ R:=hR▸Xb _;rw[←hR];have key:∀p' q':Int,p'=q.sign*p→q'=q.natAbs→(q'=1→R=.agg [.bool (decide (p'<0)),X9 (Xa p'.natAbs),.bool false,X9 []])∧(¬q'=1→R=.agg [.bool (decide (p'<0)),X9 (Xa p'.natAbs),.bool false,X9 (Xa q'.natAbs)]):=by
  intro p' q' hp' hq';constructor
  ·intro h
   rw[hR,Nb (by omega),e1,hp']
  ·intro h
   rw[hR,ap (by omega),e1,hp',e2,hq',ZAl]
 by_cases h:q<0
 ·have f1:(q<0)=True:=L' h
  obtain⟨k1,k2⟩:=key (-p) (-q) (by rw[o_ h];omega) (by omega);have cu:=HU (-q);have cn:=Rp q;rw[um h]at cn;have f5:decide (-q<0)=false:=Z_ (by omega);by_cases h1:-q=1
  ·simp only[h1,decide_true]at cu
   have hk:=k1 h1;refine Fq Tryz.call105 Tryz.func105 5 [] [] [] (by simp[KM,Xb,Xi]) (Xk ?_);simp(maxSteps:=999999)only[O_,↓X6,wA,seval,zA,qA,qC,wN];simp only[f1,↓X6,wA,seval,zA,qA,qC,wN];refine X2 (Rp p) rfl ?_;simp only[f1,↓X6,wA,seval,zA,qA,qC,wN];refine X2 cn rfl ?_;simp only[f1,h1,↓X6,wA,seval,zA,qA,qC,wN];refine X2 cu rfl ?_;simp only[↓X6,wA,seval,zA,qA,qC,wN];exact Ql rfl XT rfl rfl rfl hk sR ⟨U_ _,U_ _,U_ _,QI _ _,trivial⟩
  ·simp only[h1,decide_false]at cu
   have hk:=k2 h1;refine Fq Tryz.call105 Tryz.func105 5 [] [] [] (by simp[KM,Xb,Xi]) (Xk ?_);simp(maxSteps:=999999)only[O_,↓X6,wA,seval,zA,qA,qC,wN];simp only[f1,↓X6,wA,seval,zA,qA,qC,wN];refine X2 (Rp p) rfl ?_;simp only[f1,↓X6,wA,seval,zA,qA,qC,wN];refine X2 cn rfl ?_;simp only[f1,↓X6,wA,seval,zA,qA,qC,wN];refine X2 cu rfl ?_;simp only[↓X6,wA,seval,zA,qA,qC,wN];exact Jf rfl XT rfl rfl rfl sR (by rw[hk,f5];rfl)
 ·have f1:(q<0)=False:=R_ h
  obtain⟨k1,k2⟩:=key p q (by rw[u_ (by omega)];omega) (by omega);have cu:=HU q;rw[aX h]at cu;by_cases h1:q=1
  ·simp only[h1,decide_true]at cu
   have hk:=k1 h1;subst h1;refine Fq Tryz.call105 Tryz.func105 5 [] [] [] (by simp[KM,Xb,Xi]) (Xk ?_);simp(maxSteps:=999999)only[O_,↓X6,wA,seval,zA,qA,qC,wN]
   try simp only[f1,↓X6,wA,seval,zA,qA,qC,wN]
   refine X2 cu rfl ?_;simp only[↓X6,wA,seval,zA,qA,qC,wN];exact Ql rfl XT rfl rfl rfl hk sR ⟨U_ _,U_ _,U_ _,QI _ _,trivial⟩
  ·simp only[h1,decide_false]at cu
   have hk:=k2 h1;refine Fq Tryz.call105 Tryz.func105 5 [] [] [] (by simp[KM,Xb,Xi]) (Xk ?_);simp(maxSteps:=999999)only[O_,↓X6,wA,seval,zA,qA,qC,wN];simp only[f1,↓X6,wA,seval,zA,qA,qC,wN];refine X2 cu rfl ?_;simp only[f1,↓X6,wA,seval,zA,qA,qC,wN];exact Jf rfl XT rfl rfl rfl sR (by rw[hk];rfl)
theorem Rx:qA 0=.agg [.bool false,X9 [],.bool false,X9 []]:=by
 rw[Nb (by rfl)];simp[Qu]
theorem LG (p q:Int)(hp:bl p<1000000000:=by omega)(hq:bl q<1000000000:=by omega):Fn Tryz.prog 103 [zA p,zA q] (qA (P' p q)):=by
 obtain⟨R,hR⟩:∃R,R=qA (P' p q):=⟨_,rfl⟩
 have sR:A_ R:=hR▸Xb _;have zp:((Xa p.natAbs).length=0)=(p=0):=propext (TAA.trans (by omega));have zq:((Xa q.natAbs).length=0)=(q=0):=propext (TAA.trans (by omega));have z0:p=0∨q=0→R=.agg [.bool false,X9 [],.bool false,X9 []]:=by
  intro h;rw[hR,←Rx];rcases h with rfl |rfl
  ·rw[Rat.zero_divInt]
  ·rw[ZEV]
 rw[←hR];by_cases hq0:q=0
 ·have f1:(q=0)=True:=L' hq0
  have f2:(((Xa q.natAbs).length:Int)=0)=True:=L' (by have h:(Xa q.natAbs).length=0:=(by rw[zq];assumption);omega);refine Fq Tryz.call103 Tryz.func103 6 [] [] [] (by simp[KM,Xb,Xi]) (Xk ?_);simp(maxSteps:=999999)only[O_,↓X6,wA,seval,zA,qA,qC,wN];simp only[zq,f1,f2,↓X6,wA,seval,zA,qA,qC,wN];exact Ql rfl XT rfl rfl rfl (z0 (.inr hq0)) sR ⟨U_ _,QI _ _,U_ _,QI _ _,trivial⟩
 have f1:(q=0)=False:=R_ hq0;have f2:(((Xa q.natAbs).length:Int)=0)=False:=R_ (fun e=>hq0 (by rw[←zq];omega));by_cases hp0:p=0
 ·have f3:(p=0)=True:=L' hp0
  have f4:(((Xa p.natAbs).length:Int)=0)=True:=L' (by have h:(Xa p.natAbs).length=0:=(by rw[zp];assumption);omega);refine Fq Tryz.call103 Tryz.func103 6 [] [] [] (by simp[KM,Xb,Xi]) (Xk ?_);simp(maxSteps:=999999)only[O_,↓X6,wA,seval,zA,qA,qC,wN];simp only[zp,zq,f1,f2,f3,f4,↓X6,wA,seval,zA,qA,qC,wN];exact Ql rfl XT rfl rfl rfl (z0 (.inl hp0)) sR ⟨U_ _,QI _ _,U_ _,QI _ _,trivial⟩
 have f3:(p=0)=False:=R_ hp0;have f4:(((Xa p.natAbs).length:Int)=0)=False:=R_ (fun e=>hp0 (by rw[←zp];omega));have cg:=kT p q hp hq;have cu:=HU (ZAn p q);obtain⟨g,hg⟩:∃g:Int,g=ZAn p q:=⟨_,rfl⟩
 have hg0:0<ZAn p q:=ZDG _ hq0;have hgq:bl g≤bl q:=Jm (by
  have:=Nat.le_of_dvd (by omega) (Int.gcd_dvd_natAbs_right p q);omega)
 rw[←hg]at cg cu;by_cases h1:g=1
 ·have cl:=FD p q hq0 (by omega)
  rw[hR];rw[h1]at cg cu;simp only[decide_true]at cu;obtain⟨R',hR'⟩:∃R',R'=qA (P' p q):=⟨_,rfl⟩
  rw[←hR']at cl ⊢;have sR':A_ R':=hR'▸Xb _;refine Fq Tryz.call103 Tryz.func103 6 [] [] [] (by simp[KM,Xb,Xi]) (Xk ?_);simp(maxSteps:=999999)only[O_,↓X6,wA,seval,zA,qA,qC,wN];simp only[zp,zq,f1,f2,f3,f4,↓X6,wA,seval,zA,qA,qC,wN];refine X2 cg rfl ?_;simp only[↓X6,wA,seval,zA,qA,qC,wN];refine X2 cu rfl ?_;simp only[↓X6,wA,seval,zA,qA,qC,wN];refine X2 cl rfl ?_;simp only[hR',↓X6,wA,seval,zA,qA,qC,wN];exact Jf rfl XT rfl rfl rfl sR' (hR'.trans rfl)
 ·obtain⟨d1,d2,d3⟩:=Es p q hq0 g hg
  have cl:=FD (p/g) (q/g) d3 d2;rw[d1,←hR]at cl;simp only[h1,decide_false]at cu;have c1:=jF p g hp (by omega) (by omega);have c2:=jF q g hq (by omega) (by omega);refine Fq Tryz.call103 Tryz.func103 6 [] [] [] (by simp[KM,Xb,Xi]) (Xk ?_);simp(maxSteps:=999999)only[O_,↓X6,wA,seval,zA,qA,qC,wN];simp only[zp,zq,f1,f2,f3,f4,↓X6,wA,seval,zA,qA,qC,wN];refine X2 cg rfl ?_;simp only[↓X6,wA,seval,zA,qA,qC,wN];refine X2 cu rfl ?_;simp only[↓X6,wA,seval,zA,qA,qC,wN];refine X2 c1 rfl ?_;simp only[↓X6,wA,seval,zA,qA,qC,wN];refine X2 c2 rfl ?_;simp only[↓X6,wA,seval,zA,qA,qC,wN];refine X2 cl rfl ?_;simp only[hR,↓X6,wA,seval,zA,qA,qC,wN];exact Jf rfl XT rfl rfl rfl sR (hR.trans rfl)
theorem Aa {n:Int}(h:Ap n):bl n≤3:=GL (by unfold Ap at h;simp only[pw];omega)
theorem D9 (p q:Int)(hp:Ap p)(hq:Ap q):Fn Tryz.prog 114 [I p,I q] (qA (P' p q)):=by
 obtain⟨R,hR⟩:∃R,R=qA (P' p q):=⟨_,rfl⟩
 have sR:A_ R:=hR▸Xb _;have cm:=LG p q (by have:=Aa hp;omega) (by have:=Aa hq;omega);rw[←hR]at cm ⊢;refine Fq Tryz.call114 Tryz.func114 5 [] [] [] (by simp[KM,Xb,Xi]) (Xk ?_);simp(maxSteps:=999999)only[O_,↓X6,wA,seval,zA,qA,qC,wN];refine X2 (Gr p hp) rfl ?_;simp only[↓X6,wA,seval,zA,qA,qC,wN];refine X2 (Gr q hq) rfl ?_;simp only[↓X6,wA,seval,zA,qA,qC,wN];refine X2 cm rfl ?_;simp only[hR,↓X6,wA,seval,zA,qA,qC,wN];exact Jf rfl XT rfl rfl rfl sR (hR.trans rfl)
theorem Qv (r:Rat):Fn Tryz.prog 110 [qA r] (I r.num.sign):=by
 refine Fq Tryz.call110 Tryz.func110 3 [] [] [] (by simp[KM,Xb,Xi]) (Xk ?_);simp(maxSteps:=999999)only[O_,↓X6,wA,seval,zA,qA,qC,wN];refine X2 (rS r.num) rfl ?_;simp only[↓X6,wA,seval,zA,qA,qC,wN];exact Xn rfl rfl (X8 _) rfl
theorem Zd (r:Rat):Fn Tryz.prog 133 [qA r] (qA (-r)):=by
 obtain⟨R,hR⟩:∃R,R=qA (-r):=⟨_,rfl⟩
 have sR:A_ R:=hR▸Xb _;have e:R=.agg [.bool (decide (-r.num<0)),X9 (Xa (-r.num).natAbs),.bool false,X9 (Xa (qd r))]:=by rw[hR];rfl
 rw[←hR];refine Fq Tryz.call133 Tryz.func133 3 [] [] [] (by simp[KM,Xb,Xi]) (Xk ?_);simp(maxSteps:=999999)only[O_,↓X6,wA,seval,zA,qA,qC,wN];refine X2 (Rp r.num) rfl ?_;simp only[↓X6,wA,seval,zA,qA,qC,wN];exact Jf rfl XT rfl rfl rfl sR (e.trans rfl)
def rm:Nat:=100000000
theorem LP {a:Rat}(h:a.den=1):a=((a.num:Int):Rat):=Rat.ext (by rw[ZCX]) (by rw[h,ZCY])
theorem oY {a b:Rat}(ha:a.den=1)(hb:b.den=1):(a+b).num=a.num+b.num∧(a+b).den=1:=by
 rw[LP ha,LP hb,←Rat.intCast_add];exact⟨ZCX _,ZCY _⟩
theorem r9 {a b:Rat}(ha:a.den=1)(hb:b.den=1):(a*b).num=a.num*b.num∧(a*b).den=1:=by
 rw[LP ha,LP hb,←Rat.intCast_mul];exact⟨ZCX _,ZCY _⟩
theorem LO (r:Rat):(((Xa (qd r)).length:Int)=0)=(r.den=1):=propext (by rw[←E6];omega)
theorem EU (r:Rat):(((Xa r.num.natAbs).length:Int)=0)=(r=0):=propext (by rw[←rf];omega)
theorem Cf (a b:Rat)(ha:qb a≤rm:=by unfold rm;omega)(hb:qb b≤rm:=by unfold rm;omega):Fn Tryz.prog 40 [qA a,qA b] (qA (a+b)):=by
 unfold rm at ha hb;have a1:=Jy a;have a2:=JZ a;have b1:=Jy b;have b2:=JZ b;obtain⟨R,hR⟩:∃R,R=qA (a+b):=⟨_,rfl⟩
 have sR:A_ R:=hR▸Xb _;have la:=LO a;have lb:=LO b;have na:=EU a;have nb:=EU b;rw[←hR];by_cases hi:a.den=1∧b.den=1
 ·have f1:(a.den=1)=True:=L' hi.1
  have f2:(b.den=1)=True:=L' hi.2;obtain⟨e1,e2⟩:=oY hi.1 hi.2;have hR':=hR.trans (Nb e2);rw[e1]at hR';refine Fq Tryz.call40 Tryz.func40 7 [] [7,80000002,80000003] [] (by simp[KM,Xb,Xi]) (Xk ?_);simp(maxSteps:=999999)only[O_,↓X6,wA,seval,zA,qA,qC,wN];simp only[la,lb,f1,f2,↓X6,wA,seval,zA,qA,qC,wN];refine X2 (iG a.num b.num) rfl ?_;simp only[↓X6,wA,seval,zA,qA,qC,wN];exact Ql rfl XT rfl rfl rfl hR' sR ⟨U_ _,U_ _,U_ _,QI _ _,trivial⟩
 have hnn:(a.den:Int)*b.den≠0:=Int.mul_ne_zero (by have:=a.den_nz;omega) (by have:=b.den_nz;omega);have e0:a+b=P' (a.num*b.den+b.num*a.den) (a.den*b.den):=by
  rw[Rat.add_def',Z8];push_cast;rfl
 have m1:=JV a.num b.den;have m2:=JV b.num a.den;have m3:=JV a.den b.den;have m4:=Vp (a.num*b.den) (b.num*a.den);have cA:=DV a;have cB:=DV b;have c1:=ET a.num b.den;have c2:=ET b.num a.den;have c3:=iG (a.num*b.den) (b.num*a.den);have c4:=ET a.den b.den;have c5:=LG (a.num*b.den+b.num*a.den) (a.den*b.den);rw[←e0,←hR]at c5;by_cases f:a.den=1
 ·have f1:(a.den=1)=True:=L' f
  have f2:(b.den=1)=False:=R_ fun e=>hi ⟨f,e⟩
  by_cases ha0:a=0
  ·have g1:(a=0)=True:=L' ha0
   have hR':R=qA b:=by rw[hR,ha0,Rat.zero_add]
   refine Fq Tryz.call40 Tryz.func40 7 [] [7,80000002,80000003] [] (by simp[KM,Xb,Xi]) (Xk ?_);simp(maxSteps:=999999)only[O_,↓X6,wA,seval,zA,qA,qC,wN];simp only[la,lb,na,nb,f1,f2,g1,↓X6,wA,seval,zA,qA,qC,wN];exact Jf rfl XT rfl rfl rfl sR (hR'.trans rfl)
  have g1:(a=0)=False:=R_ ha0;by_cases hb0:b=0
  ·have g2:(b=0)=True:=L' hb0
   have hR':R=qA a:=by rw[hR,hb0,Rat.add_zero]
   refine Fq Tryz.call40 Tryz.func40 7 [] [7,80000002,80000003] [] (by simp[KM,Xb,Xi]) (Xk ?_);simp(maxSteps:=999999)only[O_,↓X6,wA,seval,zA,qA,qC,wN];simp only[la,lb,na,nb,f1,f2,g1,g2,↓X6,wA,seval,zA,qA,qC,wN];exact Jf rfl XT rfl rfl rfl sR (hR'.trans rfl)
  have g2:(b=0)=False:=R_ hb0;refine Fq Tryz.call40 Tryz.func40 7 [] [7,80000002,80000003] [] (by simp[KM,Xb,Xi]) (Xk ?_);simp(maxSteps:=999999)only[O_,↓X6,wA,seval,zA,qA,qC,wN];simp only[la,lb,na,nb,f1,f2,g1,g2,↓X6,wA,seval,zA,qA,qC,wN];refine X2 cA rfl ?_;simp only[↓X6,wA,seval,zA,qA,qC,wN];refine X2 cB rfl ?_;simp only[↓X6,wA,seval,zA,qA,qC,wN];refine X2 c1 rfl ?_;simp only[↓X6,wA,seval,zA,qA,qC,wN];refine X2 c2 rfl ?_;simp only[↓X6,wA,seval,zA,qA,qC,wN];refine X2 c3 rfl ?_;simp only[↓X6,wA,seval,zA,qA,qC,wN];refine X2 c4 rfl ?_;simp only[↓X6,wA,seval,zA,qA,qC,wN];refine X2 c5 rfl ?_;simp only[hR,↓X6,wA,seval,zA,qA,qC,wN];exact Jf rfl XT rfl rfl rfl sR (hR.trans rfl)
 ·have f1:(a.den=1)=False:=R_ f
  have f2:True=True:=rfl;by_cases ha0:a=0
  ·have g1:(a=0)=True:=L' ha0
   have hR':R=qA b:=by rw[hR,ha0,Rat.zero_add]
   refine Fq Tryz.call40 Tryz.func40 7 [] [7,80000002,80000003] [] (by simp[KM,Xb,Xi]) (Xk ?_);simp(maxSteps:=999999)only[O_,↓X6,wA,seval,zA,qA,qC,wN];simp only[la,lb,na,nb,f1,f2,g1,↓X6,wA,seval,zA,qA,qC,wN];exact Jf rfl XT rfl rfl rfl sR (hR'.trans rfl)
  have g1:(a=0)=False:=R_ ha0;by_cases hb0:b=0
  ·have g2:(b=0)=True:=L' hb0
   have hR':R=qA a:=by rw[hR,hb0,Rat.add_zero]
   refine Fq Tryz.call40 Tryz.func40 7 [] [7,80000002,80000003] [] (by simp[KM,Xb,Xi]) (Xk ?_);simp(maxSteps:=999999)only[O_,↓X6,wA,seval,zA,qA,qC,wN];simp only[la,lb,na,nb,f1,f2,g1,g2,↓X6,wA,seval,zA,qA,qC,wN];exact Jf rfl XT rfl rfl rfl sR (hR'.trans rfl)
  have g2:(b=0)=False:=R_ hb0;refine Fq Tryz.call40 Tryz.func40 7 [] [7,80000002,80000003] [] (by simp[KM,Xb,Xi]) (Xk ?_);simp(maxSteps:=999999)only[O_,↓X6,wA,seval,zA,qA,qC,wN];simp only[la,lb,na,nb,f1,f2,g1,g2,↓X6,wA,seval,zA,qA,qC,wN];refine X2 cA rfl ?_;simp only[↓X6,wA,seval,zA,qA,qC,wN];refine X2 cB rfl ?_;simp only[↓X6,wA,seval,zA,qA,qC,wN];refine X2 c1 rfl ?_;simp only[↓X6,wA,seval,zA,qA,qC,wN];refine X2 c2 rfl ?_;simp only[↓X6,wA,seval,zA,qA,qC,wN];refine X2 c3 rfl ?_;simp only[↓X6,wA,seval,zA,qA,qC,wN];refine X2 c4 rfl ?_;simp only[↓X6,wA,seval,zA,qA,qC,wN];refine X2 c5 rfl ?_;simp only[hR,↓X6,wA,seval,zA,qA,qC,wN];exact Jf rfl XT rfl rfl rfl sR (hR.trans rfl)
end
end Go.Ab.N
