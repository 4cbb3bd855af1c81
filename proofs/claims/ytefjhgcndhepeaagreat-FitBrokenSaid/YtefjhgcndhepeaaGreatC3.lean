/- Contracts of functions of these chapters, for every argument that fits, and what they need. -/
import Derived.Test.YtefjhgcndhepeaaGreatC2
set_option linter.unusedSimpArgs false
set_option linter.unusedVariables false
open Nat renaming reducePow → Y1, reduceLT → Y2, reduceLeDiff → Y3, reduceEqDiff → Y4, reduceAdd → Y5, reduceMul → Y6, reduceSub → Y7, reduceBEq → Y8, reduceDiv → Y9, reduceMod → YA
namespace Go.Ab.N
open Go Go.RowKit Go.Proofs
noncomputable section
set_option maxRecDepth 10000
set_option pp.maxSteps 60000
set_option maxHeartbeats 2000000
open Classical
def q8 (x:Int) (n:Nat):List Int:=X8 x.toNat ++ List.replicate (n - (X8 x.toNat).length) 0
theorem I1 {x:Int} (h:0≤x) (n:Nat):val (q8 x n)=x:=by
 unfold q8
 rw [OY,Eb,Xw]; omega
theorem HY (x:Int) (n:Nat):Jh (q8 x n):=HT.2 ⟨XF _,MP _⟩
theorem HZ {x:Int} {n:Nat} (h:0≤x) (h2:x<pw n):(q8 x n).length=n:=by
 have:=D4 (n:=x.toNat) (k:=n) (by omega)
 simp [q8]; omega
def Bv (a b v:List Int) (s:Int) (m:Nat) (p:List Int×List Int×Nat):AS :=
 ⟨22,[117,118,172,173],[X4 a,X4 b,.any,.any,.sl 0 0 (fun _=>.any) true,.sl 0 0 (fun _=>.any) true,I s,.osl 0 0 1 0 (a.length+1),X4 v,I b.length,.osl 1 0 1 0 m,I ((p.2.2:Int) - 1),.any,.any,.any,.any,.any,.any,.any,.any,.any,.any],
  [],[.row 0 (a.length+1) (Qb I 0 p.1),.row 0 m (Qb I 0 p.2.1)]⟩
theorem nH (a b:List Int) (ha:Jh a) (hb:Zq b) (hn:2≤b.length) (hab:b.length≤a.length) (la:a.length<1000000000) :
  ∃ q r,Fn Tryz.prog 254 [X4 a,X4 b] (.tup [X4 q,X4 r])∧Jh q∧Jh r∧q.length≤a.length∧r.length≤b.length∧val q=val a / val b∧val r=val a % val b:=by
 have hne:b≠[]:=fun e=>by rw [e] at hn; simp at hn
 have t0:=hb.2 hne
 have t1:=Jq hb.1 (b.length - 1)
 unfold XW at t1
 obtain ⟨s,hs⟩:∃ s,s=1000000000 / (b.getD (b.length - 1) 0+1):=⟨_,rfl⟩
 obtain ⟨s1,s2,s3,s4,s5,s6,s7⟩:=Uk hb hn hs
 have ds:XW s:=⟨by omega,by omega⟩
 obtain ⟨v,hv⟩:∃ v,v=(J4 b s).take b.length:=⟨_,rfl⟩
 rw [← hv] at s3 s4 s5 s6
 obtain ⟨m,hm⟩:∃ m,m=a.length - b.length+1:=⟨_,rfl⟩
 have hbeg:=Uj (v:=v) ha hb hn hab hm s1 s2 s3 s7
 have c1:=UP a s ha ds (by omega)
 have c2:=cJ b s hb.1 ds (by omega)
 have w0:IntKind.i64.wrap ((b.length:Int) - 1)=((b.length - 1:Nat):Int):=by rw [IntKind.wrap_i64]; omega
 have w1:IntKind.i64.wrap (b.getD (b.length - 1) 0+1)=b.getD (b.length - 1) 0+1:=by rw [IntKind.wrap_i64]; omega
 have w2:IntKind.i64.wrap (Int.tdiv 1000000000 (b.getD (b.length - 1) 0+1))=s:=by
  rw [Int.tdiv_eq_ediv_of_nonneg (by omega),← hs,IntKind.wrap_i64]; omega
 have w3:(b.getD (b.length - 1) 0+1=0)=False:=eq_false (by omega)
 have w4:(b.length - 1<b.length)=True:=eq_true (by omega)
 have w5:IntKind.i64.wrap ((a.length:Int) - b.length)=((m:Nat):Int) - 1:=by rw [IntKind.wrap_i64]; omega
 have w6:IntKind.i64.wrap ((m:Int) - 1+1)=(m:Int):=by rw [IntKind.wrap_i64]; omega
 have hvn:=KY s4
 rw [s5] at hvn
 have key:∀ Q R:AV,Settled Q→Settled R→(∀ u q:List Int,longI (val a*s) v b.length m u q 0→Q=X4 q∧R=X4 (A4 (Zy (u.take b.length) s) (u.take b.length).length))→Fn Tryz.prog 254 [X4 a,X4 b] (.tup [Q,R]):=by
  intro Q R sQ sR hQR
  refine Fq Tryz.call254 Tryz.func254 22 [117,118,172,173] [] [2] (by simp [X6]) (Xj ?_)
  simp (maxSteps:=999999) only [AS.start,w0,w1,w2,w3,w4,Int.toNat_natCast,↓X1,wA,seval,zA,wN]
  refine KK rfl c1 (QU (by simp) (by simp)) (by simp) ⟨Weak.rfl' _,Weak.rfl' _,trivial⟩ ?_
  simp (maxSteps:=999999) only [w0,w1,w2,w3,w4,Int.toNat_natCast,↓X1,wA,seval,zA,wN]
  refine X0 c2 rfl ?_
  simp (maxSteps:=999999) only [w0,w1,w2,w3,w4,w5,w6,B5,Int.toNat_natCast,↓X1,wA,seval,zA,wN]
  refine ⟨by omega,⟨by omega,by omega⟩,?_⟩
  refine Xd (Bv a b v s m) (fun p=>longI (val a*s) v b.length m p.1 p.2.1 p.2.2) (fun p=>p.2.2) (J4 a s,List.replicate m 0,m) hbeg ?_ ?_
  ·refine (Jn 1 m (Qb I 0 (List.replicate m 0)) rfl (Nat.le_refl _) ?_).trans ?_
   ·intro j hj
    rw [K7]
    simp [List.getD_eq_getElem?_getD,List.getElem?_replicate,hj,I]
   have hwk:Weak (.sl ((b.length:Int) - 0).toNat (min ((b.length:Int) - 0).toNat (b.length+1)) (fun j=>.int .i64 ((J4 b s).getD j 0)) false) (X4 v):=G7 v (by omega) (by omega) fun j hj=>by
    rw [hv,AA _ _ _ _ (by omega)]; rfl
   refine (SL 8 (X4 v) ?_ ?_).trans (Xg rfl ?_ ?_ ?_)
   ·simp
   ·exact hwk
   ·simp [Bv,Xf,X4,Qn,I]
   ·simp [Bv,Xm]
   ·rfl
  rintro ⟨u,q,k⟩ hI next
  have hI':=hI
  simp only at hI'
  cases k with
  | zero =>
   obtain ⟨hQ,hR⟩:=hQR u q hI'
   obtain ⟨z1,z2,z3⟩:=RA ha hb.1 hI' s1 s3 hvn
   have hul:=hI'.hu
   have hql:=hI'.hq
   have cs:=SD (u.take b.length) s z3 ds (by omega) (by rw [List.length_take]; omega)
   have e1:((0:Int)≤0 - 1)=False:=eq_false (by omega)
   have hfr:Sub (QS Tryz.prog Tryz.f254 [] [2] (.tup [Q,R])).base (Bv a b v s m (u,q,0))
     ⟨22,[117,118,172,173],[X4 a,X4 b,.any,.any,.sl 0 0 (fun _=>.any) true,.sl 0 0 (fun _=>.any) true,I s,X4 u,X4 v,I b.length,.osl 1 0 1 0 m,I (((0:Nat):Int) - 1),.any,.any,.any,.any,.any,.any,.any,.any,.any,.any],
     [],[.con 0 u.length (Qb I 0 u),.row 0 m (Qb I 0 q)]⟩:=by
    unfold Bv
    rw [show a.length+1=u.length by omega]
    exact CA 0 7 rfl rfl (by simp)
   refine Run.sub ?_ hfr
   refine Xj ?_
   simp (maxSteps:=999999) only [e1,Int.toNat_natCast,↓X1,wA,seval,zA,wN]
   have hwk:Weak (.sl ((b.length:Int) - 0).toNat (min ((b.length:Int) - 0).toNat u.length) (fun j=>.int .i64 (u.getD j 0)) false) (X4 (u.take b.length)):=G7 (u.take b.length) (by rw [List.length_take]; omega) (by rw [List.length_take]; omega) fun j hj=>by
    rw [List.length_take] at hj
    rw [AA _ _ _ _ (by omega)]; rfl
   rw [← hR] at cs
   refine ⟨by omega,Qm cs ⟨hwk,Weak.rfl' _,trivial⟩ ?_⟩
   simp (maxSteps:=999999) only [↓X1,wA,seval,zA,wN]
   refine jv rfl (B6 ⟨?_,QE sR rfl,trivial⟩)
   rw [hQ]
   exact ZU X9 rfl rfl hql.symm rfl (by omega)
  | succ j =>
   have hj:j+1≤m:=hI'.hk
   have hul:=hI'.hu
   have hql:=hI'.hq
   have hwin:=aY hI' s4 hn s5 s6
   obtain ⟨z,wp0,wp1,wp2,wp3,wp4,_,_⟩:=RB hI' s4 hn s5 s6
   have du0:=Jq hI'.du (j+b.length)
   have du1:=Jq hI'.du (j+b.length - 1)
   have du2:=Jq hI'.du (j+b.length - 2)
   have dv1:=Jq s4 (b.length - 1)
   have dv2:=Jq s4 (b.length - 2)
   unfold XW at du0 du1 du2 dv1 dv2
   have e1:((j+1:Nat):Int) - 1=(j:Int):=by omega
   have e2:((0:Int)≤(j:Int))=True:=eq_true (by omega)
   have f1:IntKind.i64.wrap ((j:Int)+b.length)=((j+b.length:Nat):Int):=by rw [IntKind.wrap_i64]; omega
   have f2:IntKind.i64.wrap (((j+b.length:Nat):Int) - 1)=((j+b.length - 1:Nat):Int):=by rw [IntKind.wrap_i64]; omega
   have f4:IntKind.i64.wrap ((b.length:Int) - 2)=((b.length - 2:Nat):Int):=by rw [IntKind.wrap_i64]; omega
   have f5:IntKind.i64.wrap (((j+b.length:Nat):Int) - 2)=((j+b.length - 2:Nat):Int):=by rw [IntKind.wrap_i64]; omega
   have i1:(j+b.length<a.length+1)=True:=eq_true (by omega)
   have i2:(j+b.length+1≤a.length+1)=True:=eq_true (by omega)
   have i3:(j+b.length - 1<a.length+1)=True:=eq_true (by omega)
   have i4:(j+b.length - 1+1≤a.length+1)=True:=eq_true (by omega)
   have i5:(j+b.length - 2<a.length+1)=True:=eq_true (by omega)
   have i6:(j+b.length - 2+1≤a.length+1)=True:=eq_true (by omega)
   have i7:(b.length - 1<v.length)=True:=eq_true (by omega)
   have i8:(b.length - 2<v.length)=True:=eq_true (by omega)
   have q1:IntKind.i64.wrap (u.getD (j+b.length) 0*1000000000)=u.getD (j+b.length) 0*1000000000:=by rw [IntKind.wrap_i64]; omega
   have q2:IntKind.i64.wrap (u.getD (j+b.length) 0*1000000000+u.getD (j+b.length - 1) 0)=u.getD (j+b.length) 0*1000000000+u.getD (j+b.length - 1) 0:=by rw [IntKind.wrap_i64]; omega
   have ht0:0≤u.getD (j+b.length) 0*1000000000+u.getD (j+b.length - 1) 0:=by omega
   have hg0:=Ri hwin
   have q3:IntKind.i64.wrap ((u.getD (j+b.length) 0*1000000000+u.getD (j+b.length - 1) 0).tdiv (v.getD (b.length - 1) 0))=(u.getD (j+b.length) 0*1000000000+u.getD (j+b.length - 1) 0) / (v.getD (b.length - 1) 0):=by
    have h1:=hg0.g0
    have h2:=hg0.g1
    rw [Int.tdiv_eq_ediv_of_nonneg ht0,IntKind.wrap_i64]; omega
   have q4:(u.getD (j+b.length) 0*1000000000+u.getD (j+b.length - 1) 0).tmod (v.getD (b.length - 1) 0)=(u.getD (j+b.length) 0*1000000000+u.getD (j+b.length - 1) 0) % (v.getD (b.length - 1) 0):=Int.tmod_eq_emod_of_nonneg ht0
   have q5:(v.getD (b.length - 1) 0=0)=False:=eq_false (by omega)
   refine Xj ?_
   simp (maxSteps:=999999) only [Bv,e1,e2,f1,f2,f4,f5,w0,i1,i2,i3,i4,i5,i6,i7,i8,q1,q2,q3,q4,q5,Int.toNat_natCast,↓X1,wA,seval,zA,wN]
   generalize htop:u.getD (j+b.length) 0*1000000000+u.getD (j+b.length - 1) 0=top at *
   refine Xd (fun p:Int×Int=>⟨22,[117,118,172,173],[X4 a,X4 b,.any,.any,.sl 0 0 (fun _=>.any) true,.sl 0 0 (fun _=>.any) true,I s,.osl 0 0 1 0 (a.length+1),X4 v,I b.length,.osl 1 0 1 0 m,I j,.any,I p.1,I p.2,.any,.any,.any,.any,.any,.any,.any],
    [],[.row 0 (a.length+1) (Qb I 0 u),.row 0 m (Qb I 0 q)]⟩) (fun p=>guessI (val (u.drop j)) (val v) top (v.getD (b.length - 1) 0) p.1 p.2) (fun p=>p.1.toNat) (top / v.getD (b.length - 1) 0,top % v.getD (b.length - 1) 0) hg0
    (Kq (by simp [Xf,X4,Qn,I]) rfl) ?_
   rintro ⟨g,r⟩ hg next2
   simp only at hg
   have g0:=hg.g0
   have g1:=hg.g1
   have r0:=hg.r0
   have r1:=hg.r1
   have m0:0≤g*v.getD (b.length - 2) 0:=Int.mul_nonneg g0 dv2.1
   have m1:g*v.getD (b.length - 2) 0≤1000000001*v.getD (b.length - 2) 0:=Int.mul_le_mul_of_nonneg_right g1 dv2.1
   have k1:IntKind.i64.wrap (g*v.getD (b.length - 2) 0)=g*v.getD (b.length - 2) 0:=by rw [IntKind.wrap_i64]; omega
   have k2:IntKind.i64.wrap (r*1000000000)=r*1000000000:=by rw [IntKind.wrap_i64]; omega
   have k3:IntKind.i64.wrap (r*1000000000+u.getD (j+b.length - 2) 0)=r*1000000000+u.getD (j+b.length - 2) 0:=by rw [IntKind.wrap_i64]; omega
   have k4:IntKind.i64.wrap (g - 1)=g - 1:=by rw [IntKind.wrap_i64]; omega
   have k5:IntKind.i64.wrap (r+v.getD (b.length - 1) 0)=r+v.getD (b.length - 1) 0:=by rw [IntKind.wrap_i64]; omega
   refine Xj ?_
   simp (maxSteps:=999999) only [e1,e2,f1,f2,f4,f5,w0,i1,i2,i3,i4,i5,i6,i7,i8,k1,k2,k3,k4,k5,Int.toNat_natCast,↓X1,wA,seval,zA,wN]
   generalize hF:(WZ (QS Tryz.prog Tryz.f254 [] [2] (.tup [Q,R])) _ Tag.mk)=F
   suffices fin:∀ G RR:Int,ia (val (u.drop j)) (val v) G→F ⟨22,[117,118,172,173],[.sl a.length a.length (Qb I 0 a) false,.sl b.length b.length (Qb I 0 b) false,.any,.any,.sl 0 0 (fun _=>.any) true,.sl 0 0 (fun _=>.any) true,.int .i64 s,.osl 0 0 1 0 (a.length+1),.sl v.length v.length (Qb I 0 v) false,.int .i64 b.length,.osl 1 0 1 0 m,.int .i64 j,.any,.int .i64 G,.int .i64 RR,.int .i64 0,.any,.any,.any,.any,.any,.any],
     [(118,.int .i64 0),(117,.int .i64 b.length)],[.row 0 (a.length+1) (Qb I 0 u),.row 0 m (Qb I 0 q)]⟩ by
    have gd:∀ g' r',guessI (val (u.drop j)) (val v) top (v.getD (b.length - 1) 0) g' r'→g'=g - 1→r'=r+v.getD (b.length - 1) 0→val (u.drop j)<g*val v→g'.toNat<g.toNat:=fun g' r' _ e _ hl=>by
     have:=Gr hwin hg wp0 hl
     omega
    refine ⟨fun b1=>?_,fun b1=>⟨fun b2=>?_,fun b2=>fin _ _ (Uf hwin hg b1 (by omega))⟩⟩
    ·have hl:=IQ hwin hg (.inl b1)
     refine ⟨fun b3=>fin _ _ (H9 hwin hg wp0 hl b3),fun b3=>?_⟩
     have hn2:=IR hwin hg wp0 hl b3
     exact next2 (g - 1,r+v.getD (b.length - 1) 0) _ hn2 (gd _ _ hn2 rfl rfl hl) (Kq (by simp [Xf,X4,Qn,I]) rfl)
    ·have hl:=IQ hwin hg (.inr b2)
     refine ⟨fun b3=>fin _ _ (H9 hwin hg wp0 hl b3),fun b3=>?_⟩
     have hn2:=IR hwin hg wp0 hl b3
     exact next2 (g - 1,r+v.getD (b.length - 1) 0) _ hn2 (gd _ _ hn2 rfl rfl hl) (Kq (by simp [Xf,X4,Qn,I]) rfl)
   clear next2 hg k1 k2 k3 k4 k5 m0 m1 g0 g1 r0 r1
   subst hF
   clear g r
   intro g r hgood
   obtain ⟨g0,g1,g2,g3⟩:=hgood
   have hsub0:UX u v g j b.length (u,0,0):=⟨Nat.zero_le _,rfl,hI'.du,Int.le_refl _,by simp,fun _ _=>rfl,by simp [val]⟩
   refine Xd (fun p:List Int×Int×Nat=>⟨22,[117,118,172,173],[X4 a,X4 b,.any,.any,.sl 0 0 (fun _=>.any) true,.sl 0 0 (fun _=>.any) true,I s,.osl 0 0 1 0 (a.length+1),X4 v,I b.length,.osl 1 0 1 0 m,I j,.any,I g,.any,I p.2.1,.any,.any,.any,.any,.any,.any],
    [(118,I p.2.2),(117,I b.length)],[.row 0 (a.length+1) (Qb I 0 p.1),.row 0 m (Qb I 0 q)]⟩) (UX u v g j b.length) (fun p=>b.length - p.2.2) (u,0,0) hsub0
    (Xg rfl (by simp [Xf,X4,Qn,I]) (by simp [Xm,Xq,X4,Qn,I]) rfl) ?_
   rintro ⟨u',c,i⟩ hs next3
   obtain ⟨j1,j2,j3,j4,j5,j6,j7⟩:=id hs
   simp only at j1 j2 j3 j4 j5 j6 j7
   by_cases hi:i<b.length
   ·obtain ⟨y0,y1,y2⟩:=cO (u:=u) (v:=v) (g:=g) (j:=j) (n:=b.length) s4 g0 g1 (by omega) (by omega) hi hs rfl
    have x1:=Jq j3 (i+j)
    have x2:=Q2 s4 i
    unfold XW at x1 x2
    have m0:0≤g*dg v i:=Int.mul_nonneg g0 x2.1
    have m1:g*dg v i≤1000000000*dg v i:=Int.mul_le_mul_of_nonneg_right g1 x2.1
    have wi:=wj i (by omega)
    have eV:v.getD i 0=dg v i:=rfl
    have n1:((i:Int)<b.length)=True:=eq_true (by omega)
    have n2:IntKind.i64.wrap ((i:Int)+j)=((i+j:Nat):Int):=by rw [IntKind.wrap_i64]; omega
    have n3:(i+j<a.length+1)=True:=eq_true (by omega)
    have n4:(i+j+1≤a.length+1)=True:=eq_true (by omega)
    have n5:(i<v.length)=True:=eq_true (by omega)
    have n6:(i<b.length)=True:=eq_true hi
    have k1:IntKind.i64.wrap (g*dg v i)=g*dg v i:=by rw [IntKind.wrap_i64]; omega
    have k2:IntKind.i64.wrap (u'.getD (i+j) 0 - g*dg v i)=u'.getD (i+j) 0 - g*dg v i:=by rw [IntKind.wrap_i64]; omega
    have k3:IntKind.i64.wrap (u'.getD (i+j) 0 - g*dg v i - c)=u'.getD (i+j) 0 - g*dg v i - c:=by rw [IntKind.wrap_i64]; omega
    have hU:∀ x:Int,C1 (Qb I 0 u') (i+j) (.int .i64 x)=Qb I 0 (u'.set (i+j) x):=fun x=>KS _ _ _ (by omega)
    generalize hw:u'.getD (i+j) 0 - g*dg v i - c=w at *
    have k4:IntKind.i64.wrap (0 - w) = -w:=by rw [IntKind.wrap_i64]; omega
    have k4':IntKind.i64.wrap (-w) = -w:=by rw [IntKind.wrap_i64]; omega
    have k5:IntKind.i64.wrap (-w+1000000000) = -w+1000000000:=by rw [IntKind.wrap_i64]; omega
    have k6:IntKind.i64.wrap (-w+1000000000 - 1) = -w+1000000000 - 1:=by rw [IntKind.wrap_i64]; omega
    have k8:IntKind.i64.wrap (-(w / 1000000000)*1000000000) = -(w / 1000000000)*1000000000:=by rw [IntKind.wrap_i64]; omega
    have k9:IntKind.i64.wrap (w + -(w / 1000000000)*1000000000)=w % 1000000000:=by rw [IntKind.wrap_i64]; omega
    by_cases hw0:w<0
    ·have k7:IntKind.i64.wrap ((-w+1000000000 - 1).tdiv 1000000000) = -(w / 1000000000):=by rw [Int.tdiv_eq_ediv_of_nonneg (by omega),IntKind.wrap_i64]; omega
     have hwT:(w<0)=True:=eq_true hw0
     refine Xj ?_
     simp (maxSteps:=999999) only [wi,eV,n1,n2,n3,n4,n5,n6,k1,k2,hw,k3,k4,k4',k5,k6,k7,k8,k9,hwT,hU,Int.toNat_natCast,Int.reduceEq,↓X1,wA,seval,zA,wN]
     exact next3 _ _ y2 (by simp only; omega) (Xg rfl (by simp [Xf,X4,Qn,I]) (by simp [Xm,Xq,X4,Qn,I]) rfl)
    ·have hwF:(w<0)=False:=eq_false hw0
     refine Xj ?_
     simp (maxSteps:=999999) only [wi,eV,n1,n2,n3,n4,n5,n6,k1,k2,hw,k3,hwF,hU,Int.toNat_natCast,Int.reduceEq,↓X1,wA,seval,zA,wN]
     have z1:w % 1000000000=w:=by omega
     have z2:-(w / 1000000000)=0:=by omega
     rw [z1,z2] at y2
     exact next3 _ _ y2 (by simp only; omega) (Xg rfl (by simp [Xf,X4,Qn,I]) (by simp [Xm,Xq,X4,Qn,I]) rfl)
   ·obtain rfl:i=b.length:=by omega
    have eT:u'.getD (j+b.length) 0=u.getD (j+b.length) 0:=j6 _ (.inr (Nat.le_refl _))
    have hU:∀ x:Int,C1 (Qb I 0 u') (j+b.length) (.int .i64 x)=Qb I 0 (u'.set (j+b.length) x):=fun x=>KS _ _ _ (by omega)
    have eS:∀ x:Int,(u'.set (j+b.length) x).getD (j+b.length) 0=x:=fun x=>by rw [Qt _ _ _ _ (by omega),if_pos rfl]
    have hQ1:∀ x:Int,C1 (Qb I 0 q) j (.int .i64 x)=Qb I 0 (q.set j x):=fun x=>KS _ _ _ (by omega)
    have n7:(j<m)=True:=eq_true (by omega)
    have n8:(j+1≤m)=True:=eq_true (by omega)
    have n9:((j:Int)<m)=True:=eq_true (by omega)
    have wj1:IntKind.i64.wrap ((j:Int) - 1)=(j:Int) - 1:=by rw [IntKind.wrap_i64]; omega
    have k1:IntKind.i64.wrap (u.getD (j+b.length) 0 - c)=u.getD (j+b.length) 0 - c:=by rw [IntKind.wrap_i64]; omega
    by_cases hx:u.getD (j+b.length) 0 - c<0
    ·have hxT:(u.getD (j+b.length) 0 - c<0)=True:=eq_true hx
     have k2:IntKind.i64.wrap (g - 1)=g - 1:=by rw [IntKind.wrap_i64]; omega
     refine Xj ?_
     simp (maxSteps:=999999) only [f1,i1,i2,eT,eS,hU,hQ1,n7,n8,n9,wj1,k1,k2,hxT,Int.toNat_natCast,Int.reduceEq,Int.lt_irrefl,Nat.lt_irrefl,↓X1,wA,seval,zA,wN]
     generalize hxx:u.getD (j+b.length) 0 - c=x at *
     have hadd0:ep (u'.set (j+b.length) x) v j b.length (u'.set (j+b.length) x,0,0):=by
      refine ⟨Nat.zero_le _,rfl,fun k hk=>?_,Int.le_refl _,by simp,fun _ _=>rfl,by simp [val]⟩
      simp only
      rw [Qt _ _ _ _ (by omega),if_neg hk]; exact Jq j3 k
     refine Xd (fun p:List Int×Int×Nat=>⟨22,[117,118,172,173],[X4 a,X4 b,.any,.any,.sl 0 0 (fun _=>.any) true,.sl 0 0 (fun _=>.any) true,I s,.osl 0 0 1 0 (a.length+1),X4 v,I b.length,.osl 1 0 1 0 m,I j,.any,I (g - 1),.any,I p.2.1,.any,.any,.any,.any,.any,.any],
      [(173,I p.2.2),(172,I b.length)],[.row 0 (a.length+1) (Qb I 0 p.1),.row 0 m (Qb I 0 q)]⟩) (ep (u'.set (j+b.length) x) v j b.length) (fun p=>b.length - p.2.2) (u'.set (j+b.length) x,0,0) hadd0
      (Xg rfl (by simp [Xf,X4,Qn,I]) (by simp [Xm,Xq,X4,Qn,I]) rfl) ?_
     rintro ⟨u2,c2,i⟩ hA next4
     obtain ⟨a1,a2,a3,a4,a5,a6,a7⟩:=id hA
     simp only [List.length_set] at a1 a2 a3 a4 a5 a6 a7
     by_cases hi:i<b.length
     ·obtain ⟨y0,y1,y2⟩:=Yj (u:=u'.set (j+b.length) x) (v:=v) (j:=j) (n:=b.length) s4 (by omega) (by rw [List.length_set]; omega) hi hA rfl
      have x1:=a3 (i+j) (by omega)
      have x2:=Q2 s4 i
      unfold XW at x1 x2
      have wi:=wj i (by omega)
      have eV:v.getD i 0=dg v i:=rfl
      have n2:IntKind.i64.wrap ((i:Int)+j)=((i+j:Nat):Int):=by rw [IntKind.wrap_i64]; omega
      have m1:((i:Int)<b.length)=True:=eq_true (by omega)
      have m3:(i+j<a.length+1)=True:=eq_true (by omega)
      have m4:(i+j+1≤a.length+1)=True:=eq_true (by omega)
      have m5:(i<v.length)=True:=eq_true (by omega)
      have m6:(i<b.length)=True:=eq_true hi
      have k3:IntKind.i64.wrap (u2.getD (i+j) 0+dg v i)=u2.getD (i+j) 0+dg v i:=by rw [IntKind.wrap_i64]; omega
      have k4:IntKind.i64.wrap (u2.getD (i+j) 0+dg v i+c2)=u2.getD (i+j) 0+dg v i+c2:=by rw [IntKind.wrap_i64]; omega
      have hU2:∀ x:Int,C1 (Qb I 0 u2) (i+j) (.int .i64 x)=Qb I 0 (u2.set (i+j) x):=fun x=>KS _ _ _ (by omega)
      generalize hw:u2.getD (i+j) 0+dg v i+c2=w at *
      have k5:IntKind.i64.wrap (w.tdiv 1000000000)=w / 1000000000:=by rw [Int.tdiv_eq_ediv_of_nonneg y0,IntKind.wrap_i64]; omega
      have k6:w.tmod 1000000000=w % 1000000000:=Int.tmod_eq_emod_of_nonneg y0
      refine Xj ?_
      simp (maxSteps:=999999) only [wi,eV,n2,m1,m3,m4,m5,m6,k3,hw,k4,k5,k6,hU2,Int.toNat_natCast,Int.reduceEq,↓X1,wA,seval,zA,wN]
      exact next4 _ _ y2 (by simp only; omega) (Xg rfl (by simp [Xf,X4,Qn,I]) (by simp [Xm,Xq,X4,Qn,I]) rfl)
     ·obtain rfl:i=b.length:=by omega
      rw [← hxx] at hA
      obtain ⟨ex,hnew,_⟩:=aW hI' s4 s5 wp3 wp4 z wp0 g1 g3 hs (by omega) hA
      rw [hxx] at ex hnew
      have hU2:∀ x:Int,C1 (Qb I 0 u2) (j+b.length) (.int .i64 x)=Qb I 0 (u2.set (j+b.length) x):=fun x=>KS _ _ _ (by omega)
      have k3:IntKind.i64.wrap (x+c2)=x+c2:=by rw [IntKind.wrap_i64]; omega
      refine Xj ?_
      simp (maxSteps:=999999) only [f1,i1,i2,ex,k3,hU2,hQ1,n7,n8,n9,wj1,Int.toNat_natCast,Int.reduceEq,Int.lt_irrefl,Nat.lt_irrefl,↓X1,wA,seval,zA,wN]
      exact next (u2.set (j+b.length) (x+c2),q.set j (g - 1),j) _ hnew (by simp only; omega) (Xg rfl (by simp [Bv,Xf,X4,Qn,I]) (by simp [Bv,Xm]) rfl)
    ·have hxF:(u.getD (j+b.length) 0 - c<0)=False:=eq_false hx
     obtain ⟨hnew,_⟩:=aX hI' s4 s5 wp3 wp4 z wp1 g0 g2 hs hx
     refine Xj ?_
     simp (maxSteps:=999999) only [f1,i1,i2,eT,eS,hU,hQ1,n7,n8,n9,wj1,k1,hxF,Int.toNat_natCast,Int.reduceEq,Int.lt_irrefl,Nat.lt_irrefl,↓X1,wA,seval,zA,wN]
     exact next (u'.set (j+b.length) (u.getD (j+b.length) 0 - c),q.set j g,j) _ hnew (by simp only; omega) (Xg rfl (by simp [Bv,Xf,X4,Qn,I]) (by simp [Bv,Xm]) rfl)
 have b0:0<val b:=by
  have:=BJ hb hne
  have:=JI (b.length - 1)
  omega
 have a0:=XS ha
 have x0:0≤val a / val b:=Int.ediv_nonneg a0 (by omega)
 have x1:val a / val b<pw m:=by
  refine Int.ediv_lt_of_lt_mul b0 ?_
  have h1:=KY ha
  have h2:=BJ hb hne
  have h3:pw m*pw (b.length - 1)≤pw m*val b:=Int.mul_le_mul_of_nonneg_left h2 (by have:=JI m; omega)
  rw [← ET,show m+(b.length - 1)=a.length by omega] at h3
  omega
 have y0:0≤val a % val b:=Int.emod_nonneg _ (by omega)
 have y1:val a % val b<pw b.length:=by
  have h1:=Int.emod_lt_of_pos (val a) b0
  have h2:=KY hb.1
  omega
 refine ⟨q8 (val a / val b) m,q8 (val a % val b) b.length,key _ _ (X6 _) (X6 _) fun u q hI=>?_,HY _ _,HY _ _,by rw [HZ x0 x1]; omega,by rw [HZ y0 y1]; omega,I1 x0 _,I1 y0 _⟩
 obtain ⟨z1,z2,z3⟩:=RA ha hb.1 hI s1 s3 hvn
 have hul:=hI.hu
 constructor
 ·rw [Ib (HY _ _) hI.dq (by rw [HZ x0 x1,hI.hq]) (by rw [I1 x0,z1])]
 ·have hd:Jh (A4 (Zy (u.take b.length) s) (u.take b.length).length):=Ca fun i _=>Dq z3 (by omega) i
  have hlen:(q8 (val a % val b) b.length).length=(A4 (Zy (u.take b.length) s) (u.take b.length).length).length:=by
   rw [HZ y0 y1,Q3,List.length_take]; omega
  rw [Ib (HY _ _) hd hlen (by rw [I1 y0,z2])]
end
end Go.Ab.N
namespace Go.Ab.N
open Go Go.Ab
open Classical
noncomputable section
def qd (r:Rat):Nat:=if r.den=1 then 0 else r.den
def qC (r:Rat):List AV:=[.bool (decide (r.num<0)),X4 (X8 r.num.natAbs),.bool false,X4 (X8 (qd r))]
def qA (r:Rat):AV:=.agg (qC r)
theorem Xa (r:Rat):Settled (qA r):=Qo (by simp [qC,X6,X2])
def qb (r:Rat):Nat:=max (bl r.num) (bl r.den)
theorem JW (r:Rat):bl r.num≤qb r:=Nat.le_max_left _ _
theorem K4 (r:Rat):bl r.den≤qb r:=Nat.le_max_right _ _
theorem Bz (r:Rat):qb (-r)=qb r:=by unfold qb; rw [Rat.neg_num,Rat.neg_den,r6]
theorem Cb (p q:Int) (h:q≠0):∃ m:Int,m≠0∧p=(Rat.divInt p q).num*m∧q=(Rat.divInt p q).den*m :=
 Rat.divInt_num_den h (n':=(Rat.divInt p q).num) (d':=(Rat.divInt p q).den) (z':=(Rat.divInt p q).den_nz) (c:=(Rat.divInt p q).reduced) rfl
theorem Ek {x y m:Int} (hm:m≠0) (h:x=y*m):y.natAbs≤x.natAbs:=by
 rw [h,Int.natAbs_mul]
 exact Nat.le_mul_of_pos_right _ (by omega)
theorem KO (p q:Int) (k:Nat) (hk:1≤k) (hp:bl p≤k) (hq:bl q≤k):qb (Rat.divInt p q)≤k:=by
 by_cases h:q=0
 ·subst h
  rw [Rat.divInt_zero]
  have h1:bl (0:Rat).num=0:=by rw [Rat.zero_num]; unfold bl; simp [XV]
  have h2:bl ((0:Rat).den:Int)≤1:=by rw [Rat.zero_den]; exact Iq (by simp [pw])
  unfold qb; omega
 ·obtain ⟨m,h1,h2,h3⟩:=Cb p q h
  have h4:=J5 (Ek h1 h2)
  have h5:=J5 (Ek h1 h3)
  unfold qb; omega
theorem rl (r:Rat):1≤bl r.den:=by
 have:=r.den_nz
 unfold bl
 rw [Int.natAbs_natCast]
 have:X8 r.den≠[]:=HU r.den_nz
 exact Nat.one_le_iff_ne_zero.2 fun h=>this (List.length_eq_zero_iff.1 h)
theorem UE (r:Rat):1≤qb r:=Nat.le_trans (rl r) (K4 r)
theorem KM (n:Int) (d:Nat):mkRat n d=Rat.divInt n d:=(Rat.divInt_ofNat n d).symm
theorem KW (a b:Rat):qb (a+b)≤qb a+qb b+1:=by
 rw [Rat.add_def',KM]
 have h1:=Kf a.num b.den
 have h2:=Kf b.num a.den
 have h3:=Kf a.den b.den
 have h4:=TI (a.num*b.den) (b.num*a.den)
 have:=JW a; have:=JW b; have:=K4 a; have:=K4 b
 have:=UE a
 refine KO _ _ _ (by omega) (by omega) ?_
 push_cast; omega
theorem QA (a b:Rat):qb (a*b)≤qb a+qb b:=by
 rw [Rat.mul_def',KM]
 have h1:=Kf a.num b.num
 have h3:=Kf a.den b.den
 have:=JW a; have:=JW b; have:=K4 a; have:=K4 b
 have:=UE a
 refine KO _ _ _ (by omega) (by omega) ?_
 push_cast; omega
theorem EU (a b:Rat):qb (a - b)≤qb a+qb b+1:=by
 have:=KW a (-b)
 rw [Bz,← Rat.sub_eq_add_neg] at this
 exact this
theorem Za (n:Int) (k:Nat) (hk:1≤k) (h:bl n≤k):qb (n:Rat)≤k:=by
 unfold qb
 rw [Rat.num_intCast,Rat.den_intCast]
 have:bl ((1:Nat):Int)≤1:=Iq (by simp [pw])
 omega
theorem IG (p q:Int) (hq:q≠0) (h:Int.gcd p q=1):(Rat.divInt p q).num=q.sign*p∧(Rat.divInt p q).den=q.natAbs:=by
 have hg:Int.gcd q p=1:=by rw [Int.gcd_comm]; exact h
 rw [Rat.num_divInt,Rat.den_divInt,hg,if_neg hq]
 simp
theorem CE (p q:Int) (hq:q≠0) (g:Int) (hg:g=Int.gcd p q):Rat.divInt (p / g) (q / g)=Rat.divInt p q∧Int.gcd (p / g) (q / g)=1∧q / g≠0:=by
 have hg0:0<Int.gcd p q:=Int.gcd_pos_of_ne_zero_right _ hq
 obtain ⟨x,hx⟩:∃ x,p=g*x:=by
  have:=Int.gcd_dvd_left p q
  rw [hg]; exact this
 obtain ⟨y,hy⟩:∃ y,q=g*y:=by
  have:=Int.gcd_dvd_right p q
  rw [hg]; exact this
 have hgne:g≠0:=by omega
 have e1:p / g=x:=by rw [hx]; exact Int.mul_ediv_cancel_left _ hgne
 have e2:q / g=y:=by rw [hy]; exact Int.mul_ediv_cancel_left _ hgne
 rw [e1,e2]
 have e3:Int.gcd p q=g.natAbs*Int.gcd x y:=by
  conv=>lhs; rw [hx,hy]
  exact Int.gcd_mul_left ..
 refine ⟨?_,?_,fun h=>hq (by rw [hy,h]; simp)⟩
 ·conv=>rhs; rw [hx,hy]
  exact (Rat.divInt_mul_left hgne).symm
 ·have e4:g.natAbs=Int.gcd p q:=by omega
  rw [e4] at e3
  exact (Nat.eq_of_mul_eq_mul_left hg0 (by omega)).symm
end
end Go.Ab.N
namespace Go.Ab.N
open Go Go.RowKit Go.Proofs
noncomputable section
set_option maxRecDepth 10000
set_option maxHeartbeats 2000000
open Classical
theorem Xn {P:Program} {s:AS} {t u id ver n:Nat} {L:List AV} (hk:BD P u=some (some n)) (hs:s.get t=.ref id ver 0) (ho:s.h[id]?=some (.row ver n (Xk L))) (hn:L.length=n) :
  Jj P s (.cell t u)=some (.agg L):=by
 subst hn
 unfold Jj
 simp only
 rw [hs,O0,hk,Ey,ho,Ez,tP,MH L _ _ (by omega)]
 simp [Qd]
theorem Ki {P:Program} {fn:Func} {str hcs:List Nat} {a b x y:AV} {s:AS} {r1 r2:ResultVar} (hr:fn.results=#[r1,r2]) (h1:Jj P s r1=some x) (h2:Jj P s r2=some y) (g1:JH s.h x a) (g2:JH s.h y b) :
  RetOk (QS P fn str hcs (.tup [a,b])) s :=
 ⟨.tup [x,y],by simp [KQ,IJ,Cc,hr,J6,ZD,h1,h2],B6 ⟨g1,g2,trivial⟩⟩
theorem oB {H:List AO} {z:Int} {L M:List AV} (e:zA z=.agg M) (h:WeakL L M):JH H (.agg L) (zA z):=by
 have:=XC z
 rw [e] at this ⊢
 exact XK this (QY h)
theorem Wt {H:List AO} {z:Int} (hz:z=0) (f:Nat→AV) (t:Bool):JH H (.agg [.bool false,.sl 0 0 f t]) (zA z):=by
 subst hz
 exact oB (M:=[.bool false,X4 []]) (by unfold zA; simp [XV]) ⟨Weak.rfl' _,Qi _ _,trivial⟩
theorem JU (n:Nat):bl (n:Int)=(X8 n).length:=by unfold bl; rw [Int.natAbs_natCast]
theorem QT (n:Nat):zA (n:Int)=.agg [.bool false,X4 (X8 n)]:=by
 unfold zA
 rw [Int.natAbs_natCast,decide_eq_false (by omega)]
theorem PM {n k:Nat} (h:(X8 n).length≤k):(n:Int)<pw k:=by
 have h1:=Oj n
 have h2:=Cn h
 omega
theorem Zc {n:Nat} (h:(X8 n).length≤2):(n:Int)<1000000000000000000:=by
 have:=PM h
 simpa [pw] using this
theorem MQ (A B:Nat) (hA:(X8 A).length<1000000000) (hB:(X8 B).length<1000000000) (hB0:B≠0) :
  Fn Tryz.prog 227 [X4 (X8 A),X4 (X8 B)] (.tup [zA ((A / B:Nat):Int),zA ((A % B:Nat):Int)]):=by
 have dA:=XF A
 have dB:=XF B
 have vA:=Xw A
 have vB:=Xw B
 have c1:=OW _ dA
 have c2:=OW _ dB
 rw [vA] at c1
 rw [vB] at c2
 have c3:=C8 _ _ (XM A) (XM B) (by omega)
 rw [vA,vB] at c3
 obtain ⟨Q,hQ⟩:∃ Q,Q=zA ((A / B:Nat):Int):=⟨_,rfl⟩
 obtain ⟨R,hR⟩:∃ R,R=zA ((A % B:Nat):Int):=⟨_,rfl⟩
 have sQ:Settled Q:=hQ▸XC _
 have sR:Settled R:=hR▸XC _
 have ofC:∀ L:List Int,Jh L→L.length<1000000001→∀ z:Nat,val L=z→Fn Tryz.prog 208 [.bool false,X4 L] (.agg [.bool false,X4 (X8 z)]):=fun L h1 h2 z h3=>by
  have:=Ut false L h1 (by omega)
  rw [h3] at this
  rw [← QT]; exact this
 have p1:(X8 A).length≤2→(X8 B).length≤2→IntKind.u64.wrap (IntKind.i64.wrap ((A:Int).tdiv B))=((A / B:Nat):Int)∧IntKind.u64.wrap ((A:Int).tmod B)=((A % B:Nat):Int)∧Fn Tryz.prog 207 [.bool false,.int .u64 ((A / B:Nat):Int)] (.agg [.bool false,X4 (X8 (A / B))])∧Fn Tryz.prog 207 [.bool false,.int .u64 ((A % B:Nat):Int)] (.agg [.bool false,X4 (X8 (A % B))]):=fun h1 h2=>by
  have l1:=Zc h1
  have l2:=Zc h2
  have e1:(A:Int).tdiv B=((A / B:Nat):Int):=rfl
  have e2:(A:Int).tmod B=((A % B:Nat):Int):=rfl
  have l3:A / B≤A:=Nat.div_le_self A B
  have l4:A % B≤A:=Nat.mod_le A B
  rw [e1,e2,← QT,← QT]
  generalize A / B=q at *
  generalize A % B=r at *
  refine ⟨?_,?_,KI false _ (by omega) (by omega),KI false _ (by omega) (by omega)⟩
  ·have w1:IntKind.i64.wrap (q:Int)=q:=by rw [IntKind.wrap_i64]; omega
   rw [w1,IntKind.wrap_u64]; omega
  ·rw [IntKind.wrap_u64]; omega
 have eQ2:=hQ.trans (QT (A / B))
 have eR2:=hR.trans (QT (A % B))
 rw [← hQ,← hR]
 have ret:∀ {s:AS},Jj Tryz.prog s (.cell 4 26)=some (.agg [.bool false,X4 (X8 (A / B))])→Jj Tryz.prog s (.cell 5 26)=some (.agg [.bool false,X4 (X8 (A % B))])→RetOk (QS Tryz.prog Tryz.f227 [] [] (.tup [Q,R])) s:=fun h1 h2 =>
  Ki rfl h1 h2 (QE sQ eQ2.symm) (QE sR eR2.symm)
 have cofA:=ofC _ dA (by omega) _ vA
 have hB1:(B:Int)=0→False:=fun h=>hB0 (by omega)
 by_cases hAB:(X8 A).length≤2∧(X8 B).length≤2
 ·obtain ⟨w1,w2,cq,cr⟩:=p1 hAB.1 hAB.2
  have f1:((X8 A).length≤2)=True:=eq_true hAB.1
  have f2:((X8 B).length≤2)=True:=eq_true hAB.2
  have f3:((B:Int)=0)=False:=eq_false hB1
  simp only [f1,decide_true,ite_true] at c1
  simp only [f2,decide_true,ite_true] at c2
  refine Fq Tryz.call227 Tryz.func227 14 [] [] [] (by simp [JY]) (Xj ?_); simp (maxSteps:=999999) only [AS.start,↓X1,wA,seval,zA,wN]
  refine X0 c1 rfl ?_
  simp only [↓X1,wA,seval,zA,wN]
  refine X0 c2 rfl ?_
  simp only [f3,w1,w2,↓X1,wA,seval,zA,wN]
  refine X0 cq rfl ?_
  simp only [f3,w1,w2,↓X1,wA,seval,zA,wN]
  refine X0 cr rfl ?_
  simp only [↓X1,wA,seval,zA,wN]
  exact ret (Xn XO rfl rfl rfl) (Xn XO rfl rfl rfl)
 have lessK:A<B→Fn Tryz.prog 215 [X4 (X8 A),X4 (X8 B)] (I (-1)):=fun h=>by
  rw [Int.sign_eq_neg_one_of_neg (show (A:Int) - B<0 by omega)] at c3; exact c3
 have lessR:A<B→A / B=0∧A % B=A:=fun h=>⟨Nat.div_eq_of_lt h,Nat.mod_eq_of_lt h⟩
 have w3:((-1:Int)<0)=True:=eq_true (by omega)
 by_cases hA2:(X8 A).length≤2
 ·have hB2:¬ (X8 B).length≤2:=fun h=>hAB ⟨hA2,h⟩
  have hlt:A<B:=by
   have:=CX (XM A) (XM B) (by omega)
   rw [vA,vB] at this; omega
  obtain ⟨r1,r2⟩:=lessR hlt
  have f1:((X8 A).length≤2)=True:=eq_true hA2
  have f2:((X8 B).length≤2)=False:=eq_false hB2
  simp only [f1,decide_true,ite_true] at c1
  simp only [f2,decide_false,ite_false] at c2
  refine Fq Tryz.call227 Tryz.func227 14 [] [] [] (by simp [JY]) (Xj ?_); simp (maxSteps:=999999) only [AS.start,↓X1,wA,seval,zA,wN]
  refine X0 c1 rfl ?_
  simp only [↓X1,wA,seval,zA,wN]
  refine X0 c2 rfl ?_
  simp only [↓X1,wA,seval,zA,wN]
  refine X0 (lessK hlt) rfl ?_
  simp only [w3,↓X1,wA,seval,zA,wN]
  refine X0 cofA rfl ?_
  simp only [↓X1,wA,seval,zA,wN]
  exact Ki rfl (Xn XO rfl rfl rfl) (Xn XO rfl rfl rfl) (by rw [hQ]; exact Wt (by rw [r1]; rfl) _ _) (QE sR (by rw [eR2,r2]; rfl))
 have f1:((X8 A).length≤2)=False:=eq_false hA2
 simp only [f1,decide_false,ite_false] at c1
 by_cases hlt:A<B
 ·obtain ⟨r1,r2⟩:=lessR hlt
  refine Fq Tryz.call227 Tryz.func227 14 [] [] [] (by simp [JY]) (Xj ?_); simp (maxSteps:=999999) only [AS.start,↓X1,wA,seval,zA,wN]
  refine X0 c1 rfl ?_
  simp only [↓X1,wA,seval,zA,wN]
  refine X0 (lessK hlt) rfl ?_
  simp only [w3,↓X1,wA,seval,zA,wN]
  refine X0 cofA rfl ?_
  simp only [↓X1,wA,seval,zA,wN]
  exact Ki rfl (Xn XO rfl rfl rfl) (Xn XO rfl rfl rfl) (by rw [hQ]; exact Wt (by rw [r1]; rfl) _ _) (QE sR (by rw [eR2,r2]; rfl))
 obtain ⟨sg,hsg⟩:∃ sg,sg=((A:Int) - B).sign:=⟨_,rfl⟩
 have hsg0:(sg<0)=False:=eq_false (by rw [hsg,Int.sign_neg_iff]; omega)
 rw [← hsg] at c3
 have hBA:(X8 B).length≤(X8 A).length:=by
  have:=J5 (y:=(B:Int)) (z:=(A:Int)) (by omega)
  rwa [JU,JU] at this
 by_cases hB1':(X8 B).length=1
 ·obtain ⟨d,hd⟩:=List.length_eq_one_iff.1 hB1'
  have hdd:XW d:=dB d (by rw [hd]; simp)
  have hdB:d=B:=by rw [← vB,hd]; simp [val]
  have hd0:d≠0:=by omega
  have cs:=SD (X8 A) d dA hdd hd0 (by omega)
  rw [vA,hdB] at cs
  have dq:Jh (A4 (Zy (X8 A) B) (X8 A).length):=Ca fun i _=>Dq dA (by omega) i
  have vq:val (A4 (Zy (X8 A) B) (X8 A).length)=((A / B:Nat):Int):=by
   have h1:=OH (a:=X8 A) (b:=(B:Int)) (by omega)
   rw [vA] at h1
   have h2:JN (X8 A) B 0=(A:Int) % B:=by unfold JN; rw [List.drop_zero,vA]
   rw [h2] at h1
   have h3:=Int.emod_add_mul_ediv (A:Int) B
   have h4:(B:Int)*val (A4 (Zy (X8 A) B) (X8 A).length)=B*((A:Int) / B):=by omega
   rw [Int.eq_of_mul_eq_mul_left (by omega) h4]; rfl
  have cq:=ofC _ dq (by rw [Q3]; omega) _ vq
  generalize A4 (Zy (X8 A) B) (X8 A).length=L at *
  have em:(A:Int) % B=((A % B:Nat):Int):=rfl
  have wm:IntKind.u64.wrap ((A % B:Nat):Int)=((A % B:Nat):Int):=by
   have h1:A % B<B:=Nat.mod_lt _ (by omega)
   unfold XW at hdd
   generalize A % B=r at *
   rw [IntKind.wrap_u64]; omega
  have cr:Fn Tryz.prog 207 [.bool false,.int .u64 ((A % B:Nat):Int)] (.agg [.bool false,X4 (X8 (A % B))]):=by
   have h1:A % B<B:=Nat.mod_lt _ (by omega)
   unfold XW at hdd
   rw [← QT]
   generalize A % B=r at *
   exact KI false _ (by omega) (by omega)
  rw [em] at cs
  have f2:(((X8 B).length:Int)=1)=True:=eq_true (by omega)
  have f2':((X8 B).length=1)=True:=eq_true hB1'
  have f3:(0<(X8 B).length)=True:=eq_true (by omega)
  have f4:(X8 B).getD 0 0=(B:Int):=by rw [hd,← hdB]; rfl
  refine Fq Tryz.call227 Tryz.func227 14 [] [] [] (by simp [JY]) (Xj ?_); simp (maxSteps:=999999) only [AS.start,↓X1,wA,seval,zA,wN]
  refine X0 c1 rfl ?_
  simp only [↓X1,wA,seval,zA,wN]
  refine X0 c3 rfl ?_
  simp only [hsg0,f2,f2',f3,f4,↓X1,wA,seval,zA,wN]
  refine ⟨by omega,X0 cs rfl ?_⟩
  simp only [↓X1,wA,seval,zA,wN]
  refine X0 cq rfl ?_
  simp only [wm,↓X1,wA,seval,zA,wN]
  refine X0 cr rfl ?_
  simp only [↓X1,wA,seval,zA,wN]
  exact ret (Xn XO rfl rfl rfl) (Xn XO rfl rfl rfl)
 ·have hB2:2≤(X8 B).length:=by
   have:X8 B≠[]:=HU hB0
   have:(X8 B).length≠0:=fun h=>this (List.length_eq_zero_iff.1 h)
   omega
  obtain ⟨q,r,cl,dq,dr,lq,lr,vq,vr⟩:=nH (X8 A) (X8 B) dA (XM B) hB2 hBA hA
  rw [vA,vB] at vq vr
  have cq:=ofC q dq (by omega) (A / B) (by rw [vq]; rfl)
  have cr:=ofC r dr (by omega) (A % B) (by rw [vr]; rfl)
  have f2':((X8 B).length=1)=False:=eq_false hB1'
  refine Fq Tryz.call227 Tryz.func227 14 [] [] [] (by simp [JY]) (Xj ?_); simp (maxSteps:=999999) only [AS.start,↓X1,wA,seval,zA,wN]
  refine X0 c1 rfl ?_
  simp only [↓X1,wA,seval,zA,wN]
  refine X0 c3 rfl ?_
  simp only [hsg0,f2',↓X1,wA,seval,zA,wN]
  refine ⟨fun h=>absurd h (by omega),fun _=>X0 cl rfl ?_⟩
  simp only [↓X1,wA,seval,zA,wN]
  refine X0 cq rfl ?_
  simp only [↓X1,wA,seval,zA,wN]
  refine X0 cr rfl ?_
  simp only [↓X1,wA,seval,zA,wN]
  exact ret (Xn XO rfl rfl rfl) (Xn XO rfl rfl rfl)
theorem II (x y:Int) (hy:y≠0) (q r:Nat) (h:q=x.natAbs / y.natAbs) (hr:r=x.natAbs % y.natAbs) (q1 r1:Nat) (h1:if x<0∧r≠0 then q1=q+1∧r1=y.natAbs - r else q1=q∧r1=r) :
  x / y=Kn (decide (x<0) != decide (y<0)) q1∧x % y=r1:=by
 have hya:0<y.natAbs:=by omega
 have e0:=Nat.mod_add_div x.natAbs y.natAbs
 have e1:=Nat.mod_lt x.natAbs hya
 rw [← h,← hr] at e0
 rw [← hr] at e1
 have e0':(r:Int)+y.natAbs*q=x.natAbs:=by exact_mod_cast e0
 have key:x / (y.natAbs:Int)=Kn (decide (x<0)) q1∧x % (y.natAbs:Int)=r1:=by
  refine (Int.ediv_emod_unique (by omega)).2 ⟨?_,by omega,?_⟩
  ·unfold Kn
   by_cases hx:x<0
   ·rw [if_pos (decide_eq_true hx)]
    by_cases hr0:r≠0
    ·rw [if_pos ⟨hx,hr0⟩] at h1
     obtain ⟨rfl,rfl⟩:=h1
     have:((y.natAbs - r:Nat):Int)=y.natAbs - r:=by omega
     rw [this]
     push_cast
     rw [Int.mul_neg,Int.mul_add]
     omega
    ·rw [if_neg (fun hh=>hr0 hh.2)] at h1
     obtain ⟨rfl,rfl⟩:=h1
     rw [Int.mul_neg]
     omega
   ·rw [if_neg (by simpa using hx)]
    rw [if_neg (fun hh=>hx hh.1)] at h1
    obtain ⟨rfl,rfl⟩:=h1
    omega
  ·split at h1 <;> omega
 by_cases hy0:y<0
 ·have ey:(y.natAbs:Int) = -y:=by omega
  rw [ey,Int.ediv_neg,Int.emod_neg] at key
  refine ⟨?_,key.2⟩
  have:=key.1
  have e2:x / y = -Kn (decide (x<0)) q1:=by omega
  rw [e2]
  unfold Kn
  rw [decide_eq_true hy0]
  by_cases hx:x<0 <;> simp [hx]
 ·have ey:(y.natAbs:Int)=y:=by omega
  rw [ey] at key
  refine ⟨?_,key.2⟩
  rw [key.1,decide_eq_false hy0]
  cases decide (x<0) <;> rfl
theorem pc (neg:Bool) (u:Nat):zA (Kn neg u)=.agg [.bool (neg && decide (u≠0)),X4 (X8 u)]:=by
 rw [kA neg (by omega),Int.toNat_natCast]
 congr 3
 simp
theorem gb (x y:Int) (hx:bl x<1000000000) (hy:bl y<1000000000) (hy0:y≠0):Fn Tryz.prog 209 [zA x,zA y] (.tup [zA (x / y),zA (x % y)]):=by
 have cd:=MQ x.natAbs y.natAbs hx hy (by omega)
 obtain ⟨q,hq⟩:∃ q,q=x.natAbs / y.natAbs:=⟨_,rfl⟩
 obtain ⟨r,hr⟩:∃ r,r=x.natAbs % y.natAbs:=⟨_,rfl⟩
 have hry:r<y.natAbs:=by rw [hr]; exact Nat.mod_lt _ (by omega)
 have hqx:q≤x.natAbs:=by rw [hq]; exact Nat.div_le_self _ _
 rw [← hq,← hr,QT,QT] at cd
 have lq:(X8 q).length<1000000000:=by
  have:=J5 (y:=(q:Int)) (z:=x) (by omega)
  rw [JU] at this; omega
 have lr:(X8 r).length<1000000000:=by
  have:=J5 (y:=(r:Int)) (z:=y) (by omega)
  rw [JU] at this; omega
 have ly:(X8 y.natAbs).length<1000000000:=hy
 have lry:(X8 r).length≤(X8 y.natAbs).length:=by
  have:=J5 (y:=(r:Int)) (z:=y) (by omega)
  rw [JU] at this; exact this
 have ofC:∀ L:List Int,Jh L→L.length<1000000002→∀ z:Nat,val L=z→Fn Tryz.prog 208 [.bool false,X4 L] (.agg [.bool false,X4 (X8 z)]):=fun L h1 h2 z h3=>by
  have:=Ut false L h1 (by omega)
  rw [h3] at this
  rw [← QT]; exact this
 have y1:((X8 y.natAbs).length=0)=False:=eq_false (fun h=>by have:=digs_len_zero.1 h; omega)
 have y2:(((X8 y.natAbs).length:Int)=0)=False:=eq_false (fun h=>by have:=digs_len_zero.1 (show (X8 y.natAbs).length=0 by omega); omega)
 obtain ⟨q1,r1,h1⟩:∃ q1 r1,if x<0∧r≠0 then q1=q+1∧r1=y.natAbs - r else q1=q∧r1=r:=by
  by_cases h:x<0∧r≠0
  ·exact ⟨q+1,y.natAbs - r,by rw [if_pos h]; exact ⟨rfl,rfl⟩⟩
  ·exact ⟨q,r,by rw [if_neg h]; exact ⟨rfl,rfl⟩⟩
 obtain ⟨e1,e2⟩:=II x y hy0 q r hq hr q1 r1 h1
 obtain ⟨Q,hQ⟩:∃ Q,Q=zA (x / y):=⟨_,rfl⟩
 obtain ⟨R,hR⟩:∃ R,R=zA (x % y):=⟨_,rfl⟩
 have sQ:Settled Q:=hQ▸XC _
 have sR:Settled R:=hR▸XC _
 rw [← hQ,← hR]
 rw [e1,pc] at hQ
 rw [e2,QT] at hR
 have fin:∀ {s:AS} {t:Bool},t=((decide (x<0) != decide (y<0)) && decide (q1≠0))→Jj Tryz.prog s (.cell 4 26)=some (.agg [.bool t,X4 (X8 q1)])→Jj Tryz.prog s (.cell 5 26)=some (.agg [.bool false,X4 (X8 r1)]) →
   RetOk (QS Tryz.prog Tryz.f209 [8,9000,90000007] [] (.tup [Q,R])) s:=fun ht h1 h2=>Ki rfl h1 h2 (QE sQ (by rw [hQ,ht])) (QE sR hR.symm)
 have g1:∀ n:Nat,(0<(X8 n).length)=(n≠0):=fun n=>propext (by have:=@digs_len_zero n; omega)
 by_cases hc:x<0∧r≠0
 ·obtain ⟨hx0,hr0⟩:=hc
  rw [if_pos ⟨hx0,hr0⟩] at h1
  obtain ⟨rfl,rfl⟩:=h1
  obtain ⟨L,l1,l2,l3,l4⟩:=We (X8 q) [1] (XF q) (Kz.2 ⟨by unfold XW; omega,Be⟩) (by omega) (by simp)
  obtain ⟨M,m1,m2,m3,m4⟩:=L3 (X8 y.natAbs) (X8 r) (XF _) (XF _) (by omega) lry (by rw [Xw,Xw]; omega)
  have c2:=ofC L l1 (by simp at l3; omega) (q+1) (by rw [l2,Xw]; simp [val])
  have c3:=ofC M m1 (by omega) (y.natAbs - r) (by rw [m2,Xw,Xw]; omega)
  have f1:(x<0)=True:=eq_true hx0
  have f2:(0<(X8 r).length)=True:=eq_true (by rw [g1]; exact hr0)
  have f3:(0<((X8 r).length:Int))=True:=eq_true (by have:=of_eq_true f2; omega)
  have f4:(0<(X8 (q+1)).length)=True:=eq_true (by rw [g1]; omega)
  have f5:(0<((X8 (q+1)).length:Int))=True:=eq_true (by have:=of_eq_true f4; omega)
  refine Fq Tryz.call209 Tryz.func209 8 [] [8,9000,90000007] [] (by simp [JY]) (Xj ?_); simp (maxSteps:=999999) only [AS.start,↓X1,wA,seval,zA,wN]
  simp only [y1,y2,f1,f2,f3,f4,f5,↓X1,wA,seval,zA,wN]
  refine X0 cd rfl ?_
  simp only [y1,y2,f1,f2,f3,f4,f5,↓X1,wA,seval,zA,wN]
  refine Qm l4 ⟨Weak.rfl' _,Zk rfl rfl,trivial⟩ ?_
  simp only [y1,y2,f1,f2,f3,f4,f5,↓X1,wA,seval,zA,wN]
  refine X0 c2 rfl ?_
  simp only [y1,y2,f1,f2,f3,f4,f5,↓X1,wA,seval,zA,wN]
  refine X0 m4 rfl ?_
  simp only [y1,y2,f1,f2,f3,f4,f5,↓X1,wA,seval,zA,wN]
  refine X0 c3 rfl ?_
  simp only [y1,y2,f1,f2,f3,f4,f5,↓X1,wA,seval,zA,wN]
  refine QL (fun h=>fin ?_ (Xn XO rfl rfl rfl) (Xn XO rfl rfl rfl)) (fun h=>fin ?_ (Xn XO rfl rfl rfl) (Xn XO rfl rfl rfl))
  ·have:decide (y<0)=false:=by simpa using h
   simp [hx0,this]
  ·have:decide (y<0)=true:=by simpa using h
   simp [hx0,this]
 rw [if_neg hc] at h1
 obtain ⟨rfl,rfl⟩:=h1
 have zr:∀ h:x<0,(0<(X8 r1).length)=False:=fun h=>eq_false (by rw [g1]; exact fun h2=>hc ⟨h,h2⟩)
 by_cases hx0:x<0
 ·have f1:(x<0)=True:=eq_true hx0
  have f2:=zr hx0
  have f3:(0<((X8 r1).length:Int))=False:=eq_false (by have:=of_eq_false f2; omega)
  by_cases hq0:q1≠0
  ·have f4:(0<(X8 q1).length)=True:=eq_true (by rw [g1]; exact hq0)
   have f5:(0<((X8 q1).length:Int))=True:=eq_true (by have:=of_eq_true f4; omega)
   refine Fq Tryz.call209 Tryz.func209 8 [] [8,9000,90000007] [] (by simp [JY]) (Xj ?_); simp (maxSteps:=999999) only [AS.start,↓X1,wA,seval,zA,wN]
   simp only [y1,y2,f1,f2,f3,f4,f5,↓X1,wA,seval,zA,wN]
   refine X0 cd rfl ?_
   simp only [y1,y2,f1,f2,f3,f4,f5,↓X1,wA,seval,zA,wN]
   refine QL (fun h=>fin ?_ (Xn XO rfl rfl rfl) (Xn XO rfl rfl rfl)) (fun h=>fin ?_ (Xn XO rfl rfl rfl) (Xn XO rfl rfl rfl)) <;> simpa [hx0,hq0] using h
  ·have f4:(0<(X8 q1).length)=False:=eq_false (by rw [g1]; exact hq0)
   have f5:(0<((X8 q1).length:Int))=False:=eq_false (by have:=of_eq_false f4; omega)
   refine Fq Tryz.call209 Tryz.func209 8 [] [8,9000,90000007] [] (by simp [JY]) (Xj ?_); simp (maxSteps:=999999) only [AS.start,↓X1,wA,seval,zA,wN]
   simp only [y1,y2,f1,f2,f3,f4,f5,↓X1,wA,seval,zA,wN]
   refine X0 cd rfl ?_
   simp only [y1,y2,f1,f2,f3,f4,f5,↓X1,wA,seval,zA,wN]
   refine QL (fun h=>fin ?_ (Xn XO rfl rfl rfl) (Xn XO rfl rfl rfl)) (fun h=>fin ?_ (Xn XO rfl rfl rfl) (Xn XO rfl rfl rfl)) <;> simp [hq0]
 ·have f1:(x<0)=False:=eq_false hx0
  have f2:True=True:=rfl
  have f3:True=True:=rfl
  by_cases hq0:q1≠0
  ·have f4:(0<(X8 q1).length)=True:=eq_true (by rw [g1]; exact hq0)
   have f5:(0<((X8 q1).length:Int))=True:=eq_true (by have:=of_eq_true f4; omega)
   refine Fq Tryz.call209 Tryz.func209 8 [] [8,9000,90000007] [] (by simp [JY]) (Xj ?_); simp (maxSteps:=999999) only [AS.start,↓X1,wA,seval,zA,wN]
   simp only [y1,y2,f1,f2,f3,f4,f5,↓X1,wA,seval,zA,wN]
   refine X0 cd rfl ?_
   simp only [y1,y2,f1,f2,f3,f4,f5,↓X1,wA,seval,zA,wN]
   refine QL (fun h=>fin ?_ (Xn XO rfl rfl rfl) (Xn XO rfl rfl rfl)) (fun h=>fin ?_ (Xn XO rfl rfl rfl) (Xn XO rfl rfl rfl)) <;> simpa [hx0,hq0] using h
  ·have f4:(0<(X8 q1).length)=False:=eq_false (by rw [g1]; exact hq0)
   have f5:(0<((X8 q1).length:Int))=False:=eq_false (by have:=of_eq_false f4; omega)
   refine Fq Tryz.call209 Tryz.func209 8 [] [8,9000,90000007] [] (by simp [JY]) (Xj ?_); simp (maxSteps:=999999) only [AS.start,↓X1,wA,seval,zA,wN]
   simp only [y1,y2,f1,f2,f3,f4,f5,↓X1,wA,seval,zA,wN]
   refine X0 cd rfl ?_
   simp only [y1,y2,f1,f2,f3,f4,f5,↓X1,wA,seval,zA,wN]
   refine QL (fun h=>fin ?_ (Xn XO rfl rfl rfl) (Xn XO rfl rfl rfl)) (fun h=>fin ?_ (Xn XO rfl rfl rfl) (Xn XO rfl rfl rfl)) <;> simp [hq0]
def ZB (x y:Int) (p:Nat×Nat):AS :=
  ⟨13,[],[zA x,zA y,.ref 0 0 0,.ref 1 0 0,.ref 2 0 0,.ref 3 0 0,.ref 4 0 0,.any,.any,.any,.any,.any,.any],[],
    [.con 0 2 (Xk [.bool (decide (x<0)),X4 (X8 x.natAbs)]),.con 0 2 (Xk [.bool (decide (y<0)),X4 (X8 y.natAbs)]),.row 0 2 (Xk [.bool false,.sl 0 0 (fun _=>.any) true]),
     .row 0 2 (Xk [.bool false,X4 (X8 p.1)]),.row 0 2 (Xk [.bool false,X4 (X8 p.2)])]⟩
def nD (x y:Int) (p:Nat×Nat):Prop:=Nat.gcd p.1 p.2=Int.gcd x y∧(X8 p.1).length<1000000000∧(X8 p.2).length<1000000000
theorem gZ (x y:Int) (hx:bl x<1000000000) (hy:bl y<1000000000):Fn Tryz.prog 171 [zA x,zA y] (zA (Int.gcd x y)):=by
  have ofC:∀ n:Nat,(X8 n).length<1000000002→Fn Tryz.prog 208 [.bool false,X4 (X8 n)] (.agg [.bool false,X4 (X8 n)]):=fun n h=>by
    have:=Ut false (X8 n) (XF n) (by omega)
    rw [Xw] at this
    rw [← QT]; exact this
  unfold bl at hx hy
  have cx:=ofC x.natAbs (by omega)
  have cy:=ofC y.natAbs (by omega)
  obtain ⟨R,hR⟩:∃ R,R=zA (Int.gcd x y):=⟨_,rfl⟩
  have sR:Settled R:=hR▸XC _
  rw [← hR]
  rw [QT] at hR
  refine Fq Tryz.call171 Tryz.func171 13 [] [1,20000002,20000003,10,11000,110000012] [] (by simp [JY]) (Xj ?_); simp (maxSteps:=999999) only [AS.start,↓X1,wA,seval,zA,wN]
  refine X0 cx rfl ?_
  simp only [↓X1,wA,seval,zA,wN]
  refine X0 cy rfl ?_
  simp only [↓X1,wA,seval,zA,wN]
  refine Xd (ZB x y) (nD x y) (fun p=>p.2) (x.natAbs,y.natAbs) ⟨rfl,hx,hy⟩ ?_ ?_
  · unfold ZB
    exact (Kq (by simp [zA,wN,Xf,X4,BP,Zo,Qn,I]) rfl)
  rintro ⟨A,B⟩ ⟨g1,g2,g3⟩ next
  simp only at g1 g2 g3
  by_cases hB:B=0
  · have f1:(0<(X8 B).length)=False:=eq_false (by have:=@digs_len_zero B; omega)
    have f2:(0<((X8 B).length:Int))=False:=eq_false (by have:=@digs_len_zero B; omega)
    refine Xj ?_
    simp only [ZB,f1,f2,↓X1,wA,seval,zA,wN]
    refine Q9 rfl XO rfl rfl rfl hR sR ?_
    rw [hB,Nat.gcd_zero_right] at g1
    rw [← g1]
    exact ⟨Weak.rfl' _,Weak.rfl' _,trivial⟩
  have f1:(0<(X8 B).length)=True:=eq_true (by have:=@digs_len_zero B; omega)
  have f2:(0<((X8 B).length:Int))=True:=eq_true (by have:=@digs_len_zero B; omega)
  have c1:=OW _ (XF A)
  have c2:=OW _ (XF B)
  rw [Xw] at c1 c2
  by_cases hAB:(X8 A).length≤2∧(X8 B).length≤2
  · have k1:((X8 A).length≤2)=True:=eq_true hAB.1
    have k2:((X8 B).length≤2)=True:=eq_true hAB.2
    simp only [k1,decide_true,ite_true] at c1
    simp only [k2,decide_true,ite_true] at c2
    have l1:=Zc hAB.1
    have l2:=Zc hAB.2
    refine Xj ?_
    simp only [ZB,f1,f2,↓X1,wA,seval,zA,wN]
    refine X0 c1 rfl ?_
    simp only [↓X1,wA,seval,zA,wN]
    refine X0 c2 rfl ?_
    simp only [↓X1,wA,seval,zA,wN]
    refine Xd (fun p:Nat×Nat=>⟨13,[],[zA x,zA y,.ref 0 0 0,.ref 1 0 0,.ref 2 0 0,.ref 3 0 0,.ref 4 0 0,I p.1,.any,I p.2,.any,.any,.any],[],
      [.con 0 2 (Xk [.bool (decide (x<0)),X4 (X8 x.natAbs)]),.con 0 2 (Xk [.bool (decide (y<0)),X4 (X8 y.natAbs)]),.row 0 2 (Xk [.bool false,.sl 0 0 (fun _=>.any) true]),
       .row 0 2 (Xk [.bool false,X4 (X8 A)]),.row 0 2 (Xk [.bool false,X4 (X8 B)])]⟩) (fun p=>Nat.gcd p.1 p.2=Int.gcd x y∧(p.1:Int)<1000000000000000000∧(p.2:Int)<1000000000000000000) (fun p=>p.2) (A,B) ⟨g1,l1,l2⟩ (Kq (by simp [zA,wN,Xf,X4,BP,Zo,Qn,I]) rfl) ?_
    rintro ⟨m,n⟩ ⟨h1,h2,h3⟩ next2
    simp only at h1 h2 h3
    by_cases hn:n=0
    · have j1:(0<(n:Int))=False:=eq_false (by omega)
      have j1':(0<n)=False:=eq_false (by omega)
      have hm:m=Int.gcd x y:=by rw [hn,Nat.gcd_zero_right] at h1; exact h1
      have w1:IntKind.u64.wrap (m:Int)=m:=by rw [IntKind.wrap_u64]; omega
      have cu:Fn Tryz.prog 207 [.bool false,.int .u64 (m:Int)] (.agg [.bool false,X4 (X8 m)]):=by
        rw [← QT]
        exact KI false _ (by omega) (by omega)
      refine Xj ?_
      simp only [j1,j1',w1,↓X1,wA,seval,zA,wN]
      refine X0 cu rfl ?_
      simp only [↓X1,wA,seval,zA,wN]
      refine Q9 rfl XO rfl rfl rfl hR sR ?_
      rw [← hm]
      exact ⟨Weak.rfl' _,Weak.rfl' _,trivial⟩
    · have j1:(0<(n:Int))=True:=eq_true (by omega)
      have j1':(0<n)=True:=eq_true (by omega)
      have j2:((n:Int)=0)=False:=eq_false (by omega)
      have e2:(m:Int).tmod n=((m % n:Nat):Int):=rfl
      have hlt:m % n<n:=Nat.mod_lt _ (by omega)
      refine Xj ?_
      simp only [j1,j1',j2,e2,↓X1,wA,seval,zA,wN]
      refine next2 (n,m % n) _ ⟨?_,h3,by simp only; omega⟩ hlt (Kq (by simp [zA,wN,Xf,X4,BP,Zo,Qn,I]) rfl)
      simp only
      rw [← h1,Nat.gcd_comm m n,Nat.gcd_rec n m,Nat.gcd_comm]
  · have cd:=MQ A B g2 g3 hB
    rw [QT,QT] at cd
    have hlt:A % B<B:=Nat.mod_lt _ (by omega)
    have gnew:nD x y (B,A % B):=by
      refine ⟨?_,g3,?_⟩
      · simp only
        rw [← g1,Nat.gcd_comm A B,Nat.gcd_rec B A,Nat.gcd_comm]
      · have:=J5 (y:=((A % B:Nat):Int)) (z:=(B:Int)) (by omega)
        rw [JU,JU] at this
        simp only; omega
    by_cases hA2:(X8 A).length≤2
    · have k1:((X8 A).length≤2)=True:=eq_true hA2
      have k2:((X8 B).length≤2)=False:=eq_false fun h=>hAB ⟨hA2,h⟩
      refine Xj ?_
      simp only [ZB,f1,f2,k1,k2,↓X1,wA,seval,zA,wN]
      refine X0 c1 rfl ?_
      simp only [k1,k2,↓X1,wA,seval,zA,wN]
      refine X0 c2 rfl ?_
      simp only [k1,k2,↓X1,wA,seval,zA,wN]
      refine X0 cd rfl ?_
      simp only [k1,k2,↓X1,wA,seval,zA,wN]
      exact next (B,A % B) _ gnew hlt (XD (m:=5) (Nat.zero_le _) rfl (by simp [zA,wN,ZB,Xf,X4,Qn,I]) (by simp [zA,wN,ZB,Xm]) (by simp [zA,wN,ZB,X4,Qn,I]) (by simp [zA,wN,ZB,XA]) (by simp [zA,wN,ZB,XA]) (by simp [zA,wN,ZB,XA]))
    · have k1:((X8 A).length≤2)=False:=eq_false hA2
      refine Xj ?_
      simp only [ZB,f1,f2,k1,↓X1,wA,seval,zA,wN]
      refine X0 c1 rfl ?_
      simp only [k1,↓X1,wA,seval,zA,wN]
      refine X0 c2 rfl ?_
      simp only [k1,↓X1,wA,seval,zA,wN]
      refine X0 cd rfl ?_
      simp only [k1,↓X1,wA,seval,zA,wN]
      exact next (B,A % B) _ gnew hlt (XD (m:=5) (Nat.zero_le _) rfl (by simp [zA,wN,ZB,Xf,X4,Qn,I]) (by simp [zA,wN,ZB,Xm]) (by simp [zA,wN,ZB,X4,Qn,I]) (by simp [zA,wN,ZB,XA]) (by simp [zA,wN,ZB,XA]) (by simp [zA,wN,ZB,XA]))
def HA (p:Int→Bool) (s:List Int):Int:=if s.any p=true then (s.findIdx p:Nat) else -1
theorem Fz {p:Int→Bool} {s:List Int} {j:Nat} (hj:j<s.length) (h:p (s.getD j 0)=true) (hno:∀ i,i<j→p (s.getD i 0)=false):HA p s=j:=by
 have at_:∀ i (hi:i<s.length),s.getD i 0=s[i]:=fun i hi=>by rw [List.getD_eq_getElem?_getD,List.getElem?_eq_getElem hi]; rfl
 have e:s.findIdx p=j:=by
  rw [List.findIdx_eq hj]
  exact ⟨by rw [← at_ j hj]; exact h,fun i hi=>by rw [← at_ i (by omega)]; exact hno i hi⟩
 unfold HA
 rw [if_pos (List.any_eq_true.2 ⟨_,Ju hj,h⟩),e]
theorem Gt {p:Int→Bool} {s:List Int} (hno:∀ i,i<s.length→p (s.getD i 0)=false):HA p s = -1:=by
 unfold HA
 rw [if_neg]
 intro h
 obtain ⟨x,hx,hp⟩:=List.any_eq_true.1 h
 obtain ⟨i,hi,rfl⟩:=List.getElem_of_mem hx
 have:=hno i hi
 rw [List.getD_eq_getElem?_getD,List.getElem?_eq_getElem hi] at this
 simp only [Option.getD_some] at this
 rw [this] at hp; cases hp
theorem Rm (p:Int→Bool) (s:List Int):decide (0≤HA p s)=s.any p:=by
 unfold HA
 cases h:s.any p
 ·simp
 ·rw [if_pos rfl]; exact decide_eq_true (by omega)
theorem N7 (s:List Int) (f:FuncId) (caps:List AV) (p:Int→Bool) (hl:s.length<4611686018427387904) (hc:∀ a∈caps,Settled a) (hp:∀ x∈s,Fn Tryz.prog f ([I x] ++ caps) (.bool (p x))) :
  Fn Tryz.prog 252 [X4 s,.fn f caps] (I (HA p s)):=by
 refine Fn.intro (fn:=Tryz.f252) Tryz.call252 Tryz.func252 rfl mixed 6 [6,7,8] [] [] (by kernel_rfl) (Nat.le_of_ble_eq_true rfl) (by simpa [X6] using Jb hc) (Xj ?_)
 simp only [AS.start,↓X1,wA,seval,zA,wN]
 refine Xd (fun j:Nat=>⟨6,[6,7,8],[X4 s,.fn f caps,.any,.any,.any,.any],[(6,X4 s),(7,I s.length),(8,I j)],[]⟩) (fun j=>j≤s.length∧∀ i,i<j→p (s.getD i 0)=false) (fun j=>s.length - j) 0 ⟨by omega,by omega⟩
  (Xg rfl (by simp [Xf,X4,Qn,I]) (by simp [Xm,Xq,X4,Qn,I]) rfl) ?_
 rintro j ⟨hj,hno⟩ next
 have w1:=wj j (by omega)
 refine Xj ?_
 simp only [w1,↓X1,wA,seval,zA,wN]
 refine ⟨fun h=>⟨h,h,?_⟩,fun h=>Xv (v:=I (-1)) rfl rfl (X9 _) ?_⟩
 ·refine Qm (hp _ (Ju h)) (Qj _) ?_
  simp only [w1,↓X1,wA,seval,zA,wN]
  refine QL (fun ht=>Xv (v:=I j) rfl rfl (X9 _) ?_) (fun hf=>next (j+1) _ ⟨by omega,fun i hi=>?_⟩ (by omega) (Xg rfl ?_ ?_ rfl))
  ·rw [Fz h ht hno]
  ·by_cases e:i=j
   ·rw [e]; exact hf
   ·exact hno i (by omega)
  ·simp [Xf,X4,Qn,I]
  ·simp [Xm,Xq,X4,Qn,I]
 ·rw [Gt fun i hi=>hno i (by omega)]
theorem Of (s:List Int) (f:FuncId) (caps:List AV) (p:Int→Bool) (hl:s.length<4611686018427387904) (hc:∀ a∈caps,Settled a) (hp:∀ x∈s,Fn Tryz.prog f ([I x] ++ caps) (.bool (p x))) :
  Fn Tryz.prog 224 [X4 s,.fn f caps] (.bool (s.any p)):=by
 refine Fn.intro (fn:=Tryz.f224) Tryz.call224 Tryz.func224 rfl mixed 5 [] [] [] (by kernel_rfl) (Nat.le_of_ble_eq_true rfl) (by simpa [X6] using Jb hc) (Xj ?_)
 simp only [AS.start,↓X1,wA,seval,zA,wN]
 have hi:=Rm p s
 refine X0 (N7 s f caps p hl hc hp) rfl ?_
 simp only [↓X1,wA,seval,zA,wN]
 exact Xv (v:=.bool (decide (0≤HA p s))) rfl rfl (X2 _) (by rw [Rm])
def zR (neg:Bool) (d:List Int):AV:=.agg [.bool neg,X4 d]
theorem Xc (neg:Bool) (d:List Int):Settled (zR neg d):=Qo (by simp [X6,X2])
def Ff (x:Int):Bool:=decide (x<0) || decide (1000000000≤x)
def K9 (neg:Bool) (d:List Int):Bool:=!(d.any Ff) && (if d.length=0 then !neg else decide (d.getD (d.length - 1) 0≠0))
theorem KJ (neg:Bool) (d:List Int):K9 neg d=true↔∃ z:Int,neg=decide (z<0)∧d=X8 z.natAbs:=by
 have hd:(!(d.any Ff))=true↔Jh d:=by
  simp only [Bool.not_eq_true',List.any_eq_false,Ff,Bool.or_eq_true,decide_eq_true_eq,not_or]
  unfold Jh XW
  constructor
  ·intro h x hx
   have:=h x hx; omega
  ·intro h x hx
   have:=h x hx; omega
 unfold K9
 rw [Bool.and_eq_true,hd]
 constructor
 ·rintro ⟨h1,h2⟩
  by_cases h0:d.length=0
  ·rw [if_pos h0] at h2
   obtain rfl:=List.length_eq_zero_iff.1 h0
   exact ⟨0,by simpa using h2,by simp [XV]⟩
  ·rw [if_neg h0] at h2
   have hc:Zq d:=⟨h1,fun _=>by simpa using h2⟩
   have hne:d≠[]:=fun e=>h0 (by rw [e]; rfl)
   have hp:0<val d:=by
    have:=BJ hc hne
    have:=JI (d.length - 1)
    omega
   refine ⟨Kn neg (val d),?_,?_⟩
   ·unfold Kn; cases neg
    ·simp; omega
    ·simp; omega
   ·rw [show (Kn neg (val d)).natAbs=(val d).toNat by unfold Kn; split <;> omega]
    exact (A0 hc).symm
 ·rintro ⟨z,rfl,rfl⟩
  refine ⟨XF _,?_⟩
  by_cases h0:(X8 z.natAbs).length=0
  ·rw [if_pos h0]
   have:=digs_len_zero.1 h0
   simp; omega
  ·rw [if_neg h0]
   exact decide_eq_true ((XM z.natAbs).2 fun e=>h0 (by rw [e]; rfl))
theorem d8 (x:Int):Fn Tryz.prog 225 [I x] (.bool (Ff x)):=by
 refine Fq Tryz.call225 Tryz.func225 3 [] [] [] (by simp [JY]) (Xj ?_); simp (maxSteps:=999999) only [AS.start,↓X1,wA,seval,zA,wN]
 unfold Ff
 refine ⟨fun h=>Xv rfl rfl (X2 _) ?_,fun h=>Xv rfl rfl (X2 _) ?_⟩ <;> simp [AS.get,h]
theorem N8 (neg:Bool) (d:List Int) (hl:d.length<4611686018427387904):Fn Tryz.prog 169 [zR neg d] (.bool (K9 neg d)):=by
 have c1:Fn Tryz.prog 224 [X4 d,.fn 225 []] (.bool (d.any Ff)):=Of d _ [] Ff hl (by simp) fun x _=>d8 x
 obtain ⟨V,hV⟩:∃ V,V=K9 neg d:=⟨_,rfl⟩
 rw [← hV]
 unfold K9 at hV
 have fin:∀ {s:AS} {v:Bool},s.get 2=.bool v→v=V→RetOk (QS Tryz.prog Tryz.f169 [] [] (.bool V)) s:=fun h e=>Xv rfl h (X2 _) (by rw [e])
 by_cases h0:d.length=0
 ·have f1:(d.length=0)=True:=eq_true h0
  have f2:((d.length:Int)=0)=True:=eq_true (by omega)
  have f3:(0<d.length)=False:=eq_false (by omega)
  have f4:(0<(d.length:Int))=False:=eq_false (by omega)
  rw [if_pos h0] at hV
  refine Fq Tryz.call169 Tryz.func169 3 [] [] [] (by simp [Xc]) (Xj ?_)
  simp only [AS.start,zR,f1,f2,f3,f4,↓X1,wA,seval,zA,wN]
  refine X0 c1 rfl ?_
  cases neg
  all_goals
   simp only [f1,f2,f3,f4,↓X1,wA,seval,zA,wN]
   refine QL (fun h=>fin rfl ?_) (fun h=>fin rfl ?_)
   all_goals rw [hV,h]; rfl
 ·have f1:(d.length=0)=False:=eq_false h0
  have f2:((d.length:Int)=0)=False:=eq_false (by omega)
  have f3:(0<d.length)=True:=eq_true (by omega)
  have f4:(0<(d.length:Int))=True:=eq_true (by omega)
  have w1:IntKind.i64.wrap ((d.length:Int) - 1)=((d.length - 1:Nat):Int):=by rw [IntKind.wrap_i64]; omega
  have f5:(d.length - 1<d.length)=True:=eq_true (by omega)
  rw [if_neg h0] at hV
  refine Fq Tryz.call169 Tryz.func169 3 [] [] [] (by simp [Xc]) (Xj ?_)
  simp only [AS.start,zR,f1,f2,f3,f4,w1,f5,Int.toNat_natCast,↓X1,wA,seval,zA,wN]
  refine X0 c1 rfl ?_
  simp only [f1,f2,f3,f4,w1,f5,Int.toNat_natCast,↓X1,wA,seval,zA,wN]
  refine QL (fun h=>fin rfl ?_) (fun h=>fin rfl ?_)
  all_goals rw [hV,h]; simp
theorem WG (neg:Bool) (d:List Int):Fn Tryz.prog 170 [zR neg d] (.bool (!neg && decide (d=[1]))):=by
 have hone:(d=[1])↔d.length=1∧d.getD 0 0=1:=by
  constructor
  ·rintro rfl; exact ⟨rfl,rfl⟩
  ·rintro ⟨h1,h2⟩
   obtain ⟨x,rfl⟩:=List.length_eq_one_iff.1 h1
   rw [show x=1 from h2]
 obtain ⟨V,hV⟩:∃ V,V=(!neg && decide (d=[1])):=⟨_,rfl⟩
 rw [← hV]
 have fin:∀ {s:AS} {v:Bool},s.get 2=.bool v→v=V→RetOk (QS Tryz.prog Tryz.f170 [] [] (.bool V)) s:=fun h e=>Xv rfl h (X2 _) (by rw [e])
 by_cases h0:d.length=1
 ·have f1:(d.length=1)=True:=eq_true h0
  have f2:((d.length:Int)=1)=True:=eq_true (by omega)
  have f3:(0<d.length)=True:=eq_true (by omega)
  have f4:(0<(d.length:Int))=True:=eq_true (by omega)
  refine Fq Tryz.call170 Tryz.func170 3 [] [] [] (by simp [Xc]) (Xj ?_)
  cases neg
  all_goals
   simp only [AS.start,zR,f1,f2,f3,f4,↓X1,wA,seval,zA,wN]
   exact fin rfl (by rw [hV]; simp [hone,h0])
 ·have f1:(d.length=1)=False:=eq_false h0
  have f2:((d.length:Int)=1)=False:=eq_false (by omega)
  have hne:¬ d=[1]:=fun h=>h0 (hone.1 h).1
  refine Fq Tryz.call170 Tryz.func170 3 [] [] [] (by simp [Xc]) (Xj ?_)
  cases neg
  all_goals
   simp only [AS.start,zR,f1,f2,↓X1,wA,seval,zA,wN]
   exact fin rfl (by rw [hV]; simp [hne])
theorem OX (z:Int):(!(decide (z<0)) && decide (X8 z.natAbs=[1]))=decide (z=1):=by
 have h1:X8 z.natAbs=[1]↔z.natAbs=1:=by
  constructor
  ·intro h
   have:=Xw z.natAbs
   rw [h] at this
   simp [val] at this; omega
  ·intro h; rw [h,IE (by omega) (by omega)]; rfl
 by_cases h:z<0
 ·simp [h]; omega
 ·simp only [h,decide_false,Bool.not_false,Bool.true_and,decide_eq_decide,h1]; omega
theorem G2 (z:Int):Fn Tryz.prog 170 [zA z] (.bool (decide (z=1))):=by
 have:=WG (decide (z<0)) (X8 z.natAbs)
 rw [OX] at this; exact this
theorem Uu:Fn Tryz.prog 210 [] (zA 1):=by
 refine Fq Tryz.call210 Tryz.func210 1 [] [] [] (by simp [JY]) (Xj ?_); simp (maxSteps:=999999) only [AS.start,↓X1,wA,seval,zA,wN]
 refine X0 (ER 1 ⟨by omega,by omega⟩) rfl ?_
 simp only [↓X1,wA,seval,zA,wN]
 exact Q9 rfl XO rfl rfl rfl rfl (XC _) ⟨Weak.rfl' _,Weak.rfl' _,trivial⟩
theorem Ha (x y:Int) (hx:bl x<1000000000) (hy:bl y<1000000000):Fn Tryz.prog 156 [zA x,zA y] (I (x - y).sign):=by
 unfold bl at hx hy
 have c1:=C8 (X8 x.natAbs) (X8 y.natAbs) (XM _) (XM _) (by omega)
 have c2:=C8 (X8 y.natAbs) (X8 x.natAbs) (XM _) (XM _) (by omega)
 rw [Xw,Xw] at c1 c2
 obtain ⟨V,hV⟩:∃ V,V=(x - y).sign:=⟨_,rfl⟩
 rw [← hV]
 have fin:∀ {s:AS} {v:Int},s.get 4=I v→v=V→RetOk (QS Tryz.prog Tryz.f156 [] [] (I V)) s:=fun h e=>Xv rfl h (X9 _) (by rw [e])
 by_cases h1:x<0 <;> by_cases h2:y<0
 ·have f1:(x<0)=True:=eq_true h1
  have f2:(y<0)=True:=eq_true h2
  refine Fq Tryz.call156 Tryz.func156 5 [] [] [] (by simp [JY]) (Xj ?_); simp (maxSteps:=999999) only [AS.start,↓X1,wA,seval,zA,wN]
  simp only [f1,f2,↓X1,wA,seval,zA,wN]
  refine X0 c2 rfl ?_
  simp only [↓X1,wA,seval,zA,wN]
  exact fin rfl (by rw [hV]; congr 1; omega)
 ·have f1:(x<0)=True:=eq_true h1
  have f2:(y<0)=False:=eq_false h2
  refine Fq Tryz.call156 Tryz.func156 5 [] [] [] (by simp [JY]) (Xj ?_); simp (maxSteps:=999999) only [AS.start,↓X1,wA,seval,zA,wN]
  simp only [f1,f2,↓X1,wA,seval,zA,wN]
  exact fin rfl (by rw [hV,Int.sign_eq_neg_one_of_neg (by omega)])
 ·have f1:(x<0)=False:=eq_false h1
  have f2:(y<0)=True:=eq_true h2
  refine Fq Tryz.call156 Tryz.func156 5 [] [] [] (by simp [JY]) (Xj ?_); simp (maxSteps:=999999) only [AS.start,↓X1,wA,seval,zA,wN]
  simp only [f1,f2,↓X1,wA,seval,zA,wN]
  exact fin rfl (by rw [hV,Int.sign_eq_one_of_pos (by omega)])
 ·have f1:(x<0)=False:=eq_false h1
  have f2:(y<0)=False:=eq_false h2
  refine Fq Tryz.call156 Tryz.func156 5 [] [] [] (by simp [JY]) (Xj ?_); simp (maxSteps:=999999) only [AS.start,↓X1,wA,seval,zA,wN]
  simp only [f1,f2,↓X1,wA,seval,zA,wN]
  refine X0 c1 rfl ?_
  simp only [↓X1,wA,seval,zA,wN]
  exact fin rfl (by rw [hV]; congr 1; omega)
theorem JO {P:Program} {fn:Func} {str hcs:List Nat} {r:AV} {s:AS} {t u id ver n:Nat} {L:List AV} (hr:fn.results=#[.cell t u]) (hk:BD P u=some (some n)) (hs:s.get t=.ref id ver 0)
  (ho:s.h[id]?=some (.row ver n (Xk L))) (hn:L.length=n) (hset:Settled r) (e:r=.agg L):RetOk (QS P fn str hcs r) s:=Q9 hr hk hs ho hn e hset (Qj L)
theorem Co (r:Rat):(X8 (qd r)).length=0↔r.den=1:=by
 rw [digs_len_zero]; unfold qd
 have:=r.den_nz
 split <;> omega
theorem Dn {r:Rat} (h:r.den=1):X8 (qd r)=[]:=by unfold qd; rw [if_pos h,XV]
theorem jn {r:Rat} (h:¬ r.den=1):X8 (qd r)=X8 r.den:=by unfold qd; rw [if_neg h]
theorem Lc {r:Rat} (h:r.den=1):qA r=.agg [.bool (decide (r.num<0)),X4 (X8 r.num.natAbs),.bool false,X4 []]:=by unfold qA qC; rw [Dn h]
theorem Wj {r:Rat} (h:¬ r.den=1):qA r=.agg [.bool (decide (r.num<0)),X4 (X8 r.num.natAbs),.bool false,X4 (X8 r.den)]:=by unfold qA qC; rw [jn h]
theorem nP (r:Rat):(X8 r.num.natAbs).length=0↔r=0:=by
 rw [digs_len_zero,← Rat.num_eq_zero]; omega
theorem kz (r:Rat):zA r.den=.agg [.bool false,X4 (X8 r.den)]:=QT _
theorem C9 (r:Rat):Fn Tryz.prog 146 [qA r] (zA r.den):=by
 obtain ⟨R,hR⟩:∃ R,R=zA r.den:=⟨_,rfl⟩
 have sR:Settled R:=hR▸XC _
 rw [← hR]
 rw [kz] at hR
 by_cases h:r.den=1
 ·have f1:((X8 (qd r)).length=0)=True:=eq_true ((Co r).2 h)
  have f2:(((X8 (qd r)).length:Int)=0)=True:=eq_true (by have:=(Co r).2 h; omega)
  refine Fq Tryz.call146 Tryz.func146 3 [] [] [] (by simp [JY,Xa,Xc]) (Xj ?_); simp (maxSteps:=999999) only [AS.start,↓X1,wA,seval,zA,qA,qC,wN]
  simp only [f1,f2,↓X1,wA,seval,zA,qA,qC,wN]
  refine X0 Uu rfl ?_
  simp only [↓X1,wA,seval,zA,qA,qC,wN]
  exact JO rfl XO rfl rfl rfl sR (by rw [hR,h]; rfl)
 ·have f1:((X8 (qd r)).length=0)=False:=eq_false fun e=>h ((Co r).1 e)
  have f2:(((X8 (qd r)).length:Int)=0)=False:=eq_false fun e=>h ((Co r).1 (by omega))
  refine Fq Tryz.call146 Tryz.func146 3 [] [] [] (by simp [JY,Xa,Xc]) (Xj ?_); simp (maxSteps:=999999) only [AS.start,↓X1,wA,seval,zA,qA,qC,wN]
  simp only [f1,f2,↓X1,wA,seval,zA,qA,qC,wN]
  exact JO rfl XO rfl rfl rfl sR (by rw [hR,jn h]; rfl)
theorem qk {z:Int} (h:z<0):zA z=.agg [.bool true,X4 (X8 z.natAbs)]:=by unfold zA; rw [decide_eq_true h]
theorem WM {z:Int} (h:¬ z<0):zA z=.agg [.bool false,X4 (X8 z.natAbs)]:=by unfold zA; rw [decide_eq_false h]
theorem DU (p q:Int) (hq:q≠0) (hg:Int.gcd p q=1):Fn Tryz.prog 147 [zA p,zA q] (qA (Rat.divInt p q)):=by
 obtain ⟨e1,e2⟩:=IG p q hq hg
 obtain ⟨R,hR⟩:∃ R,R=qA (Rat.divInt p q):=⟨_,rfl⟩
 have sR:Settled R:=hR▸Xa _
 rw [← hR]
 have key:∀ p' q':Int,p'=q.sign*p→q'=q.natAbs→(q'=1→R=.agg [.bool (decide (p'<0)),X4 (X8 p'.natAbs),.bool false,X4 []])∧(¬ q'=1→R=.agg [.bool (decide (p'<0)),X4 (X8 p'.natAbs),.bool false,X4 (X8 q'.natAbs)]):=by
  intro p' q' hp' hq'
  constructor
  ·intro h
   rw [hR,Lc (by omega),e1,hp']
  ·intro h
   rw [hR,Wj (by omega),e1,hp',e2,hq',Int.natAbs_natCast]
 by_cases h:q<0
 ·have f1:(q<0)=True:=eq_true h
  obtain ⟨k1,k2⟩:=key (-p) (-q) (by rw [Int.sign_eq_neg_one_of_neg h]; omega) (by omega)
  have cu:=G2 (-q)
  have cn:=Ov q
  rw [qk h] at cn
  have f5:decide (-q<0)=false:=decide_eq_false (by omega)
  by_cases h1:-q=1
  ·simp only [h1,decide_true] at cu
   have hk:=k1 h1
   refine Fq Tryz.call147 Tryz.func147 5 [] [] [] (by simp [JY,Xa,Xc]) (Xj ?_); simp (maxSteps:=999999) only [AS.start,↓X1,wA,seval,zA,qA,qC,wN]
   simp only [f1,↓X1,wA,seval,zA,qA,qC,wN]
   refine X0 (Ov p) rfl ?_
   simp only [f1,↓X1,wA,seval,zA,qA,qC,wN]
   refine X0 cn rfl ?_
   simp only [f1,h1,↓X1,wA,seval,zA,qA,qC,wN]
   refine X0 cu rfl ?_
   simp only [↓X1,wA,seval,zA,qA,qC,wN]
   exact Q9 rfl Qh rfl rfl rfl hk sR ⟨Weak.rfl' _,Weak.rfl' _,Weak.rfl' _,Qi _ _,trivial⟩
  ·simp only [h1,decide_false] at cu
   have hk:=k2 h1
   refine Fq Tryz.call147 Tryz.func147 5 [] [] [] (by simp [JY,Xa,Xc]) (Xj ?_); simp (maxSteps:=999999) only [AS.start,↓X1,wA,seval,zA,qA,qC,wN]
   simp only [f1,↓X1,wA,seval,zA,qA,qC,wN]
   refine X0 (Ov p) rfl ?_
   simp only [f1,↓X1,wA,seval,zA,qA,qC,wN]
   refine X0 cn rfl ?_
   simp only [f1,↓X1,wA,seval,zA,qA,qC,wN]
   refine X0 cu rfl ?_
   simp only [↓X1,wA,seval,zA,qA,qC,wN]
   exact JO rfl Qh rfl rfl rfl sR (by rw [hk,f5]; rfl)
 ·have f1:(q<0)=False:=eq_false h
  obtain ⟨k1,k2⟩:=key p q (by rw [Int.sign_eq_one_of_pos (by omega)]; omega) (by omega)
  have cu:=G2 q
  rw [WM h] at cu
  by_cases h1:q=1
  ·simp only [h1,decide_true] at cu
   have hk:=k1 h1
   subst h1
   refine Fq Tryz.call147 Tryz.func147 5 [] [] [] (by simp [JY,Xa,Xc]) (Xj ?_); simp (maxSteps:=999999) only [AS.start,↓X1,wA,seval,zA,qA,qC,wN]
   try simp only [f1,↓X1,wA,seval,zA,qA,qC,wN]
   refine X0 cu rfl ?_
   simp only [↓X1,wA,seval,zA,qA,qC,wN]
   exact Q9 rfl Qh rfl rfl rfl hk sR ⟨Weak.rfl' _,Weak.rfl' _,Weak.rfl' _,Qi _ _,trivial⟩
  ·simp only [h1,decide_false] at cu
   have hk:=k2 h1
   refine Fq Tryz.call147 Tryz.func147 5 [] [] [] (by simp [JY,Xa,Xc]) (Xj ?_); simp (maxSteps:=999999) only [AS.start,↓X1,wA,seval,zA,qA,qC,wN]
   simp only [f1,↓X1,wA,seval,zA,qA,qC,wN]
   refine X0 cu rfl ?_
   simp only [f1,↓X1,wA,seval,zA,qA,qC,wN]
   exact JO rfl Qh rfl rfl rfl sR (by rw [hk]; rfl)
theorem OC:qA 0=.agg [.bool false,X4 [],.bool false,X4 []]:=by
 rw [Lc (by rfl)]
 simp [XV]
theorem HX (p q:Int) (hp:bl p<1000000000) (hq:bl q<1000000000):Fn Tryz.prog 145 [zA p,zA q] (qA (Rat.divInt p q)):=by
 obtain ⟨R,hR⟩:∃ R,R=qA (Rat.divInt p q):=⟨_,rfl⟩
 have sR:Settled R:=hR▸Xa _
 have zp:((X8 p.natAbs).length=0)=(p=0):=propext (digs_len_zero.trans (by omega))
 have zq:((X8 q.natAbs).length=0)=(q=0):=propext (digs_len_zero.trans (by omega))
 have z0:p=0∨q=0→R=.agg [.bool false,X4 [],.bool false,X4 []]:=by
  intro h
  rw [hR,← OC]
  rcases h with rfl | rfl
  ·rw [Rat.zero_divInt]
  ·rw [Rat.divInt_zero]
 rw [← hR]
 by_cases hq0:q=0
 ·have f1:(q=0)=True:=eq_true hq0
  have f2:(((X8 q.natAbs).length:Int)=0)=True:=eq_true (by have h:(X8 q.natAbs).length=0:=(by rw [zq]; assumption); omega)
  refine Fq Tryz.call145 Tryz.func145 6 [] [] [] (by simp [JY,Xa,Xc]) (Xj ?_); simp (maxSteps:=999999) only [AS.start,↓X1,wA,seval,zA,qA,qC,wN]
  simp only [zq,f1,f2,↓X1,wA,seval,zA,qA,qC,wN]
  exact Q9 rfl Qh rfl rfl rfl (z0 (.inr hq0)) sR ⟨Weak.rfl' _,Qi _ _,Weak.rfl' _,Qi _ _,trivial⟩
 have f1:(q=0)=False:=eq_false hq0
 have f2:(((X8 q.natAbs).length:Int)=0)=False:=eq_false (fun e=>hq0 (by rw [← zq]; omega))
 by_cases hp0:p=0
 ·have f3:(p=0)=True:=eq_true hp0
  have f4:(((X8 p.natAbs).length:Int)=0)=True:=eq_true (by have h:(X8 p.natAbs).length=0:=(by rw [zp]; assumption); omega)
  refine Fq Tryz.call145 Tryz.func145 6 [] [] [] (by simp [JY,Xa,Xc]) (Xj ?_); simp (maxSteps:=999999) only [AS.start,↓X1,wA,seval,zA,qA,qC,wN]
  simp only [zp,zq,f1,f2,f3,f4,↓X1,wA,seval,zA,qA,qC,wN]
  exact Q9 rfl Qh rfl rfl rfl (z0 (.inl hp0)) sR ⟨Weak.rfl' _,Qi _ _,Weak.rfl' _,Qi _ _,trivial⟩
 have f3:(p=0)=False:=eq_false hp0
 have f4:(((X8 p.natAbs).length:Int)=0)=False:=eq_false (fun e=>hp0 (by rw [← zp]; omega))
 have cg:=gZ p q hp hq
 have cu:=G2 (Int.gcd p q)
 obtain ⟨g,hg⟩:∃ g:Int,g=Int.gcd p q:=⟨_,rfl⟩
 have hg0:0<Int.gcd p q:=Int.gcd_pos_of_ne_zero_right _ hq0
 have hgq:bl g≤bl q:=J5 (by
  have:=Nat.le_of_dvd (by omega) (Int.gcd_dvd_natAbs_right p q)
  omega)
 rw [← hg] at cg cu
 by_cases h1:g=1
 ·have cl:=DU p q hq0 (by omega)
  rw [hR]
  rw [h1] at cg cu
  simp only [decide_true] at cu
  obtain ⟨R',hR'⟩:∃ R',R'=qA (Rat.divInt p q):=⟨_,rfl⟩
  rw [← hR'] at cl ⊢
  have sR':Settled R':=hR'▸Xa _
  refine Fq Tryz.call145 Tryz.func145 6 [] [] [] (by simp [JY,Xa,Xc]) (Xj ?_); simp (maxSteps:=999999) only [AS.start,↓X1,wA,seval,zA,qA,qC,wN]
  simp only [zp,zq,f1,f2,f3,f4,↓X1,wA,seval,zA,qA,qC,wN]
  refine X0 cg rfl ?_
  simp only [↓X1,wA,seval,zA,qA,qC,wN]
  refine X0 cu rfl ?_
  simp only [↓X1,wA,seval,zA,qA,qC,wN]
  refine X0 cl rfl ?_
  simp only [hR',↓X1,wA,seval,zA,qA,qC,wN]
  exact JO rfl Qh rfl rfl rfl sR' (hR'.trans rfl)
 ·obtain ⟨d1,d2,d3⟩:=CE p q hq0 g hg
  have cl:=DU (p / g) (q / g) d3 d2
  rw [d1,← hR] at cl
  simp only [h1,decide_false] at cu
  have c1:=gb p g hp (by omega) (by omega)
  have c2:=gb q g hq (by omega) (by omega)
  refine Fq Tryz.call145 Tryz.func145 6 [] [] [] (by simp [JY,Xa,Xc]) (Xj ?_); simp (maxSteps:=999999) only [AS.start,↓X1,wA,seval,zA,qA,qC,wN]
  simp only [zp,zq,f1,f2,f3,f4,↓X1,wA,seval,zA,qA,qC,wN]
  refine X0 cg rfl ?_
  simp only [↓X1,wA,seval,zA,qA,qC,wN]
  refine X0 cu rfl ?_
  simp only [↓X1,wA,seval,zA,qA,qC,wN]
  refine X0 c1 rfl ?_
  simp only [↓X1,wA,seval,zA,qA,qC,wN]
  refine X0 c2 rfl ?_
  simp only [↓X1,wA,seval,zA,qA,qC,wN]
  refine X0 cl rfl ?_
  simp only [hR,↓X1,wA,seval,zA,qA,qC,wN]
  exact JO rfl Qh rfl rfl rfl sR (hR.trans rfl)
theorem QR {n:Int} (h:ZO n):bl n≤3:=Iq (by unfold ZO at h; simp only [pw]; omega)
theorem EX (p q:Int) (hp:ZO p) (hq:ZO q):Fn Tryz.prog 57 [I p,I q] (qA (Rat.divInt p q)):=by
 obtain ⟨R,hR⟩:∃ R,R=qA (Rat.divInt p q):=⟨_,rfl⟩
 have sR:Settled R:=hR▸Xa _
 have cm:=HX p q (by have:=QR hp; omega) (by have:=QR hq; omega)
 rw [← hR] at cm ⊢
 refine Fq Tryz.call57 Tryz.func57 5 [] [] [] (by simp [JY,Xa,Xc]) (Xj ?_); simp (maxSteps:=999999) only [AS.start,↓X1,wA,seval,zA,qA,qC,wN]
 refine X0 (ER p hp) rfl ?_
 simp only [↓X1,wA,seval,zA,qA,qC,wN]
 refine X0 (ER q hq) rfl ?_
 simp only [↓X1,wA,seval,zA,qA,qC,wN]
 refine X0 cm rfl ?_
 simp only [hR,↓X1,wA,seval,zA,qA,qC,wN]
 exact JO rfl Qh rfl rfl rfl sR (hR.trans rfl)
theorem KD (r:Rat):Fn Tryz.prog 66 [qA r] (I r.num.sign):=by
 refine Fq Tryz.call66 Tryz.func66 3 [] [] [] (by simp [JY,Xa,Xc]) (Xj ?_); simp (maxSteps:=999999) only [AS.start,↓X1,wA,seval,zA,qA,qC,wN]
 refine X0 (oF r.num) rfl ?_
 simp only [↓X1,wA,seval,zA,qA,qC,wN]
 exact Xv rfl rfl (X9 _) rfl
theorem Cu (r:Rat):Fn Tryz.prog 118 [qA r] (qA (-r)):=by
 obtain ⟨R,hR⟩:∃ R,R=qA (-r):=⟨_,rfl⟩
 have sR:Settled R:=hR▸Xa _
 have e:R=.agg [.bool (decide (-r.num<0)),X4 (X8 (-r.num).natAbs),.bool false,X4 (X8 (qd r))]:=by rw [hR]; rfl
 rw [← hR]
 refine Fq Tryz.call118 Tryz.func118 3 [] [] [] (by simp [JY,Xa,Xc]) (Xj ?_); simp (maxSteps:=999999) only [AS.start,↓X1,wA,seval,zA,qA,qC,wN]
 refine X0 (Ov r.num) rfl ?_
 simp only [↓X1,wA,seval,zA,qA,qC,wN]
 exact JO rfl Qh rfl rfl rfl sR (e.trans rfl)
def rm:Nat:=100000000
theorem I6 {a:Rat} (h:a.den=1):a=((a.num:Int):Rat):=Rat.ext (by rw [Rat.num_intCast]) (by rw [h,Rat.den_intCast])
theorem ld {a b:Rat} (ha:a.den=1) (hb:b.den=1):(a+b).num=a.num+b.num∧(a+b).den=1:=by
 rw [I6 ha,I6 hb,← Rat.intCast_add]
 exact ⟨Rat.num_intCast _,Rat.den_intCast _⟩
theorem nM {a b:Rat} (ha:a.den=1) (hb:b.den=1):(a*b).num=a.num*b.num∧(a*b).den=1:=by
 rw [I6 ha,I6 hb,← Rat.intCast_mul]
 exact ⟨Rat.num_intCast _,Rat.den_intCast _⟩
theorem I5 (r:Rat):(((X8 (qd r)).length:Int)=0)=(r.den=1):=propext (by rw [← Co]; omega)
theorem FF (r:Rat):(((X8 r.num.natAbs).length:Int)=0)=(r=0):=propext (by rw [← nP]; omega)
theorem A2 (a b:Rat) (ha:qb a≤rm) (hb:qb b≤rm):Fn Tryz.prog 70 [qA a,qA b] (qA (a+b)):=by
 unfold rm at ha hb
 have a1:=JW a; have a2:=K4 a; have b1:=JW b; have b2:=K4 b
 obtain ⟨R,hR⟩:∃ R,R=qA (a+b):=⟨_,rfl⟩
 have sR:Settled R:=hR▸Xa _
 have la:=I5 a
 have lb:=I5 b
 have na:=FF a
 have nb:=FF b
 rw [← hR]
 by_cases hi:a.den=1∧b.den=1
 ·have f1:(a.den=1)=True:=eq_true hi.1
  have f2:(b.den=1)=True:=eq_true hi.2
  obtain ⟨e1,e2⟩:=ld hi.1 hi.2
  have hR':=hR.trans (Lc e2)
  rw [e1] at hR'
  refine Fq Tryz.call70 Tryz.func70 7 [] [7,80000002,80000003] [] (by simp [JY,Xa,Xc]) (Xj ?_); simp (maxSteps:=999999) only [AS.start,↓X1,wA,seval,zA,qA,qC,wN]
  simp only [la,lb,f1,f2,↓X1,wA,seval,zA,qA,qC,wN]
  refine X0 (eD a.num b.num (by unfold room; omega) (by unfold room; omega)) rfl ?_
  simp only [↓X1,wA,seval,zA,qA,qC,wN]
  exact Q9 rfl Qh rfl rfl rfl hR' sR ⟨Weak.rfl' _,Weak.rfl' _,Weak.rfl' _,Qi _ _,trivial⟩
 have hnn:(a.den:Int)*b.den≠0:=Int.mul_ne_zero (by have:=a.den_nz; omega) (by have:=b.den_nz; omega)
 have e0:a+b=Rat.divInt (a.num*b.den+b.num*a.den) (a.den*b.den):=by
  rw [Rat.add_def',KM]; push_cast; rfl
 have m1:=Kf a.num b.den
 have m2:=Kf b.num a.den
 have m3:=Kf a.den b.den
 have m4:=TI (a.num*b.den) (b.num*a.den)
 have cA:=C9 a
 have cB:=C9 b
 have c1:=Dj a.num b.den (by unfold room; omega) (by unfold room; omega)
 have c2:=Dj b.num a.den (by unfold room; omega) (by unfold room; omega)
 have c3:=eD (a.num*b.den) (b.num*a.den) (by unfold room; omega) (by unfold room; omega)
 have c4:=Dj a.den b.den (by unfold room; omega) (by unfold room; omega)
 have c5:=HX (a.num*b.den+b.num*a.den) (a.den*b.den) (by omega) (by omega)
 rw [← e0,← hR] at c5
 by_cases f:a.den=1
 ·have f1:(a.den=1)=True:=eq_true f
  have f2:(b.den=1)=False:=eq_false fun e=>hi ⟨f,e⟩
  by_cases ha0:a=0
  ·have g1:(a=0)=True:=eq_true ha0
   have hR':R=qA b:=by rw [hR,ha0,Rat.zero_add]
   refine Fq Tryz.call70 Tryz.func70 7 [] [7,80000002,80000003] [] (by simp [JY,Xa,Xc]) (Xj ?_); simp (maxSteps:=999999) only [AS.start,↓X1,wA,seval,zA,qA,qC,wN]
   simp only [la,lb,na,nb,f1,f2,g1,↓X1,wA,seval,zA,qA,qC,wN]
   exact JO rfl Qh rfl rfl rfl sR (hR'.trans rfl)
  have g1:(a=0)=False:=eq_false ha0
  by_cases hb0:b=0
  ·have g2:(b=0)=True:=eq_true hb0
   have hR':R=qA a:=by rw [hR,hb0,Rat.add_zero]
   refine Fq Tryz.call70 Tryz.func70 7 [] [7,80000002,80000003] [] (by simp [JY,Xa,Xc]) (Xj ?_); simp (maxSteps:=999999) only [AS.start,↓X1,wA,seval,zA,qA,qC,wN]
   simp only [la,lb,na,nb,f1,f2,g1,g2,↓X1,wA,seval,zA,qA,qC,wN]
   exact JO rfl Qh rfl rfl rfl sR (hR'.trans rfl)
  have g2:(b=0)=False:=eq_false hb0
  refine Fq Tryz.call70 Tryz.func70 7 [] [7,80000002,80000003] [] (by simp [JY,Xa,Xc]) (Xj ?_); simp (maxSteps:=999999) only [AS.start,↓X1,wA,seval,zA,qA,qC,wN]
  simp only [la,lb,na,nb,f1,f2,g1,g2,↓X1,wA,seval,zA,qA,qC,wN]
  refine X0 cA rfl ?_
  simp only [↓X1,wA,seval,zA,qA,qC,wN]
  refine X0 cB rfl ?_
  simp only [↓X1,wA,seval,zA,qA,qC,wN]
  refine X0 c1 rfl ?_
  simp only [↓X1,wA,seval,zA,qA,qC,wN]
  refine X0 c2 rfl ?_
  simp only [↓X1,wA,seval,zA,qA,qC,wN]
  refine X0 c3 rfl ?_
  simp only [↓X1,wA,seval,zA,qA,qC,wN]
  refine X0 c4 rfl ?_
  simp only [↓X1,wA,seval,zA,qA,qC,wN]
  refine X0 c5 rfl ?_
  simp only [hR,↓X1,wA,seval,zA,qA,qC,wN]
  exact JO rfl Qh rfl rfl rfl sR (hR.trans rfl)
 ·have f1:(a.den=1)=False:=eq_false f
  have f2:True=True:=rfl
  by_cases ha0:a=0
  ·have g1:(a=0)=True:=eq_true ha0
   have hR':R=qA b:=by rw [hR,ha0,Rat.zero_add]
   refine Fq Tryz.call70 Tryz.func70 7 [] [7,80000002,80000003] [] (by simp [JY,Xa,Xc]) (Xj ?_); simp (maxSteps:=999999) only [AS.start,↓X1,wA,seval,zA,qA,qC,wN]
   simp only [la,lb,na,nb,f1,f2,g1,↓X1,wA,seval,zA,qA,qC,wN]
   exact JO rfl Qh rfl rfl rfl sR (hR'.trans rfl)
  have g1:(a=0)=False:=eq_false ha0
  by_cases hb0:b=0
  ·have g2:(b=0)=True:=eq_true hb0
   have hR':R=qA a:=by rw [hR,hb0,Rat.add_zero]
   refine Fq Tryz.call70 Tryz.func70 7 [] [7,80000002,80000003] [] (by simp [JY,Xa,Xc]) (Xj ?_); simp (maxSteps:=999999) only [AS.start,↓X1,wA,seval,zA,qA,qC,wN]
   simp only [la,lb,na,nb,f1,f2,g1,g2,↓X1,wA,seval,zA,qA,qC,wN]
   exact JO rfl Qh rfl rfl rfl sR (hR'.trans rfl)
  have g2:(b=0)=False:=eq_false hb0
  refine Fq Tryz.call70 Tryz.func70 7 [] [7,80000002,80000003] [] (by simp [JY,Xa,Xc]) (Xj ?_); simp (maxSteps:=999999) only [AS.start,↓X1,wA,seval,zA,qA,qC,wN]
  simp only [la,lb,na,nb,f1,f2,g1,g2,↓X1,wA,seval,zA,qA,qC,wN]
  refine X0 cA rfl ?_
  simp only [↓X1,wA,seval,zA,qA,qC,wN]
  refine X0 cB rfl ?_
  simp only [↓X1,wA,seval,zA,qA,qC,wN]
  refine X0 c1 rfl ?_
  simp only [↓X1,wA,seval,zA,qA,qC,wN]
  refine X0 c2 rfl ?_
  simp only [↓X1,wA,seval,zA,qA,qC,wN]
  refine X0 c3 rfl ?_
  simp only [↓X1,wA,seval,zA,qA,qC,wN]
  refine X0 c4 rfl ?_
  simp only [↓X1,wA,seval,zA,qA,qC,wN]
  refine X0 c5 rfl ?_
  simp only [hR,↓X1,wA,seval,zA,qA,qC,wN]
  exact JO rfl Qh rfl rfl rfl sR (hR.trans rfl)
end
end Go.Ab.N
