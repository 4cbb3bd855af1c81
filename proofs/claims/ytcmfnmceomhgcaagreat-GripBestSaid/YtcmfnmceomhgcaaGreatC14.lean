/- Contracts of functions, for every argument that fits. -/
import Derived.Test.YtcmfnmceomhgcaaGreatC13
import Derived.Test.YtcmfnmceomhgcaaGreatC9
import Derived.Test.YtcmfnmceomhgcaaGreatC10
set_option linter.unusedSimpArgs false
set_option linter.unusedVariables false
open Go.Ab.AS renaming start→P'
open Int renaming sign_eq_zero_iff_zero→ZDP
open List renaming map_append→ZEN
open Rat renaming divInt→O_
namespace Go.Ab.N
open Go Go.RowKit Go.Proofs
noncomputable section
set_option maxRecDepth 10000
set_option maxHeartbeats 4000000
open Classical
structure RZ where
 x:Rat
 r:Bool
def RZ.Q (z:RZ):List Int:=bif z.r then [1]else Xb (qd z.x)
def RZ.m (z:RZ):Rat:=bif z.r then(z.x.num:Rat)else z.x
def RZ.neg (z:RZ):RZ:=⟨-z.x,z.r⟩
def RZ.q (z:RZ):RQ:=⟨sg z.x,Xb z.x.num.natAbs,false,z.Q⟩
def RZ.C (z:RZ):List AV:=[.bool (sg z.x),X8 (Xb z.x.num.natAbs),.bool false,X8 z.Q]
structure RG where
 p:V2
 q:V2
 a:RZ
 b:RZ
 force:Rat
 E_:Rat
def RG.of (g:GG):RG:=⟨g.p,g.q,⟨g.n.x,false⟩,⟨g.n.y,false⟩,g.force,g.E_⟩
def RG.S (g:RG)(c:Nat):Prop:=vb g.p≤c∧vb g.q≤c∧qb g.a.x≤c∧qb g.b.x≤c∧qb g.force≤c∧qb g.E_≤c
theorem RZ.TCB (z:RZ):z.q.ok↔z.r=false:=by
 obtain⟨x,r⟩:=z;cases r
 ·exact⟨fun _=>rfl,fun _=>tC x⟩
 ·exact⟨fun h=>absurd h (WL x),fun h=>by cases h⟩
theorem RZ.sz (z:RZ)(h:qb z.x≤100000):z.q.sz<1000000000:=by
 obtain⟨x,r⟩:=z;have h:qb x≤100000:=h;have:=tQ x (by unfold rm;omega);cases r
 ·exact this
 ·unfold RQ.sz RZ.q RZ.Q
  unfold RQ.sz RQ.of at this;simp only[cond_true,ZAF,ZAc]at *;omega
theorem xD {A:List AV}(B:List AV){n j:Nat}(h:A.length=n)(hj:j<n):Xf (A ++ B) j=A.getD j .any:=by
 show(A ++ B).getD j .any=_;rw[K',S_ (by omega),K']
theorem xE {A:List AV}(B:List AV){n i j:Nat}(h:A.length=n)(hi:i=n+j):Xf (A ++ B) i=B.getD j .any:=by
 show(A ++ B).getD i .any=_;rw[K',d_ (by omega),K',h,show i-n=j by omega]
theorem Cr (x:Rat):∀j,j<4→((qC x).getD j .any).one=true:=fun j hj=>by
 match j,hj with
 |0,_ |1,_ |2,_ |3,_=>rfl
 |j+4,h=>omega
theorem Gq (l:List Rat):(Q0 l).boxed=Q0 l:=C_ rfl
theorem IR (l:List Rat)(t:Rat)(hl:l.length<1000000)(ht:qb t≤rm)(h:∀x∈l,qb x≤rm):Fn Tryz.prog 197 [Q0 l,qA t] (Q0 (l.map (·*t))):=by
  have bV:∀q,J9 q (Q0 l)=True:=fun q=>K_ (X4 (Xn l))
  have bO:∀q i,XX q (.row i 4 (Xf (qC t)))=True:=fun q i=>K_ (QN (XV t))
  have bR:∀q i n x,XX q (.row i n (Xv qC 4 0 x))=True:=fun q i n x=>K_ fun j _=>X4 (Xe (XV _) _)
  refine y_ (fn:=Tryz.f197) Tryz.call197 Tryz.func197 rfl mixed 7 [] [] [] (by kernel_rfl) (L' rfl) (KS (Xn l) (Xa t)) (Xk ?_);simp(disch:=omega)only[P',Xt,qA,qC,↓Xd,wG,seval];refine Xi (fun i:Nat=>⟨7,[],[Q0 l,.any,.any,.ref 0 0 0,.any,.osl 1 i 4 0 i,I i],[],[.row 0 4 (Xf (qC t)),.row i (i*4) (Xv qC 4 0 ((l.take i).map (·*t)))]⟩) (fun i=>i≤l.length) (fun i=>l.length-i) 0 (by omega)
    (ZA8 (JM 5 4 (Xv qC 4 0 []) rfl) (Xh rfl ⟨.inr (Xt l).symm,.inl rfl,.inl rfl,.inr rfl,.inl rfl,.inr rfl,.inr rfl,trivial⟩ trivial rfl)) ?_
  intro i hi next
  have w1:=wj i (by omega);have hlk:∀i,i≤l.length→((l.take i).map (·*t)).length=i:=fun i hi=>by simp;omega
  by_cases hi2:i<l.length
  · have f1:(i<l.length)=True:=K_ hi2;have v0:Xl (fun i=>l.getD i 0) (i*4)=(qC (l.getD i 0)).getD 0 .any:=Kg qC 4 0 l i (by omega);have v1:∀j,j<4→Xl (fun i=>l.getD i 0) (i*4+j)=(qC (l.getD i 0)).getD j .any:=fun j hj=>JE qC 4 0 l i j hj
    have s1:=h _ (Q9 0 hi2);have hk:=hlk i hi;have ht2:(l.take i).map (·*t) ++ [l.getD i 0*t]=(l.take (i+1)).map (·*t):=by
      rw[Gv l 0 hi2,ZEN];rfl
    have nx:=next (i+1)
    rw[←ht2]at nx;generalize l.getD i 0=p at *;have c1:=QR p t s1 ht;have hap:=Zj qC 4 0 ((l.take i).map (·*t)) (p*t) (by omega);rw[hk]at hap;refine Xk ?_;simp(disch:=omega)only[Xt,w1,f1,v0,v1,qC,↓Xd,wG,seval];refine X0 c1 (X1 _) ?_;simp(disch:=omega)only[qA,qC,↓Xd,wG,seval];exact⟨fun j hj=>Cr (p*t) j hj,nx _ (by omega) (by omega) (mD (m:=2) (by simp[Xm,I,Xt]) (by rw[←hap];rfl) (by simp[XK,bV]) (by simp[bO,bR]))⟩
  · obtain rfl:i=l.length:=by omega
    refine Xk ?_;simp(disch:=omega)only[Xt,↓Xd,wG,seval];refine A9 rfl ?_;show Zs _ (.osl 1 l.length 4 0 l.length) (Q0 (l.map (·*t)));have hk:=hlk l.length (N' _);rw[ZAQ]at hk;rw[Xt,hk,ZAQ];refine Kc (.inl rfl) (by omega) (fun h=>by rw[h]) fun j hj=>?_
    rw[x_];exact(Xe (XV _) _).TBH _
theorem MU (l:List Rat)(hl:l.length<1000000)(h:∀x∈l,qb x≤rm):Fn Tryz.prog 124 [Q0 l] (Q0 (C1 l)):=by
  have c0:=XS (-1) 1 ⟨by omega,by omega⟩ ⟨by omega,by omega⟩;rw[show O_ (-1) 1 = -1 by decide +kernel]at c0;have c1:=IR l (-1) hl (by decide +kernel) h;rw[show l.map (· * -1)=C1 l from ZAL fun x _=>by grind]at c1;refine y_ (fn:=Tryz.f124) Tryz.call124 Tryz.func124 rfl mixed 2 [] [] [] (by kernel_rfl) (L' rfl) (fun a ha=>a_.1 ha▸Xn l) (Xk ?_);simp(disch:=omega)only[P',↓Xd,wG,seval];refine X0 c0 (X1 _) ?_;simp(disch:=omega)only[↓Xd,wG,seval];refine X0 c1 (X1 _) ?_;simp(disch:=omega)only[↓Xd,wG,seval];exact Xp rfl rfl (Xn _) rfl
theorem AU (a b c d k r:Rat):Fn Tryz.prog 123 [qA a,qA b,qA c,qA d,qA k,qA r] (.agg (KR ⟨[a,b,c,d,k],r⟩)):=by
 refine Fq Tryz.call123 Tryz.func123 13 [] [] [] (by simp[Xa]) (Xk ?_);simp(disch:=omega)only[P',qA,qC,↓Xd,wG,seval];exact Cv rfl kR rfl rfl rfl (Xw (QD (KW _)) (JX ⟨Kt qC 4 0 (fun _=>rfl) [a,b,c,d,k] _ _ _ _ rfl rfl rfl,X' _,X' _,X' _,X' _,trivial⟩))
def Tu (b:BB)(g:GG):List Ln :=
  [⟨[-1,0,0,0,0],0⟩,⟨[0,0,-1,0,0],0⟩,⟨[-g.E_,1,0,0,0],0⟩,⟨[-g.E_,-1,0,0,0],0⟩,⟨[0,0,-g.E_,1,0],0⟩,⟨[0,0,-g.E_,-1,0],0⟩,
   ⟨[QM g.n,0,0,0,0],g.force⟩,⟨[0,0,QM g.n,0,0],g.force⟩,⟨[QM g.n,0,QM g.n,0,0],b.TAB⟩,⟨[0,0,0,0,1],16⟩,⟨[0,0,0,0,-1],0⟩]
def EM (b:BB)(g:GG):List Ln:=Tu b g ++ (Ej b g).flatMap GF
theorem Tx (b:BB)(g:GG)(x:Nat→Rat):(∀i,i<17→XN (fun k=>lA (EM b g) i k*x k) 5≤lB (EM b g) i)↔okP b g (x 0) (x 1) (x 2) (x 3) (x 4):=by
 rw[←GS];constructor
 ·intro h i hi
  match i,hi with
  |0,_=>exact h 0 (by omega)
  |1,_=>exact h 1 (by omega)
  |2,_=>exact h 2 (by omega)
  |3,_=>exact h 4 (by omega)
  |4,_=>exact h 3 (by omega)
  |5,_=>exact h 5 (by omega)
  |6,_=>exact h 6 (by omega)
  |7,_=>exact h 7 (by omega)
  |8,_=>exact h 8 (by omega)
  |9,_=>exact h 9 (by omega)
  |10,_=>exact h 10 (by omega)
  |11,_=>exact h 11 (by omega)
  |12,_=>exact h 12 (by omega)
  |13,_=>exact h 13 (by omega)
  |14,_=>exact h 14 (by omega)
  |15,_=>exact h 15 (by omega)
  |16,_=>exact h 16 (by omega)
  |i+17,h=>omega
 ·intro h i hi
  match i,hi with
  |0,_=>exact h 0 (by omega)
  |1,_=>exact h 1 (by omega)
  |2,_=>exact h 2 (by omega)
  |3,_=>exact h 4 (by omega)
  |4,_=>exact h 3 (by omega)
  |5,_=>exact h 5 (by omega)
  |6,_=>exact h 6 (by omega)
  |7,_=>exact h 7 (by omega)
  |8,_=>exact h 8 (by omega)
  |9,_=>exact h 9 (by omega)
  |10,_=>exact h 10 (by omega)
  |11,_=>exact h 11 (by omega)
  |12,_=>exact h 12 (by omega)
  |13,_=>exact h 13 (by omega)
  |14,_=>exact h 14 (by omega)
  |15,_=>exact h 15 (by omega)
  |16,_=>exact h 16 (by omega)
  |i+17,h=>omega
theorem rh {b:BB}{g:GG}{x y:Nat→Rat}{val:Rat}(h:TAw 5 17 (lA (EM b g)) (lB (EM b g)) (lG TAN) x y val):kM b g val∧okP b g (x 0) (x 1) (x 2) (x 3) val∧x 4=val:=by
 have e:x 4=val:=by rw[←h.TCg,Lq 0]
 have ok:=(Tx b g x).1 h.TC5;rw[e]at ok;refine⟨⟨⟨_,_,_,_,ok⟩,fun a0 c0 a1 c1 k' hk=>?_⟩,ok,e⟩
 let z:Nat→Rat:=fun k=>match k with |0=>a0 |1=>c0 |2=>a1 |3=>c1 |_=>k'
 have:=h.most (z:=z) ((Tx b g z).2 hk);rw[Lq 0]at this;exact this
theorem Q7 (l:List Rat):(Q0 l).one=true:=C_ rfl
theorem XL (l:List Rat):(Q0 l).loose=Q0 l:=C_ rfl
theorem KE (l:List Rat):(Q0 l).cells=[Q0 l]:=C_ rfl
theorem EE (x y:Ln):∀j,j<10→((KR x ++ KR y).getD j .any).one=true:=fun j hj=>by
 match j,hj with
 |0,_ |1,_ |2,_ |3,_ |4,_ |5,_ |6,_ |7,_ |8,_ |9,_=>rfl
 |j+10,h=>omega
theorem dw (x:Ln):∀j,j<5→((KR x).getD j .any).one=true:=fun j hj=>by
 match j,hj with
 |0,_ |1,_ |2,_ |3,_ |4,_=>rfl
 |j+5,h=>omega
def HJ (x:V2):AV:=.ptr 8 (Xf (vC x)) 0
def Gr (b:BB)(g:GG)(ver:Nat)(Ls:List Ln):List AO:=[.con 0 20 (Xf (bC b)),.con 0 32 (Xf (gC g)),.row 0 3 (Xf [I 0,.sl 0 0 (fun _=>.any) true,.sl 0 0 (fun _=>.any) true]),
 .con 0 4 (Xf (qC 0)),.con 0 4 (Xf (qC 1)),.con 0 4 (Xf (qC (-1))),.con 0 4 (Xf (qC (-g.E_))),.con 0 4 (Xf (qC (QM g.n))),.con 0 8 (Xf (vC g.n.F')),.con 0 8 (Xf (vC (g.p.sub b.c))),.con 0 8 (Xf (vC (g.q.sub b.c))),
 .row 0 3 (Xf [I 5,.osl 12 ver 5 0 Ls.length,Q0 TAN]),.row ver (Ls.length*5) (Xv KR 5 KK Ls)]
def G3 (b:BB)(g:GG)(l:List AV):List AV:=[.any,.any,bP b,gP g,.ref 2 0 0,Jo 0,Jo 1,Jo (-1),Jo (-g.E_),Jo (QM g.n),HJ g.n.F',HJ (g.p.sub b.c),HJ (g.q.sub b.c),.ref 11 0 0] ++ l
theorem kX (Ls:List Ln)(x y:Ln):∀j,j<(Ls ++ [x,y]).length*5→Q1 (Ls.length*5) (Xv KR 5 KK Ls) 10 (Xf (KR x ++ KR y)) j=Xv KR 5 KK (Ls ++ [x,y]) j:=fun j hj =>
 LD KR 5 KK Ls [x,y] _ _ (by omega) (fun _ _=>rfl) (fun j hj=>by
  have:j<10:=hj
  match j,this with
  |0,_ |1,_ |2,_ |3,_ |4,_ |5,_ |6,_ |7,_ |8,_ |9,_=>rfl
  |j+10,h=>omega) _ _ rfl rfl j hj
def zz:List AV:=[.bool false,.sl 0 0 (fun _=>.any) false,.bool false,.sl 0 0 (fun _=>.any) false]
theorem qE (H:List AO)(Ls:List Ln)(r s:List Rat)(w:AV)(j:Nat)(hw:w=Q0 s):j<(Ls.length+2)*5→Ko H (Q1 (Ls.length*5) (Xv KR 5 KK Ls) 10 (Xf (Q0 r :: zz ++ w :: zz)) j) (Xv KR 5 KK (Ls ++ [⟨r,0⟩,⟨s,0⟩]) j):=fun hj=>by
 subst hw;rw[←kX Ls ⟨r,0⟩ ⟨s,0⟩ j (by rw[f_];exact hj)];unfold Q1
 split
 ·exact XC _ _
 ·rw[N_ (by omega),N_ (by omega)]
  have h10:j-Ls.length*5<10:=by omega
  have w0:=Jj false;generalize j-Ls.length*5=k at *
  match k,h10 with
  |0,_=>exact XC _ _
  |1,_=>exact XI w0.1
  |2,_=>exact XI w0.2.1
  |3,_=>exact XI w0.2.2.1
  |4,_=>exact XI w0.2.2.2.1
  |5,_=>exact XC _ _
  |6,_=>exact XI w0.1
  |7,_=>exact XI w0.2.1
  |8,_=>exact XI w0.2.2.1
  |9,_=>exact XI w0.2.2.2.1
  |k+10,h=>omega
theorem TL (b:BB)(g:GG)(h1:vb b.c≤1400)(h2:vb g.p≤1400)(h3:vb g.q≤1400)(h4:vb g.n≤1400)(h5:qb b.TAJ≤1400)(h6:qb g.E_≤1400):Fn Tryz.prog 50 [bA b,gA g] (P6 5 (EM b g) TAN):=by
 have c1:=XS 1 1 ⟨by omega,by omega⟩ ⟨by omega,by omega⟩;rw[show O_ 1 1=1 by decide +kernel]at c1;have cm:=XS (-1) 1 ⟨by omega,by omega⟩ ⟨by omega,by omega⟩;rw[show O_ (-1) 1 = -1 by decide +kernel]at cm;have c16:=XS 16 1 ⟨by omega,by omega⟩ ⟨by omega,by omega⟩;rw[show O_ 16 1=16 by decide +kernel]at c16;have cr:=Jx g.E_ (by unfold rm;omega);have cq:=IP g.n (by unfold rm;omega);have cp:=J1 g.p b.c (by unfold rm;omega) (by unfold rm;omega);have cs:=J1 g.q b.c (by unfold rm;omega) (by unfold rm;omega);have cl:=W4 g.n (by unfold rm;omega);have:=Jk g.n;have:=Jc g.n;have:=Jk g.n.F';have:=Jc g.n.F';have vt:vb g.n.F'=vb g.n:=Cc g.n;have vp:=J3 g.p b.c;have vq:=J3 g.q b.c;have k1:=Kv (g.q.sub b.c) g.n;have k2:=Kv (g.q.sub b.c) g.n.F';obtain⟨R,hR⟩:∃R,R=P6 5 (EM b g) TAN:=⟨_,rfl⟩
 have sR:A_ R:=hR▸BM _ _ _;rw[←hR];refine y_ (fn:=Tryz.f50) Tryz.call50 Tryz.func50 rfl mixed 19 [] [9,10000,10001,10002,10003,10004,10005] [] (by kernel_rfl) (L' rfl) (KS (Jz b) (J2 g)) (XF 10 ?_);simp(disch:=omega)only[P',bA,gA,J4,QZ,Xo,↓Xd,wG,seval];refine e_ (s':=⟨19,[],[.any,.any,.ref 0 0 0,.ref 1 0 0,.ref 2 0 0,.any,.any,.any,.any,.any,.any,.any,.any,.any,.any,.any,.any,.any,.any],[],[.row 0 20 (Xf (bC b)),.row 0 32 (Xf (gC g)),.row 0 3 (Xf [I 0,.sl 0 0 (fun _=>.any) true,.sl 0 0 (fun _=>.any) true])]⟩) ?_ (Xh rfl (by simp[Xm]) trivial (by rw[J4,QZ];rfl));refine e_ ?_ (XB 0 rfl);refine e_ ?_ (XB 1 rfl);refine e_ ?_ (XH 2 rfl rfl (by omega));refine e_ ?_ (XH 3 rfl rfl (by omega));refine e_ (s':=⟨19,[],[.any,.any,bP b,gP g,.ref 2 0 0,.any,.any,.any,.any,.any,.any,.any,.any,.any,.any,.any,.any,.any,.any],[],[.con 0 20 (Xf (bC b)),.con 0 32 (Xf (gC g)),.row 0 3 (Xf [I 0,.sl 0 0 (fun _=>.any) true,.sl 0 0 (fun _=>.any) true])]⟩) ?_ (Xh rfl (by simp[AS.put,Xm,bP,gP]) trivial rfl);refine XF 120 ?_;have gf:=gF g;have bf:=bF b;simp(disch:=omega)only[gP,bP,gf,bf,Xo,↓Xd,wG,seval];refine X2 c1 rfl ?_;simp(disch:=omega)only[gP,bP,gf,bf,qA,qC,Xo,↓Xd,wG,seval];refine X2 cm rfl ?_;simp(disch:=omega)only[gP,bP,gf,bf,qA,qC,Xo,↓Xd,wG,seval];refine X0 cr (X1 _) ?_;simp(disch:=omega)only[gP,bP,gf,bf,qA,qC,Xo,↓Xd,wG,seval];refine X0 cl (X1 _) ?_;simp(disch:=omega)only[gP,bP,gf,bf,qA,qC,Xo,↓Xd,wG,seval];refine X0 cq (X1 _) ?_;simp(disch:=omega)only[gP,bP,gf,bf,vA,vC,Xo,↓Xd,wG,seval];refine X0 cp (X1 _) ?_;simp(disch:=omega)only[gP,bP,gf,bf,vA,vC,Xo,↓Xd,wG,seval];refine X0 cs (X1 _) ?_;simp(disch:=omega)only[gP,bP,gf,bf,vA,vC,Xo,↓Xd,wG,seval];have w0:=Jj false;have hz':∀ (H:List AO) (j:Nat),j<4→Ko H (Xf F8 j) (Xf (qC 0) j):=fun H j hj=>by
  match j,hj with
  |0,_=>exact XI w0.1
  |1,_=>exact XI w0.2.1
  |2,_=>exact XI w0.2.2.1
  |3,_=>exact XI w0.2.2.2.1
  |j+4,h=>omega
 refine e_ (s':=⟨19,[],[.any,.any,bP b,gP g,.ref 2 0 0,.ref 3 0 0,.ref 4 0 0,.ref 5 0 0,.ref 6 0 0,.ref 7 0 0,.ref 8 0 0,.ref 9 0 0,.ref 10 0 0,.ref 11 0 0,.any,.any,.any,.any,.any],[],[.con 0 20 (Xf (bC b)),.con 0 32 (Xf (gC g)),.row 0 3 (Xf [I 0,.sl 0 0 (fun _=>.any) true,.sl 0 0 (fun _=>.any) true]),
  .row 0 4 (Xf F8),.row 0 4 (Xf (qC 1)),.row 0 4 (Xf (qC (-1))),.row 0 4 (Xf (qC (-g.E_))),.row 0 4 (Xf (qC (QM g.n))),.row 0 8 (Xf (vC g.n.F')),.row 0 8 (Xf (vC (g.p.sub b.c))),.row 0 8 (Xf (vC (g.q.sub b.c))),.row 0 3 (Xf [I 5,.sl 0 0 (fun _=>.any) true,.sl 5 20 (Xf (F8 ++ F8 ++ F8 ++ F8 ++ qC 1)) false])]⟩) ?_ (Xh rfl (by exact⟨.inl rfl,.inl rfl,.inr rfl,.inr rfl,.inr rfl,.inr rfl,.inr rfl,.inr rfl,.inr rfl,.inr rfl,.inr rfl,.inr rfl,.inr rfl,.inr rfl,.inl rfl,.inl rfl,.inl rfl,.inl rfl,.inl rfl,trivial⟩) trivial (by rfl))
 refine e_ ?_ (Qh 3 (Xf (qC 0)) rfl (hz' _));refine e_ ?_ (FF (Xv KR 5 KK []));refine e_ ?_ (Qh 11 (Xf [I 5,.osl 12 0 5 0 0,Q0 TAN]) rfl (fun j hj=>by
  match j,hj with
  |0,_=>exact XC _ _
  |1,_=>exact ZU (f:=Xv KR 5 KK []) (n:=0) rfl
  |2,_ =>
   exact XI (JJ rfl (N' _) fun j hj=>by
    have:j<20:=hj
    match j,this with
    |0,_ |4,_ |8,_ |12,_=>exact w0.1
    |1,_ |5,_ |9,_ |13,_=>exact w0.2.1
    |2,_ |6,_ |10,_ |14,_=>exact w0.2.2.1
    |3,_ |7,_ |11,_ |15,_=>exact w0.2.2.2.1
    |16,_ |17,_ |18,_ |19,_=>exact X' _
    |j+20,h=>omega)
  |j+3,h=>omega))
 refine e_ ?_ (XB 3 rfl);refine e_ ?_ (XB 4 rfl);refine e_ ?_ (XB 5 rfl);refine e_ ?_ (XB 6 rfl);refine e_ ?_ (XB 7 rfl);refine e_ ?_ (XB 8 rfl);refine e_ ?_ (XB 9 rfl);refine e_ ?_ (XB 10 rfl);refine e_ ?_ (XH 5 rfl rfl (by omega));refine e_ ?_ (XH 6 rfl rfl (by omega));refine e_ ?_ (XH 7 rfl rfl (by omega));refine e_ ?_ (XH 8 rfl rfl (by omega));refine e_ ?_ (XH 9 rfl rfl (by omega));refine e_ ?_ (XH 10 rfl rfl (by omega));refine e_ ?_ (XH 11 rfl rfl (by omega));refine e_ ?_ (XH 12 rfl rfl (by omega));refine e_ (s':=⟨19,[],G3 b g [.any,.any,.any,.any,.any],[],Gr b g 0 []⟩) ?_ (Xh rfl (by exact⟨.inl rfl,.inl rfl,.inr rfl,.inr rfl,.inr rfl,.inr rfl,.inr rfl,.inr rfl,.inr rfl,.inr rfl,.inr rfl,.inr rfl,.inr rfl,.inr rfl,.inl rfl,.inl rfl,.inl rfl,.inl rfl,.inl rfl,trivial⟩) trivial (by rfl));refine Xk ?_;simp(disch:=omega)only[Q7,XL,G3,Gr,g_,h_,gP,bP,gf,bf,Jo,HJ,qC,KR,↓Xd,wG,seval];refine X0 (AU (-1) 0 0 0 0 0) (X1 _) ?_;simp(disch:=omega)only[Q7,XL,G3,Gr,g_,h_,gP,bP,gf,bf,Jo,HJ,qC,KR,↓Xd,wG,seval];refine X0 (AU 0 0 (-1) 0 0 0) (X1 _) ?_;simp(disch:=omega)only[Q7,XL,G3,Gr,g_,h_,gP,bP,gf,bf,Jo,HJ,qC,KR,↓Xd,wG,seval];refine⟨EE ⟨[(-1),0,0,0,0],0⟩ ⟨[0,0,(-1),0,0],0⟩,?_⟩;refine X0 (AU (-g.E_) 1 0 0 0 0) (X1 _) ?_;simp(disch:=omega)only[Q7,XL,G3,Gr,g_,h_,gP,bP,gf,bf,Jo,HJ,qC,KR,↓Xd,wG,seval];refine X0 (AU (-g.E_) (-1) 0 0 0 0) (X1 _) ?_;simp(disch:=omega)only[Q7,XL,G3,Gr,g_,h_,gP,bP,gf,bf,Jo,HJ,qC,KR,↓Xd,wG,seval];refine⟨EE ⟨[(-g.E_),1,0,0,0],0⟩ ⟨[(-g.E_),(-1),0,0,0],0⟩,?_⟩;refine X0 (AU 0 0 (-g.E_) 1 0 0) (X1 _) ?_;simp(disch:=omega)only[Q7,XL,G3,Gr,g_,h_,gP,bP,gf,bf,Jo,HJ,qC,KR,↓Xd,wG,seval];refine X0 (AU 0 0 (-g.E_) (-1) 0 0) (X1 _) ?_;simp(disch:=omega)only[Q7,XL,G3,Gr,g_,h_,gP,bP,gf,bf,Jo,HJ,qC,KR,↓Xd,wG,seval];refine⟨EE ⟨[0,0,(-g.E_),1,0],0⟩ ⟨[0,0,(-g.E_),(-1),0],0⟩,?_⟩;refine X0 (AU (QM g.n) 0 0 0 0 g.force) (X1 _) ?_;simp(disch:=omega)only[Q7,XL,G3,Gr,g_,h_,gP,bP,gf,bf,Jo,HJ,qC,KR,↓Xd,wG,seval];refine X0 (AU 0 0 (QM g.n) 0 0 g.force) (X1 _) ?_;simp(disch:=omega)only[Q7,XL,G3,Gr,g_,h_,gP,bP,gf,bf,Jo,HJ,qC,KR,↓Xd,wG,seval];refine⟨EE ⟨[(QM g.n),0,0,0,0],g.force⟩ ⟨[0,0,(QM g.n),0,0],g.force⟩,?_⟩;refine X0 (AU (QM g.n) 0 (QM g.n) 0 0 b.TAB) (X1 _) ?_;simp(disch:=omega)only[Q7,XL,G3,Gr,g_,h_,gP,bP,gf,bf,Jo,HJ,qC,KR,↓Xd,wG,seval];refine⟨dw ⟨[QM g.n,0,QM g.n,0,0],b.TAB⟩,?_⟩;refine X0 c16 (X1 _) ?_;simp(disch:=omega)only[Q7,XL,G3,Gr,g_,h_,gP,bP,gf,bf,Jo,HJ,qC,KR,qA,↓Xd,wG,seval];refine X0 (AU 0 0 0 0 1 16) (X1 _) ?_;simp(disch:=omega)only[Q7,XL,G3,Gr,g_,h_,gP,bP,gf,bf,Jo,HJ,qC,KR,↓Xd,wG,seval];refine X0 (AU 0 0 0 0 (-1) 0) (X1 _) ?_;simp(disch:=omega)only[Q7,XL,G3,Gr,g_,h_,gP,bP,gf,bf,Jo,HJ,qC,KR,↓Xd,wG,seval];refine⟨EE ⟨[0,0,0,0,1],16⟩ ⟨[0,0,0,0,-1],0⟩,?_⟩;refine X0 (Jx g.n.x (by unfold rm;omega)) (X1 _) ?_;simp(disch:=omega)only[Q7,XL,G3,Gr,g_,h_,gP,bP,gf,bf,Jo,HJ,qC,KR,vC,qA,↓Xd,wG,seval];refine X0 (Jx g.n.F'.x (by unfold rm;omega)) (X1 _) ?_;simp(disch:=omega)only[Q7,XL,G3,Gr,g_,h_,gP,bP,gf,bf,Jo,HJ,qC,KR,vC,qA,↓Xd,wG,seval];refine X0 (Jx g.n.y (by unfold rm;omega)) (X1 _) ?_;simp(disch:=omega)only[Q7,XL,G3,Gr,g_,h_,gP,bP,gf,bf,Jo,HJ,qC,KR,vC,qA,↓Xd,wG,seval];refine X0 (Jx g.n.F'.y (by unfold rm;omega)) (X1 _) ?_;simp(disch:=omega)only[Q7,XL,G3,Gr,g_,h_,gP,bP,gf,bf,Jo,HJ,qC,KR,vC,qA,↓Xd,wG,seval];refine X0 (Jx b.TAJ (by unfold rm;omega)) (X1 _) ?_;simp(disch:=omega)only[Q7,XL,G3,Gr,g_,h_,gP,bP,gf,bf,Jo,HJ,qC,KR,vC,qA,↓Xd,wG,seval];refine X0 (Z4 (g.p.sub b.c) g.n (by unfold vm;omega) (by unfold vm;omega)) (X1 _) ?_;simp(disch:=omega)only[Q7,XL,G3,Gr,g_,h_,gP,bP,gf,bf,Jo,HJ,qC,KR,vC,qA,↓Xd,wG,seval];refine X0 (Z4 (g.p.sub b.c) g.n.F' (by unfold vm;omega) (by unfold vm;omega)) (X1 _) ?_;simp(disch:=omega)only[Q7,XL,G3,Gr,g_,h_,gP,bP,gf,bf,Jo,HJ,qC,KR,vC,qA,↓Xd,wG,seval];refine X0 (Z4 (g.q.sub b.c) g.n (by unfold vm;omega) (by unfold vm;omega)) (X1 _) ?_;simp(disch:=omega)only[Q7,XL,G3,Gr,g_,h_,gP,bP,gf,bf,Jo,HJ,qC,KR,vC,qA,↓Xd,wG,seval];refine X0 (Jx (Xr (g.q.sub b.c) g.n) (by unfold rm;omega)) (X1 _) ?_;simp(disch:=omega)only[Q7,XL,G3,Gr,g_,h_,gP,bP,gf,bf,Jo,HJ,qC,KR,vC,qA,↓Xd,wG,seval];refine X0 (Z4 (g.q.sub b.c) g.n.F' (by unfold vm;omega) (by unfold vm;omega)) (X1 _) ?_;simp(disch:=omega)only[Q7,XL,G3,Gr,g_,h_,gP,bP,gf,bf,Jo,HJ,qC,KR,vC,qA,↓Xd,wG,seval];refine X0 (Jx (Xr (g.q.sub b.c) g.n.F') (by unfold rm;omega)) (X1 _) ?_;simp(disch:=omega)only[Q7,XL,G3,Gr,g_,h_,gP,bP,gf,bf,Jo,HJ,qC,KR,vC,qA,↓Xd,wG,seval];refine e_ ?_ (Qh 12 (Xv KR 5 KK (Tu b g)) rfl (fun j hj=>by
  have:j<55:=hj
  match j,this with
  |0,_ |1,_ |2,_ |3,_ |4,_ |5,_ |6,_ |7,_ |8,_ |9,_ |10,_ |11,_ |12,_ |13,_ |14,_ |15,_ |16,_ |17,_ |18,_ |19,_ |20,_ |21,_ |22,_ |23,_ |24,_ |25,_ |26,_ |27,_ |28,_ |29,_ |30,_ |31,_ |32,_ |33,_ |34,_ |35,_ |36,_ |37,_ |38,_ |39,_ |40,_ |41,_ |42,_ |43,_ |44,_ |45,_ |46,_ |47,_ |48,_ |49,_ |50,_ |51,_ |52,_ |53,_ |54,_=>exact XC _ _
  |j+55,h=>omega))
 refine e_ ?_ (Au 17 (.sl 3 3 (Xf ((Ej b g).map Q0)) false) (show 17<19 by omega) (XI (JJ rfl (N' _) fun j hj=>by
  have:j<3:=hj
  match j,this with
  |0,_=>exact Kt qC 4 0 (fun _=>rfl) [g.n.x,g.n.F'.x,-g.n.x,-g.n.F'.x,0] _ _ _ _ rfl rfl rfl
  |1,_=>exact Kt qC 4 0 (fun _=>rfl) [g.n.y,g.n.F'.y,-g.n.y,-g.n.F'.y,-b.TAJ] _ _ _ _ rfl rfl rfl
  |2,_=>exact Kt qC 4 0 (fun _=>rfl) [Xr (g.p.sub b.c) g.n,Xr (g.p.sub b.c) g.n.F',-Xr (g.q.sub b.c) g.n,-Xr (g.q.sub b.c) g.n.F',0] _ _ _ _ rfl rfl rfl
  |j+3,h=>omega)))
 refine e_ (s':=⟨19,[],G3 b g [.any,.any,.any,.sl 3 3 (Xf ((Ej b g).map Q0)) false,I 0],[],Gr b g 6 (Tu b g)⟩) ?_ (ZS (by exact⟨.inl rfl,.inl rfl,.inr rfl,.inr rfl,.inr rfl,.inr rfl,.inr rfl,.inr rfl,.inr rfl,.inr rfl,.inr rfl,.inr rfl,.inr rfl,.inr rfl,.inl rfl,.inl rfl,.inl rfl,.inr rfl,.inr rfl,trivial⟩) (by rfl));obtain⟨F,hF⟩:∃F,F=Xf ((Ej b g).map Q0):=⟨_,rfl⟩
 have key:∀i,i<3→∃r,F i=Q0 r∧r.length=5∧(∀x∈r,qb x≤rm)∧((Ej b g).take (i+1)).flatMap GF=((Ej b g).take i).flatMap GF ++ [⟨r,0⟩,⟨C1 r,0⟩]:=fun i hi=>by
  have z0:qb 0≤rm:=by decide +kernel
  have k3:=Kv (g.p.sub b.c) g.n;have k4:=Kv (g.p.sub b.c) g.n.F';subst hF
  match i,hi with
  |0,_=>exact⟨_,rfl,rfl,by simp only[b_,V',or_false];rintro x (rfl |rfl |rfl |rfl |rfl) <;> (try simp only[C4]) <;> first |exact z0 | (unfold rm;omega),rfl⟩
  |1,_=>exact⟨_,rfl,rfl,by simp only[b_,V',or_false];rintro x (rfl |rfl |rfl |rfl |rfl) <;> (try simp only[C4]) <;> first |exact z0 | (unfold rm;omega),rfl⟩
  |2,_=>exact⟨_,rfl,rfl,by simp only[b_,V',or_false];rintro x (rfl |rfl |rfl |rfl |rfl) <;> (try simp only[C4]) <;> first |exact z0 | (unfold rm;omega),rfl⟩
  |i+3,h=>omega
 have TFf:Tu b g ++ ((Ej b g).take 3).flatMap GF=EM b g:=rfl;rw[←hF];obtain⟨LL,hLL⟩:∃LL:Nat→List Ln,LL=fun i=>Tu b g ++ ((Ej b g).take i).flatMap GF:=⟨_,rfl⟩
 refine Xi (fun i:Nat=>⟨19,[],G3 b g [.any,.any,.any,.sl 3 3 F false,I i],[],Gr b g (6+i) (LL i)⟩) (fun i=>i≤3) (fun i=>3-i) 0 (by omega) (ZS (by simp[Xm,G3,bP,gP,Jo,HJ,I]) (by rw[hLL];rfl)) ?_;intro i hi next
 have w1:=wj i (by omega);by_cases hi2:i<3
 rotate_left
 ·obtain rfl:i=3:=by omega
  have hl:(LL 3).length=17:=by rw[hLL];rfl
  refine Xk ?_;simp(disch:=omega)only[G3,Gr,g_,h_,hl,Q7,XL,↓Xd,wG,seval];refine Cv (L:=[I 5,.osl 12 9 5 0 17,Q0 TAN]) rfl kT rfl rfl rfl ?_;rw[hR];refine Du ⟨XU (X9 _) rfl,?_,XU (Xn _) rfl,trivial⟩;refine Kc (m:=85) (M:=85) (ver:=9) (f:=Xv KR 5 KK (EM b g)) (.inl ?_) (by omega) (by omega) fun j hj=>?_
  ·rw[←TFf,hLL];rfl
  ·rw[x_]
   exact(Xe (KW _) _).TBH _
 have nx:=next (i+1)
 clear next
 obtain⟨r,e1,e2,e3,e4⟩:=key i hi2;have e5:LL (i+1)=LL i ++ [⟨r,0⟩,⟨C1 r,0⟩]:=by rw[hLL];show Tu b g ++ _=(Tu b g ++ _) ++ _;rw[e4,P_]
 have hl:(LL i).length<1000:=by
  rw[hLL]
  match i,hi2 with
  |0,_=>exact L' rfl
  |1,_=>exact L' rfl
  |2,_=>exact L' rfl
  |i+3,h=>omega
 rw[e5]at nx;generalize LL i=Ls at *;have c3:=MU r (by omega) e3;have f3:(i<3)=True:=K_ hi2;have f3':((i:Int)<3)=True:=K_ (by omega);refine Xk ?_;simp(disch:=omega)only[G3,Gr,g_,h_,w1,f3,f3',e1,Q7,XL,↓Xd,wG,seval];refine⟨⟨rfl,rfl⟩,?_⟩;refine X0 c3 (X1 _) ?_;simp(disch:=omega)only[G3,Gr,g_,h_,w1,f3,f3',e1,Q7,XL,KE,ZBV,List.map_nil,↓Xd,wG,seval];refine⟨fun j hj=>by
  match j,hj with
  |0,_ |1,_ |2,_ |3,_ |4,_ |5,_ |6,_ |7,_ |8,_ |9,_=>rfl
  |j+10,h=>omega,?_⟩
 refine nx _ (by omega) (by omega) (ZA8 (Qh 12 (Xv KR 5 KK (Ls ++ [⟨r,0⟩,⟨C1 r,0⟩])) rfl (fun j hj=>qE _ Ls r (C1 r) _ j rfl hj)) (ZS (by simp[Xm,G3,bP,gP,Jo,HJ,I]) (by unfold Gr;rw[f_];rfl)))
structure TGd (v:Nat)(L:List Ln)(G x y:List Rat)(E:Nat):Prop where
 v0:v<49
 m0:L.length<49
 g0:G.length=v
 x0:x.length=v
 y0:y.length=L.length
 a0:∀z∈L,z.a.length=v
 q1:∀i k,qb (lA L i k)+qb (y.getD i 0)≤E
 q2:∀i,qb (lB L i)+qb (y.getD i 0)≤E
 q3:∀i k,qb (lA L i k)+qb (x.getD k 0)≤E
 q4:∀k,qb (lG G k)+qb (x.getD k 0)≤E
 q5:∀i,qb (lB L i)≤rm
 e0:E≤2083000
def Qc (f:Nat→Rat)(N:Nat):List Rat:=(List.range N).map f
theorem Dr (f:Nat→Rat)(N:Nat):(Qc f N).length=N:=by simp[Qc]
theorem Kj (f:Nat→Rat){N i:Nat}(h:i<N):(Qc f N).getD i 0=f i:=QP f h
theorem DZ {f g:Nat→Rat}{N:Nat}(h:∀i,i<N→f i=g i):Qc f N=Qc g N:=ZAL fun i hi=>h i (ZBc.1 hi)
theorem Pg (f:Nat→Rat)(N:Nat):Qc f (N+1)=Qc f N ++ [f N]:=by
 unfold Qc;rw[List.range_succ,ZEN];rfl
theorem Qi (f:Nat→Rat)(N:Nat):Q0 (Qc f N)=.sl N (N*4) (Xl fun i=>(Qc f N).getD i 0) false:=by rw[Xt,Dr]
theorem NE (f g:Nat→Rat)(N p Q:Nat)(hp:p<N)(hN:N<1000000)(hQ:Q≤20000000)(hf:∀i,i<N→qb (f i)≤Q) (hg:∀i,i<N→qb (g i)≤Q) :
  Fn Tryz.prog 220 [Q0 (Qc f N),Q0 (Qc g N),I p] (Q0 (Qc (fun i=>f i-f p*g i) N)):=by
 have c1:=Jx (f p) (by have:=hf p hp;unfold rm;omega);have c2:=Qz (-f p) (by rw[C4];have:=hf p hp;unfold rm;omega);have at0:∀ (h:Nat→Rat) i,i<N→Xl (fun i=>(Qc h N).getD i 0) (i*4)=(qC (h i)).getD 0 .any:=fun h i hi=>by rw[Jt];simp only[Kj h hi]
 have at1:∀ (h:Nat→Rat) i j,i<N→j<4→Xl (fun i=>(Qc h N).getD i 0) (i*4+j)=(qC (h i)).getD j .any:=fun h i j hi hj=>by rw[QA _ _ _ hj];simp only[Kj h hi]
 have p0:=at0 f p hp;have p1:=fun j hj=>at1 f p j hp hj
 have fp:(p<N)=True:=K_ hp;obtain⟨k,hk⟩:∃k:Nat→Rat,k=fun i=>f i-f p*g i:=⟨_,rfl⟩
 rw[←hk];refine Fq Tryz.call220 Tryz.func220 10 [] [] [] (by simp[Xn,X9]) (Xk ?_);simp(disch:=omega)only[P',Qi,fp,p0,p1,qC,↓Xd,wG,seval];refine X0 c1 (X1 _) ?_;simp(disch:=omega)only[qA,qC,↓Xd,wG,seval];refine X0 c2 (X1 _) ?_;by_cases hz:f p=0
 ·simp(disch:=omega)only[hz,Rat.neg_zero,ZB6,Int.sign_zero,↓Xd,wG,seval]
  refine Xp (v:=Q0 (Qc f N)) rfl (by rw[Qi];rfl) (Xn _) (t_ Q0 (DZ fun i _=>by rw[hk];simp only[hz];grind))
 have hz2:((-f p).num.sign=0)=False:=Q' fun h=>hz (by
  rw[ZDP,ZEH]at h;grind)
 simp(disch:=omega)only[hz2,↓Xd,wG,seval];have bF:∀q,J9 q (Q0 (Qc f N))=True:=fun q=>K_ (X4 (Xn _))
 have bG:∀q,J9 q (Q0 (Qc g N))=True:=fun q=>K_ (X4 (Xn _))
 have bO:∀q i,XX q (.row i 4 (Xf (qC (-f p))))=True:=fun q i=>K_ (QN (XV _))
 have bR:∀q i n x,XX q (.row i n (Xv qC 4 0 x))=True:=fun q i n x=>K_ fun j _=>X4 (Xe (XV _) _)
 refine Xi (fun i:Nat=>⟨10,[],[Q0 (Qc f N),Q0 (Qc g N),I p,.any,.any,.any,.any,.ref 0 0 0,.osl 1 i 4 0 i,I i],[],[.row 0 4 (Xf (qC (-f p))),.row i (i*4) (Xv qC 4 0 (Qc k i))]⟩) (fun i=>i≤N) (fun i=>N-i) 0 (by omega)
  (ZA8 (JM 8 4 (Xv qC 4 0 []) rfl) (Xh rfl ⟨.inr (Qi f N).symm,.inr (Qi g N).symm,.inr rfl,.inl rfl,.inl rfl,.inl rfl,.inl rfl,.inr rfl,.inr rfl,.inr rfl,trivial⟩ (by simp[Xu]) rfl)) ?_
 intro i hi next
 have w1:=wj i (by omega);by_cases hi2:i<N
 rotate_left
 ·obtain rfl:i=N:=by omega
  refine Xk ?_;simp(disch:=omega)only[Qi,↓Xd,wG,seval];refine A9 rfl ?_;show Zs _ (.osl 1 i 4 0 i) (Q0 (Qc k i));rw[Xt,Dr];refine Kc (.inl rfl) (by omega) (fun h=>by rw[h]) fun j hj=>?_
  rw[x_];exact(Xe (XV _) _).TBH _
 have nx:=next (i+1)
 clear next
 rw[Pg]at nx;have f1:(i<N)=True:=K_ hi2;have a0:=at0 f i hi2;have a1:=fun j hj=>at1 f i j hi2 hj
 have b0:=at0 g i hi2;have b1:=fun j hj=>at1 g i j hi2 hj
 have q1:=hf i hi2;have q2:=hg i hi2;have q3:=hf p hp;have q4:qb (-f p)=qb (f p):=C4 _;have d1:=Qz (g i) (by unfold rm;omega);have d2:=QR (-f p) (g i) (by unfold rm;omega) (by unfold rm;omega);have q5:=Qo (-f p) (g i);have d3:=JU (f i) (-f p*g i) (by unfold rm;omega) (by unfold rm;omega);have ek:f i + -f p*g i=k i:=by rw[hk];grind
 rw[ek]at d3;have hap:=Zj qC 4 0 (Qc k i) (k i) (by omega);rw[Dr]at hap;refine Xk ?_;simp(disch:=omega)only[Qi,w1,f1,a0,a1,b0,b1,qC,↓Xd,wG,seval];refine X0 d1 (X1 _) ?_;by_cases hz3:g i=0
 ·have e2:k i=f i:=by rw[hk];simp only[hz3];grind
  rw[e2]at hap nx;simp(disch:=omega)only[hz3,ZB6,Int.sign_zero,w1,f1,a0,a1,Qi,qC,↓Xd,wG,seval];exact⟨fun j hj=>Cr (f i) j hj,nx _ (by omega) (by omega) (XD (m:=2) (p_ _) rfl ⟨.inr (Qi f N).symm,.inr (Qi g N).symm,.inr rfl,.inl rfl,.inl rfl,.inl rfl,.inl rfl,.inr rfl,.inr rfl,.inr rfl,trivial⟩ (by simp[Xu]) (by rw[←hap];rfl) (by simp[XK,bF,bG]) (by simp[XK]) (by simp[bO,bR]))⟩
 have hz4:((g i).num.sign=0)=False:=Q' fun h=>hz3 (by rwa[ZDP,ZEH]at h)
 simp(disch:=omega)only[hz4,w1,f1,a0,a1,b0,b1,Qi,qC,↓Xd,wG,seval];refine X0 d2 (X1 _) ?_;simp(disch:=omega)only[qA,qC,↓Xd,wG,seval];refine X0 d3 (X1 _) ?_;simp(disch:=omega)only[qA,qC,w1,↓Xd,wG,seval];exact⟨fun j hj=>Cr (k i) j hj,nx _ (by omega) (by omega) (XD (m:=2) (p_ _) rfl ⟨.inr (Qi f N).symm,.inr (Qi g N).symm,.inr rfl,.inl rfl,.inl rfl,.inl rfl,.inl rfl,.inr rfl,.inr rfl,.inr rfl,trivial⟩ (by simp[Xu]) (by rw[←hap];rfl) (by simp[XK,bF,bG]) (by simp[XK]) (by simp[bO,bR]))⟩
end
end Go.Ab.N
