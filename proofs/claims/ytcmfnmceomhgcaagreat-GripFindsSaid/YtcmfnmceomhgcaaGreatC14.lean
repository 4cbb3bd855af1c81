/- Contracts of functions, for every argument that fits. -/
import Derived.Test.YtcmfnmceomhgcaaGreatC13
set_option linter.unusedSimpArgs false
set_option linter.unusedVariables false
namespace Go.Ab.N
open Go Go.RowKit Go.Proofs
noncomputable section
set_option maxRecDepth 10000
set_option maxHeartbeats 4000000
open Classical
theorem WX (x:Rat):0≤x*x:=by
 rcases Rat.le_total (a:=0) (b:=x)with h |h
 ·exact Rat.mul_nonneg h h
 ·have:=Rat.mul_nonneg (show 0≤-x by grind) (show 0≤-x by grind)
  grind
theorem p7 (a d:V2)(t:Rat)(h0:0≤t)(h1:t≤1):TD a (a.add d) (a.add (d.scale t))=true:=by
 unfold TD;rw[decide_eq_true_eq];have h2:=Rat.mul_nonneg h0 (show 0≤1-t by grind);have h3:=Rat.mul_nonneg h2 (WX d.x);have h4:=Rat.mul_nonneg h2 (WX d.y);unfold Xp XY V2.sub V2.add V2.scale;simp only;constructor <;> grind
theorem xn (a D b n:V2)(hn:n=⟨-D.y,D.x⟩)(h0:XY D D≠0)(m:Rat):Pe (a.add (D.scale m)) n b=b.add (D.scale (m-Js a D b)):=by
 have hN:XY n n=XY D D:=by rw[hn];unfold XY;grind
 have hi:XY D D*(XY D D)⁻¹=1:=Rat.mul_inv_cancel _ h0;unfold Pe Js;rw[hN,Rat.div_def,Rat.div_def];generalize (XY D D)⁻¹=i at *;subst hn;unfold XY at hi;unfold XY V2.add V2.sub V2.scale;simp only[V2.mk.injEq];constructor <;> grind
theorem jb {x:Rat}(h:0<x):0≤x⁻¹:=Rat.le_of_lt (Rat.inv_pos.2 h)
theorem RW {s t m:Rat}(h:t<s)(h1:t≤m)(h2:m≤s):∃l:Rat,0≤l∧l≤1∧m-s=(t-s)*l:=by
 have hp:0<s-t:=by grind
 have hi:=jb hp;have e:(s-t)*(s-t)⁻¹=1:=Rat.mul_inv_cancel _ (by grind);have n1:=Rat.mul_nonneg (show 0≤s-m by grind) hi;have n2:=Rat.mul_nonneg (show 0≤m-t by grind) hi;generalize (s-t)⁻¹=i at *;exact⟨(s-m)*i,n1,by grind,by grind⟩
theorem O0 (b E:V2)(l:Rat)(e:V2)(h0:0≤l)(h1:l≤1)(he:e=b.add E):TD b e (b.add (E.scale l))=true:=by
 subst he;exact p7 b E l h0 h1
theorem pc {a a' b b':V2}(h:Gt (D8 b b') (D8 a a')):XY (a'.sub a) (a'.sub a)≠0∧b'.sub b=(a'.sub a).scale (Js a (a'.sub a) b'-Js a (a'.sub a) b)∧Js a (a'.sub a) b'<Js a (a'.sub a) b:=by
 obtain⟨h1,h2⟩:=h;obtain⟨D,hD⟩:∃D,D=a'.sub a:=⟨_,rfl⟩
 obtain⟨E,hE⟩:∃E,E=b'.sub b:=⟨_,rfl⟩
 have c1:E.x*D.y-E.y*D.x=0:=by
  rw[hD,hE];unfold Xp D8 at h1;unfold V2.sub;simp only at *;grind
 have c2:E.x*D.x+E.y*D.y<0:=by
  rw[hD,hE];unfold XY D8 at h2;unfold V2.sub;simp only at *;grind
 rw[←hD];have n1:=WX D.x;have n2:=WX D.y;have h0:XY D D≠0:=fun e=>by
  unfold XY at e;obtain⟨e1,e2⟩:=xa e;rw[e1,e2]at c2;grind
 have hp:0<XY D D:=by
  have:0≤XY D D:=by unfold XY;grind
  grind
 have hi:XY D D*(XY D D)⁻¹=1:=Rat.mul_inv_cancel _ h0;have hip:0<(XY D D)⁻¹:=Rat.inv_pos.2 hp;have hs:Js a D b'-Js a D b=(E.x*D.x+E.y*D.y)*(XY D D)⁻¹:=by
  rw[hE];unfold Js;rw[Rat.div_def,Rat.div_def];generalize (XY D D)⁻¹=i at *;unfold XY V2.sub;simp only;grind
 have hneg:=Rat.mul_pos (show 0 < -(E.x*D.x+E.y*D.y)by grind) hip;refine⟨h0,?_,by grind⟩;rw[hs,←hE];generalize (XY D D)⁻¹=i at *;unfold XY at hi;unfold V2.scale;cases E;simp only[V2.mk.injEq]at *;constructor <;> grind
theorem au {a b:Sd}(ha:a.i=D8 a.a a.b)(hb:b.i=D8 b.a b.b){p q:V2}(h:Gb a b=some (p,q)):Gt b.i a.i∧TD a.a a.b p=true∧TD b.a b.b q=true:=by
 unfold Gb at h
 split at h
 ·rename_i ho
  split at h
  ·rename_i hlt
   have h:=Option.some.inj h;rw[Prod.mk.injEq]at h;obtain⟨h1,h2⟩:=h;refine⟨ho.1,?_⟩;have hop:=ho.1;rw[ha,hb]at hop;obtain⟨d0,hE,hts⟩:=pc hop;unfold FC FD Pd at hlt h1 h2;generalize hs:Js a.a (a.b.sub a.a) b.a=s at *;generalize ht:Js a.a (a.b.sub a.a) b.b=t at *;have b1:0≤NT s t∧t≤NT s t:=by unfold NT Nj;grind
   have b2:NP s t≤1∧NP s t≤s:=by unfold NP MX;grind
   generalize NT s t=lo at *;generalize NP s t=hi at *;have hh:Rat.divInt 1 2=1/2:=by decide +kernel
   obtain⟨m,hm⟩:∃m,m=(lo+hi)*Rat.divInt 1 2:=⟨_,rfl⟩
   have m1:lo≤m∧m≤hi:=by rw[hm,hh];grind
   have hp:LD a.a (a.b.sub a.a) lo hi=a.a.add ((a.b.sub a.a).scale m):=by rw[hm];rfl
   have hab:a.b=a.a.add (a.b.sub a.a):=by
    cases a.a;cases a.b;unfold V2.add V2.sub;simp only[V2.mk.injEq];constructor <;> grind
   have hbb:b.b=b.a.add (b.b.sub b.a):=by
    cases b.a;cases b.b;unfold V2.add V2.sub;simp only[V2.mk.injEq];constructor <;> grind
   have hn:a.i=⟨-(a.b.sub a.a).y,(a.b.sub a.a).x⟩:=by
    rw[ha];unfold D8 V2.sub;simp only[V2.mk.injEq];constructor <;> grind
   have hq:=xn a.a (a.b.sub a.a) b.a a.i hn d0 m;rw[hs]at hq;rw[hp]at h1 h2;obtain⟨l,l1,l2,l3⟩:=RW hts (show t≤m by grind) (show m≤s by grind);constructor
   ·rw[←h1]
    exact O0 a.a (a.b.sub a.a) m a.b (by grind) (by grind) hab
   ·rw[←h2,hq]
    have e:((a.b.sub a.a).scale (m-s))=(b.b.sub b.a).scale l:=by
     rw[hE,l3];unfold V2.scale;simp only[V2.mk.injEq];constructor <;> grind
    rw[e];exact O0 b.a (b.b.sub b.a) l b.b l1 l2 hbb
  ·cases h
 ·cases h
theorem SQ (L:List V2)(f r:Rat)(i:Nat):∀k,∀g∈KI L f r i k,∃j,i<j∧j<i+1+k∧g∈LN L f r i j
 |0,g,hg=>by simp[KI]at hg
 |k+1,g,hg=>by
  rcases List.mem_append.1 (show g∈KI L f r i k ++ LN L f r i (i+1+k)from hg)with hg |hg
  ·obtain⟨j,h1,h2,h3⟩:=SQ L f r i k g hg
   exact⟨j,h1,by omega,h3⟩
  ·exact⟨i+1+k,by omega,by omega,hg⟩
theorem RE (L:List V2)(f r:Rat):∀n,n≤L.length→∀g∈Av L f r n,∃i j,i<L.length∧j<L.length∧g∈LN L f r i j
 |0,_,g,hg=>by simp[Av]at hg
 |i+1,hn,g,hg=>by
  rcases List.mem_append.1 (show g∈Av L f r i ++ KI L f r i (L.length-(i+1))from hg)with hg |hg
  ·exact RE L f r i (by omega) g hg
  ·obtain⟨j,h1,h2,h3⟩:=SQ L f r i _ g hg
   exact⟨i,j,by omega,by omega,h3⟩
theorem ip (L:List V2)(f r:Rat)(c:Nat)(h:Qp L c):∀g∈Kc L f r,Ce L g=0:=by
 intro g hg;have hk:=Iw L h f r g hg;unfold Kc at hg
 split at hg
 ·rename_i hp
  obtain⟨i,j,hi,hj,hgP⟩:=RE L f r _ (Nat.le_refl _) g hg;unfold LN at hgP;obtain⟨⟨p,q⟩,hx,rfl⟩:=List.mem_map.1 hgP;rw[Option.mem_toList]at hx;obtain⟨o1,o2,o3⟩:=au (a:=Jl L i) (b:=Jl L j) rfl rfl hx;have mem:∀i,i<L.length→Jl L i∈Jz L:=fun i hi=>by
   unfold Jz JB;exact List.mem_map.2 ⟨i,List.mem_range.2 hi,rfl⟩
  unfold Ce;rw[if_pos,if_pos]
  ·refine⟨List.any_eq_true.2 ⟨_,mem i hi,?_⟩,List.any_eq_true.2 ⟨_,mem j hj,?_⟩⟩
   ·rw[NH,Bool.and_eq_true]
    exact⟨decide_eq_true rfl,o2⟩
   ·rw[MD,Bool.and_eq_true]
    exact⟨decide_eq_true o1,o3⟩
  ·refine⟨(CX L).1 hp.1,?_⟩
   unfold Kh;rw[hk.2.2.2.2.1,hk.2.2.2.2.2,hp.2,Bool.true_and,decide_eq_true_eq,Gh];exact hk.2.2.2.1
 ·simp at hg
structure RimFd (X:AV)(f r:Rat)(G:List GG):Prop where
 fg:Fn Tryz.prog 45 [X,qA f,qA r] (Nh G)
 fr:Fn Tryz.prog 47 [X,qA f,qA r] (Nh G)
 v:∀x∈G,Fn Tryz.prog 15 [X,gA x] (I 0)
 s:∀x∈G,gW x∧x.rough=r
 l:G.length<1000000
theorem cD (l:List RV)(f r:Rat)(hs:rz l)(hl:l.length<1000000)(k:Nat)(hk:k<l.length)(hb:¬ (l.getD k JM).ok):RimFd (Z8 l) f r [] :=
 ⟨aA l f r hs hl k hk hb,ck l f r hs hl k hk hb,fun x hx=>absurd hx (by simp),fun x hx=>absurd hx (by simp),by simp⟩
theorem My (W:List V2)(f r:Rat)(h:Qp W 18)(hl:W.length≤13)(hf:qb f≤40)(hr:qb r≤40):RimFd (Q6 W) f r (Kc W f r):=by
 have hk:=Iw W h f r;have hs:∀x∈Kc W f r,gW x∧x.rough=r:=fun x hx=>by
  obtain⟨k1,k2,k3,k4,k5,k6⟩:=hk x hx;exact⟨⟨by omega,by omega,by omega,by rw[k5];omega,by rw[k6];omega⟩,k6⟩
 have hln:(Kc W f r).length<1000000:=by
  unfold Kc
  split
  ·have:=CN W f r W.length
   have g3:W.length*W.length≤13*13:=Nat.mul_le_mul (by omega) (by omega);unfold LH;omega
  ·simp
 refine⟨LP W f r h (by omega) hl hf hr,SE W f r h (by omega) hl hf hr,fun x hx=>?_,hs,hln⟩;obtain⟨⟨a1,a2,a3,a4,a5⟩,_⟩:=hs x hx;have:=LY W x (fun i=>Nat.le_trans (h i) (by omega)) (by omega) ⟨by unfold rm;omega,by unfold rm;omega,by unfold rm;omega,by unfold rm;omega,by unfold rm;omega⟩ ⟨by omega,by omega,by omega⟩;rw[ip W f r 18 h x hx]at this;exact this
theorem iq (l:List Int)(how by' force rough:Int)(h1:Fg l)(h2:KT how)(h3:KT by')(h4:KT force)(h5:KT rough) :
  Fn Tryz.prog 9 [X8 l,I how,I by',I force,I rough] (.bool true):=by
 have hr:=kj l;have c1:=WJ l h1;generalize Pu l=L at *;obtain⟨⟨n1,n2⟩,n3,n4⟩:=hr;have c2:=Ov L how by' n3 (by omega) h2 h3 (by omega);have d1:=QP force 12 h4 (by omega);have d2:=QP rough 12 h5 (by omega);have b1:=XH force 12 (by omega);have b2:=XH rough 12 (by omega);generalize Xo force 12=x at *;generalize Xo rough 12=y at *;have d3:=XS (x-1) 1 ⟨by omega,by omega⟩ ⟨by omega,by omega⟩;have d4:=XS (y-1) 2 ⟨by omega,by omega⟩ ⟨by omega,by omega⟩;have q3:=Gx (x-1) 1 (by omega) (by omega);have q4:=Gx (y-1) 2 (by omega) (by omega);generalize Rat.divInt (x-1) 1=f at *;generalize Rat.divInt (y-1) 2=r at *;have k0:=My L f r (fun i=>Nat.le_trans (n3 i) (by omega)) (by omega) (by omega) (by omega);have k2:=My [] f r (fun i=>by show vb v0≤18;decide +kernel) (by simp) (by omega) (by omega);have k1:∃G,RimFd (Z8 (GO L how by')) f r G:=by
  by_cases hm:Xo how 7=5
  ·obtain⟨e1,e2,k,e3,e4⟩:=T6 L how by' n3 (by omega) hm
   exact⟨[],cD _ f r e2 (by omega) k e3 e4⟩
  ·obtain⟨W,e1,e2,e3⟩:=WU L how by' n3 (by omega) hm
   refine⟨Kc W f r,?_⟩;rw[e1,show Z8 (W.map RV.of)=Q6 W by rw[XF,X4,kE,List.length_map]];exact My W f r e2 (by omega) (by omega) (by omega)
 generalize GO L how by'=W at *;obtain⟨G1,k1⟩:=k1;have cl:=RX;refine Fq Tryz.call9 Tryz.func9 19 [] [] [] (by simp[Xc,Xa]) (Xl ?_);simp(disch:=omega)only[AS.start,↓Xd,wG,seval];refine X0 c1 (X2 _) ?_;simp(disch:=omega)only[↓Xd,wG,seval];refine X0 c2 (X2 _) ?_;simp(disch:=omega)only[X4,XF,↓Xd,wG,seval];refine X0 d1 (X2 _) ?_;simp(disch:=omega)only[↓Xd,wG,seval];refine X0 d3 (X2 _) ?_;simp(disch:=omega)only[qA,qC,↓Xd,wG,seval];refine X0 d2 (X2 _) ?_;simp(disch:=omega)only[↓Xd,wG,seval];refine X0 d4 (X2 _) ?_;simp(disch:=omega)only[qA,qC,↓Xd,wG,seval];obtain⟨F,hF⟩:∃F,F=Xg [Q6 L,Z8 W,.sl 0 0 (fun _=>.any) false]:=⟨_,rfl⟩
 have key:∀i,i<3→∃n m g X G,F i=.sl n m g false∧Weak (.sl n m g false) X∧RimFd X f r G:=fun i hi=>by
  subst hF
  match i,hi with
  |0,_=>exact⟨_,_,_,_,_,X4 L,Weak.rfl' _,X4 L▸k0⟩
  |1,_=>exact⟨_,_,_,_,_,XF W,Weak.rfl' _,XF W▸k1⟩
  |2,_=>exact⟨_,_,_,Q6 [],_,rfl,by rw[X4];exact D6 vC 8 v0 _ _,k2⟩
  |i+3,h=>omega
 rw[X4,XF]at hF;simp only[←hF];have bF:∀q,Jo q (.sl 3 3 F true)=True:=fun q=>eq_true (X7 (Qk fun j hj=>by
  have hj:j<3:=hj;rw[hF]
  match j,hj with
  |0,_=>exact X4 L▸Xn L
  |1,_=>exact XF W▸QK W
  |2,_=>exact Qk fun j h=>absurd h (by omega)
  |j+3,h=>omega))
 clear hF k0 k1 k2;have bO:∀q x,Qo q (.row 0 4 (Xg (qC x)))=True:=fun q x=>eq_true (JS (Jn x))
 have bI:∀q (l:List Int),Jo q (X8 l)=True:=fun q l=>eq_true (X7 (Xc l))
 refine Xj (fun i:Nat=>⟨19,[],[.any,.any,.any,.any,.any,.any,.any,.any,.any,.any,.any,.any,.sl 3 3 F true,.ref 0 0 0,.ref 1 0 0,I i,.any,.any,.any],[],[.row 0 4 (Xg (qC f)),.row 0 4 (Xg (qC r))]⟩) (fun i=>i≤3) (fun i=>3-i) 0 (by omega)
  (Aw (by simp[Xm,I]) rfl) ?_
 intro i hi next
 have w1:=wj i (by omega);by_cases hi2:i<3
 rotate_left
 ·obtain rfl:i=3:=by omega
  refine Xl ?_;simp(disch:=omega)only[↓Xd,wG,seval];refine X0 cl (X2 _) ?_;simp(disch:=omega)only[↓Xd,wG,seval];exact Xk (v:=.bool true) rfl rfl (X5 _) rfl
 have nx:=next (i+1)
 clear next
 obtain⟨n,m,g,X,G,e1,e2,⟨a1,a2,a3,a4,a5⟩⟩:=key i hi2;have f3:(i<3)=True:=eq_true hi2;have f3':((i:Int)<3)=True:=eq_true (by omega);refine Xl ?_;simp(disch:=omega)only[w1,f3,f3',e1,qC,↓Xd,wG,seval];refine X0 a1 ⟨e2,Weak.rfl' _,Weak.rfl' _,trivial⟩ ?_;simp(disch:=omega)only[w1,f3,e1,qC,XC,↓Xd,wG,seval];refine X0 a2 ⟨e2,Weak.rfl' _,Weak.rfl' _,trivial⟩ ?_;simp(disch:=omega)only[w1,f3,e1,qC,XC,↓Xd,wG,seval];have hG:G.length<1000000:=a5;have c5:=jl G hG fun x hx=>by
  have:=NM x x (a4 x hx).1 (a4 x hx).1;rwa[decide_eq_true rfl]at this
 refine X0 c5 ⟨by rw[XC];exact Weak.rfl' _,by rw[XC];exact Weak.rfl' _,trivial⟩ ?_;simp(disch:=omega)only[↓Xd,wG,seval];refine Xj (fun k:Nat=>⟨19,[],[.any,.any,.any,.any,.any,.any,.any,.any,.any,.any,.any,.any,.sl 3 3 F true,.ref 0 0 0,.ref 1 0 0,I i,Nh G,I k,.any],[],[.row 0 4 (Xg (qC f)),.row 0 4 (Xg (qC r))]⟩) (fun k=>k≤G.length) (fun k=>G.length-k) 0 (by omega)
  (Aw (by simp[Xm,I,XC]) rfl) ?_
 intro k hk nxt;have w2:=wj k (by omega);by_cases hk2:k<G.length
 rotate_left
 ·obtain rfl:k=G.length:=by omega
  refine Xl ?_;simp(disch:=omega)only[w1,XC,↓Xd,wG,seval];exact nx _ (by omega) (by omega) (Aw (by simp[Xm,I]) rfl)
 have nx2:=nxt (k+1);clear nxt;have hm:=QC gZ hk2;obtain⟨g1,g2⟩:=a4 _ hm;have g3:=a3 _ hm;have l0:=Km gC 32 gZ G k (by omega);have l1:=JK gC 32 gZ G k;have l2:∀o j,j<32-o→XA gC 32 gZ G (k*32+o+j)=(gC (G.getD k gZ)).getD (o+j) .any:=fun o j h=>by rw[Nat.add_assoc];exact l1 _ (by omega)
 have l8:=l2 8;have l16:=l2 16;generalize G.getD k gZ=x at *;obtain⟨z1,z2,z3,z4,z5⟩:=g1;have d1:=Vk x (by unfold vm;omega);have d2:=Tl x.p x.n r (by unfold vm;omega) (by unfold vm;omega) (by unfold rm;omega);have d3:=Sy x.n (by unfold rm;omega);have zo:=uL x.n;have d4:=Tl x.q x.n.opp r (by unfold vm;omega) (by unfold vm;omega) (by unfold rm;omega);have f4:(k<G.length)=True:=eq_true hk2;refine Xl ?_;simp(disch:=omega)only[w1,w2,f4,XC,l0,l1,QJ,↓Xd,wG,seval];refine X0 d1 (X2 _) ?_;simp(disch:=omega)only[IM,Vj,List.length_cons,List.length_nil,w1,w2,f4,f3,l0,l1,l8,l16,QJ,g2,↓Xd,wG,seval];refine X0 d2 ⟨by rw[kV];exact Weak.rfl' _,Weak.rfl' _,Weak.rfl' _,Weak.rfl' _,trivial⟩ ?_;simp(disch:=omega)only[IM,Vj,List.length_cons,List.length_nil,w1,w2,f4,f3,l0,l1,l8,l16,QJ,g2,↓Xd,wG,seval];refine X0 d3 (X2 _) ?_;simp(disch:=omega)only[vA,vC,IM,Vj,List.length_cons,List.length_nil,w1,w2,f4,f3,l0,l1,l8,l16,QJ,g2,↓Xd,wG,seval];refine X0 d4 ⟨by rw[kV];exact Weak.rfl' _,Weak.rfl' _,Weak.rfl' _,Weak.rfl' _,trivial⟩ ?_;simp(disch:=omega)only[vA,vC,IM,Vj,List.length_cons,List.length_nil,w1,w2,f4,f3,l0,l1,l8,l16,QJ,g2,e1,↓Xd,wG,seval];rw[gA,QJ,g2]at g3;refine X0 g3 ⟨e2,Weak.rfl' _,trivial⟩ ?_;simp(disch:=omega)only[w1,w2,↓Xd,wG,seval];exact nx2 _ (by omega) (by omega) (Aw (by simp[Xm,I,XC]) rfl)
end
end Go.Ab.N
