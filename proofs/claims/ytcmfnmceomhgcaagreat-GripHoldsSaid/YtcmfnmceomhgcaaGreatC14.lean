/- Contracts of functions, for every argument that fits. -/
import Derived.Test.YtcmfnmceomhgcaaGreatC13
import Derived.Test.YtcmfnmceomhgcaaGreatC9
import Derived.Test.YtcmfnmceomhgcaaGreatC10
set_option linter.unusedSimpArgs false
set_option linter.unusedVariables false
open Go.Ab.AS renaming start→O_
open Int renaming sign_eq_zero_iff_zero→ZDV
open List renaming map_append→ZEP
open Rat renaming divInt→P'
namespace Go.Ab.N
open Go Go.RowKit Go.Proofs
noncomputable section
set_option maxRecDepth 10000
set_option maxHeartbeats 4000000
open Classical
structure RZ where
 x:Rat
 r:Bool
def RZ.Q (z:RZ):List Int:=bif z.r then [1]else Xa (qd z.x)
def RZ.m (z:RZ):Rat:=bif z.r then(z.x.num:Rat)else z.x
def RZ.neg (z:RZ):RZ:=⟨-z.x,z.r⟩
def RZ.q (z:RZ):RQ:=⟨sg z.x,Xa z.x.num.natAbs,false,z.Q⟩
def RZ.C (z:RZ):List AV:=[.bool (sg z.x),X9 (Xa z.x.num.natAbs),.bool false,X9 z.Q]
theorem yo:Xa 1=[1]:=by decide +kernel
theorem RZ.TAU (z:RZ):∀a∈z.C,A_ a:=by simp[RZ.C,Xd,X5]
theorem wT (z:RZ):qb z.m≤qb z.x:=by
 unfold RZ.m;cases z.r
 ·exact N' _
 ·show qb (z.x.num:Rat)≤qb z.x
  exact Nat.max_le.2 ⟨Jy z.x,m_ (show bl ((1:Nat):Int)≤1 by decide +kernel) (Ry z.x)⟩
theorem mB (z:RZ):Fn Tryz.prog 79 [.agg z.C] (zA z.m.den):=by
 obtain⟨x,r⟩:=z;cases r
 ·exact Zr x
 ·obtain⟨R,hR⟩:∃R,R=zA (RZ.m ⟨x,true⟩).den:=⟨_,rfl⟩
  have sR:A_ R:=hR▸XS _;rw[←hR];rw[show(RZ.m ⟨x,true⟩).den=1 from rfl]at hR;refine q_ (fn:=Tryz.f79) Tryz.call79 Tryz.func79 rfl mixed 3 [] [] [] (by kernel_rfl) (K_ rfl) (fun a ha=>Y_.1 ha▸XE (RZ.TAU _)) (Xk ?_);simp(disch:=omega)only[O_,RZ.C,RZ.Q,cond_true,Xl,ZAA,ZAN,↓Xc,wG,seval];exact Jf rfl Q5 rfl rfl rfl sR (by rw[hR];show zA ((1:Nat):Int)=_;rw[Jb,yo];rfl)
theorem U1 (z:RZ)(k:Rat)(ha:qb z.x≤rm:=by unfold rm;omega)(hb:qb k≤rm:=by unfold rm;omega):Fn Tryz.prog 93 [.agg z.C,qA k] (qA (z.m*k)):=by
 unfold rm at ha hb;have hm:=wT z;have a1:=Jy z.m;have a2:=JZ z.m;have b1:=Jy k;have b2:=JZ k;have hn:z.m.num=z.x.num:=by
  obtain⟨x,r⟩:=z;cases r <;> rfl
 have m1:=Zl z.m.num k.num;have m3:=Zl z.m.den k.den;have n1:=JV z.m.num k.num;have n3:=JV z.m.den k.den;have c:=Dr (z.m.num*k.num) (z.m.den*k.den);have e0:z.m*k=P' (z.m.num*k.num) (z.m.den*k.den):=by
  rw[Rat.mul_def',Z8];push_cast;rfl
 rw[←e0]at c;have d1:=mB z;have d2:=Zr k;obtain⟨R,hR⟩:∃R,R=qA (z.m*k):=⟨_,rfl⟩
 have sR:A_ R:=hR▸Xb _;rw[←hR]at c ⊢;rw[hn]at m1 c;refine q_ (fn:=Tryz.f93) Tryz.call93 Tryz.func93 rfl mixed 5 [] [] [] (by kernel_rfl) (K_ rfl) (Kk (XE (RZ.TAU z)) (Xb k)) (Xk ?_);simp(disch:=omega)only[O_,RZ.C,qA,qC,↓Xc,wG,seval];refine X0 m1 (X1 _) ?_;simp(disch:=omega)only[zA,↓Xc,wG,seval];refine X0 d1 (X1 _) ?_;simp(disch:=omega)only[zA,↓Xc,wG,seval];refine X0 d2 (X1 _) ?_;simp(disch:=omega)only[zA,↓Xc,wG,seval];refine X0 m3 (X1 _) ?_;simp(disch:=omega)only[zA,↓Xc,wG,seval];refine X0 c (X1 _) ?_;simp only[hR,qA,↓X6,wF,seval];exact Jf rfl XT rfl rfl rfl sR (hR.trans rfl)
theorem mK (z:RZ)(h:qb z.x≤rm):Fn Tryz.prog 106 [.agg z.C] (.agg z.neg.C):=by
 unfold rm at h;have h1:=Jy z.x;have c:=HC z.x.num;have e:.agg z.neg.C=AV.agg [.bool (decide (-z.x.num<0)),X9 (Xa (-z.x.num).natAbs),.bool false,X9 z.Q]:=by
  obtain⟨x,r⟩:=z;unfold RZ.C RZ.neg RZ.Q;simp only[my,Rat.neg_num];rfl
 obtain⟨R,hR⟩:∃R,R=AV.agg z.neg.C:=⟨_,rfl⟩
 have sR:A_ R:=hR▸XE (RZ.TAU _);rw[←hR];refine q_ (fn:=Tryz.f106) Tryz.call106 Tryz.func106 rfl mixed 3 [] [] [] (by kernel_rfl) (K_ rfl) (fun a ha=>Y_.1 ha▸XE (RZ.TAU z)) (Xk ?_);simp(disch:=omega)only[O_,RZ.C,↓Xc,wG,seval];refine X0 c (X1 _) ?_;simp(disch:=omega)only[zA,↓Xc,wG,seval];exact Jf rfl XT rfl rfl rfl sR (hR.trans e)
theorem Wp (a b:RZ)(k:Rat)(ha:qb a.x≤vm)(hb:qb b.x≤vm)(hk:qb k≤vm):Fn Tryz.prog 37 [.agg (a.C ++ b.C),qA k] (vA ⟨a.m*k,b.m*k⟩):=by
 unfold vm at ha hb hk;obtain⟨R,hR⟩:∃R,R=vA ⟨a.m*k,b.m*k⟩:=⟨_,rfl⟩
 have sR:A_ R:=hR▸Xv _;have c1:=U1 a k;have c2:=U1 b k;rw[←hR];refine q_ (fn:=Tryz.f37) Tryz.call37 Tryz.func37 rfl mixed 5 [] [] [] (by kernel_rfl) (K_ rfl) (Kk (XE fun x hx=>(n_.1 hx).elim (RZ.TAU a x) (RZ.TAU b x)) (Xb k)) (Xk ?_);simp(disch:=omega)only[O_,RZ.C,qA,qC,e_,h_,↓Xc,wG,seval];refine X0 c1 (X1 _) ?_;simp(disch:=omega)only[qA,qC,↓Xc,wG,seval];refine X0 c2 (X1 _) ?_;simp(disch:=omega)only[qA,qC,↓Xc,wG,seval];exact ZK rfl Jn rfl rfl rfl sR (hR.trans rfl)
theorem RD (a b:RZ)(hb:qb b.x≤rm):Fn Tryz.prog 61 [.agg (a.C ++ b.C)] (.agg (b.neg.C ++ a.C)):=by
 have c1:=mK b hb;obtain⟨R,hR⟩:∃R,R=AV.agg (b.neg.C ++ a.C):=⟨_,rfl⟩
 have sR:A_ R:=hR▸XE fun x hx=>(n_.1 hx).elim (RZ.TAU _ x) (RZ.TAU _ x)
 rw[←hR];refine q_ (fn:=Tryz.f61) Tryz.call61 Tryz.func61 rfl mixed 3 [] [] [] (by kernel_rfl) (K_ rfl) (fun x hx=>Y_.1 hx▸XE fun x hx=>(n_.1 hx).elim (RZ.TAU a x) (RZ.TAU b x)) (Xk ?_);simp(disch:=omega)only[O_,RZ.C,e_,h_,↓Xc,wG,seval];refine X0 c1 (X1 _) ?_;simp(disch:=omega)only[RZ.C,↓Xc,wG,seval];exact ZK rfl Jn rfl rfl rfl sR (hR.trans rfl)
structure RG where
 p:V2
 q:V2
 a:RZ
 b:RZ
 force:Rat
 E_:Rat
def Dd (g:RG):List AV:=vC g.p ++ vC g.q ++ g.a.C ++ g.b.C ++ qC g.force ++ qC g.E_
theorem KR (g:RG):Dd g=[.bool (sg g.p.x),X9 (Xa g.p.x.num.natAbs),.bool false,X9 (Xa (qd g.p.x)),.bool (sg g.p.y),X9 (Xa g.p.y.num.natAbs),.bool false,X9 (Xa (qd g.p.y)),
 .bool (sg g.q.x),X9 (Xa g.q.x.num.natAbs),.bool false,X9 (Xa (qd g.q.x)),.bool (sg g.q.y),X9 (Xa g.q.y.num.natAbs),.bool false,X9 (Xa (qd g.q.y)),
 .bool (sg g.a.x),X9 (Xa g.a.x.num.natAbs),.bool false,X9 g.a.Q,.bool (sg g.b.x),X9 (Xa g.b.x.num.natAbs),.bool false,X9 g.b.Q,
 .bool (sg g.force),X9 (Xa g.force.num.natAbs),.bool false,X9 (Xa (qd g.force)),.bool (sg g.E_),X9 (Xa g.E_.num.natAbs),.bool false,X9 (Xa (qd g.E_))]:=rfl
theorem Jw (g:RG):∀a∈Dd g,A_ a:=by simp[KR,Xd,X5]
def RG.of (g:GG):RG:=⟨g.p,g.q,⟨g.n.x,false⟩,⟨g.n.y,false⟩,g.force,g.E_⟩
def RG.to (g:RG):GG:=⟨g.p,g.q,⟨g.a.x,g.b.x⟩,g.force,g.E_⟩
theorem ud (g:GG):Dd (RG.of g)=gC g:=rfl
theorem yZ (g:RG)(h:g.a.r=false)(h2:g.b.r=false):gC g.to=Dd g:=by
 obtain⟨p,q,⟨x,r⟩,⟨y,s⟩,f,u⟩:=g;subst h h2;rfl
def RG.raw (g:RG):Prop:=g.a.r=true∨g.b.r=true
def RG.S (g:RG)(c:Nat):Prop:=vb g.p≤c∧vb g.q≤c∧qb g.a.x≤c∧qb g.b.x≤c∧qb g.force≤c∧qb g.E_≤c
theorem RZ.TBP (z:RZ):z.q.ok↔z.r=false:=by
 obtain⟨x,r⟩:=z;cases r
 ·exact⟨fun _=>rfl,fun _=>tW x⟩
 ·exact⟨fun h=>absurd h (pf x),fun h=>by cases h⟩
theorem RZ.sz (z:RZ)(h:qb z.x≤100000):z.q.sz<1000000000:=by
 obtain⟨x,r⟩:=z;have h:qb x≤100000:=h;have:=Ex x;cases r
 ·exact this
 ·unfold RQ.sz RZ.q RZ.Q
  unfold RQ.sz RQ.of at this;simp only[cond_true,ZAA,ZAN]at *;omega
def ga (g:RG)(how by':Int):RG :=
 if Qk how 9=0 then { g with p:=g.p.add (Av [by',by'.tdiv 7,by'.tdiv 49] 0) }
 else if Qk how 9=1 then { g with q:=g.q.add (Av [by',by'.tdiv 7,by'.tdiv 49] 0) }
 else if Qk how 9=2 then { g with a:=⟨g.a.m*P' (Qk by' 5-2) 2,false⟩,b:=⟨g.b.m*P' (Qk by' 5-2) 2,false⟩ }
 else if Qk how 9=3 then { g with force:=P' (Qk by' 3-1) 1 }
 else if Qk how 9=4 then { g with E_:=P' (Qk by' 7-1) 1 }
 else if Qk how 9=5 then { g with a:=⟨g.a.x,true⟩ }
 else if Qk how 9=6 then { g with p:=g.q,q:=g.p }
 else if Qk how 9=7 then { g with a:=g.b.neg,b:=g.a }
 else g
theorem WE (g:RG)(how by':Int)(h:g.S 10000)(hw:Ap how)(hb:Ap by'):Fn Tryz.prog 13 [.agg (Dd g),I how,I by'] (.agg (Dd (ga g how by'))):=by
 obtain⟨h1,h2,h3,h4,h5,h6⟩:=h;obtain⟨R,hR⟩:∃R,R=ga g how by':=⟨_,rfl⟩
 rw[←hR];unfold ga at hR;have c1:=Kq how 9 hw (by omega);obtain⟨m1,m2⟩:=QE how 9 (by omega);generalize Qk how 9=m at *;have hd7:=MS hb (m:=7) (by omega);have TFd:=MS hb (m:=49) (by omega);have x1:=Ip hd7;have x2:=Ip TFd;have b3:=QE by' 3 (by omega);have b5:=QE by' 5 (by omega);have b7:=QE by' 7 (by omega);have c3:=Kq by' 3 hb (by omega);have c5:=Kq by' 5 hb (by omega);have c7:=Kq by' 7 hb (by omega);generalize Qk by' 3=u at *;generalize Qk by' 5=v at *;generalize Qk by' 7=w at *;have d3:=XL (u-1) 1 ⟨by omega,by omega⟩ ⟨by omega,by omega⟩;have d5:=XL (v-2) 2 ⟨by omega,by omega⟩ ⟨by omega,by omega⟩;have d7:=XL (w-1) 1 ⟨by omega,by omega⟩ ⟨by omega,by omega⟩;have q5:=Ew (v-2) 2;have s1:=FO [by',by'.tdiv 7,by'.tdiv 49] 0;have s2:=RJ [by',by'.tdiv 7,by'.tdiv 49] 0 (by intro x hx;simp only[b_,V_,or_false]at hx;rcases hx with rfl |rfl |rfl <;> assumption) (by omega);generalize Av [by',by'.tdiv 7,by'.tdiv 49] 0=sp at *;generalize P' (u-1) 1=f3 at *;generalize P' (v-2) 2=f5 at *;generalize P' (w-1) 1=f7 at *;have e1:=QR g.p sp;have e2:=QR g.q sp;have e3:=Wp g.a g.b f5 (by unfold vm;omega) (by unfold vm;omega) (by unfold vm;omega);have e4:=RD g.a g.b (by unfold rm;omega);refine q_ (fn:=Tryz.f13) Tryz.call13 Tryz.func13 rfl mixed 7 [8] [4001,6001,8001] [] (by kernel_rfl) (K_ rfl) (by
  intro a ha;simp only[b_,V_,or_false]at ha;rcases ha with rfl |rfl |rfl
  ·exact XE (Jw g)
  ·exact X8 _
  ·exact X8 _) (Xk ?_)
 simp(disch:=omega)only[O_,KR,↓Xc,wG,seval];have w1:B' (.sl 1 1 (Xf [I 1]) false) (X9 [1]):=UJ rfl (N' _) fun j hj=>by
  have h1:j<1:=hj;obtain rfl:j=0:=by omega
  rfl
 have hm:m=0∨m=1∨m=2∨m=3∨m=4∨m=5∨m=6∨m=7∨m=8:=by omega
 refine X0 c1 (X1 _) ?_;rcases hm with rfl |rfl |rfl |rfl |rfl |rfl |rfl |rfl |rfl
 ·rw[N_ rfl]at hR
  simp(disch:=omega)only[x1,x2,↓Xc,wG,seval];refine X0 s2 ⟨by rw[Xl];exact QC rfl (N' _) fun j hj=>by match j,hj with |0,_=>exact U_ _ |1,_=>exact U_ _ |2,_=>exact U_ _ |j+3,h=>exact absurd h (by simp),U_ _,trivial⟩ ?_;simp(disch:=omega)only[vA,vC,↓Xc,wG,seval];refine X0 e1 (X1 _) ?_;simp(disch:=omega)only[vA,vC,↓Xc,wG,seval];exact Kc rfl BN rfl rfl rfl (Xp (XE (Jw _)) (by rw[hR];exact U_ _))
 ·rw[M_ (by omega),N_ rfl]at hR
  simp(disch:=omega)only[x1,x2,↓Xc,wG,seval];refine X0 s2 ⟨by rw[Xl];exact QC rfl (N' _) fun j hj=>by match j,hj with |0,_=>exact U_ _ |1,_=>exact U_ _ |2,_=>exact U_ _ |j+3,h=>exact absurd h (by simp),U_ _,trivial⟩ ?_;simp(disch:=omega)only[vA,vC,↓Xc,wG,seval];refine X0 e2 (X1 _) ?_;simp(disch:=omega)only[vA,vC,↓Xc,wG,seval];exact Kc rfl BN rfl rfl rfl (Xp (XE (Jw _)) (by rw[hR];exact U_ _))
 ·rw[M_ (by omega),M_ (by omega),N_ rfl]at hR
  simp(disch:=omega)only[↓Xc,wG,seval];refine X0 c5 (X1 _) ?_;simp(disch:=omega)only[↓Xc,wG,seval];refine X0 d5 (X1 _) ?_;simp(disch:=omega)only[qA,qC,↓Xc,wG,seval];refine X0 e3 (X1 _) ?_;simp(disch:=omega)only[vA,vC,↓Xc,wG,seval];exact Kc rfl BN rfl rfl rfl (Xp (XE (Jw _)) (by rw[hR];exact U_ _))
 ·rw[M_ (by omega),M_ (by omega),M_ (by omega),N_ rfl]at hR
  simp(disch:=omega)only[↓Xc,wG,seval];refine X0 c3 (X1 _) ?_;simp(disch:=omega)only[↓Xc,wG,seval];refine X0 d3 (X1 _) ?_;simp(disch:=omega)only[qA,qC,↓Xc,wG,seval];exact Kc rfl BN rfl rfl rfl (Xp (XE (Jw _)) (by rw[hR];exact U_ _))
 ·rw[M_ (by omega),M_ (by omega),M_ (by omega),M_ (by omega),N_ rfl]at hR
  simp(disch:=omega)only[↓Xc,wG,seval];refine X0 c7 (X1 _) ?_;simp(disch:=omega)only[↓Xc,wG,seval];refine X0 d7 (X1 _) ?_;simp(disch:=omega)only[qA,qC,↓Xc,wG,seval];exact Kc rfl BN rfl rfl rfl (Xp (XE (Jw _)) (by rw[hR];exact U_ _))
 ·rw[M_ (by omega),M_ (by omega),M_ (by omega),M_ (by omega),M_ (by omega),N_ rfl]at hR
  simp(disch:=omega)only[↓Xc,wG,seval];exact Kc rfl BN rfl rfl rfl (Xp (XE (Jw _)) (by rw[hR];exact JR ⟨U_ _,U_ _,U_ _,U_ _,U_ _,U_ _,U_ _,U_ _,U_ _,U_ _,U_ _,U_ _,U_ _,U_ _,U_ _,U_ _,U_ _,U_ _,U_ _,w1,U_ _,U_ _,U_ _,U_ _,U_ _,U_ _,U_ _,U_ _,U_ _,U_ _,U_ _,U_ _,trivial⟩))
 ·rw[M_ (by omega),M_ (by omega),M_ (by omega),M_ (by omega),M_ (by omega),M_ (by omega),N_ rfl]at hR
  simp(disch:=omega)only[↓Xc,wG,seval];exact Kc rfl BN rfl rfl rfl (Xp (XE (Jw _)) (by rw[hR];exact U_ _))
 ·rw[M_ (by omega),M_ (by omega),M_ (by omega),M_ (by omega),M_ (by omega),M_ (by omega),M_ (by omega),N_ rfl]at hR
  simp(disch:=omega)only[↓Xc,wG,seval];refine X0 e4 (X1 _) ?_;simp(disch:=omega)only[RZ.C,e_,h_,↓Xc,wG,seval];exact Kc rfl BN rfl rfl rfl (Xp (XE (Jw _)) (by rw[hR];exact U_ _))
 ·rw[M_ (by omega),M_ (by omega),M_ (by omega),M_ (by omega),M_ (by omega),M_ (by omega),M_ (by omega),M_ (by omega)]at hR
  simp(disch:=omega)only[↓Xc,wG,seval];exact Kc rfl BN rfl rfl rfl (Xp (XE (Jw _)) (by rw[hR];exact U_ _))
theorem BR (g:RG):A_ (.agg (Dd g)):=XE (Jw g)
theorem OG (g:RG)(h:g.S 10000)(hr:g.raw):Fn Tryz.prog 63 [.agg (Dd g)] (.bool false):=by
 obtain⟨h1,h2,h3,h4,h5,h6⟩:=h;have:=Ja g.p;have:=J7 g.p;have:=Ja g.q;have:=J7 g.q;have c1:=OI [RQ.of g.p.x,RQ.of g.p.y,RQ.of g.q.x,RQ.of g.q.y,g.a.q,g.b.q] (by simp) (by
  simp only[b_,V_,or_false];rintro r (rfl |rfl |rfl |rfl |rfl |rfl)
  ·exact Ex _
  ·exact Ex _
  ·exact Ex _
  ·exact Ex _
  ·exact RZ.sz _ (by omega)
  ·exact RZ.sz _ (by omega))
 rw[show([RQ.of g.p.x,RQ.of g.p.y,RQ.of g.q.x,RQ.of g.q.y,g.a.q,g.b.q].all fun x=>decide x.ok)=false by
  rcases hr with hr |hr
  ·simp[RZ.TBP,hr]
  ·simp[RZ.TBP,hr]]at c1
 refine q_ (fn:=Tryz.f63) Tryz.call63 Tryz.func63 rfl mixed 2 [] [] [] (by kernel_rfl) (K_ rfl) (fun a ha=>Y_.1 ha▸BR g) (Xk ?_);simp(disch:=omega)only[O_,KR,Xl,↓Xc,wG,seval];refine X0 c1 ⟨JH RQ.L 4 RC (fun _=>rfl) [RQ.of g.p.x,RQ.of g.p.y,RQ.of g.q.x,RQ.of g.q.y,g.a.q,g.b.q] _ _ _ _ rfl rfl rfl,trivial⟩ ?_;simp(disch:=omega)only[↓Xc,wG,seval];exact Xn (v:=.bool false) rfl rfl (X5 _) rfl
theorem Pg (g:RG)(h:g.S 10000)(hr:g.raw):Fn Tryz.prog 24 [.agg (Dd g)] (.bool false):=by
 obtain⟨h1,h2,h3,h4,h5,h6⟩:=h;have:=Ja g.p;have:=J7 g.p;have:=Ja g.q;have:=J7 g.q;have c1:=Tr [RV.of g.p,RV.of g.q,⟨g.a.q,g.b.q⟩] (fun i=>by
  match i with
  |0=>exact⟨Ex _,Ex _⟩
  |1=>exact⟨Ex _,Ex _⟩
  |2=>exact⟨RZ.sz _ (by omega),RZ.sz _ (by omega)⟩
  |i+3=>exact⟨Ex 0 (by decide +kernel),Ex 0 (by decide +kernel)⟩) (by simp) 2 (by simp) (by
  rintro⟨e1,e2⟩;have e1:g.a.q.ok:=e1;have e2:g.b.q.ok:=e2;rw[RZ.TBP]at e1 e2;rcases hr with hr |hr
  ·rw[hr]at e1;cases e1
  ·rw[hr]at e2;cases e2)
 refine q_ (fn:=Tryz.f24) Tryz.call24 Tryz.func24 rfl mixed 3 [] [] [] (by kernel_rfl) (K_ rfl) (fun a ha=>Y_.1 ha▸BR g) (Xk ?_);simp(disch:=omega)only[O_,KR,Xl,↓Xc,wG,seval];refine X0 c1 ⟨JH fT 8 Lc (fun _=>rfl) [RV.of g.p,RV.of g.q,⟨g.a.q,g.b.q⟩] _ _ _ _ rfl rfl rfl,trivial⟩ ?_;simp(disch:=omega)only[↓Xc,wG,seval];exact Xn (v:=.bool false) rfl rfl (X5 _) rfl
theorem cL {A:List AV}(B:List AV){n j:Nat}(h:A.length=n)(hj:j<n:=by omega):Xf (A ++ B) j=A.getD j .any:=by
 show(A ++ B).getD j .any=_;rw[K',T_ (by omega),K']
theorem cM {A:List AV}(B:List AV){n i j:Nat}(h:A.length=n)(hi:i=n+j:=by omega):Xf (A ++ B) i=B.getD j .any:=by
 show(A ++ B).getD i .any=_;rw[K',g_ (by omega),K',h,show i-n=j by omega]
theorem CF (x:Rat):∀j,j<4→((qC x).getD j .any).one=true:=fun j hj=>by
 match j,hj with
 |0,_ |1,_ |2,_ |3,_=>rfl
 |j+4,h=>omega
theorem Gt (l:List Rat):(XX l).boxed=XX l:=C_ rfl
theorem Ld (l:List Rat)(t:Rat)(hl:l.length<1000000)(ht:qb t≤rm)(h:∀x∈l,qb x≤rm):Fn Tryz.prog 197 [XX l,qA t] (XX (l.map (·*t))):=by
  have bV:∀q,Jl q (XX l)=True:=fun q=>L' (X4 (Xr l))
  have bO:∀q i,Q0 q (.row i 4 (Xf (qC t)))=True:=fun q i=>L' (QZ (XU t))
  have bR:∀q i n x,Q0 q (.row i n (Xw qC 4 0 x))=True:=fun q i n x=>L' fun j _=>X4 (Xe (XU _) _)
  refine q_ (fn:=Tryz.f197) Tryz.call197 Tryz.func197 rfl mixed 7 [] [] [] (by kernel_rfl) (K_ rfl) (Kk (Xr l) (Xb t)) (Xk ?_);simp(disch:=omega)only[O_,Xu,qA,qC,↓Xc,wG,seval];refine Xj (fun i:Nat=>⟨7,[],[XX l,.any,.any,.ref 0 0 0,.any,.osl 1 i 4 0 i,I i],[],[.row 0 4 (Xf (qC t)),.row i (i*4) (Xw qC 4 0 ((l.take i).map (·*t)))]⟩) (fun i=>i≤l.length) (fun i=>l.length-i) 0 (by omega)
    (ZAZ (JS 5 4 (Xw qC 4 0 []) rfl) (Xh rfl ⟨.inr (Xu l).symm,.inl rfl,.inl rfl,.inr rfl,.inl rfl,.inr rfl,.inr rfl,trivial⟩ trivial rfl)) ?_
  intro i hi next
  have w1:=wj i;have hlk:∀i,i≤l.length→((l.take i).map (·*t)).length=i:=fun i hi=>by simp;omega
  by_cases hi2:i<l.length
  · have f1:(i<l.length)=True:=L' hi2;have v0:Xm (fun i=>l.getD i 0) (i*4)=(qC (l.getD i 0)).getD 0 .any:=ZO qC 4 0 l i;have v1:∀j,j<4→Xm (fun i=>l.getD i 0) (i*4+j)=(qC (l.getD i 0)).getD j .any:=fun j hj=>Ze qC 4 0 l i j hj
    have s1:=h _ (Qp 0 hi2);have hk:=hlk i hi;have ht2:(l.take i).map (·*t) ++ [l.getD i 0*t]=(l.take (i+1)).map (·*t):=by
      rw[GA l 0 hi2,ZEP];rfl
    have nx:=next (i+1)
    rw[←ht2]at nx;generalize l.getD i 0=p at *;have c1:=Qm p t s1 ht;have hap:=Zp qC 4 0 ((l.take i).map (·*t)) (p*t);rw[hk]at hap;refine Xk ?_;simp(disch:=omega)only[Xu,w1,f1,v0,v1,qC,↓Xc,wG,seval];refine X0 c1 (X1 _) ?_;simp(disch:=omega)only[qA,qC,↓Xc,wG,seval];exact⟨fun j hj=>CF (p*t) j hj,nx _ (by omega) (by omega) (rM (m:=2) (by simp[Xo,I,Xu]) (by rw[←hap];rfl) (by simp[XP,bV]) (by simp[bO,bR]))⟩
  · obtain rfl:i=l.length:=by omega
    refine Xk ?_;simp(disch:=omega)only[Xu,↓Xc,wG,seval];refine C4 rfl ?_;show ZA _ (.osl 1 l.length 4 0 l.length) (XX (l.map (·*t)));have hk:=hlk l.length (N' _);rw[ZAW]at hk;rw[Xu,hk,ZAW];refine Kw (.inl rfl) (by omega) (fun h=>by rw[h]) fun j hj=>?_
    rw[z_];exact(Xe (XU _) _).TBI _
theorem N2 (l:List Rat)(hl:l.length<1000000)(h:∀x∈l,qb x≤rm):Fn Tryz.prog 124 [XX l] (XX (Cb l)):=by
  have c0:=XL (-1) 1 ⟨by omega,by omega⟩ ⟨by omega,by omega⟩;rw[show P' (-1) 1 = -1 by decide +kernel]at c0;have c1:=Ld l (-1) hl (by decide +kernel) h;rw[show l.map (· * -1)=Cb l from ZAh fun x _=>by grind]at c1;refine q_ (fn:=Tryz.f124) Tryz.call124 Tryz.func124 rfl mixed 2 [] [] [] (by kernel_rfl) (K_ rfl) (fun a ha=>Y_.1 ha▸Xr l) (Xk ?_);simp(disch:=omega)only[O_,↓Xc,wG,seval];refine X0 c0 (X1 _) ?_;simp(disch:=omega)only[↓Xc,wG,seval];refine X0 c1 (X1 _) ?_;simp(disch:=omega)only[↓Xc,wG,seval];exact Xn rfl rfl (Xr _) rfl
theorem AW (a b c d k r:Rat):Fn Tryz.prog 123 [qA a,qA b,qA c,qA d,qA k,qA r] (.agg (KX ⟨[a,b,c,d,k],r⟩)):=by
 refine Fq Tryz.call123 Tryz.func123 13 [] [] [] (by simp[Xb]) (Xk ?_);simp(disch:=omega)only[O_,qA,qC,↓Xc,wG,seval];exact Kc rfl lm rfl rfl rfl (Xp (XE (Z1 _)) (JR ⟨JH qC 4 0 (fun _=>rfl) [a,b,c,d,k] _ _ _ _ rfl rfl rfl,U_ _,U_ _,U_ _,U_ _,trivial⟩))
def TK (b:BB)(g:GG):List Ln :=
  [⟨[-1,0,0,0,0],0⟩,⟨[0,0,-1,0,0],0⟩,⟨[-g.E_,1,0,0,0],0⟩,⟨[-g.E_,-1,0,0,0],0⟩,⟨[0,0,-g.E_,1,0],0⟩,⟨[0,0,-g.E_,-1,0],0⟩,
   ⟨[Qj g.n,0,0,0,0],g.force⟩,⟨[0,0,Qj g.n,0,0],g.force⟩,⟨[Qj g.n,0,Qj g.n,0,0],b.TAB⟩,⟨[0,0,0,0,1],16⟩,⟨[0,0,0,0,-1],0⟩]
def F0 (b:BB)(g:GG):List Ln:=TK b g ++ (Ev b g).flatMap GN
theorem TN (b:BB)(g:GG)(x:Nat→Rat):(∀i,i<17→XO (fun k=>lA (F0 b g) i k*x k) 5≤lB (F0 b g) i)↔okP b g (x 0) (x 1) (x 2) (x 3) (x 4):=by
 rw[←H4];constructor
 ·intro h i hi
  match i,hi with
  |0,_=>exact h 0 (by omega)
  |1,_=>exact h 1 (by omega)
  |2,_=>exact h 2 (by omega)
  |3,_=>exact h 4 (by omega)
  |4,_=>exact h 3 (by omega)
  |5,_=>exact h 5 (by omega)
  |6,_=>exact h 6 (by omega)
  |7,_=>exact h 7 (by omega)
  |8,_=>exact h 8 (by omega)
  |9,_=>exact h 9 (by omega)
  |10,_=>exact h 10 (by omega)
  |11,_=>exact h 11 (by omega)
  |12,_=>exact h 12 (by omega)
  |13,_=>exact h 13 (by omega)
  |14,_=>exact h 14 (by omega)
  |15,_=>exact h 15 (by omega)
  |16,_=>exact h 16 (by omega)
  |i+17,h=>omega
 ·intro h i hi
  match i,hi with
  |0,_=>exact h 0 (by omega)
  |1,_=>exact h 1 (by omega)
  |2,_=>exact h 2 (by omega)
  |3,_=>exact h 4 (by omega)
  |4,_=>exact h 3 (by omega)
  |5,_=>exact h 5 (by omega)
  |6,_=>exact h 6 (by omega)
  |7,_=>exact h 7 (by omega)
  |8,_=>exact h 8 (by omega)
  |9,_=>exact h 9 (by omega)
  |10,_=>exact h 10 (by omega)
  |11,_=>exact h 11 (by omega)
  |12,_=>exact h 12 (by omega)
  |13,_=>exact h 13 (by omega)
  |14,_=>exact h 14 (by omega)
  |15,_=>exact h 15 (by omega)
  |16,_=>exact h 16 (by omega)
  |i+17,h=>omega
theorem rC {b:BB}{g:GG}{x y:Nat→Rat}{val:Rat}(h:TAx 5 17 (lA (F0 b g)) (lB (F0 b g)) (lG TAO) x y val):lh b g val∧okP b g (x 0) (x 1) (x 2) (x 3) val∧x 4=val:=by
 have e:x 4=val:=by rw[←h.TCf,LC 0]
 have ok:=(TN b g x).1 h.TC7;rw[e]at ok;refine⟨⟨⟨_,_,_,_,ok⟩,fun a0 c0 a1 c1 k' hk=>?_⟩,ok,e⟩
 let z:Nat→Rat:=fun k=>match k with |0=>a0 |1=>c0 |2=>a1 |3=>c1 |_=>k'
 have:=h.most (z:=z) ((TN b g z).2 hk);rw[LC 0]at this;exact this
theorem Q6 (l:List Rat):(XX l).one=true:=C_ rfl
theorem XN (l:List Rat):(XX l).loose=XX l:=C_ rfl
theorem KF (l:List Rat):(XX l).cells=[XX l]:=C_ rfl
theorem ER (x y:Ln):∀j,j<10→((KX x ++ KX y).getD j .any).one=true:=fun j hj=>by
 match j,hj with
 |0,_ |1,_ |2,_ |3,_ |4,_ |5,_ |6,_ |7,_ |8,_ |9,_=>rfl
 |j+10,h=>omega
theorem eg (x:Ln):∀j,j<5→((KX x).getD j .any).one=true:=fun j hj=>by
 match j,hj with
 |0,_ |1,_ |2,_ |3,_ |4,_=>rfl
 |j+5,h=>omega
def HW (x:V2):AV:=.ptr 8 (Xf (vC x)) 0
def Gw (b:BB)(g:GG)(ver:Nat)(Ls:List Ln):List AO:=[.con 0 20 (Xf (bC b)),.con 0 32 (Xf (gC g)),.row 0 3 (Xf [I 0,.sl 0 0 (fun _=>.any) true,.sl 0 0 (fun _=>.any) true]),
 .con 0 4 (Xf (qC 0)),.con 0 4 (Xf (qC 1)),.con 0 4 (Xf (qC (-1))),.con 0 4 (Xf (qC (-g.E_))),.con 0 4 (Xf (qC (Qj g.n))),.con 0 8 (Xf (vC g.n.F')),.con 0 8 (Xf (vC (g.p.sub b.c))),.con 0 8 (Xf (vC (g.q.sub b.c))),
 .row 0 3 (Xf [I 5,.osl 12 ver 5 0 Ls.length,XX TAO]),.row ver (Ls.length*5) (Xw KX 5 KN Ls)]
def G7 (b:BB)(g:GG)(l:List AV):List AV:=[.any,.any,bP b,gP g,.ref 2 0 0,JN 0,JN 1,JN (-1),JN (-g.E_),JN (Qj g.n),HW g.n.F',HW (g.p.sub b.c),HW (g.q.sub b.c),.ref 11 0 0] ++ l
theorem lE (Ls:List Ln)(x y:Ln):∀j,j<(Ls ++ [x,y]).length*5→XV (Ls.length*5) (Xw KX 5 KN Ls) 10 (Xf (KX x ++ KX y)) j=Xw KX 5 KN (Ls ++ [x,y]) j:=fun j hj =>
 rU KX 5 KN Ls [x,y] _ _ (by omega) (fun _ _=>rfl) (fun j hj=>by
  have:j<10:=hj
  match j,this with
  |0,_ |1,_ |2,_ |3,_ |4,_ |5,_ |6,_ |7,_ |8,_ |9,_=>rfl
  |j+10,h=>omega) _ _ rfl rfl j hj
def lnW:List AV:=[.bool false,.sl 0 0 (fun _=>.any) false,.bool false,.sl 0 0 (fun _=>.any) false]
theorem qX (H:List AO)(Ls:List Ln)(r s:List Rat)(w:AV)(j:Nat)(hw:w=XX s):j<(Ls.length+2)*5→Jj H (XV (Ls.length*5) (Xw KX 5 KN Ls) 10 (Xf (XX r :: lnW ++ w :: lnW)) j) (Xw KX 5 KN (Ls ++ [⟨r,0⟩,⟨s,0⟩]) j):=fun hj=>by
 subst hw;rw[←lE Ls ⟨r,0⟩ ⟨s,0⟩ j (by rw[j_];exact hj)];unfold XV
 split
 ·exact XD _ _
 ·rw[N_ (by omega),N_ (by omega)]
  have h10:j-Ls.length*5<10:=by omega
  have w0:=QB false;generalize j-Ls.length*5=k at *
  match k,h10 with
  |0,_=>exact XD _ _
  |1,_=>exact Xy w0.1
  |2,_=>exact Xy w0.2.1
  |3,_=>exact Xy w0.2.2.1
  |4,_=>exact Xy w0.2.2.2.1
  |5,_=>exact XD _ _
  |6,_=>exact Xy w0.1
  |7,_=>exact Xy w0.2.1
  |8,_=>exact Xy w0.2.2.1
  |9,_=>exact Xy w0.2.2.2.1
  |k+10,h=>omega
theorem U4 (b:BB)(g:GG)(h1:vb b.c≤1400)(h2:vb g.p≤1400)(h3:vb g.q≤1400)(h4:vb g.n≤1400)(h5:qb b.TAD≤1400)(h6:qb g.E_≤1400):Fn Tryz.prog 50 [bA b,gA g] (P7 5 (F0 b g) TAO):=by
 have c1:=XL 1 1 ⟨by omega,by omega⟩ ⟨by omega,by omega⟩;rw[show P' 1 1=1 by decide +kernel]at c1;have cm:=XL (-1) 1 ⟨by omega,by omega⟩ ⟨by omega,by omega⟩;rw[show P' (-1) 1 = -1 by decide +kernel]at cm;have c16:=XL 16 1 ⟨by omega,by omega⟩ ⟨by omega,by omega⟩;rw[show P' 16 1=16 by decide +kernel]at c16;have cr:=J9 g.E_;have cq:=Fb g.n;have cp:=QS g.p b.c;have cs:=QS g.q b.c;have cl:=Gv g.n;have:=Ja g.n;have:=J7 g.n;have:=Ja g.n.F';have:=J7 g.n.F';have vt:vb g.n.F'=vb g.n:=AJ g.n;have vp:=J4 g.p b.c;have vq:=J4 g.q b.c;have k1:=K1 (g.q.sub b.c) g.n;have k2:=K1 (g.q.sub b.c) g.n.F';obtain⟨R,hR⟩:∃R,R=P7 5 (F0 b g) TAO:=⟨_,rfl⟩
 have sR:A_ R:=hR▸BT _ _ _;rw[←hR];refine q_ (fn:=Tryz.f50) Tryz.call50 Tryz.func50 rfl mixed 19 [] [9,10000,10001,10002,10003,10004,10005] [] (by kernel_rfl) (K_ rfl) (Kk (QU b) (QA g)) (XI 10 ?_);simp(disch:=omega)only[O_,bA,gA,Jc,Jd,Xl,↓Xc,wG,seval];refine d_ (s':=⟨19,[],[.any,.any,.ref 0 0 0,.ref 1 0 0,.ref 2 0 0,.any,.any,.any,.any,.any,.any,.any,.any,.any,.any,.any,.any,.any,.any],[],[.row 0 20 (Xf (bC b)),.row 0 32 (Xf (gC g)),.row 0 3 (Xf [I 0,.sl 0 0 (fun _=>.any) true,.sl 0 0 (fun _=>.any) true])]⟩) ?_ (Xh rfl (by simp[Xo]) trivial (by rw[Jc,Jd];rfl));refine d_ ?_ (Xz 0 rfl);refine d_ ?_ (Xz 1 rfl);refine d_ ?_ (XK 2 rfl rfl);refine d_ ?_ (XK 3 rfl rfl);refine d_ (s':=⟨19,[],[.any,.any,bP b,gP g,.ref 2 0 0,.any,.any,.any,.any,.any,.any,.any,.any,.any,.any,.any,.any,.any,.any],[],[.con 0 20 (Xf (bC b)),.con 0 32 (Xf (gC g)),.row 0 3 (Xf [I 0,.sl 0 0 (fun _=>.any) true,.sl 0 0 (fun _=>.any) true])]⟩) ?_ (Xh rfl (by simp[AS.put,Xo,bP,gP]) trivial rfl);refine XI 120 ?_;have gf:=gF g;have bf:=bF b;simp(disch:=omega)only[gP,bP,gf,bf,Xl,↓Xc,wG,seval];refine X2 c1 rfl ?_;simp(disch:=omega)only[gP,bP,gf,bf,qA,qC,Xl,↓Xc,wG,seval];refine X2 cm rfl ?_;simp(disch:=omega)only[gP,bP,gf,bf,qA,qC,Xl,↓Xc,wG,seval];refine X0 cr (X1 _) ?_;simp(disch:=omega)only[gP,bP,gf,bf,qA,qC,Xl,↓Xc,wG,seval];refine X0 cl (X1 _) ?_;simp(disch:=omega)only[gP,bP,gf,bf,qA,qC,Xl,↓Xc,wG,seval];refine X0 cq (X1 _) ?_;simp(disch:=omega)only[gP,bP,gf,bf,vA,vC,Xl,↓Xc,wG,seval];refine X0 cp (X1 _) ?_;simp(disch:=omega)only[gP,bP,gf,bf,vA,vC,Xl,↓Xc,wG,seval];refine X0 cs (X1 _) ?_;simp(disch:=omega)only[gP,bP,gf,bf,vA,vC,Xl,↓Xc,wG,seval];have w0:=QB false;have hz':∀ (H:List AO) (j:Nat),j<4→Jj H (Xf Fm j) (Xf (qC 0) j):=fun H j hj=>by
  match j,hj with
  |0,_=>exact Xy w0.1
  |1,_=>exact Xy w0.2.1
  |2,_=>exact Xy w0.2.2.1
  |3,_=>exact Xy w0.2.2.2.1
  |j+4,h=>omega
 refine d_ (s':=⟨19,[],[.any,.any,bP b,gP g,.ref 2 0 0,.ref 3 0 0,.ref 4 0 0,.ref 5 0 0,.ref 6 0 0,.ref 7 0 0,.ref 8 0 0,.ref 9 0 0,.ref 10 0 0,.ref 11 0 0,.any,.any,.any,.any,.any],[],[.con 0 20 (Xf (bC b)),.con 0 32 (Xf (gC g)),.row 0 3 (Xf [I 0,.sl 0 0 (fun _=>.any) true,.sl 0 0 (fun _=>.any) true]),
  .row 0 4 (Xf Fm),.row 0 4 (Xf (qC 1)),.row 0 4 (Xf (qC (-1))),.row 0 4 (Xf (qC (-g.E_))),.row 0 4 (Xf (qC (Qj g.n))),.row 0 8 (Xf (vC g.n.F')),.row 0 8 (Xf (vC (g.p.sub b.c))),.row 0 8 (Xf (vC (g.q.sub b.c))),.row 0 3 (Xf [I 5,.sl 0 0 (fun _=>.any) true,.sl 5 20 (Xf (Fm ++ Fm ++ Fm ++ Fm ++ qC 1)) false])]⟩) ?_ (Xh rfl (by exact⟨.inl rfl,.inl rfl,.inr rfl,.inr rfl,.inr rfl,.inr rfl,.inr rfl,.inr rfl,.inr rfl,.inr rfl,.inr rfl,.inr rfl,.inr rfl,.inr rfl,.inl rfl,.inl rfl,.inl rfl,.inl rfl,.inl rfl,trivial⟩) trivial (by rfl))
 refine d_ ?_ (Qe 3 (Xf (qC 0)) rfl (hz' _));refine d_ ?_ (FP (Xw KX 5 KN []));refine d_ ?_ (Qe 11 (Xf [I 5,.osl 12 0 5 0 0,XX TAO]) rfl (fun j hj=>by
  match j,hj with
  |0,_=>exact XD _ _
  |1,_=>exact A5 (f:=Xw KX 5 KN []) (n:=0) rfl
  |2,_ =>
   exact Xy (QC rfl (N' _) fun j hj=>by
    have:j<20:=hj
    match j,this with
    |0,_ |4,_ |8,_ |12,_=>exact w0.1
    |1,_ |5,_ |9,_ |13,_=>exact w0.2.1
    |2,_ |6,_ |10,_ |14,_=>exact w0.2.2.1
    |3,_ |7,_ |11,_ |15,_=>exact w0.2.2.2.1
    |16,_ |17,_ |18,_ |19,_=>exact U_ _
    |j+20,h=>omega)
  |j+3,h=>omega))
 refine d_ ?_ (Xz 3 rfl);refine d_ ?_ (Xz 4 rfl);refine d_ ?_ (Xz 5 rfl);refine d_ ?_ (Xz 6 rfl);refine d_ ?_ (Xz 7 rfl);refine d_ ?_ (Xz 8 rfl);refine d_ ?_ (Xz 9 rfl);refine d_ ?_ (Xz 10 rfl);refine d_ ?_ (XK 5 rfl rfl);refine d_ ?_ (XK 6 rfl rfl);refine d_ ?_ (XK 7 rfl rfl);refine d_ ?_ (XK 8 rfl rfl);refine d_ ?_ (XK 9 rfl rfl);refine d_ ?_ (XK 10 rfl rfl);refine d_ ?_ (XK 11 rfl rfl);refine d_ ?_ (XK 12 rfl rfl);refine d_ (s':=⟨19,[],G7 b g [.any,.any,.any,.any,.any],[],Gw b g 0 []⟩) ?_ (Xh rfl (by exact⟨.inl rfl,.inl rfl,.inr rfl,.inr rfl,.inr rfl,.inr rfl,.inr rfl,.inr rfl,.inr rfl,.inr rfl,.inr rfl,.inr rfl,.inr rfl,.inr rfl,.inl rfl,.inl rfl,.inl rfl,.inl rfl,.inl rfl,trivial⟩) trivial (by rfl));refine Xk ?_;simp(disch:=omega)only[Q6,XN,G7,Gw,e_,h_,gP,bP,gf,bf,JN,HW,qC,KX,↓Xc,wG,seval];refine X0 (AW (-1) 0 0 0 0 0) (X1 _) ?_;simp(disch:=omega)only[Q6,XN,G7,Gw,e_,h_,gP,bP,gf,bf,JN,HW,qC,KX,↓Xc,wG,seval];refine X0 (AW 0 0 (-1) 0 0 0) (X1 _) ?_;simp(disch:=omega)only[Q6,XN,G7,Gw,e_,h_,gP,bP,gf,bf,JN,HW,qC,KX,↓Xc,wG,seval];refine⟨ER ⟨[(-1),0,0,0,0],0⟩ ⟨[0,0,(-1),0,0],0⟩,?_⟩;refine X0 (AW (-g.E_) 1 0 0 0 0) (X1 _) ?_;simp(disch:=omega)only[Q6,XN,G7,Gw,e_,h_,gP,bP,gf,bf,JN,HW,qC,KX,↓Xc,wG,seval];refine X0 (AW (-g.E_) (-1) 0 0 0 0) (X1 _) ?_;simp(disch:=omega)only[Q6,XN,G7,Gw,e_,h_,gP,bP,gf,bf,JN,HW,qC,KX,↓Xc,wG,seval];refine⟨ER ⟨[(-g.E_),1,0,0,0],0⟩ ⟨[(-g.E_),(-1),0,0,0],0⟩,?_⟩;refine X0 (AW 0 0 (-g.E_) 1 0 0) (X1 _) ?_;simp(disch:=omega)only[Q6,XN,G7,Gw,e_,h_,gP,bP,gf,bf,JN,HW,qC,KX,↓Xc,wG,seval];refine X0 (AW 0 0 (-g.E_) (-1) 0 0) (X1 _) ?_;simp(disch:=omega)only[Q6,XN,G7,Gw,e_,h_,gP,bP,gf,bf,JN,HW,qC,KX,↓Xc,wG,seval];refine⟨ER ⟨[0,0,(-g.E_),1,0],0⟩ ⟨[0,0,(-g.E_),(-1),0],0⟩,?_⟩;refine X0 (AW (Qj g.n) 0 0 0 0 g.force) (X1 _) ?_;simp(disch:=omega)only[Q6,XN,G7,Gw,e_,h_,gP,bP,gf,bf,JN,HW,qC,KX,↓Xc,wG,seval];refine X0 (AW 0 0 (Qj g.n) 0 0 g.force) (X1 _) ?_;simp(disch:=omega)only[Q6,XN,G7,Gw,e_,h_,gP,bP,gf,bf,JN,HW,qC,KX,↓Xc,wG,seval];refine⟨ER ⟨[(Qj g.n),0,0,0,0],g.force⟩ ⟨[0,0,(Qj g.n),0,0],g.force⟩,?_⟩;refine X0 (AW (Qj g.n) 0 (Qj g.n) 0 0 b.TAB) (X1 _) ?_;simp(disch:=omega)only[Q6,XN,G7,Gw,e_,h_,gP,bP,gf,bf,JN,HW,qC,KX,↓Xc,wG,seval];refine⟨eg ⟨[Qj g.n,0,Qj g.n,0,0],b.TAB⟩,?_⟩;refine X0 c16 (X1 _) ?_;simp(disch:=omega)only[Q6,XN,G7,Gw,e_,h_,gP,bP,gf,bf,JN,HW,qC,KX,qA,↓Xc,wG,seval];refine X0 (AW 0 0 0 0 1 16) (X1 _) ?_;simp(disch:=omega)only[Q6,XN,G7,Gw,e_,h_,gP,bP,gf,bf,JN,HW,qC,KX,↓Xc,wG,seval];refine X0 (AW 0 0 0 0 (-1) 0) (X1 _) ?_;simp(disch:=omega)only[Q6,XN,G7,Gw,e_,h_,gP,bP,gf,bf,JN,HW,qC,KX,↓Xc,wG,seval];refine⟨ER ⟨[0,0,0,0,1],16⟩ ⟨[0,0,0,0,-1],0⟩,?_⟩;refine X0 (J9 g.n.x) (X1 _) ?_;simp(disch:=omega)only[Q6,XN,G7,Gw,e_,h_,gP,bP,gf,bf,JN,HW,qC,KX,vC,qA,↓Xc,wG,seval];refine X0 (J9 g.n.F'.x) (X1 _) ?_;simp(disch:=omega)only[Q6,XN,G7,Gw,e_,h_,gP,bP,gf,bf,JN,HW,qC,KX,vC,qA,↓Xc,wG,seval];refine X0 (J9 g.n.y) (X1 _) ?_;simp(disch:=omega)only[Q6,XN,G7,Gw,e_,h_,gP,bP,gf,bf,JN,HW,qC,KX,vC,qA,↓Xc,wG,seval];refine X0 (J9 g.n.F'.y) (X1 _) ?_;simp(disch:=omega)only[Q6,XN,G7,Gw,e_,h_,gP,bP,gf,bf,JN,HW,qC,KX,vC,qA,↓Xc,wG,seval];refine X0 (J9 b.TAD) (X1 _) ?_;simp(disch:=omega)only[Q6,XN,G7,Gw,e_,h_,gP,bP,gf,bf,JN,HW,qC,KX,vC,qA,↓Xc,wG,seval];refine X0 (K4 (g.p.sub b.c) g.n) (X1 _) ?_;simp(disch:=omega)only[Q6,XN,G7,Gw,e_,h_,gP,bP,gf,bf,JN,HW,qC,KX,vC,qA,↓Xc,wG,seval];refine X0 (K4 (g.p.sub b.c) g.n.F') (X1 _) ?_;simp(disch:=omega)only[Q6,XN,G7,Gw,e_,h_,gP,bP,gf,bf,JN,HW,qC,KX,vC,qA,↓Xc,wG,seval];refine X0 (K4 (g.q.sub b.c) g.n) (X1 _) ?_;simp(disch:=omega)only[Q6,XN,G7,Gw,e_,h_,gP,bP,gf,bf,JN,HW,qC,KX,vC,qA,↓Xc,wG,seval];refine X0 (J9 (Xq (g.q.sub b.c) g.n)) (X1 _) ?_;simp(disch:=omega)only[Q6,XN,G7,Gw,e_,h_,gP,bP,gf,bf,JN,HW,qC,KX,vC,qA,↓Xc,wG,seval];refine X0 (K4 (g.q.sub b.c) g.n.F') (X1 _) ?_;simp(disch:=omega)only[Q6,XN,G7,Gw,e_,h_,gP,bP,gf,bf,JN,HW,qC,KX,vC,qA,↓Xc,wG,seval];refine X0 (J9 (Xq (g.q.sub b.c) g.n.F')) (X1 _) ?_;simp(disch:=omega)only[Q6,XN,G7,Gw,e_,h_,gP,bP,gf,bf,JN,HW,qC,KX,vC,qA,↓Xc,wG,seval];refine d_ ?_ (Qe 12 (Xw KX 5 KN (TK b g)) rfl (fun j hj=>by
  have:j<55:=hj
  match j,this with
  |0,_ |1,_ |2,_ |3,_ |4,_ |5,_ |6,_ |7,_ |8,_ |9,_ |10,_ |11,_ |12,_ |13,_ |14,_ |15,_ |16,_ |17,_ |18,_ |19,_ |20,_ |21,_ |22,_ |23,_ |24,_ |25,_ |26,_ |27,_ |28,_ |29,_ |30,_ |31,_ |32,_ |33,_ |34,_ |35,_ |36,_ |37,_ |38,_ |39,_ |40,_ |41,_ |42,_ |43,_ |44,_ |45,_ |46,_ |47,_ |48,_ |49,_ |50,_ |51,_ |52,_ |53,_ |54,_=>exact XD _ _
  |j+55,h=>omega))
 refine d_ ?_ (Zf 17 (.sl 3 3 (Xf ((Ev b g).map XX)) false) (show 17<19 by omega) (Xy (QC rfl (N' _) fun j hj=>by
  have:j<3:=hj
  match j,this with
  |0,_=>exact JH qC 4 0 (fun _=>rfl) [g.n.x,g.n.F'.x,-g.n.x,-g.n.F'.x,0] _ _ _ _ rfl rfl rfl
  |1,_=>exact JH qC 4 0 (fun _=>rfl) [g.n.y,g.n.F'.y,-g.n.y,-g.n.F'.y,-b.TAD] _ _ _ _ rfl rfl rfl
  |2,_=>exact JH qC 4 0 (fun _=>rfl) [Xq (g.p.sub b.c) g.n,Xq (g.p.sub b.c) g.n.F',-Xq (g.q.sub b.c) g.n,-Xq (g.q.sub b.c) g.n.F',0] _ _ _ _ rfl rfl rfl
  |j+3,h=>omega)))
 refine d_ (s':=⟨19,[],G7 b g [.any,.any,.any,.sl 3 3 (Xf ((Ev b g).map XX)) false,I 0],[],Gw b g 6 (TK b g)⟩) ?_ (ZZ (by exact⟨.inl rfl,.inl rfl,.inr rfl,.inr rfl,.inr rfl,.inr rfl,.inr rfl,.inr rfl,.inr rfl,.inr rfl,.inr rfl,.inr rfl,.inr rfl,.inr rfl,.inl rfl,.inl rfl,.inl rfl,.inr rfl,.inr rfl,trivial⟩) (by rfl));obtain⟨F,hF⟩:∃F,F=Xf ((Ev b g).map XX):=⟨_,rfl⟩
 have key:∀i,i<3→∃r,F i=XX r∧r.length=5∧(∀x∈r,qb x≤rm)∧((Ev b g).take (i+1)).flatMap GN=((Ev b g).take i).flatMap GN ++ [⟨r,0⟩,⟨Cb r,0⟩]:=fun i hi=>by
  have z0:qb 0≤rm:=by decide +kernel
  have k3:=K1 (g.p.sub b.c) g.n;have k4:=K1 (g.p.sub b.c) g.n.F';subst hF
  match i,hi with
  |0,_=>exact⟨_,rfl,rfl,by simp only[b_,V_,or_false];rintro x (rfl |rfl |rfl |rfl |rfl) <;> (try simp only[BF]) <;> first |exact z0 | (unfold rm;omega),rfl⟩
  |1,_=>exact⟨_,rfl,rfl,by simp only[b_,V_,or_false];rintro x (rfl |rfl |rfl |rfl |rfl) <;> (try simp only[BF]) <;> first |exact z0 | (unfold rm;omega),rfl⟩
  |2,_=>exact⟨_,rfl,rfl,by simp only[b_,V_,or_false];rintro x (rfl |rfl |rfl |rfl |rfl) <;> (try simp only[BF]) <;> first |exact z0 | (unfold rm;omega),rfl⟩
  |i+3,h=>omega
 have TFe:TK b g ++ ((Ev b g).take 3).flatMap GN=F0 b g:=rfl;rw[←hF];obtain⟨LL,hLL⟩:∃LL:Nat→List Ln,LL=fun i=>TK b g ++ ((Ev b g).take i).flatMap GN:=⟨_,rfl⟩
 refine Xj (fun i:Nat=>⟨19,[],G7 b g [.any,.any,.any,.sl 3 3 F false,I i],[],Gw b g (6+i) (LL i)⟩) (fun i=>i≤3) (fun i=>3-i) 0 (by omega) (ZZ (by simp[Xo,G7,bP,gP,JN,HW,I]) (by rw[hLL];rfl)) ?_;intro i hi next
 have w1:=wj i;by_cases hi2:i<3
 rotate_left
 ·obtain rfl:i=3:=by omega
  have hl:(LL 3).length=17:=by rw[hLL];rfl
  refine Xk ?_;simp(disch:=omega)only[G7,Gw,e_,h_,hl,Q6,XN,↓Xc,wG,seval];refine Kc (L:=[I 5,.osl 12 9 5 0 17,XX TAO]) rfl lu rfl rfl rfl ?_;rw[hR];refine Dz ⟨XY (X8 _) rfl,?_,XY (Xr _) rfl,trivial⟩;refine Kw (m:=85) (M:=85) (ver:=9) (f:=Xw KX 5 KN (F0 b g)) (.inl ?_) (by omega) (by omega) fun j hj=>?_
  ·rw[←TFe,hLL];rfl
  ·rw[z_]
   exact(Xe (Z1 _) _).TBI _
 have nx:=next (i+1)
 clear next
 obtain⟨r,e1,e2,e3,e4⟩:=key i hi2;have e5:LL (i+1)=LL i ++ [⟨r,0⟩,⟨Cb r,0⟩]:=by rw[hLL];show TK b g ++ _=(TK b g ++ _) ++ _;rw[e4,P_]
 have hl:(LL i).length<1000:=by
  rw[hLL]
  match i,hi2 with
  |0,_=>exact K_ rfl
  |1,_=>exact K_ rfl
  |2,_=>exact K_ rfl
  |i+3,h=>omega
 rw[e5]at nx;generalize LL i=Ls at *;have c3:=N2 r (by omega) e3;have f3:(i<3)=True:=L' hi2;have f3':((i:Int)<3)=True:=L' (by omega);refine Xk ?_;simp(disch:=omega)only[G7,Gw,e_,h_,w1,f3,f3',e1,Q6,XN,↓Xc,wG,seval];refine⟨⟨rfl,rfl⟩,?_⟩;refine X0 c3 (X1 _) ?_;simp(disch:=omega)only[G7,Gw,e_,h_,w1,f3,f3',e1,Q6,XN,KF,ZBW,List.map_nil,↓Xc,wG,seval];refine⟨fun j hj=>by
  match j,hj with
  |0,_ |1,_ |2,_ |3,_ |4,_ |5,_ |6,_ |7,_ |8,_ |9,_=>rfl
  |j+10,h=>omega,?_⟩
 refine nx _ (by omega) (by omega) (ZAZ (Qe 12 (Xw KX 5 KN (Ls ++ [⟨r,0⟩,⟨Cb r,0⟩])) rfl (fun j hj=>qX _ Ls r (Cb r) _ j rfl hj)) (ZZ (by simp[Xo,G7,bP,gP,JN,HW,I]) (by unfold Gw;rw[j_];rfl)))
structure TGe (v:Nat)(L:List Ln)(G x y:List Rat)(E:Nat):Prop where
 v0:v<49
 m0:L.length<49
 g0:G.length=v
 x0:x.length=v
 y0:y.length=L.length
 a0:∀z∈L,z.a.length=v
 q1:∀i k,qb (lA L i k)+qb (y.getD i 0)≤E
 q2:∀i,qb (lB L i)+qb (y.getD i 0)≤E
 q3:∀i k,qb (lA L i k)+qb (x.getD k 0)≤E
 q4:∀k,qb (lG G k)+qb (x.getD k 0)≤E
 q5:∀i,qb (lB L i)≤rm
 e0:E≤2083000
def Qb (f:Nat→Rat)(N:Nat):List Rat:=(List.range N).map f
theorem Dw (f:Nat→Rat)(N:Nat):(Qb f N).length=N:=by simp[Qb]
theorem Kj (f:Nat→Rat){N i:Nat}(h:i<N):(Qb f N).getD i 0=f i:=QP f h
theorem Ec {f g:Nat→Rat}{N:Nat}(h:∀i,i<N→f i=g i):Qb f N=Qb g N:=ZAh fun i hi=>h i (ZDH.1 hi)
theorem Pk (f:Nat→Rat)(N:Nat):Qb f (N+1)=Qb f N ++ [f N]:=by
 unfold Qb;rw[List.range_succ,ZEP];rfl
theorem Qg (f:Nat→Rat)(N:Nat):XX (Qb f N)=.sl N (N*4) (Xm fun i=>(Qb f N).getD i 0) false:=by rw[Xu,Dw]
theorem NH (f g:Nat→Rat)(N p Q:Nat)(hp:p<N)(hN:N<1000000)(hQ:Q≤20000000)(hf:∀i,i<N→qb (f i)≤Q) (hg:∀i,i<N→qb (g i)≤Q) :
  Fn Tryz.prog 220 [XX (Qb f N),XX (Qb g N),I p] (XX (Qb (fun i=>f i-f p*g i) N)):=by
 have c1:=J9 (f p) (by have:=hf p hp;unfold rm;omega);have c2:=Q8 (-f p) (by rw[BF];have:=hf p hp;unfold rm;omega);have at0:∀ (h:Nat→Rat) i,i<N→Xm (fun i=>(Qb h N).getD i 0) (i*4)=(qC (h i)).getD 0 .any:=fun h i hi=>by rw[JC];simp only[Kj h hi]
 have at1:∀ (h:Nat→Rat) i j,i<N→j<4→Xm (fun i=>(Qb h N).getD i 0) (i*4+j)=(qC (h i)).getD j .any:=fun h i j hi hj=>by rw[QD _ _ _ hj];simp only[Kj h hi]
 have p0:=at0 f p hp;have p1:=fun j hj=>at1 f p j hp hj
 have fp:(p<N)=True:=L' hp;obtain⟨k,hk⟩:∃k:Nat→Rat,k=fun i=>f i-f p*g i:=⟨_,rfl⟩
 rw[←hk];refine Fq Tryz.call220 Tryz.func220 10 [] [] [] (by simp[Xr,X8]) (Xk ?_);simp(disch:=omega)only[O_,Qg,fp,p0,p1,qC,↓Xc,wG,seval];refine X0 c1 (X1 _) ?_;simp(disch:=omega)only[qA,qC,↓Xc,wG,seval];refine X0 c2 (X1 _) ?_;by_cases hz:f p=0
 ·simp(disch:=omega)only[hz,Rat.neg_zero,ZB9,Int.sign_zero,↓Xc,wG,seval]
  refine Xn (v:=XX (Qb f N)) rfl (by rw[Qg];rfl) (Xr _) (y_ XX (Ec fun i _=>by rw[hk];simp only[hz];grind))
 have hz2:((-f p).num.sign=0)=False:=R_ fun h=>hz (by
  rw[ZDV,ZEJ]at h;grind)
 simp(disch:=omega)only[hz2,↓Xc,wG,seval];have bF:∀q,Jl q (XX (Qb f N))=True:=fun q=>L' (X4 (Xr _))
 have bG:∀q,Jl q (XX (Qb g N))=True:=fun q=>L' (X4 (Xr _))
 have bO:∀q i,Q0 q (.row i 4 (Xf (qC (-f p))))=True:=fun q i=>L' (QZ (XU _))
 have bR:∀q i n x,Q0 q (.row i n (Xw qC 4 0 x))=True:=fun q i n x=>L' fun j _=>X4 (Xe (XU _) _)
 refine Xj (fun i:Nat=>⟨10,[],[XX (Qb f N),XX (Qb g N),I p,.any,.any,.any,.any,.ref 0 0 0,.osl 1 i 4 0 i,I i],[],[.row 0 4 (Xf (qC (-f p))),.row i (i*4) (Xw qC 4 0 (Qb k i))]⟩) (fun i=>i≤N) (fun i=>N-i) 0 (by omega)
  (ZAZ (JS 8 4 (Xw qC 4 0 []) rfl) (Xh rfl ⟨.inr (Qg f N).symm,.inr (Qg g N).symm,.inr rfl,.inl rfl,.inl rfl,.inl rfl,.inl rfl,.inr rfl,.inr rfl,.inr rfl,trivial⟩ (by simp[Xx]) rfl)) ?_
 intro i hi next
 have w1:=wj i;by_cases hi2:i<N
 rotate_left
 ·obtain rfl:i=N:=by omega
  refine Xk ?_;simp(disch:=omega)only[Qg,↓Xc,wG,seval];refine C4 rfl ?_;show ZA _ (.osl 1 i 4 0 i) (XX (Qb k i));rw[Xu,Dw];refine Kw (.inl rfl) (by omega) (fun h=>by rw[h]) fun j hj=>?_
  rw[z_];exact(Xe (XU _) _).TBI _
 have nx:=next (i+1)
 clear next
 rw[Pk]at nx;have f1:(i<N)=True:=L' hi2;have a0:=at0 f i hi2;have a1:=fun j hj=>at1 f i j hi2 hj
 have b0:=at0 g i hi2;have b1:=fun j hj=>at1 g i j hi2 hj
 have q1:=hf i hi2;have q2:=hg i hi2;have q3:=hf p hp;have q4:qb (-f p)=qb (f p):=BF _;have d1:=Q8 (g i);have d2:=Qm (-f p) (g i);have q5:=Qa (-f p) (g i);have d3:=QT (f i) (-f p*g i);have ek:f i + -f p*g i=k i:=by rw[hk];grind
 rw[ek]at d3;have hap:=Zp qC 4 0 (Qb k i) (k i);rw[Dw]at hap;refine Xk ?_;simp(disch:=omega)only[Qg,w1,f1,a0,a1,b0,b1,qC,↓Xc,wG,seval];refine X0 d1 (X1 _) ?_;by_cases hz3:g i=0
 ·have e2:k i=f i:=by rw[hk];simp only[hz3];grind
  rw[e2]at hap nx;simp(disch:=omega)only[hz3,ZB9,Int.sign_zero,w1,f1,a0,a1,Qg,qC,↓Xc,wG,seval];exact⟨fun j hj=>CF (f i) j hj,nx _ (by omega) (by omega) (XG (m:=2) (p_ _) rfl ⟨.inr (Qg f N).symm,.inr (Qg g N).symm,.inr rfl,.inl rfl,.inl rfl,.inl rfl,.inl rfl,.inr rfl,.inr rfl,.inr rfl,trivial⟩ (by simp[Xx]) (by rw[←hap];rfl) (by simp[XP,bF,bG]) (by simp[XP]) (by simp[bO,bR]))⟩
 have hz4:((g i).num.sign=0)=False:=R_ fun h=>hz3 (by rwa[ZDV,ZEJ]at h)
 simp(disch:=omega)only[hz4,w1,f1,a0,a1,b0,b1,Qg,qC,↓Xc,wG,seval];refine X0 d2 (X1 _) ?_;simp(disch:=omega)only[qA,qC,↓Xc,wG,seval];refine X0 d3 (X1 _) ?_;simp(disch:=omega)only[qA,qC,w1,↓Xc,wG,seval];exact⟨fun j hj=>CF (k i) j hj,nx _ (by omega) (by omega) (XG (m:=2) (p_ _) rfl ⟨.inr (Qg f N).symm,.inr (Qg g N).symm,.inr rfl,.inl rfl,.inl rfl,.inl rfl,.inl rfl,.inr rfl,.inr rfl,.inr rfl,trivial⟩ (by simp[Xx]) (by rw[←hap];rfl) (by simp[XP,bF,bG]) (by simp[XP]) (by simp[bO,bR]))⟩
end
end Go.Ab.N
