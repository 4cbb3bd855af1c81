/- Contracts of functions, for every argument that fits. -/
import Derived.Test.YtcmfnmceomhgcaaGreatC13
set_option linter.unusedSimpArgs false
set_option linter.unusedVariables false
namespace Go.Ab.N
open Go Go.RowKit Go.Proofs
noncomputable section
set_option maxRecDepth 10000
set_option maxHeartbeats 4000000
open Classical
structure RZ where
 x:Rat
 r:Bool
def RZ.Q (z:RZ):List Int:=bif z.r then [1]else X9 (qd z.x)
def RZ.m (z:RZ):Rat:=bif z.r then(z.x.num:Rat)else z.x
def RZ.neg (z:RZ):RZ:=⟨-z.x,z.r⟩
def RZ.q (z:RZ):RQ:=⟨sg z.x,X9 z.x.num.natAbs,false,z.Q⟩
def RZ.C (z:RZ):List AV:=[.bool (sg z.x),X8 (X9 z.x.num.natAbs),.bool false,X8 z.Q]
theorem vT:X9 1=[1]:=by decide +kernel
theorem RZ.C_settled (z:RZ):∀a∈z.C,Settled a:=by simp[RZ.C,Xc,X5]
theorem ue (z:RZ):qb z.m≤qb z.x:=by
 unfold RZ.m;cases z.r
 ·exact Nat.le_refl _
 ·show qb (z.x.num:Rat)≤qb z.x
  exact Nat.max_le.2 ⟨J2 z.x,Nat.le_trans (show bl ((1:Nat):Int)≤1 by decide +kernel) (Pq z.x)⟩
theorem jX (z:RZ):Fn Tryz.prog 79 [.agg z.C] (zA z.m.den):=by
 obtain⟨x,r⟩:=z;cases r
 ·exact KN x
 ·obtain⟨R,hR⟩:∃R,R=zA (RZ.m ⟨x,true⟩).den:=⟨_,rfl⟩
  have sR:Settled R:=hR▸XE _;rw[←hR];rw[show(RZ.m ⟨x,true⟩).den=1 from rfl]at hR;refine Fn.intro (fn:=Tryz.f79) Tryz.call79 Tryz.func79 rfl mixed 3 [] [] [] (by kernel_rfl) (Nat.le_of_ble_eq_true rfl) (fun a ha=>List.mem_singleton.1 ha▸Xw (RZ.C_settled _)) (Xl ?_);simp(disch:=omega)only[AS.start,RZ.C,RZ.Q,cond_true,Xu,List.length_cons,List.length_nil,↓Xd,wG,seval];exact J7 rfl XW rfl rfl rfl sR (by rw[hR];show zA ((1:Nat):Int)=_;rw[QO,vT];rfl)
theorem SK (z:RZ)(k:Rat)(ha:qb z.x≤rm)(hb:qb k≤rm):Fn Tryz.prog 93 [.agg z.C,qA k] (qA (z.m*k)):=by
 unfold rm at ha hb;have hm:=ue z;have a1:=J2 z.m;have a2:=Jx z.m;have b1:=J2 k;have b2:=Jx k;have hn:z.m.num=z.x.num:=by
  obtain⟨x,r⟩:=z;cases r <;> rfl
 have m1:=KH z.m.num k.num (by unfold room;omega) (by unfold room;omega);have m3:=KH z.m.den k.den (by unfold room;omega) (by unfold room;omega);have n1:=Jt z.m.num k.num;have n3:=Jt z.m.den k.den;have c:=CT (z.m.num*k.num) (z.m.den*k.den) (by omega) (by omega);have e0:z.m*k=Rat.divInt (z.m.num*k.num) (z.m.den*k.den):=by
  rw[Rat.mul_def',Kw];push_cast;rfl
 rw[←e0]at c;have d1:=jX z;have d2:=KN k;obtain⟨R,hR⟩:∃R,R=qA (z.m*k):=⟨_,rfl⟩
 have sR:Settled R:=hR▸Xb _;rw[←hR]at c ⊢;rw[hn]at m1 c;refine Fn.intro (fn:=Tryz.f93) Tryz.call93 Tryz.func93 rfl mixed 5 [] [] [] (by kernel_rfl) (Nat.le_of_ble_eq_true rfl) (Kd (Xw (RZ.C_settled z)) (Xb k)) (Xl ?_);simp(disch:=omega)only[AS.start,RZ.C,qA,qC,↓Xd,wG,seval];refine X0 m1 (X2 _) ?_;simp(disch:=omega)only[zA,↓Xd,wG,seval];refine X0 d1 (X2 _) ?_;simp(disch:=omega)only[zA,↓Xd,wG,seval];refine X0 d2 (X2 _) ?_;simp(disch:=omega)only[zA,↓Xd,wG,seval];refine X0 m3 (X2 _) ?_;simp(disch:=omega)only[zA,↓Xd,wG,seval];refine X0 c (X2 _) ?_;simp only[hR,qA,↓X6,wF,seval];exact J7 rfl XT rfl rfl rfl sR (hR.trans rfl)
theorem ko (z:RZ)(h:qb z.x≤rm):Fn Tryz.prog 106 [.agg z.C] (.agg z.neg.C):=by
 unfold rm at h;have h1:=J2 z.x;have c:=GC z.x.num (by unfold room;omega);have e:.agg z.neg.C=AV.agg [.bool (decide (-z.x.num<0)),X8 (X9 (-z.x.num).natAbs),.bool false,X8 z.Q]:=by
  obtain⟨x,r⟩:=z;unfold RZ.C RZ.neg RZ.Q;simp only[jU,Rat.neg_num];rfl
 obtain⟨R,hR⟩:∃R,R=AV.agg z.neg.C:=⟨_,rfl⟩
 have sR:Settled R:=hR▸Xw (RZ.C_settled _);rw[←hR];refine Fn.intro (fn:=Tryz.f106) Tryz.call106 Tryz.func106 rfl mixed 3 [] [] [] (by kernel_rfl) (Nat.le_of_ble_eq_true rfl) (fun a ha=>List.mem_singleton.1 ha▸Xw (RZ.C_settled z)) (Xl ?_);simp(disch:=omega)only[AS.start,RZ.C,↓Xd,wG,seval];refine X0 c (X2 _) ?_;simp(disch:=omega)only[zA,↓Xd,wG,seval];exact J7 rfl XT rfl rfl rfl sR (hR.trans e)
theorem UZ (a b:RZ)(k:Rat)(ha:qb a.x≤vm)(hb:qb b.x≤vm)(hk:qb k≤vm):Fn Tryz.prog 37 [.agg (a.C ++ b.C),qA k] (vA ⟨a.m*k,b.m*k⟩):=by
 unfold vm at ha hb hk;obtain⟨R,hR⟩:∃R,R=vA ⟨a.m*k,b.m*k⟩:=⟨_,rfl⟩
 have sR:Settled R:=hR▸Xr _;have c1:=SK a k (by unfold rm;omega) (by unfold rm;omega);have c2:=SK b k (by unfold rm;omega) (by unfold rm;omega);rw[←hR];refine Fn.intro (fn:=Tryz.f37) Tryz.call37 Tryz.func37 rfl mixed 5 [] [] [] (by kernel_rfl) (Nat.le_of_ble_eq_true rfl) (Kd (Xw fun x hx=>(List.mem_append.1 hx).elim (RZ.C_settled a x) (RZ.C_settled b x)) (Xb k)) (Xl ?_);simp(disch:=omega)only[AS.start,RZ.C,qA,qC,List.cons_append,List.nil_append,↓Xd,wG,seval];refine X0 c1 (X2 _) ?_;simp(disch:=omega)only[qA,qC,↓Xd,wG,seval];refine X0 c2 (X2 _) ?_;simp(disch:=omega)only[qA,qC,↓Xd,wG,seval];exact Zn rfl J6 rfl rfl rfl sR (hR.trans rfl)
theorem Px (a b:RZ)(hb:qb b.x≤rm):Fn Tryz.prog 61 [.agg (a.C ++ b.C)] (.agg (b.neg.C ++ a.C)):=by
 have c1:=ko b hb;obtain⟨R,hR⟩:∃R,R=AV.agg (b.neg.C ++ a.C):=⟨_,rfl⟩
 have sR:Settled R:=hR▸Xw fun x hx=>(List.mem_append.1 hx).elim (RZ.C_settled _ x) (RZ.C_settled _ x)
 rw[←hR];refine Fn.intro (fn:=Tryz.f61) Tryz.call61 Tryz.func61 rfl mixed 3 [] [] [] (by kernel_rfl) (Nat.le_of_ble_eq_true rfl) (fun x hx=>List.mem_singleton.1 hx▸Xw fun x hx=>(List.mem_append.1 hx).elim (RZ.C_settled a x) (RZ.C_settled b x)) (Xl ?_);simp(disch:=omega)only[AS.start,RZ.C,List.cons_append,List.nil_append,↓Xd,wG,seval];refine X0 c1 (X2 _) ?_;simp(disch:=omega)only[RZ.C,↓Xd,wG,seval];exact Zn rfl J6 rfl rfl rfl sR (hR.trans rfl)
structure RG where
 p:V2
 q:V2
 a:RZ
 b:RZ
 force:Rat
 rough:Rat
def Eo (g:RG):List AV:=vC g.p ++ vC g.q ++ g.a.C ++ g.b.C ++ qC g.force ++ qC g.rough
theorem DU (g:RG):Eo g=[.bool (sg g.p.x),X8 (X9 g.p.x.num.natAbs),.bool false,X8 (X9 (qd g.p.x)),.bool (sg g.p.y),X8 (X9 g.p.y.num.natAbs),.bool false,X8 (X9 (qd g.p.y)),
 .bool (sg g.q.x),X8 (X9 g.q.x.num.natAbs),.bool false,X8 (X9 (qd g.q.x)),.bool (sg g.q.y),X8 (X9 g.q.y.num.natAbs),.bool false,X8 (X9 (qd g.q.y)),
 .bool (sg g.a.x),X8 (X9 g.a.x.num.natAbs),.bool false,X8 g.a.Q,.bool (sg g.b.x),X8 (X9 g.b.x.num.natAbs),.bool false,X8 g.b.Q,
 .bool (sg g.force),X8 (X9 g.force.num.natAbs),.bool false,X8 (X9 (qd g.force)),.bool (sg g.rough),X8 (X9 g.rough.num.natAbs),.bool false,X8 (X9 (qd g.rough))]:=rfl
theorem QI (g:RG):∀a∈Eo g,Settled a:=by simp[DU,Xc,X5]
def RG.of (g:GG):RG:=⟨g.p,g.q,⟨g.n.x,false⟩,⟨g.n.y,false⟩,g.force,g.rough⟩
def RG.to (g:RG):GG:=⟨g.p,g.q,⟨g.a.x,g.b.x⟩,g.force,g.rough⟩
theorem ki (g:GG):Eo (RG.of g)=gC g:=rfl
theorem wM (g:RG)(h:g.a.r=false)(h2:g.b.r=false):gC g.to=Eo g:=by
 obtain⟨p,q,⟨x,r⟩,⟨y,s⟩,f,u⟩:=g;subst h h2;rfl
def RG.raw (g:RG):Prop:=g.a.r=true∨g.b.r=true
def RG.S (g:RG)(c:Nat):Prop:=vb g.p≤c∧vb g.q≤c∧qb g.a.x≤c∧qb g.b.x≤c∧qb g.force≤c∧qb g.rough≤c
theorem RZ.ok_iff (z:RZ):z.q.ok↔z.r=false:=by
 obtain⟨x,r⟩:=z;cases r
 ·exact⟨fun _=>rfl,fun _=>rk x⟩
 ·exact⟨fun h=>absurd h (VK x),fun h=>by cases h⟩
theorem RZ.sz (z:RZ)(h:qb z.x≤100000):z.q.sz<1000000000:=by
 obtain⟨x,r⟩:=z;have h:qb x≤100000:=h;have:=DV x (by unfold rm;omega);cases r
 ·exact this
 ·unfold RQ.sz RZ.q RZ.Q
  unfold RQ.sz RQ.of at this;simp only[cond_true,List.length_cons,List.length_nil]at *;omega
def T5 (g:RG)(how by':Int):RG :=
 if Xo how 9=0 then { g with p:=g.p.add (Bh [by',by'.tdiv 7,by'.tdiv 49] 0) }
 else if Xo how 9=1 then { g with q:=g.q.add (Bh [by',by'.tdiv 7,by'.tdiv 49] 0) }
 else if Xo how 9=2 then { g with a:=⟨g.a.m*Rat.divInt (Xo by' 5-2) 2,false⟩,b:=⟨g.b.m*Rat.divInt (Xo by' 5-2) 2,false⟩ }
 else if Xo how 9=3 then { g with force:=Rat.divInt (Xo by' 3-1) 1 }
 else if Xo how 9=4 then { g with rough:=Rat.divInt (Xo by' 7-1) 1 }
 else if Xo how 9=5 then { g with a:=⟨g.a.x,true⟩ }
 else if Xo how 9=6 then { g with p:=g.q,q:=g.p }
 else if Xo how 9=7 then { g with a:=g.b.neg,b:=g.a }
 else g
theorem kO (g:RG)(how by':Int)(c:Nat)(h:g.S c):(T5 g how by').S (c+2):=by
 obtain⟨h1,h2,h3,h4,h5,h6⟩:=h;have b3:=XH by' 3 (by omega);have b5:=XH by' 5 (by omega);have b7:=XH by' 7 (by omega);have q3:=Gx (Xo by' 3-1) 1 (by omega) (by omega);have q5:=Gx (Xo by' 5-2) 2 (by omega) (by omega);have q7:=Gx (Xo by' 7-1) 1 (by omega) (by omega);have s1:=IK [by',by'.tdiv 7,by'.tdiv 49] 0;have m1:=ue g.a;have m2:=ue g.b;have v1:=AU g.p (Bh [by',by'.tdiv 7,by'.tdiv 49] 0);have v2:=AU g.q (Bh [by',by'.tdiv 7,by'.tdiv 49] 0);have w1:=Qq g.a.m (Rat.divInt (Xo by' 5-2) 2);have w2:=Qq g.b.m (Rat.divInt (Xo by' 5-2) 2);have n1:qb g.b.neg.x=qb g.b.x:=Gy g.b.x;unfold T5;unfold RG.S
 split
 ·refine⟨?_,?_,?_,?_,?_,?_⟩ <;> simp only <;> omega
 split
 ·refine⟨?_,?_,?_,?_,?_,?_⟩ <;> simp only <;> omega
 split
 ·refine⟨?_,?_,?_,?_,?_,?_⟩ <;> simp only <;> omega
 split
 ·refine⟨?_,?_,?_,?_,?_,?_⟩ <;> simp only <;> omega
 split
 ·refine⟨?_,?_,?_,?_,?_,?_⟩ <;> simp only <;> omega
 split
 ·refine⟨?_,?_,?_,?_,?_,?_⟩ <;> simp only <;> omega
 split
 ·refine⟨?_,?_,?_,?_,?_,?_⟩ <;> simp only <;> omega
 split
 ·refine⟨?_,?_,?_,?_,?_,?_⟩ <;> simp only <;> omega
 ·refine⟨?_,?_,?_,?_,?_,?_⟩ <;> omega
theorem MJ (g:RG)(how by':Int)(h:g.S 10000)(hw:KT how)(hb:KT by'):Fn Tryz.prog 13 [.agg (Eo g),I how,I by'] (.agg (Eo (T5 g how by'))):=by
 obtain⟨h1,h2,h3,h4,h5,h6⟩:=h;obtain⟨R,hR⟩:∃R,R=T5 g how by':=⟨_,rfl⟩
 rw[←hR];unfold T5 at hR;have c1:=QP how 9 hw (by omega);obtain⟨m1,m2⟩:=XH how 9 (by omega);generalize Xo how 9=m at *;have hd7:=CR hb (m:=7) (by omega);have hd49:=CR hb (m:=49) (by omega);have x1:=BE hd7;have x2:=BE hd49;have b3:=XH by' 3 (by omega);have b5:=XH by' 5 (by omega);have b7:=XH by' 7 (by omega);have c3:=QP by' 3 hb (by omega);have c5:=QP by' 5 hb (by omega);have c7:=QP by' 7 hb (by omega);generalize Xo by' 3=u at *;generalize Xo by' 5=v at *;generalize Xo by' 7=w at *;have d3:=XS (u-1) 1 ⟨by omega,by omega⟩ ⟨by omega,by omega⟩;have d5:=XS (v-2) 2 ⟨by omega,by omega⟩ ⟨by omega,by omega⟩;have d7:=XS (w-1) 1 ⟨by omega,by omega⟩ ⟨by omega,by omega⟩;have q5:=Gx (v-2) 2 (by omega) (by omega);have s1:=IK [by',by'.tdiv 7,by'.tdiv 49] 0;have s2:=WV [by',by'.tdiv 7,by'.tdiv 49] 0 (by intro x hx;simp only[List.mem_cons,List.not_mem_nil,or_false]at hx;rcases hx with rfl |rfl |rfl <;> assumption) (by omega);generalize Bh [by',by'.tdiv 7,by'.tdiv 49] 0=sp at *;generalize Rat.divInt (u-1) 1=f3 at *;generalize Rat.divInt (v-2) 2=f5 at *;generalize Rat.divInt (w-1) 1=f7 at *;have e1:=K9 g.p sp (by unfold vm;omega) (by unfold vm;omega);have e2:=K9 g.q sp (by unfold vm;omega) (by unfold vm;omega);have e3:=UZ g.a g.b f5 (by unfold vm;omega) (by unfold vm;omega) (by unfold vm;omega);have e4:=Px g.a g.b (by unfold rm;omega);refine Fn.intro (fn:=Tryz.f13) Tryz.call13 Tryz.func13 rfl mixed 7 [8] [4001,6001,8001] [] (by kernel_rfl) (Nat.le_of_ble_eq_true rfl) (by
  intro a ha;simp only[List.mem_cons,List.not_mem_nil,or_false]at ha;rcases ha with rfl |rfl |rfl
  ·exact Xw (QI g)
  ·exact Xa _
  ·exact Xa _) (Xl ?_)
 simp(disch:=omega)only[AS.start,DU,↓Xd,wG,seval];have w1:Weak (.sl 1 1 (Xg [I 1]) false) (X8 [1]):=MT rfl (Nat.le_refl _) fun j hj=>by
  have h1:j<1:=hj;obtain rfl:j=0:=by omega
  rfl
 have hm:m=0∨m=1∨m=2∨m=3∨m=4∨m=5∨m=6∨m=7∨m=8:=by omega
 refine X0 c1 (X2 _) ?_;rcases hm with rfl |rfl |rfl |rfl |rfl |rfl |rfl |rfl |rfl
 ·rw[if_pos rfl]at hR
  simp(disch:=omega)only[x1,x2,↓Xd,wG,seval];refine X0 s2 ⟨by rw[Xu];exact Kp rfl (Nat.le_refl _) fun j hj=>by match j,hj with |0,_=>exact Weak.rfl' _ |1,_=>exact Weak.rfl' _ |2,_=>exact Weak.rfl' _ |j+3,h=>exact absurd h (by simp),Weak.rfl' _,trivial⟩ ?_;simp(disch:=omega)only[vA,vC,↓Xd,wG,seval];refine X0 e1 (X2 _) ?_;simp(disch:=omega)only[vA,vC,↓Xd,wG,seval];exact ZC rfl Bc rfl rfl rfl (Xs (Xw (QI _)) (by rw[hR];exact Weak.rfl' _))
 ·rw[if_neg (by omega),if_pos rfl]at hR
  simp(disch:=omega)only[x1,x2,↓Xd,wG,seval];refine X0 s2 ⟨by rw[Xu];exact Kp rfl (Nat.le_refl _) fun j hj=>by match j,hj with |0,_=>exact Weak.rfl' _ |1,_=>exact Weak.rfl' _ |2,_=>exact Weak.rfl' _ |j+3,h=>exact absurd h (by simp),Weak.rfl' _,trivial⟩ ?_;simp(disch:=omega)only[vA,vC,↓Xd,wG,seval];refine X0 e2 (X2 _) ?_;simp(disch:=omega)only[vA,vC,↓Xd,wG,seval];exact ZC rfl Bc rfl rfl rfl (Xs (Xw (QI _)) (by rw[hR];exact Weak.rfl' _))
 ·rw[if_neg (by omega),if_neg (by omega),if_pos rfl]at hR
  simp(disch:=omega)only[↓Xd,wG,seval];refine X0 c5 (X2 _) ?_;simp(disch:=omega)only[↓Xd,wG,seval];refine X0 d5 (X2 _) ?_;simp(disch:=omega)only[qA,qC,↓Xd,wG,seval];refine X0 e3 (X2 _) ?_;simp(disch:=omega)only[vA,vC,↓Xd,wG,seval];exact ZC rfl Bc rfl rfl rfl (Xs (Xw (QI _)) (by rw[hR];exact Weak.rfl' _))
 ·rw[if_neg (by omega),if_neg (by omega),if_neg (by omega),if_pos rfl]at hR
  simp(disch:=omega)only[↓Xd,wG,seval];refine X0 c3 (X2 _) ?_;simp(disch:=omega)only[↓Xd,wG,seval];refine X0 d3 (X2 _) ?_;simp(disch:=omega)only[qA,qC,↓Xd,wG,seval];exact ZC rfl Bc rfl rfl rfl (Xs (Xw (QI _)) (by rw[hR];exact Weak.rfl' _))
 ·rw[if_neg (by omega),if_neg (by omega),if_neg (by omega),if_neg (by omega),if_pos rfl]at hR
  simp(disch:=omega)only[↓Xd,wG,seval];refine X0 c7 (X2 _) ?_;simp(disch:=omega)only[↓Xd,wG,seval];refine X0 d7 (X2 _) ?_;simp(disch:=omega)only[qA,qC,↓Xd,wG,seval];exact ZC rfl Bc rfl rfl rfl (Xs (Xw (QI _)) (by rw[hR];exact Weak.rfl' _))
 ·rw[if_neg (by omega),if_neg (by omega),if_neg (by omega),if_neg (by omega),if_neg (by omega),if_pos rfl]at hR
  simp(disch:=omega)only[↓Xd,wG,seval];exact ZC rfl Bc rfl rfl rfl (Xs (Xw (QI _)) (by rw[hR];exact ZS ⟨Weak.rfl' _,Weak.rfl' _,Weak.rfl' _,Weak.rfl' _,Weak.rfl' _,Weak.rfl' _,Weak.rfl' _,Weak.rfl' _,Weak.rfl' _,Weak.rfl' _,Weak.rfl' _,Weak.rfl' _,Weak.rfl' _,Weak.rfl' _,Weak.rfl' _,Weak.rfl' _,Weak.rfl' _,Weak.rfl' _,Weak.rfl' _,w1,Weak.rfl' _,Weak.rfl' _,Weak.rfl' _,Weak.rfl' _,Weak.rfl' _,Weak.rfl' _,Weak.rfl' _,Weak.rfl' _,Weak.rfl' _,Weak.rfl' _,Weak.rfl' _,Weak.rfl' _,trivial⟩))
 ·rw[if_neg (by omega),if_neg (by omega),if_neg (by omega),if_neg (by omega),if_neg (by omega),if_neg (by omega),if_pos rfl]at hR
  simp(disch:=omega)only[↓Xd,wG,seval];exact ZC rfl Bc rfl rfl rfl (Xs (Xw (QI _)) (by rw[hR];exact Weak.rfl' _))
 ·rw[if_neg (by omega),if_neg (by omega),if_neg (by omega),if_neg (by omega),if_neg (by omega),if_neg (by omega),if_neg (by omega),if_pos rfl]at hR
  simp(disch:=omega)only[↓Xd,wG,seval];refine X0 e4 (X2 _) ?_;simp(disch:=omega)only[RZ.C,List.cons_append,List.nil_append,↓Xd,wG,seval];exact ZC rfl Bc rfl rfl rfl (Xs (Xw (QI _)) (by rw[hR];exact Weak.rfl' _))
 ·rw[if_neg (by omega),if_neg (by omega),if_neg (by omega),if_neg (by omega),if_neg (by omega),if_neg (by omega),if_neg (by omega),if_neg (by omega)]at hR
  simp(disch:=omega)only[↓Xd,wG,seval];exact ZC rfl Bc rfl rfl rfl (Xs (Xw (QI _)) (by rw[hR];exact Weak.rfl' _))
theorem Cl (g:RG):Settled (.agg (Eo g)):=Xw (QI g)
theorem aB (g:RG)(h:g.S 10000)(hr:g.raw):Fn Tryz.prog 63 [.agg (Eo g)] (.bool false):=by
 obtain⟨h1,h2,h3,h4,h5,h6⟩:=h;have:=QS g.p;have:=QN g.p;have:=QS g.q;have:=QN g.q;have c1:=NO [RQ.of g.p.x,RQ.of g.p.y,RQ.of g.q.x,RQ.of g.q.y,g.a.q,g.b.q] (by simp) (by
  simp only[List.mem_cons,List.not_mem_nil,or_false];rintro r (rfl |rfl |rfl |rfl |rfl |rfl)
  ·exact DV _ (by unfold rm;omega)
  ·exact DV _ (by unfold rm;omega)
  ·exact DV _ (by unfold rm;omega)
  ·exact DV _ (by unfold rm;omega)
  ·exact RZ.sz _ (by omega)
  ·exact RZ.sz _ (by omega))
 rw[show([RQ.of g.p.x,RQ.of g.p.y,RQ.of g.q.x,RQ.of g.q.y,g.a.q,g.b.q].all fun x=>decide x.ok)=false by
  rcases hr with hr |hr
  ·simp[RZ.ok_iff,hr]
  ·simp[RZ.ok_iff,hr]]at c1
 refine Fn.intro (fn:=Tryz.f63) Tryz.call63 Tryz.func63 rfl mixed 2 [] [] [] (by kernel_rfl) (Nat.le_of_ble_eq_true rfl) (fun a ha=>List.mem_singleton.1 ha▸Cl g) (Xl ?_);simp(disch:=omega)only[AS.start,DU,Xu,↓Xd,wG,seval];refine X0 c1 ⟨JE RQ.L 4 Pw (fun _=>rfl) [RQ.of g.p.x,RQ.of g.p.y,RQ.of g.q.x,RQ.of g.q.y,g.a.q,g.b.q] _ _ _ _ rfl rfl rfl,trivial⟩ ?_;simp(disch:=omega)only[↓Xd,wG,seval];exact Xk (v:=.bool false) rfl rfl (X5 _) rfl
theorem cz (g:RG)(h:g.S 10000)(hr:g.raw):Fn Tryz.prog 24 [.agg (Eo g)] (.bool false):=by
 obtain⟨h1,h2,h3,h4,h5,h6⟩:=h;have:=QS g.p;have:=QN g.p;have:=QS g.q;have:=QN g.q;have c1:=I1 [RV.of g.p,RV.of g.q,⟨g.a.q,g.b.q⟩] (fun i=>by
  match i with
  |0=>exact⟨DV _ (by unfold rm;omega),DV _ (by unfold rm;omega)⟩
  |1=>exact⟨DV _ (by unfold rm;omega),DV _ (by unfold rm;omega)⟩
  |2=>exact⟨RZ.sz _ (by omega),RZ.sz _ (by omega)⟩
  |i+3=>exact⟨DV 0 (by decide +kernel),DV 0 (by decide +kernel)⟩) (by simp) 2 (by simp) (by
  rintro⟨e1,e2⟩;have e1:g.a.q.ok:=e1;have e2:g.b.q.ok:=e2;rw[RZ.ok_iff]at e1 e2;rcases hr with hr |hr
  ·rw[hr]at e1;cases e1
  ·rw[hr]at e2;cases e2)
 refine Fn.intro (fn:=Tryz.f24) Tryz.call24 Tryz.func24 rfl mixed 3 [] [] [] (by kernel_rfl) (Nat.le_of_ble_eq_true rfl) (fun a ha=>List.mem_singleton.1 ha▸Cl g) (Xl ?_);simp(disch:=omega)only[AS.start,DU,Xu,↓Xd,wG,seval];refine X0 c1 ⟨JE Cq 8 JM (fun _=>rfl) [RV.of g.p,RV.of g.q,⟨g.a.q,g.b.q⟩] _ _ _ _ rfl rfl rfl,trivial⟩ ?_;simp(disch:=omega)only[↓Xd,wG,seval];exact Xk (v:=.bool false) rfl rfl (X5 _) rfl
theorem RO (X:AV)(hX:Settled X)(b:Bool)(c1:Fn Tryz.prog 62 [X] (.bool b)) (g:RG) (hb:b=true→Fn Tryz.prog 63 [.agg (Eo g)] (.bool false)):Fn Tryz.prog 15 [X,.agg (Eo g)] (I 1):=by
 refine Fn.intro (fn:=Tryz.f15) Tryz.call15 Tryz.func15 rfl mixed 8 [] [] [] (by kernel_rfl) (Nat.le_of_ble_eq_true rfl) (Kd hX (Cl g)) (Xl ?_);simp(disch:=omega)only[AS.start,DU,↓Xd,wG,seval];refine X0 c1 (X2 _) ?_;cases b
 ·simp(disch:=omega)only[↓Xd,wG,seval]
  exact Xk (v:=I 1) rfl rfl (Xa _) rfl
 ·have c2:=hb rfl
  rw[DU]at c2;simp(disch:=omega)only[↓Xd,wG,seval];refine X0 c2 (X2 _) ?_;simp(disch:=omega)only[↓Xd,wG,seval];exact Xk (v:=I 1) rfl rfl (Xa _) rfl
theorem Om (X:AV)(hX:Settled X)(b:Bool)(c1:Fn Tryz.prog 71 [X] (.bool b)) (g:RG) (hb:b=true→Fn Tryz.prog 24 [.agg (Eo g)] (.bool false)):Fn Tryz.prog 16 [X,.agg (Eo g)] (I 1):=by
 refine Fn.intro (fn:=Tryz.f16) Tryz.call16 Tryz.func16 rfl mixed 9 [] [] [] (by kernel_rfl) (Nat.le_of_ble_eq_true rfl) (Kd hX (Cl g)) (Xl ?_);simp(disch:=omega)only[AS.start,DU,↓Xd,wG,seval];refine X0 c1 (X2 _) ?_;cases b
 ·simp(disch:=omega)only[↓Xd,wG,seval]
  exact Xk (v:=I 1) rfl rfl (Xa _) rfl
 ·have c2:=hb rfl
  rw[DU]at c2;simp(disch:=omega)only[↓Xd,wG,seval];refine X0 c2 (X2 _) ?_;simp(disch:=omega)only[↓Xd,wG,seval];exact Xk (v:=I 1) rfl rfl (Xa _) rfl
def TE (X:AV)(g:RG):Prop:=∃v:Int,Fn Tryz.prog 15 [X,.agg (Eo g)] (I v)∧Fn Tryz.prog 16 [X,.agg (Eo g)] (I v)
theorem aD (l:List RV)(hs:rz l)(hl:l.length<1000000)(k:Nat)(hk:k<l.length)(hb:¬ (l.getD k JM).ok) (g:RG):TE (Z8 l) g :=
 ⟨1,RO _ (QK l) false (Mn l hs hl k hk hb) g (fun h=>by cases h),Om _ (QK l) false (Fo l hs hl k hk hb) g (fun h=>by cases h)⟩
theorem LX (L:List V2)(h:Qp L 18)(hl:L.length<1000000)(g:RG)(hg:g.S 5000):TE (Q6 L) g:=by
 have h':Qp L 1000:=fun i=>Nat.le_trans (h i) (by omega)
 have hg2:g.S 10000:=by obtain⟨h1,h2,h3,h4,h5,h6⟩:=hg;exact⟨by omega,by omega,by omega,by omega,by omega,by omega⟩
 by_cases hr:g.raw
 ·exact⟨1,RO _ (Xn L) _ (EV L h' hl) g (fun _=>aB g hg2 hr),Om _ (Xn L) _ (Bu L h' hl) g (fun _=>cz g hg2 hr)⟩
 ·obtain⟨h1,h2,h3,h4,h5,h6⟩:=hg
  have e:=wM g (by cases e:g.a.r with |false=>rfl |true=>exact absurd (.inl e) hr) (by cases e:g.b.r with |false=>rfl |true=>exact absurd (.inr e) hr);have hn:vb g.to.n≤5000:=Nat.max_le.2 ⟨h3,h4⟩;have p1:vb g.to.p≤5000:=h1;have p2:vb g.to.q≤5000:=h2;have p3:qb g.to.force≤5000:=h5;have p4:qb g.to.rough≤5000:=h6;unfold TE;rw[←e];exact⟨Ce L g.to,LY L g.to h' hl ⟨by unfold rm;omega,by unfold rm;omega,by unfold rm;omega,by unfold rm;omega,by unfold rm;omega⟩ ⟨by omega,by omega,by omega⟩,cC L g.to h' hl ⟨by omega,by omega,by omega,by omega,by omega⟩⟩
theorem sk {A:List AV}(B:List AV){n j:Nat}(h:A.length=n)(hj:j<n):Xg (A ++ B) j=A.getD j .any:=by
 show(A ++ B).getD j .any=_;rw[List.getD_eq_getElem?_getD,List.getElem?_append_left (by omega),List.getD_eq_getElem?_getD]
theorem sn {A:List AV}(B:List AV){n i j:Nat}(h:A.length=n)(hi:i=n+j):Xg (A ++ B) i=B.getD j .any:=by
 show(A ++ B).getD i .any=_;rw[List.getD_eq_getElem?_getD,List.getElem?_append_right (by omega),List.getD_eq_getElem?_getD,h,show i-n=j by omega]
theorem Vc (t:Bool):∀a∈zg t,Settled a:=by
 have h:Settled (.sl 0 0 (fun _=>.any) t):=Qk fun j hj=>absurd hj (by omega)
 simp[zg,zC,X5,h]
theorem Tp (l m:List Int)(how by':Int)(h1:Fg l)(h2:Fg m)(h3:KT how)(h4:KT by') :
  Fn Tryz.prog 3 [X8 l,X8 m,I how,I by'] (.bool true):=by
 have hr:=kj l;have c1:=WJ l h1;have c2:=pN m (Pu l) h2 hr;obtain⟨sg,gg⟩:=pO m (Pu l) hr;generalize Pu l=L at *;generalize D3 m L=g0 at *;obtain⟨⟨n1,n2⟩,n3,n4⟩:=hr;have c3:=Ov L how by' n3 (by omega) h3 h4 (by omega);obtain⟨s1,s2,s3,s4,s5⟩:=sg.s;have:=QS g0.n;have:=QN g0.n;have b0:(RG.of g0).S 1400:=⟨s1,s2,by show qb g0.n.x≤_;omega,by show qb g0.n.y≤_;omega,by show qb g0.force≤_;omega,by show qb g0.rough≤_;omega⟩
 have b1:=kO _ how by' _ b0;have b2:=kO _ (how.tdiv 9) (by'.tdiv 3) _ b1;have up:∀ {g:RG} {c:Nat},g.S c→c≤5000→g.S 5000:=fun h hc=>by obtain⟨h1,h2,h3,h4,h5,h6⟩:=h;exact⟨by omega,by omega,by omega,by omega,by omega,by omega⟩
 have up2:∀ {g:RG},g.S 5000→g.S 10000:=fun h=>by obtain⟨h1,h2,h3,h4,h5,h6⟩:=h;exact⟨by omega,by omega,by omega,by omega,by omega,by omega⟩
 have hd9:=CR h3 (m:=9) (by omega);have hd3:=CR h4 (m:=3) (by omega);have x1:=BE hd9;have x2:=BE hd3;have c4:=MJ (RG.of g0) how by' (up2 (up b0 (by omega))) h3 h4;have c5:=MJ (T5 (RG.of g0) how by') (how.tdiv 9) (by'.tdiv 3) (up2 (up b1 (by omega))) hd9 hd3;rw[ki]at c4;have hg0:(RG.of g0).S 5000:=up b0 (by omega);have e0:=ki g0;generalize RG.of g0=r0 at *;have hg1:=up b1 (by omega);generalize T5 r0 how by'=g1 at *;have hg2:=up b2 (by omega);generalize T5 g1 (how.tdiv 9) (by'.tdiv 3)=g2 at *;have hg3:(RG.of gZ).S 5000:=by
  have z:qb 0≤5000:=by decide +kernel
  exact⟨by show vb v0≤_;exact Nat.le_trans Tr (by omega),by show vb v0≤_;exact Nat.le_trans Tr (by omega),z,z,z,z⟩
 have v0':∀g:RG,g.S 5000→TE (Q6 L) g:=fun g h=>LX L (fun i=>Nat.le_trans (n3 i) (by omega)) (by omega) g h
 have v2':∀g:RG,g.S 5000→TE (Q6 []) g:=fun g h=>LX [] (fun i=>by show vb v0≤18;decide +kernel) (by simp) g h
 have v1':∀g:RG,g.S 5000→TE (Z8 (GO L how by')) g:=fun g h=>by
  by_cases hm:Xo how 7=5
  ·obtain⟨e1,e2,k,e3,e4⟩:=T6 L how by' n3 (by omega) hm
   exact aD _ e2 (by omega) k e3 e4 g
  ·obtain⟨W,e1,e2,e3⟩:=WU L how by' n3 (by omega) hm
   rw[e1,show Z8 (W.map RV.of)=Q6 W by rw[XF,X4,kE,List.length_map]];exact LX W e2 (by omega) g h
 generalize GO L how by'=W at *;have cl:=RX;refine Fq Tryz.call3 Tryz.func3 16 [] [] [] (by simp[Xc,Xa]) (Xl ?_);simp(disch:=omega)only[AS.start,↓Xd,wG,seval];refine X0 c1 (X2 _) ?_;simp(disch:=omega)only[↓Xd,wG,seval];refine X0 c2 (X2 _) ?_;simp(disch:=omega)only[gA,←e0,DU,↓Xd,wG,seval];rw[←e0]at c4;refine X0 c4 (X2 _) ?_;simp(disch:=omega)only[DU,x1,x2,↓Xd,wG,seval];refine X0 c5 (X2 _) ?_;simp(disch:=omega)only[DU,X4,XF,↓Xd,wG,seval];refine X0 c3 ⟨by rw[X4];exact Weak.rfl' _,Weak.rfl' _,Weak.rfl' _,trivial⟩ ?_;simp(disch:=omega)only[DU,X4,XF,↓Xd,wG,seval];obtain⟨F,hF⟩:∃F,F=Xg [.sl L.length (L.length*8) (XA vC 8 v0 L) false,.sl W.length (W.length*8) (XA Cq 8 JM W) false,.sl 0 0 (fun _=>.any) false]:=⟨_,rfl⟩
 obtain⟨K,hK⟩:∃K,K=Xg (Eo r0 ++ Eo g1 ++ Eo g2 ++ zg false):=⟨_,rfl⟩
 have key:∀i,i<3→∃n m g X,F i=.sl n m g false∧Weak (.sl n m g false) X∧∀g:RG,g.S 5000→TE X g:=fun i hi=>by
  subst hF
  match i,hi with
  |0,_=>exact⟨_,_,_,Q6 L,rfl,by rw[X4];exact Weak.rfl' _,v0'⟩
  |1,_=>exact⟨_,_,_,Z8 W,rfl,by rw[XF];exact Weak.rfl' _,v1'⟩
  |2,_=>exact⟨_,_,_,Q6 [],rfl,by rw[X4];exact D6 vC 8 v0 _ _,v2'⟩
  |i+3,h=>omega
 have keyG:∀k,k<4→∃ (c:List AV) (g:RG),c.length=32∧(∀j,j<32→K (k*32+j)=c.getD j .any)∧g.S 5000∧Weak (.agg ((List.range 32).map fun j=>c.getD j .any)) (.agg (Eo g)):=fun k hk=>by
  subst hK
  match k,hk with
  |0,_=>exact⟨Eo r0,r0,rfl,fun j hj=>by rw[List.append_assoc,List.append_assoc,Nat.zero_mul,Nat.zero_add];exact sk (A:=Eo r0) _ (n:=32) rfl hj,hg0,Weak.rfl' _⟩
  |1,_=>exact⟨Eo g1,g1,rfl,fun j hj=>by rw[List.append_assoc (Eo r0 ++ Eo g1),sk _ (show(Eo r0 ++ Eo g1).length=64 from rfl) (by omega)];exact sn (A:=Eo r0) (Eo g1) (n:=32) rfl (by omega),hg1,Weak.rfl' _⟩
  |2,_=>exact⟨Eo g2,g2,rfl,fun j hj=>by rw[sk _ (show _=96 from rfl) (by omega)];exact sn (A:=Eo r0 ++ Eo g1) (Eo g2) (n:=64) rfl (by omega),hg2,Weak.rfl' _⟩
  |3,_=>exact⟨zg false,RG.of gZ,rfl,fun j hj=>sn (A:=Eo r0 ++ Eo g1 ++ Eo g2) _ (n:=96) rfl (by omega),hg3,by rw[ki];exact ZS (IR _)⟩
  |i+4,h=>omega
 have bK:∀q,Jo q (.sl 4 128 K true)=True:=fun q=>eq_true (X7 (Qk fun j _=>by
  rw[hK];exact Xe (by
   intro a ha;simp only[List.mem_append]at ha;rcases ha with((ha |ha) |ha) |ha
   ·exact QI _ a ha
   ·exact QI _ a ha
   ·exact QI _ a ha
   ·exact Vc _ a ha) j))
 have bF:∀q,Jo q (.sl 3 3 F true)=True:=fun q=>eq_true (X7 (Qk fun j hj=>by
  have hj:j<3:=hj;rw[hF]
  match j,hj with
  |0,_=>exact X4 L▸Xn L
  |1,_=>exact XF W▸QK W
  |2,_=>exact Qk fun j h=>absurd h (by omega)
  |j+3,h=>omega))
 refine Xj (fun i:Nat=>⟨16,[],[.any,.any,.any,.any,.any,.any,.any,.any,.any,.any,.any,.any,.sl 4 128 K true,.sl 3 3 F true,I i,.any],[],[]⟩) (fun i=>i≤3) (fun i=>3-i) 0 (by omega)
  (XQ (m:=0) (Nat.zero_le _) rfl ⟨.inl rfl,.inl rfl,.inl rfl,.inl rfl,.inl rfl,.inl rfl,.inl rfl,.inl rfl,.inl rfl,.inl rfl,.inl rfl,.inl rfl,.inr (by rw[hK];rfl),.inr (by rw[hF]),.inr rfl,.inl rfl,trivial⟩ (by simp[Xy]) rfl (by simp[XO,bK,bF,I]) (by simp[XO]) (by simp)) ?_
 clear hF hK v0' v1' v2' c1 c2 c3 c4 c5 e0;intro i hi next
 have w1:=wj i (by omega);by_cases hi2:i<3
 rotate_left
 ·obtain rfl:i=3:=by omega
  refine Xl ?_;simp(disch:=omega)only[↓Xd,wG,seval];refine X0 cl (X2 _) ?_;simp(disch:=omega)only[↓Xd,wG,seval];exact Xk (v:=.bool true) rfl rfl (X5 _) rfl
 have nx:=next (i+1)
 clear next
 obtain⟨n,m',gf,X,e1,e2,e3⟩:=key i hi2;have f3:(i<3)=True:=eq_true hi2;have f3':((i:Int)<3)=True:=eq_true (by omega);refine Xl ?_;simp(disch:=omega)only[w1,f3,f3',↓Xd,wG,seval];refine Xj (fun k:Nat=>⟨16,[],[.any,.any,.any,.any,.any,.any,.any,.any,.any,.any,.any,.any,.sl 4 128 K true,.sl 3 3 F true,I i,I k],[],[]⟩) (fun k=>k≤4) (fun k=>4-k) 0 (by omega)
  (Aw (by simp[Xm,I]) rfl) ?_
 intro k hk nxt;have w2:=wj k (by omega);by_cases hk2:k<4
 rotate_left
 ·obtain rfl:k=4:=by omega
  refine Xl ?_;simp(disch:=omega)only[w1,↓Xd,wG,seval];exact nx _ (by omega) (by omega) (Aw (by simp[Xm,I]) rfl)
 have nx2:=nxt (k+1);clear nxt;obtain⟨c,g,y1,y2,y3,y4⟩:=keyG k hk2;obtain⟨v,z1,z2⟩:=e3 g y3;have y0:=y2 0 (by omega);rw[Nat.add_zero]at y0;have f4:(k<4)=True:=eq_true hk2;have f4':((k:Int)<4)=True:=eq_true (by omega);refine Xl ?_;simp(disch:=omega)only[w1,w2,f3,f3',f4,f4',e1,y0,y2,↓Xd,wG,seval];refine X0 z1 ⟨e2,y4,trivial⟩ ?_;simp(disch:=omega)only[w1,w2,f3,f3',f4,f4',e1,y0,y2,↓Xd,wG,seval];refine X0 z2 ⟨e2,y4,trivial⟩ ?_;simp(disch:=omega)only[w1,w2,↓Xd,wG,seval];exact nx2 _ (by omega) (by omega) (Aw (by simp[Xm,I]) rfl)
end
end Go.Ab.N
