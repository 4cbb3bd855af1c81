/- Contracts of functions, for every argument that fits. -/
import Derived.Test.YtcmfnmceomhgcaaGreatC13
import Derived.Test.YtcmfnmceomhgcaaGreatC12
set_option linter.unusedSimpArgs false
set_option linter.unusedVariables false
namespace Go.Ab.N
open Go Go.RowKit Go.Proofs
noncomputable section
set_option maxRecDepth 10000
set_option maxHeartbeats 4000000
open Classical
theorem VG {g g':GG}(h:Kj g=true)(hf:g'.force=g.force)(hr:g'.rough=g.rough)(hn:g'.n≠v0):Kj g'=true:=by
 rw[Ka]at h ⊢;rw[hf,hr,Gb];exact⟨h.1,hn⟩
theorem vU {g:GG}(h:Kj g=true):g.n≠v0:=by
 rw[Ka,Gb]at h;exact h.2
theorem sD {n:V2}(h:n≠v0):n.opp≠v0:=fun e=>h (by
 cases n;unfold V2.opp v0 at *;simp only[V2.mk.injEq]at *;exact⟨by grind,by grind⟩)
theorem jz {n:V2}{t:Rat}(ht:0<t)(h:n≠v0):n.scale t≠v0:=fun e=>h (by
 cases n;unfold V2.scale v0 at *;simp only[V2.mk.injEq]at *;obtain⟨e1,e2⟩:=e;exact⟨by rcases Rat.mul_eq_zero.1 e1 with h |h <;> grind,by rcases Rat.mul_eq_zero.1 e2 with h |h <;> grind⟩)
theorem iH (l m n by':List Int)(f:Int)(h1:ZC l)(h2:ZC m)(h3:ZC n)(h4:ZC by')(h5:Ze f) :
  Fn Tryz.prog 6 [X8 l,X8 m,X8 n,X8 by',I f] (.bool true):=by
 have hr:=UE l;have c1:=P5 l h1;have c2:=GX n (CQ l) h3 hr;have c3:=Pb m (CQ l) h2 hr;have c4:=ko by' 0 h4 (by omega);obtain⟨sb,gb⟩:=TL n (CQ l) hr;obtain⟨sg,gg⟩:=Pc m (CQ l) hr;have vv:=oY by' 0;generalize CQ l=L at *;generalize PT n L=b at *;generalize C3 m L=g at *;generalize oX by' 0=v at *;have b9:=Qp f 9 (by omega);have f9:=Rw h5 (show(0:Int)<9 by omega);have b4:=Qp (f.tdiv 9) 4 (by omega);have d1:=Ji f 9 h5 (by omega);have d2:=Ji (f.tdiv 9) 4 f9 (by omega);generalize QR f 9=x at *;generalize QR (f.tdiv 9) 4=y at *;have w0:IntKind.i64.wrap (f.tdiv 9)=f.tdiv 9:=by unfold Ze at f9;rw[IntKind.wrap_i64];omega
 have d3:=XB (1+x) (1+y) ⟨by omega,by omega⟩ ⟨by omega,by omega⟩;have q3:=CP (1+x) (1+y) (by omega) (by omega);have p3:0<Rat.divInt (1+x) (1+y):=Fu (by omega) (by omega);generalize Rat.divInt (1+x) (1+y)=t at *;obtain⟨s1,s2,s3,s4,s5⟩:=id sg;obtain⟨r1,r2,r3,r4⟩:=id sb;have e1:=QE g.p v (by unfold vm;omega) (by unfold vm;omega);have e2:=QE g.q v (by unfold vm;omega) (by unfold vm;omega);have e3:=QE b.c v (by unfold vm;omega) (by unfold vm;omega);have e4:=Zi g.n t (by unfold vm;omega) (by unfold vm;omega);have e5:=S9 g.n (by unfold rm;omega);have gm:gS { g with p:=g.p.add v,q:=g.q.add v }:=by
  have:=Kw g.p v;have:=Kw g.q v;refine⟨?_,?_,?_,?_,?_⟩
  ·show vb (g.p.add v)≤_;omega
  ·show vb (g.q.add v)≤_;omega
  ·show vb g.n≤_;omega
  ·show qb g.force≤_;omega
  ·show qb g.rough≤_;omega
 have bm:bS { b with c:=b.c.add v }:=by
  have:=Kw b.c v;refine⟨?_,?_,?_,?_⟩
  ·show vb (b.c.add v)≤_;omega
  ·show qb b.light≤_;omega
  ·show qb b.heavy≤_;omega
  ·show qb b.strength≤_;omega
 have gl:gS { g with n:=g.n.scale t }:=by
  have:=DD g.n t;refine⟨?_,?_,?_,?_,?_⟩
  ·show vb g.p≤_;omega
  ·show vb g.q≤_;omega
  ·show vb (g.n.scale t)≤_;omega
  ·show qb g.force≤_;omega
  ·show qb g.rough≤_;omega
 have gt:gS { g with p:=g.q,q:=g.p,n:=g.n.opp }:=by
  have:=tz g.n;refine⟨?_,?_,?_,?_,?_⟩
  ·show vb g.q≤_;omega
  ·show vb g.p≤_;omega
  ·show vb g.n.opp≤_;omega
  ·show qb g.force≤_;omega
  ·show qb g.rough≤_;omega
 have nn:=vU gg;obtain⟨p0,q0,M0⟩:=Cf b g sb.s sg.s gb gg;obtain⟨p1,q1,M1⟩:=Cf _ _ bm gm gb gg;obtain⟨p2,q2,M2⟩:=Cf b _ sb.s gl gb (VG (g':={ g with n:=g.n.scale t }) gg rfl rfl (jz p3 nn));obtain⟨p3',q3',M3⟩:=Cf b _ sb.s gt gb (VG (g':={ g with p:=g.q,q:=g.p,n:=g.n.opp }) gg rfl rfl (sD nn));have m0:=M0.fn;have m1:=M1.fn;have m2:=M2.fn;have m3:=M3.fn;rw[Dg (YT v M0.m)]at m1;rw[Dg (ig p3 M0.m)]at m2;rw[show EY b { g with p:=g.q,q:=g.p,n:=g.n.opp }=EY b g from Dg (Ub M0.m)]at m3;have z0:=M0.z.2.2.2.2;generalize EY b g=k at *;have sk:=P7 k k (by unfold rm;omega) (by unfold rm;omega);rw[decide_eq_true rfl]at sk;have cl:=LN;clear M0 M1 M2 M3;refine Fq Tryz.call6 Tryz.func6 31 [] [] [] (by simp[Xb,Xa]) (Xm ?_);simp(disch:=omega)only[AS.start,↓Xd,wG,seval];refine X0 c1 (X1 _) ?_;simp(disch:=omega)only[↓Xd,wG,seval];refine X0 c2 (X1 _) ?_;simp(disch:=omega)only[bA,Xz,↓Xd,wG,seval];refine X0 c3 (X1 _) ?_;simp(disch:=omega)only[gA,Xy,↓Xd,wG,seval];refine X0 c4 (X1 _) ?_;simp(disch:=omega)only[vA,vC,↓Xd,wG,seval];refine X0 e1 (X1 _) ?_;simp(disch:=omega)only[vA,vC,↓Xd,wG,seval];refine X0 e2 (X1 _) ?_;simp(disch:=omega)only[vA,vC,↓Xd,wG,seval];refine X0 e3 (X1 _) ?_;simp(disch:=omega)only[vA,vC,↓Xd,wG,seval];refine X0 d1 (X1 _) ?_;simp(disch:=omega)only[vA,vC,qA,qC,w0,bA,Xz,gA,Xy,Xe,↓Xd,wG,seval];refine X0 d2 (X1 _) ?_;simp(disch:=omega)only[vA,vC,qA,qC,w0,bA,Xz,gA,Xy,Xe,↓Xd,wG,seval];refine X0 d3 (X1 _) ?_;simp(disch:=omega)only[vA,vC,qA,qC,w0,bA,Xz,gA,Xy,Xe,↓Xd,wG,seval];refine X0 e4 (X1 _) ?_;simp(disch:=omega)only[vA,vC,qA,qC,w0,bA,Xz,gA,Xy,Xe,↓Xd,wG,seval];refine X0 e5 (X1 _) ?_;simp(disch:=omega)only[vA,vC,qA,qC,w0,bA,Xz,gA,Xy,Xe,↓Xd,wG,seval];refine X0 m0 (X1 _) ?_;simp(disch:=omega)only[vA,vC,qA,qC,w0,bA,Xz,gA,Xy,Xe,↓Xd,wG,seval];refine X0 m1 (X1 _) ?_;simp(disch:=omega)only[vA,vC,qA,qC,w0,bA,Xz,gA,Xy,Xe,↓Xd,wG,seval];refine X0 m2 (X1 _) ?_;simp(disch:=omega)only[vA,vC,qA,qC,w0,bA,Xz,gA,Xy,Xe,↓Xd,wG,seval];refine X0 m3 (X1 _) ?_;simp(disch:=omega)only[vA,vC,qA,qC,w0,bA,Xz,gA,Xy,Xe,↓Xd,wG,seval];refine X0 sk (X1 _) ?_;simp(disch:=omega)only[vA,vC,qA,qC,w0,bA,Xz,gA,Xy,Xe,↓Xd,wG,seval];refine X0 sk (X1 _) ?_;simp(disch:=omega)only[vA,vC,qA,qC,w0,bA,Xz,gA,Xy,Xe,↓Xd,wG,seval];refine X0 sk (X1 _) ?_;simp(disch:=omega)only[vA,vC,qA,qC,w0,bA,Xz,gA,Xy,Xe,↓Xd,wG,seval];refine X0 cl (X1 _) ?_;simp(disch:=omega)only[vA,vC,qA,qC,w0,bA,Xz,gA,Xy,Xe,↓Xd,wG,seval];exact Xp (v:=.bool true) rfl rfl (X5 _) rfl
end
end Go.Ab.N
