/- Contracts of functions, for every argument that fits. -/
import Derived.Test.YtcmfnmceomhgcaaGreatC14
set_option linter.unusedSimpArgs false
set_option linter.unusedVariables false
namespace Go.Ab.N
open Go Go.RowKit Go.Proofs
noncomputable section
set_option maxRecDepth 10000
set_option maxHeartbeats 4000000
open Classical
theorem nR (x:Rat) {m:Int} (hm:0<m):x*Rat.divInt 1 m*(m:Rat)=x∧Rat.divInt m 1=(m:Rat):=by
 have h0:(0:Rat)<(m:Rat):=Rat.intCast_pos.2 hm
 have e:Rat.divInt 1 m*(m:Rat)=1:=by rw [Rat.divInt_eq_div,Rat.div_mul_cancel (by grind)]; rfl
 refine ⟨by rw [Rat.mul_assoc,e,Rat.mul_one],?_⟩
 rw [Rat.divInt_eq_div]
 show (m:Rat) / ((1:Int):Rat)=m
 rw [Rat.div_def,show ((1:Int):Rat)⁻¹=1 by decide +kernel,Rat.mul_one]
theorem SH (l m n:List Int) (f part:Int) (h1:ZC l) (h2:ZC m) (h3:ZC n) (h5:Ze f) (h6:Ze part) :
  Fn Tryz.prog 7 [X8 l,X8 m,X8 n,I f,I part] (.bool true):=by
 have hr:=UE l
 have c1:=P5 l h1
 have c2:=GX n (CQ l) h3 hr
 have c3:=Pb m (CQ l) h2 hr
 obtain ⟨sb,gb⟩:=TL n (CQ l) hr
 obtain ⟨sg,gg⟩:=Pc m (CQ l) hr
 generalize CQ l=L at *
 generalize PT n L=b at *
 generalize C3 m L=g at *
 have b9:=Qp f 9 (by omega)
 have f9:=Rw h5 (show (0:Int)<9 by omega)
 have b4:=Qp (f.tdiv 9) 3 (by omega)
 have b6:=Qp part 6 (by omega)
 have d1:=Ji f 9 h5 (by omega)
 have d2:=Ji (f.tdiv 9) 3 f9 (by omega)
 have d6:=Ji part 6 h6 (by omega)
 have w0:IntKind.i64.wrap (f.tdiv 9)=f.tdiv 9:=by unfold Ze at f9; rw [IntKind.wrap_i64]; omega
 generalize QR f 9=x at *
 generalize QR (f.tdiv 9) 3=y at *
 generalize QR part 6=u at *
 have d3:=XB x (1+y) ⟨by omega,by omega⟩ ⟨by omega,by omega⟩
 have q3:=CP x (1+y) (by omega) (by omega)
 have p3:0≤Rat.divInt x (1+y):=Rat.divInt_nonneg (by omega) (by omega)
 generalize Rat.divInt x (1+y)=t at *
 have d4:=XB 4 1 ⟨by omega,by omega⟩ ⟨by omega,by omega⟩
 rw [show Rat.divInt 4 1=4 by decide +kernel] at d4
 have d16:=XB 16 1 ⟨by omega,by omega⟩ ⟨by omega,by omega⟩
 rw [show Rat.divInt 16 1=16 by decide +kernel] at d16
 have d7:=XB 1 (1+u) ⟨by omega,by omega⟩ ⟨by omega,by omega⟩
 have d8:=XB (1+u) 1 ⟨by omega,by omega⟩ ⟨by omega,by omega⟩
 obtain ⟨g1,g2,g3,g4,g5⟩:=id sg
 obtain ⟨r1,r2,r3,r4⟩:=id sb
 have q7:=CP 1 (1+u) (by omega) (by omega)
 have q8:=CP (1+u) 1 (by omega) (by omega)
 have bb:=Az.1 gb
 have gi:=Ka.1 gg
 obtain ⟨rr,hrr⟩:∃ rr:Rat,rr=if 4<g.rough+t then 4 else g.rough+t:=⟨_,rfl⟩
 have rr1:g.rough≤rr∧rr≤4∧qb rr≤40:=by
  have:=Kc g.rough t
  have q4:qb 4≤40:=by decide +kernel
  rw [hrr]
  split
  ·exact ⟨by grind,Rat.le_refl,q4⟩
  ·exact ⟨by grind,by grind,by omega⟩
 have e1:=ZQ b.strength t (by unfold rm; omega) (by unfold rm; omega)
 have e2:=ZQ g.force t (by unfold rm; omega) (by unfold rm; omega)
 have e3:=ZQ g.rough t (by unfold rm; omega) (by unfold rm; omega)
 have qa:=Kc g.rough t
 have qs:=Kc b.strength t
 have qf:=Kc g.force t
 have e4:=Qo (g.rough+t) 4 (by unfold rm; omega) (by unfold rm; decide +kernel)
 have e5:=K8 b.light (Rat.divInt 1 (1+u)) (by unfold rm; omega) (by unfold rm; omega)
 have e6:=K8 b.heavy (Rat.divInt 1 (1+u)) (by unfold rm; omega) (by unfold rm; omega)
 have ql:=XT b.light (Rat.divInt 1 (1+u))
 have qh:=XT b.heavy (Rat.divInt 1 (1+u))
 have pu:0<Rat.divInt 1 (1+u):=Fu (by omega) (by omega)
 obtain ⟨v1,v2⟩:=nR b.heavy (show 0<1+u by omega)
 rw [v2] at d8 q8
 have s1:bS { b with strength:=b.strength+t }∧ZZ { b with strength:=b.strength+t }=true:=by
  refine ⟨⟨by show vb b.c≤_; omega,by show qb b.light≤_; omega,by show qb b.heavy≤_; omega,by show qb (b.strength+t)≤_; omega⟩,?_⟩
  rw [Az]
  exact ⟨bb.1,bb.2.1,by show 0<b.strength+t; grind⟩
 have s2:gS { g with force:=g.force+t }∧Kj { g with force:=g.force+t }=true:=by
  refine ⟨⟨by show vb g.p≤_; omega,by show vb g.q≤_; omega,by show vb g.n≤_; omega,by show qb (g.force+t)≤_; omega,by show qb g.rough≤_; omega⟩,?_⟩
  rw [Ka]
  exact ⟨⟨by show 0<g.force+t; grind,gi.1.2⟩,gi.2⟩
 have s3:gS { g with rough:=rr }∧Kj { g with rough:=rr }=true:=by
  refine ⟨⟨by show vb g.p≤_; omega,by show vb g.q≤_; omega,by show vb g.n≤_; omega,by show qb g.force≤_; omega,rr1.2.2⟩,?_⟩
  rw [Ka]
  exact ⟨⟨gi.1.1,by show 0≤rr; grind,rr1.2.1⟩,gi.2⟩
 have s4:bS { b with light:=b.light*Rat.divInt 1 (1+u),heavy:=b.heavy*Rat.divInt 1 (1+u) }∧ZZ { b with light:=b.light*Rat.divInt 1 (1+u),heavy:=b.heavy*Rat.divInt 1 (1+u) }=true:=by
  refine ⟨⟨by show vb b.c≤_; omega,by show qb (b.light*Rat.divInt 1 (1+u))≤_; omega,by show qb (b.heavy*Rat.divInt 1 (1+u))≤_; omega,by show qb b.strength≤_; omega⟩,?_⟩
  rw [Az]
  exact ⟨Rat.mul_pos bb.1 pu,Rat.mul_le_mul_of_nonneg_right bb.2.1 (Rat.le_of_lt pu),bb.2.2⟩
 obtain ⟨p0,q0,M0⟩:=Cf b g sb.s sg.s gb gg
 obtain ⟨p1,q1,M1⟩:=Cf _ g s1.1 sg.s s1.2 gg
 obtain ⟨p2,q2,M2⟩:=Cf b _ sb.s s2.1 gb s2.2
 obtain ⟨p3',q3',M3⟩:=Cf b _ sb.s s3.1 gb s3.2
 obtain ⟨p4,q4,M4⟩:=Cf _ g s4.1 sg.s s4.2 gg
 have m0:=M0.fn
 have m1:=M1.fn
 have m2:=M2.fn
 have m3:=M3.fn
 have m4:=M4.fn
 have k1:=LJ M0.m M1.m rfl rfl (by show b.strength≤b.strength+t; grind) rfl rfl rfl Rat.le_refl Rat.le_refl
 have k2:=LJ M0.m M2.m rfl rfl Rat.le_refl rfl rfl rfl (by show g.force≤g.force+t; grind) Rat.le_refl
 have k3:=LJ M0.m M3.m rfl rfl Rat.le_refl rfl rfl rfl Rat.le_refl rr1.1
 have k4:=YS (m:=((1+u:Int):Rat)) M0.m M4.m (Rat.le_of_lt gi.1.1) (Rat.le_of_lt bb.2.2) (by have:=Rat.intCast_le_intCast.2 (show (1:Int)≤1+u by omega); exact this) rfl rfl v1
 have z0:=M0.z.2.2.2.2
 have z1:=M1.z.2.2.2.2
 have z2:=M2.z.2.2.2.2
 have z3:=M3.z.2.2.2.2
 have z4:=M4.z.2.2.2.2
 clear M0 M1 M2 M3 M4
 have cl:=LN
 generalize hk0:EY b g=k0 at *
 generalize EY { b with strength:=b.strength+t } g=x1 at *
 generalize EY b { g with force:=g.force+t }=x2 at *
 generalize EY b { g with rough:=rr }=x3 at *
 generalize EY { b with light:=b.light*Rat.divInt 1 (1+u),heavy:=b.heavy*Rat.divInt 1 (1+u) } g=x4 at *
 have y1:=Qo x1 k0 (by unfold rm; omega) (by unfold rm; omega)
 have y2:=Qo x2 k0 (by unfold rm; omega) (by unfold rm; omega)
 have y3:=Qo x3 k0 (by unfold rm; omega) (by unfold rm; omega)
 have n1:¬ Be x1 k0<0:=fun h=>absurd ((B0 _ _).1 h) (Rat.not_lt.2 k1)
 have n2:¬ Be x2 k0<0:=fun h=>absurd ((B0 _ _).1 h) (Rat.not_lt.2 k2)
 have n3:¬ Be x3 k0<0:=fun h=>absurd ((B0 _ _).1 h) (Rat.not_lt.2 k3)
 generalize Rat.divInt 1 (1+u)=pt at *
 have e7:=K8 k0 ((1+u:Int):Rat) (by unfold rm; omega) (by unfold rm; omega)
 have qm:=XT k0 ((1+u:Int):Rat)
 generalize k0*((1+u:Int):Rat)=most at *
 have e8:=Qo most 16 (by unfold rm; omega) (by unfold rm; decide +kernel)
 have e9:=P7 x4 x4 (by unfold rm; omega) (by unfold rm; omega)
 rw [decide_eq_true rfl] at e9
 refine Fq Tryz.call7 Tryz.func7 36 [] [22,23000] [] (by simp [Xb,Xa]) (Xm ?_)
 simp (disch:=omega) only [AS.start,↓Xd,wG,seval]
 refine X0 c1 (X1 _) ?_
 simp (disch:=omega) only [vA,vC,qA,qC,w0,bA,Xz,gA,Xy,Xe,↓Xd,wG,seval]
 refine X0 c2 (X1 _) ?_
 simp (disch:=omega) only [vA,vC,qA,qC,w0,bA,Xz,gA,Xy,Xe,↓Xd,wG,seval]
 refine X0 c3 (X1 _) ?_
 simp (disch:=omega) only [vA,vC,qA,qC,w0,bA,Xz,gA,Xy,Xe,↓Xd,wG,seval]
 refine X0 d1 (X1 _) ?_
 simp (disch:=omega) only [vA,vC,qA,qC,w0,bA,Xz,gA,Xy,Xe,↓Xd,wG,seval]
 refine X0 d2 (X1 _) ?_
 simp (disch:=omega) only [vA,vC,qA,qC,w0,bA,Xz,gA,Xy,Xe,↓Xd,wG,seval]
 refine X0 d3 (X1 _) ?_
 simp (disch:=omega) only [vA,vC,qA,qC,w0,bA,Xz,gA,Xy,Xe,↓Xd,wG,seval]
 refine X0 m0 (X1 _) ?_
 simp (disch:=omega) only [vA,vC,qA,qC,w0,bA,Xz,gA,Xy,Xe,↓Xd,wG,seval]
 refine X0 e1 (X1 _) ?_
 simp (disch:=omega) only [vA,vC,qA,qC,w0,bA,Xz,gA,Xy,Xe,↓Xd,wG,seval]
 refine X0 e2 (X1 _) ?_
 simp (disch:=omega) only [vA,vC,qA,qC,w0,bA,Xz,gA,Xy,Xe,↓Xd,wG,seval]
 refine X0 e3 (X1 _) ?_
 simp (disch:=omega) only [vA,vC,qA,qC,w0,bA,Xz,gA,Xy,Xe,↓Xd,wG,seval]
 refine X0 d4 (X1 _) ?_
 simp (disch:=omega) only [vA,vC,qA,qC,w0,bA,Xz,gA,Xy,Xe,↓Xd,wG,seval]
 refine X0 e4 (X1 _) ?_
 simp (disch:=omega) only [vA,vC,qA,qC,w0,bA,Xz,gA,Xy,Xe,↓Xd,wG,seval]
 refine ⟨fun hc=>?_,fun hc=>?_⟩
 rotate_left
 rw [if_neg fun h=>hc ((Zg _ _).2 h)] at hrr
 rw [← hrr]
 clear hrr
 rotate_left
 rw [if_pos ((Zg _ _).1 hc)] at hrr
 have d4':Fn Tryz.prog 20 [I 4,I 1] (qA rr):=by rw [hrr]; exact d4
 refine X0 d4' (X1 _) ?_
 simp (disch:=omega) only [vA,vC,qA,qC,w0,bA,Xz,gA,Xy,Xe,↓Xd,wG,seval]
 clear hrr d4'
 all_goals
  refine X0 m1 (X1 _) ?_
  simp (disch:=omega) only [vA,vC,qA,qC,w0,bA,Xz,gA,Xy,Xe,↓Xd,wG,seval]
  refine X0 m2 (X1 _) ?_
  simp (disch:=omega) only [vA,vC,qA,qC,w0,bA,Xz,gA,Xy,Xe,↓Xd,wG,seval]
  refine X0 m3 (X1 _) ?_
  simp (disch:=omega) only [vA,vC,qA,qC,w0,bA,Xz,gA,Xy,Xe,↓Xd,wG,seval]
  refine X0 d6 (X1 _) ?_
  simp (disch:=omega) only [vA,vC,qA,qC,w0,bA,Xz,gA,Xy,Xe,↓Xd,wG,seval]
  refine X0 d7 (X1 _) ?_
  simp (disch:=omega) only [vA,vC,qA,qC,w0,bA,Xz,gA,Xy,Xe,↓Xd,wG,seval]
  refine X0 e5 (X1 _) ?_
  simp (disch:=omega) only [vA,vC,qA,qC,w0,bA,Xz,gA,Xy,Xe,↓Xd,wG,seval]
  refine X0 d7 (X1 _) ?_
  simp (disch:=omega) only [vA,vC,qA,qC,w0,bA,Xz,gA,Xy,Xe,↓Xd,wG,seval]
  refine X0 e6 (X1 _) ?_
  simp (disch:=omega) only [vA,vC,qA,qC,w0,bA,Xz,gA,Xy,Xe,↓Xd,wG,seval]
  refine X0 m4 (X1 _) ?_
  simp (disch:=omega) only [vA,vC,qA,qC,w0,bA,Xz,gA,Xy,Xe,↓Xd,wG,seval]
  refine X0 d8 (X1 _) ?_
  simp (disch:=omega) only [vA,vC,qA,qC,w0,bA,Xz,gA,Xy,Xe,↓Xd,wG,seval]
  refine X0 e7 (X1 _) ?_
  simp (disch:=omega) only [vA,vC,qA,qC,w0,bA,Xz,gA,Xy,Xe,↓Xd,wG,seval]
  refine X0 d16 (X1 _) ?_
  simp (disch:=omega) only [vA,vC,qA,qC,w0,bA,Xz,gA,Xy,Xe,↓Xd,wG,seval]
  refine X0 e8 (X1 _) ?_
  simp (disch:=omega) only [vA,vC,qA,qC,w0,bA,Xz,gA,Xy,Xe,↓Xd,wG,seval]
  refine ⟨fun hd=>?_,fun hd=>?_⟩
  ·rw [if_pos ((Zg _ _).1 hd)] at k4
   have d16':Fn Tryz.prog 20 [I 16,I 1] (qA x4):=by rw [k4]; exact d16
   refine X0 d16' (X1 _) ?_
   simp (disch:=omega) only [vA,vC,qA,qC,w0,bA,Xz,gA,Xy,Xe,↓Xd,wG,seval]
   refine X0 y1 (X1 _) ?_
   simp (disch:=omega) only [vA,vC,qA,qC,w0,bA,Xz,gA,Xy,Xe,n1,n2,n3,↓Xd,wG,seval]
   refine X0 y2 (X1 _) ?_
   simp (disch:=omega) only [vA,vC,qA,qC,w0,bA,Xz,gA,Xy,Xe,n1,n2,n3,↓Xd,wG,seval]
   refine X0 y3 (X1 _) ?_
   simp (disch:=omega) only [vA,vC,qA,qC,w0,bA,Xz,gA,Xy,Xe,n1,n2,n3,↓Xd,wG,seval]
   refine X0 e9 (X1 _) ?_
   simp (disch:=omega) only [vA,vC,qA,qC,w0,bA,Xz,gA,Xy,Xe,n1,n2,n3,↓Xd,wG,seval]
   refine X0 cl (X1 _) ?_
   simp (disch:=omega) only [vA,vC,qA,qC,w0,bA,Xz,gA,Xy,Xe,n1,n2,n3,↓Xd,wG,seval]
   exact Xp (v:=.bool true) rfl rfl (X5 _) rfl
  ·rw [if_neg fun h=>hd ((Zg _ _).2 h)] at k4
   rw [← k4]
   refine X0 y1 (X1 _) ?_
   simp (disch:=omega) only [vA,vC,qA,qC,w0,bA,Xz,gA,Xy,Xe,n1,n2,n3,↓Xd,wG,seval]
   refine X0 y2 (X1 _) ?_
   simp (disch:=omega) only [vA,vC,qA,qC,w0,bA,Xz,gA,Xy,Xe,n1,n2,n3,↓Xd,wG,seval]
   refine X0 y3 (X1 _) ?_
   simp (disch:=omega) only [vA,vC,qA,qC,w0,bA,Xz,gA,Xy,Xe,n1,n2,n3,↓Xd,wG,seval]
   refine X0 e9 (X1 _) ?_
   simp (disch:=omega) only [vA,vC,qA,qC,w0,bA,Xz,gA,Xy,Xe,n1,n2,n3,↓Xd,wG,seval]
   refine X0 cl (X1 _) ?_
   simp (disch:=omega) only [vA,vC,qA,qC,w0,bA,Xz,gA,Xy,Xe,n1,n2,n3,↓Xd,wG,seval]
   exact Xp (v:=.bool true) rfl rfl (X5 _) rfl
end
end Go.Ab.N
