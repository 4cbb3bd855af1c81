/- Contracts of functions of these chapters, for every argument that fits, and what they need. -/
import Derived.Test.YtefjhgcndhepeaaGreatC14
import Derived.Test.YtefjhgcndhepeaaGreatC13
import Derived.Test.YtefjhgcndhepeaaGreatC12
set_option linter.unusedSimpArgs false
set_option linter.unusedVariables false
open Nat renaming reducePow → Y1, reduceLT → Y2, reduceLeDiff → Y3, reduceEqDiff → Y4, reduceAdd → Y5, reduceMul → Y6, reduceSub → Y7, reduceBEq → Y8, reduceDiv → Y9, reduceMod → YA
namespace Go.Ab.N
open Go Go.RowKit Go.Proofs
set_option maxRecDepth 10000
set_option maxHeartbeats 4000000
def CM:List (Int×Int):=[(0,0),(2,0),(3,2),(2,4),(0,4)]
def CN:List (Int×Int):=[(0,0),(2,0),(1,2),(2,4),(0,4)]
def exA:PV:=Bw CM
def exB:PV:=Bw CN
def exT:V2:=⟨-1,0⟩
def mK:FV:=⟨0,1,1,2,2,exT,v0,v0⟩
def Mb (eb m:Int):FV:=⟨0,1,1,eb,m,exT,⟨4,4⟩,⟨4,4⟩⟩
theorem Ns (R:List (Int×Int)) (h:Dr (Xr R)=true) (hn:∀ c∈R,(-65536≤c.1∧c.1≤65536)∧(-65536≤c.2∧c.2≤65536)) (hl:R.length<1000000):GP (Bw R) 0 :=
 ⟨⟨hl,by simp [Bw],by simp [Bw],hn⟩,Ds _ h,rfl,by have:=Zx; omega⟩
theorem exA_gp:GP exA 0:=Ns CM (by decide +kernel) (by decide) (by decide)
theorem exB_gp:GP exB 0:=Ns CN (by decide +kernel) (by decide) (by decide)
theorem Pl {a b t:V2} (h:Q1 a a≠0∧Q1 a a=Q1 b b∧Q1 a b / Q1 a a=t.x∧Q6 a b / Q1 a a=t.y):K0 a b=(t,0):=by
 obtain ⟨h1,h2,h3,h4⟩:=h
 unfold K0
 rw [if_neg (by rw [← h2]; simp [h1]),if_pos h2]
 rw [Prod.mk.injEq,V2.ext']
 exact ⟨⟨h3,h4⟩,rfl⟩
theorem Mx {a b:List (Int×Int)} {i j:Int} {t:V2} (h:dl a.length b.length i j) (h2:Q1 (Zu (Bu b j.toNat)) (Zu (Bu b j.toNat))≠0∧Q1 (Zu (Bu b j.toNat)) (Zu (Bu b j.toNat))=Q1 (Bu a i.toNat) (Bu a i.toNat) ∧
  Q1 (Zu (Bu b j.toNat)) (Bu a i.toNat) / Q1 (Zu (Bu b j.toNat)) (Zu (Bu b j.toNat))=t.x∧Q6 (Zu (Bu b j.toNat)) (Bu a i.toNat) / Q1 (Zu (Bu b j.toNat)) (Zu (Bu b j.toNat))=t.y):Qy a b i j=(t,true):=by
 unfold Qy
 rw [if_pos h,Pl h2]; rfl
theorem Mw {a b:List (Int×Int)} {i j:Int} (h2:Q1 (Zu (Bu b j.toNat)) (Zu (Bu b j.toNat))≠Q1 (Bu a i.toNat) (Bu a i.toNat)):Qy a b i j=(v0,false):=by
 unfold Qy
 split
 ·obtain ⟨e1,e2⟩:=Fb _ _ h2
  rw [e1,decide_eq_false e2]
 ·rfl
theorem U8:Qy CM CN 1 2=(exT,true):=Mx (by unfold dl; decide) (by decide +kernel)
theorem rK:Qy CM CN 0 2=(v0,false):=Mw (by decide +kernel)
theorem gE:XH CM CN mK 0=(⟨4,4⟩,⟨4,4⟩,true):=Mv (by decide +kernel)
theorem aA (m:Int) (h:m=1∨m=2):XH CM CN (Mb 2 m) 0=(⟨4,4⟩,⟨4,4⟩,true):=by
 rcases h with rfl | rfl <;> exact Mv (by decide +kernel)
theorem jg {a b:PV} {f:FV} (h:((List.range f.M.toNat).all fun k=>!O6 a b f k)=true):HE a b f:=fun k hk=>by
 have:=List.all_eq_true.1 h k (List.mem_range.2 hk)
 simpa using this
theorem IK (m:Int) (h:m=1∨m=2):Ap exA exB (Mb 2 m) 0=0:=by
 rw [DL]
 refine ⟨?_,?_,⟨0,?_,?_,?_⟩,?_,?_⟩
 ·rcases h with rfl | rfl <;> exact FX.1 (by decide)
 ·rcases h with rfl | rfl <;> exact jg (by decide +kernel)
 ·rcases h with rfl | rfl <;> decide
 ·rcases h with rfl | rfl <;> exact congrArg (·.2) U8
 ·rcases h with rfl | rfl <;> exact congrArg (·.1) U8
 ·have:=aA m h
  show (XH CM CN (Mb 2 m) 0).2.2=true∧(XH CM CN (Mb 2 m) 0).1=_∧(XH CM CN (Mb 2 m) 0).2.1=_
  rw [this]; exact ⟨rfl,rfl,rfl⟩
 ·rw [YU]
  rcases h with rfl | rfl <;> decide +kernel
theorem gH:Ap exA exB (Mb 3 2) 0=21:=by
 unfold Ap
 rw [if_pos (FX.1 (by decide)),if_pos (jg (by decide +kernel)),if_neg]
 rintro ⟨k,hk,h1,h2⟩
 have hk:k<2:=hk
 have e0:Qy CM CN 1 3=(v0,false):=Mw (by decide +kernel)
 have e1:Qy CM CN 2 2=(⟨-3 / 5,-4 / 5⟩,true):=Mx (by unfold dl; decide) (by decide +kernel)
 match k,hk with
 | 0,_ =>
  have:(Qy CM CN 1 3).2=true:=h1
  rw [e0] at this; cases this
 | 1,_ =>
  have:(Qy CM CN 2 2).1=exT:=h2
  rw [e1,V2.ext'] at this
  exact absurd this.1 (by decide +kernel)
theorem gG:GK exA exB (Mb 2 2)=10:=by
 unfold GK
 rw [if_pos (FX.1 (by decide))]
 decide +kernel
open Classical in
theorem gF:Mb 2 2∈H4 exA exB 0:=by
 refine List.mem_filter.2 ⟨MI (IK 2 (.inr rfl)) rfl rfl (by decide) (by decide),?_⟩
 rw [Bool.not_eq_true',Bool.eq_false_iff]
 intro h
 unfold P3 at h
 obtain ⟨g,hg,hp⟩:=List.any_eq_true.1 h
 have hp:Em 5 5 (Mb 2 2) g:=of_decide_eq_true hp
 have hc:=CZ hg (by decide) (by decide)
 obtain ⟨_,_,_,⟨ha,_⟩,_⟩:=(DL exA exB g 0).1 hc
 obtain ⟨_,_,q1,q2,q3,q4,q5⟩:=Ew hg (by decide) (by decide)
 obtain ⟨A,B,EA,EB,M,t,lo,hi⟩:=g
 have q1:0≤EA∧EA<5:=q1
 have q2:0≤EB∧EB<5:=q2
 have q4:M<5:=q4
 obtain ⟨p1,p2,p3,p4⟩:=hp
 have p1:2<M:=p1
 have p2:(1 - EA) % 5+2≤M:=p2
 have p3:(EB - (1 - EA) % 5) % 5=2:=p3
 have p4:exT=t:=p4
 subst p4
 have key:∀ (i:Nat),i≤M.toNat→ZZ CM CN ⟨0,0,EA,EB,0,exT,v0,v0⟩ i=ZZ CM CN ⟨0,0,EA,EB,0,exT,v0,v0⟩ 0:=fun i h=>Yl ha i 0 h (by omega)
 have k3:=key 3 (by omega)
 have k4:=fun h=>key 4 h
 have c:(EA=1∧EB=2)∨(EA=0∧EB=3)∨(EA=4∧EB=4∧M=4):=by omega
 rcases c with ⟨rfl,rfl⟩ | ⟨rfl,rfl⟩ | ⟨rfl,rfl,rfl⟩
 ·exact absurd k3 (by rw [V2.ext']; decide +kernel)
 ·exact absurd k3 (by rw [V2.ext']; decide +kernel)
 ·exact absurd (k4 (by decide)) (by rw [V2.ext']; decide +kernel)
end Go.Ab.N
namespace Go.Ab.N
open Go Go.RowKit Go.Proofs
noncomputable section
set_option maxRecDepth 10000
set_option maxHeartbeats 4000000
open Classical
theorem og (p:Int×Int):(Kx p).length=2:=rfl
theorem G8 (R:List (Int×Int)) (n m:Nat) (t:Bool) (l:List AV) (hl:l=R.flatMap Kx) (hn:n=R.length) (hm:m=R.length*2) (h0:0<R.length):Weak (.sl n m (Xk l) t) (GB R):=by
 subst hn hm hl
 rw [Xi]
 exact DH (by rfl) (Nat.le_refl _) fun j hj=>by rw [MZ Kx 2 (0,0) (by omega) og R j hj]; exact Weak.rfl' _
theorem P0 (t:Bool):WeakL [.bool false,.sl 0 0 (fun _=>.any) t,.bool false,.sl 0 0 (fun _=>.any) t] (qC 0) :=
 have h1:X8 (0:Rat).num.natAbs=[]:=by rw [Rat.zero_num]; simp [XV]
 have h2:X8 (qd (0:Rat))=[]:=Dn rfl
 ⟨Weak.rfl' _,QB h1,Weak.rfl' _,QB h2,trivial⟩
def RD (W:List FV) (f:FV) (j:Nat):Bool:=(W.take j).any fun g=>decide (g=f)
theorem bi (W:List FV) (f:FV) (j:Nat) (h:j<W.length):RD W f (j+1)=(RD W f j || decide (W.getD j BO=f)):=by
 unfold RD
 rw [List.take_succ_eq_append_getElem h,List.any_append,List.getD_eq_getElem?_getD,List.getElem?_eq_getElem h]
 simp
theorem ix {W:List FV} {f:FV} (h:f∈W):RD W f W.length=true:=by
 unfold RD
 rw [List.take_length,List.any_eq_true]
 exact ⟨f,h,by simp⟩
theorem ks (t:Bool):WeakL [.bool (decide (exT.x.num<0)),X4 (X8 exT.x.num.natAbs),.bool false,X4 (X8 (qd exT.x)),.bool false,.sl 0 0 (fun _=>.any) t,.bool false,.sl 0 0 (fun _=>.any) t] (vC exT):=by
 obtain ⟨u1,u2,u3,u4,_⟩:=P0 t
 exact ⟨Weak.rfl' _,Weak.rfl' _,Weak.rfl' _,Weak.rfl' _,u1,u2,u3,u4,trivial⟩
theorem kq (t:Bool):WeakL [I 0,I 1,I 1,I 2,I 2,.bool (decide (exT.x.num<0)),X4 (X8 exT.x.num.natAbs),.bool false,X4 (X8 (qd exT.x)),.bool false,.sl 0 0 (fun _=>.any) t,.bool false,.sl 0 0 (fun _=>.any) t,
  .bool false,.sl 0 0 (fun _=>.any) t,.bool false,.sl 0 0 (fun _=>.any) t,.bool false,.sl 0 0 (fun _=>.any) t,.bool false,.sl 0 0 (fun _=>.any) t,.bool false,.sl 0 0 (fun _=>.any) t,.bool false,.sl 0 0 (fun _=>.any) t,.bool false,.sl 0 0 (fun _=>.any) t,.bool false,.sl 0 0 (fun _=>.any) t] (Qr mK):=by
 obtain ⟨u1,u2,u3,u4,_⟩:=P0 t
 obtain ⟨w1,w2,w3,w4,w5,w6,w7,w8,_⟩:=LI t
 exact ⟨Weak.rfl' _,Weak.rfl' _,Weak.rfl' _,Weak.rfl' _,Weak.rfl' _,Weak.rfl' _,Weak.rfl' _,Weak.rfl' _,Weak.rfl' _,u1,u2,u3,u4,w1,w2,w3,w4,w5,w6,w7,w8,w1,w2,w3,w4,w5,w6,w7,w8,trivial⟩
theorem kr (t:Bool):WeakL ([I 0,I 1,I 1,I 2,I 2,.bool (decide (exT.x.num<0)),X4 (X8 exT.x.num.natAbs),.bool false,X4 (X8 (qd exT.x)),.bool false,.sl 0 0 (fun _=>.any) t,.bool false,.sl 0 0 (fun _=>.any) t] ++ (vC ⟨4,4⟩ ++ vC ⟨4,4⟩)) (Qr (Mb 2 2)):=by
 obtain ⟨u1,u2,u3,u4,_⟩:=P0 t
 exact ⟨Weak.rfl' _,Weak.rfl' _,Weak.rfl' _,Weak.rfl' _,Weak.rfl' _,Weak.rfl' _,Weak.rfl' _,Weak.rfl' _,Weak.rfl' _,u1,u2,u3,u4,Weak.rfl' _,Weak.rfl' _,Weak.rfl' _,Weak.rfl' _,Weak.rfl' _,Weak.rfl' _,Weak.rfl' _,Weak.rfl' _,Weak.rfl' _,Weak.rfl' _,Weak.rfl' _,Weak.rfl' _,Weak.rfl' _,Weak.rfl' _,Weak.rfl' _,Weak.rfl' _,trivial⟩
theorem rJ:(⟨((4:Int):Rat),((4:Int):Rat)⟩:V2)=⟨4,4⟩:=by rw [V2.ext']; exact ⟨by decide +kernel,by decide +kernel⟩
theorem HV (eb m:Int):(Mb eb m).fine:=⟨by show vb exT≤60; decide +kernel,by show vb ⟨4,4⟩≤300; decide +kernel,by show vb ⟨4,4⟩≤300; decide +kernel⟩
theorem Ui:Fn Tryz.prog 49 [] (.bool true):=by
 have cA:=L8 CM (by decide)
 have cB:=L8 CN (by decide)
 rw [show Bw CM=exA from rfl] at cA
 rw [show Bw CN=exB from rfl] at cB
 have a1:=Ck exA exB 1 2 (by decide) (by decide) exA_gp.even.near exB_gp.even.near
 rw [show Qy exA.rim exB.rim 1 2=(exT,true) from U8] at a1
 have a2:=Ck exA exB 0 2 (by decide) (by decide) exA_gp.even.near exB_gp.even.near
 rw [show Qy exA.rim exB.rim 0 2=(v0,false) from rK] at a2
 have o1:=Zv (-1) 1 ⟨by omega,by omega⟩ ⟨by omega,by omega⟩
 have q0:=Zx
 have g1:=Ig exA exB mK exA_gp.even exB_gp.even (by show vb exT≤1000; decide +kernel) exA_gp.tol exB_gp.tol (by omega) (by omega)
 rw [show XH exA.rim exB.rim mK (0+0)=(⟨4,4⟩,⟨4,4⟩,true) from by rw [show (0:Rat)+0=0 by decide +kernel]; exact gE] at g1
 have hT:vb exT≤60:=by decide +kernel
 have s1:=AW exT exT (by unfold vm; omega) (by unfold vm; omega)
 rw [decide_eq_true rfl] at s1
 have of1:=GC 4 4 ⟨by omega,by omega⟩ ⟨by omega,by omega⟩
 rw [rJ] at of1
 have hc0:vb ⟨4,4⟩≤60:=by decide +kernel
 have hc:vb ⟨4,4⟩≤vm:=by unfold vm; omega
 have s2:=EV ⟨4,4⟩ ⟨4,4⟩ hc hc
 rw [decide_eq_true rfl] at s2
 have z0:(0:Rat)+0=0:=by decide +kernel
 have cf:=R5 exA exB exA_gp exB_gp
 have hF:=R6 exA_gp exB_gp
 rw [z0] at cf hF
 have hfd:=ix gF
 generalize H4 exA exB 0=W at *
 have k1:=Gq exA exB (Mb 2 2) exA_gp exB_gp (HV 2 2)
 have k2:=Gq exA exB (Mb 2 1) exA_gp exB_gp (HV 2 1)
 have k3:=Gq exA exB (Mb 3 2) exA_gp exB_gp (HV 3 2)
 rw [z0] at k1 k2 k3
 rw [IK 2 (.inr rfl)] at k1
 rw [IK 1 (.inl rfl)] at k2
 rw [gH] at k3
 have k4:=aK exA exB (Mb 2 2) exA_gp.even exB_gp.even
 rw [gG] at k4
 have lW:=hF.len
 have fW:=hF.fine
 clear hF
 rw [show Rat.divInt (-1) 1=exT.x by decide +kernel] at o1
 generalize hEA:exA=pa at *
 generalize hEB:exB=pb at *
 refine Fn.intro (fn:=Tryz.f49) Tryz.call49 Tryz.func49 rfl mixed 16 [] [7,8012,80000003,80000008,80000009,16] [] (by kernel_rfl) (Nat.le_of_ble_eq_true rfl) (by simp) (Xj ?_)
 simp (disch:=omega) only [AS.start,↓Xy,wG,seval]
 refine Qm cA ⟨G8 CM _ _ _ _ rfl rfl rfl (by decide),trivial⟩ ?_
 simp (disch:=omega) only [Kh,Q0,↓Xy,wG,seval]
 refine Qm cB ⟨G8 CN _ _ _ _ rfl rfl rfl (by decide),trivial⟩ ?_
 simp (disch:=omega) only [Kh,Q0,↓Xy,wG,seval]
 refine X0 a1 rfl ?_
 simp (disch:=omega) only [Kh,Q0,↓Xy,wG,seval]
 refine X0 a2 rfl ?_
 simp (disch:=omega) only [Kh,Q0,↓Xy,wG,seval]
 refine X0 o1 rfl ?_
 simp (disch:=omega) only [Kh,Q0,↓Xy,wG,seval]
 refine Qm g1 ⟨Weak.rfl' _,Weak.rfl' _,QY (kq false),trivial⟩ ?_
 simp (disch:=omega) only [↓Xy,wG,seval]
 refine Qm s1 ⟨Weak.rfl' _,QY (ks false),trivial⟩ ?_
 simp (disch:=omega) only [↓Xy,wG,seval]
 refine X0 of1 rfl ?_
 simp (disch:=omega) only [↓Xy,wG,seval]
 refine X0 s2 rfl ?_
 simp (disch:=omega) only [↓Xy,wG,seval]
 refine X0 s2 rfl ?_
 simp (disch:=omega) only [Kh,Q0,↓Xy,wG,seval]
 refine X0 cf rfl ?_
 simp (disch:=omega) only [↓Xy,wG,seval]
 refine Xd (fun i:Nat=>⟨16,[],[.any,.ref 0 0 0,.ref 1 0 0,.any,.any,.any,.any,.ref 4 0 0,.any,.any,.any,N1 W,.bool (RD W (Mb 2 2) i),I i,.any,.any],[],[.con 0 25 (Xk (Q0 pa)),.con 0 25 (Xk (Q0 pb)),.con 0 8 (Xk (vC exT)),.row 0 8 (Xk (vC v0)),.con 0 29 (Xk (Qr (Mb 2 2))),.con 0 8 (Xk (vC ⟨4,4⟩)),.con 0 8 (Xk (vC ⟨4,4⟩))]⟩) (fun i=>i≤W.length) (fun i=>W.length - i) 0 (by omega)
  (Sub.trans (Qk 0 rfl) (Sub.trans (Qk 1 rfl) (Sub.trans (LB 4 _ rfl rfl (kr false)) (Sub.trans (Qk 4 rfl) (Kq (by simp [Xf,XB,I,RD]) (by simp [Q0,Qr,vC,Xi,Xz,X3,I,sg])))))) ?_
 intro i hi next
 by_cases hi2:i<W.length
 ·have x1:=fF W i
  have x2:=wH W i
  have hm:=fW _ (Ju (d:=BO) hi2)
  have hs:=bi W (Mb 2 2) i hi2
  generalize W.getD i BO=f at *
  have cs:=UH f (Mb 2 2) hm (HV 2 2)
  generalize decide (f=Mb 2 2)=D at *
  generalize RD W (Mb 2 2) i=B0 at *
  cases B0
  ·refine Xj ?_
   simp (disch:=omega) only [x1,x2,XB,Qr,List.cons_append,List.nil_append,↓Xy,wG,seval]
   refine X0 cs rfl ?_
   simp (disch:=omega) only [XB,↓Xy,wG,seval]
   exact next (i+1) _ (by omega) (by omega) (Kq (by simp [Xf,XB,I,hs]) (by simp [Q0,Qr,vC,Xi,Xz,X3,I,sg]))
  ·refine Xj ?_
   simp (disch:=omega) only [x1,x2,XB,Qr,List.cons_append,List.nil_append,↓Xy,wG,seval]
   exact next (i+1) _ (by omega) (by omega) (Kq (by simp [Xf,XB,I,hs]) (by simp [Q0,Qr,vC,Xi,Xz,X3,I,sg]))
 obtain rfl:i=W.length:=by omega
 refine Xj ?_
 rw [hfd]
 simp (disch:=omega) only [XB,Q0,Qr,List.cons_append,List.nil_append,↓Xy,wG,seval]
 refine X0 k1 rfl ?_
 simp (disch:=omega) only [Q0,Qr,List.cons_append,List.nil_append,↓Xy,wG,seval]
 refine X0 k2 rfl ?_
 simp (disch:=omega) only [Q0,Qr,List.cons_append,List.nil_append,↓Xy,wG,seval]
 refine X0 k3 rfl ?_
 simp (disch:=omega) only [Q0,Qr,List.cons_append,List.nil_append,↓Xy,wG,seval]
 refine X0 k4 rfl ?_
 simp (disch:=omega) only [↓Xy,wG,seval]
 exact Xv rfl rfl (X2 _) rfl
theorem gJ {f:FV} (h:f.fine):vb f.turn≤vm∧vb f.lo≤vm∧vb f.hi≤vm:=by
 obtain ⟨h1,h2,h3⟩:=h
 unfold vm
 exact ⟨by omega,by omega,by omega⟩
theorem RI {n m:Nat} {f:FV} (hn:n≤12) (hm:m≤12) (h:(0≤f.EA∧f.EA<n)∧(0≤f.EB∧f.EB<m)∧1≤f.M∧f.M<n∧f.M<m):f.near:=⟨by omega,by omega,by omega⟩
theorem iN (g:Nat→Rat):∀ n,∃ k,k≤n∧iM g n=g k
 | 0=>⟨0,Nat.le_refl _,rfl⟩
 | n+1=>by
  obtain ⟨k,hk,e⟩:=iN g n
  unfold iM Mj
  split
  ·exact ⟨n+1,Nat.le_refl _,rfl⟩
  ·exact ⟨k,by omega,e⟩
theorem iG (g:Nat→Rat):∀ n,∃ k,k≤n∧iF g n=g k
 | 0=>⟨0,Nat.le_refl _,rfl⟩
 | n+1=>by
  obtain ⟨k,hk,e⟩:=iG g n
  unfold iF Mi
  split
  ·exact ⟨n+1,Nat.le_refl _,rfl⟩
  ·exact ⟨k,by omega,e⟩
def bk (t:V2):V2:=⟨t.x,-t.y⟩
def rv (t a:V2):V2:=Zu (ZE (bk t) a)
theorem eL (A B:List (List V2)) (e:Rat):CG A B e=true↔∀ x∈A,∀ y∈B,(A8 x y e).2=true:=by
 rw [Vk]
 unfold lh
 simp only [List.all_eq_true,S7]
theorem bu (L:List V2):Zs Qq v0 L=L:=by
 unfold Zs
 have:∀ x,put Qq v0 x=x:=fun x=>by unfold put Qq ZE V2.add v0; rw [V2.ext']; exact ⟨by simp only; grind,by simp only; grind⟩
 rw [show put Qq v0=id from funext this,List.map_id]
theorem PG (p:PV):Jw p Qq v0=Qg (Xr p.rim):=by
 unfold Jw
 rw [show Zs Qq v0=id from funext bu,List.map_id]
theorem T0 (lo hi a:Rat) (h1:qb lo≤rm) (h2:qb hi≤rm) (h3:qb a≤rm):Fn Tryz.prog 160 [qA lo,qA hi,qA a] (.tup [qA (Mi lo a),qA (Mj hi a)]):=by
 have c1:=QD a lo h3 h1
 have c2:=QD a hi h3 h2
 have l1:=A1 a lo
 have l2:=KP a hi
 generalize J3 a lo=x at *
 generalize J3 a hi=y at *
 unfold Mi Mj
 refine Fr Tryz.call160 Tryz.func160 8 [] [5,60000003,60000004] [] ?_
 simp (disch:=omega) only [AS.start,↓Xy,wG,seval]
 refine X0 c1 rfl ?_
 by_cases g1:x<0
 all_goals by_cases g2:0<y
 all_goals
  first
   | rw [if_pos (l1.1 g1)]
   | rw [if_neg (fun h=>g1 (l1.2 h))]
  first
   | rw [if_pos (l2.1 g2)]
   | rw [if_neg (fun h=>g2 (l2.2 h))]
  simp (disch:=omega) only [↓Xy,wG,seval]
  refine X0 c2 rfl ?_
  simp (disch:=omega) only [↓Xy,wG,seval]
  exact Ki rfl (Xn Qh rfl rfl rfl) (Xn Qh rfl rfl rfl) ((Xa _).sees _) ((Xa _).sees _)
def fi (g:Nat→Rat):Nat→Rat
 | 0=>g 0
 | k+1=>Mi (fi g k) (g k)
def fw (g:Nat→Rat):Nat→Rat
 | 0=>g 0
 | k+1=>Mj (fw g k) (g k)
def CW (L:List V2) (k:Nat):V2:=⟨fi (fun j=>(L.getD j v0).x) k,fi (fun j=>(L.getD j v0).y) k⟩
def CV (L:List V2) (k:Nat):V2:=⟨fw (fun j=>(L.getD j v0).x) k,fw (fun j=>(L.getD j v0).y) k⟩
theorem UC (g:Nat→Rat) (c:Nat) (h:∀ k,qb (g k)≤c):∀ n,qb (fi g n)≤c
 | 0=>h 0
 | n+1=>jj _ _ _ (UC g c h n) (h _)
theorem UD (g:Nat→Rat) (c:Nat) (h:∀ k,qb (g k)≤c):∀ n,qb (fw g n)≤c
 | 0=>h 0
 | n+1=>jk _ _ _ (UD g c h n) (h _)
theorem rf (L:List V2) (c:Nat) (h0:0<L.length) (hl:L.length<1000000) (hs:Qs L c) (hc:c≤100000):Fn Tryz.prog 72 [Xx L] (.tup [vA (CW L L.length),vA (CV L L.length)]):=by
 have hx:∀ k,qb (L.getD k v0).x≤c:=fun k=>Nat.le_trans (QM _) (hs k)
 have hy:∀ k,qb (L.getD k v0).y≤c:=fun k=>Nat.le_trans (QG _) (hs k)
 have s1:=UC (fun j=>(L.getD j v0).x) c hx
 have s2:=UC (fun j=>(L.getD j v0).y) c hy
 have s3:=UD (fun j=>(L.getD j v0).x) c hx
 have s4:=UD (fun j=>(L.getD j v0).y) c hy
 have p1:=fun X j h=>JD vC 8 v0 L X j h
 have p2:=fun X=>JT vC 8 v0 L X (by omega)
 have bL:Ko 4 (Xx L)=True:=eq_true (X7 (Xh L))
 have p3:∀ j,j<8→Xt vC 8 v0 L j=(vC (L.getD 0 v0)).getD j .any:=fun j h=>by have:=p1 0 j h; rwa [Nat.zero_mul,Nat.zero_add] at this
 have bV:∀ a:V2,XT 4 (.row 0 8 (Xk (vC a)))=True:=fun a=>eq_true (XL (by simp [vC,X6,X2]))
 have bZ:XT 4 (.row 0 8 (Xk Q5))=True:=eq_true (XL (by simp [Q5,X2,Hp]))
 refine Fq Tryz.call72 Tryz.func72 8 [19,20,21] [3,10,110000004,110000005] [] (by simp [Xh]) (Xj ?_)
 simp (disch:=omega) only [AS.start,p3,X5,↓Xy,wG,seval]
 refine Xd (fun k:Nat=>⟨8,[19,20,21],[.any,.any,.ref 0 0 0,.ref 1 0 0,.ref 2 0 0,.ref 3 0 0,.any,.any],[(19,Xx L),(20,I L.length),(21,I k)],[.row 0 8 (Xk Q5),.row 0 8 (Xk Q5),.row 0 8 (Xk (vC (CW L k))),.row 0 8 (Xk (vC (CV L k)))]⟩) (fun k=>k≤L.length) (fun k=>L.length - k) 0 (by omega)
  (Xg rfl (by simp [Xf,I]) (by simp [Xm,Xq,X5,I]) (by rfl)) ?_
 intro k hk next
 by_cases hk2:k<L.length
 rotate_left
 ·obtain rfl:k=L.length:=by omega
  refine Xj ?_
  simp (disch:=omega) only [X5,vC,Q5,↓Xy,wG,seval]
  exact Ki rfl (Xn Kc rfl rfl rfl) (Xn Kc rfl rfl rfl) ((Xo (CW L L.length)).sees _) ((Xo (CV L L.length)).sees _)
 have c1:=T0 (CW L k).x (CV L k).x (L.getD k v0).x (by have:=s1 k; show qb (fi _ k)≤rm; unfold rm; omega) (by have:=s3 k; show qb (fw _ k)≤rm; unfold rm; omega) (by have:=hx k; unfold rm; omega)
 have c2:=T0 (CW L k).y (CV L k).y (L.getD k v0).y (by have:=s2 k; show qb (fi _ k)≤rm; unfold rm; omega) (by have:=s4 k; show qb (fw _ k)≤rm; unfold rm; omega) (by have:=hy k; unfold rm; omega)
 have q1:=p1 k
 have q2:=p2 k
 have n1:CW L (k+1)=⟨Mi (CW L k).x (L.getD k v0).x,Mi (CW L k).y (L.getD k v0).y⟩:=rfl
 have n2:CV L (k+1)=⟨Mj (CV L k).x (L.getD k v0).x,Mj (CV L k).y (L.getD k v0).y⟩:=rfl
 generalize CW L k=lo at *
 generalize CV L k=hi at *
 generalize L.getD k v0=p at *
 generalize Mi lo.x p.x=a1 at *
 generalize Mj hi.x p.x=a2 at *
 generalize Mi lo.y p.y=a3 at *
 generalize Mj hi.y p.y=a4 at *
 refine Xj ?_
 simp (disch:=omega) only [q1,q2,X5,vC,↓Xy,wG,seval]
 refine X0 c1 rfl ?_
 simp (disch:=omega) only [qA,qC,↓Xy,wG,seval]
 refine X0 c2 rfl ?_
 simp (disch:=omega) only [qA,qC,↓Xy,wG,seval]
 exact next (k+1) _ (by omega) (by omega) (XD (m:=4) (Nat.zero_le _) rfl (by simp [Xf,X5,I]) (by simp [Xm,Xq,X5,I]) (by rw [n1,n2]; rfl) (by simp [XA]) (by simp [XA,bL]) (by simp [bV,bZ]))
end
end Go.Ab.N
namespace Go.Ab.N
open Go Go.RowKit Go.Proofs
set_option maxRecDepth 10000
set_option maxHeartbeats 4000000
def Hz (a b c:Int×Int):Int:=(b.1 - a.1)*(c.2 - a.2) - (b.2 - a.2)*(c.1 - a.1)
theorem OP (a b c:Int×Int):Jm (Qe a) (Qe b) (Qe c)=(Hz a b c).sign:=by
 have e:Q6 ((Qe b).sub (Qe a)) ((Qe c).sub (Qe a))=((Hz a b c:Int):Rat):=by
  unfold Q6 V2.sub Qe Hz
  simp only [Rat.intCast_sub,Rat.intCast_mul]
 unfold Jm
 rw [e,Rat.num_intCast]
def uA (P:List (Int×Int)) (R:List Nat) (p:Nat):Int:=(Hz (P.getD (nr R (p+R.length - 1)) (0,0)) (P.getD (R.getD p 0) (0,0)) (P.getD (nr R (p+R.length+1)) (0,0))).sign
theorem jB (P:List (Int×Int)) (R:List Nat) (p:Nat):Mm (Xr P) R p=uA P R p:=by
 unfold Mm uA
 rw [Z7,Z7,Z7,OP]
def rT (a b c p:Int×Int):Bool:=decide (0≤(Hz a b p).sign) && decide (0≤(Hz b c p).sign) && decide (0≤(Hz c a p).sign)
def Rd (P:List (Int×Int)) (a b c k:Nat):Bool:=decide (k=a) || decide (k=c) || decide (k=b) || !rT (P.getD a (0,0)) (P.getD b (0,0)) (P.getD c (0,0)) (P.getD k (0,0))
theorem gT (P:List (Int×Int)) (a b c k:Nat):Rc (Xr P) a b c k=Rd P a b c k:=by
 unfold Rc Rd nF rT
 rw [Z7,Z7,Z7,Z7,OP,OP,OP]
def U2 (P:List (Int×Int)) (R:List Nat) (p:Nat):Bool:=decide (0<uA P R p) && (List.range R.length).all fun j=>Rd P (nr R (p+R.length - 1)) (R.getD p 0) (nr R (p+R.length+1)) (R.getD j 0)
theorem mC (P:List (Int×Int)) (R:List Nat) (p:Nat):U1 (Xr P) R p=U2 P R p:=by
 unfold U1 U2
 simp only [jB,gT]
def MS (P:List (Int×Int)) (R:List Nat):Nat:=(List.range (R.length - 1)).findIdx (U2 P R)
def MY (P:List (Int×Int)) (R:List Nat):Nat:=(List.range R.length).findIdx fun p=>decide (uA P R p=0)
theorem gg (P:List (Int×Int)) (R:List Nat):MR (Xr P) R=MS P R:=by
 unfold MR MS
 rw [show U1 (Xr P) R=U2 P R from funext (mC P R)]
theorem gL (P:List (Int×Int)) (R:List Nat):Ra (Xr P) R=MY P R:=by
 unfold Ra MY
 simp only [jB]
def YX (P:List (Int×Int)):Nat→List Nat→List Nat
 | 0,R=>R
 | f+1,R=>if 3<R.length∧MY P R<R.length then YX P f (R.eraseIdx (MY P R)) else R
theorem Vw (P:List (Int×Int)):∀ (f:Nat) (R:List Nat),YW (Xr P) f R=YX P f R
 | 0,_=>rfl
 | f+1,R=>by
  unfold YW YX
  rw [gL,Vw P f]
def ap (P:List (Int×Int)):Nat→List Nat→List (Nat×Nat×Nat)
 | 0,R=>[(R.getD 0 0,R.getD 1 0,R.getD 2 0)]
 | f+1,R=>if 3<R.length then HG R (MS P R) :: ap P f (YX P (R.length - 1) (R.eraseIdx (MS P R))) else [(R.getD 0 0,R.getD 1 0,R.getD 2 0)]
theorem VC (P:List (Int×Int)):∀ (f:Nat) (R:List Nat),an (Xr P) f R=ap P f R
 | 0,_=>rfl
 | f+1,R=>by
  unfold an ap
  rw [gg,Vw,VC P f]
def u8 (P:List (Int×Int)) (d:Nat×Nat×Nat):List (Int×Int):=[P.getD d.1 (0,0),P.getD d.2.1 (0,0),P.getD d.2.2 (0,0)]
def CY (P:List (Int×Int)):List (List (Int×Int)):=(ap P P.length (List.range P.length)).map (u8 P)
theorem ME (P:List (Int×Int)):Qg (Xr P)=(CY P).map fun c=>c.map Qe:=by
 unfold Qg CY CK
 rw [Og,show (Xr P).length=P.length by simp [Xr],VC,List.map_map]
 refine List.map_congr_left fun d _=>?_
 unfold V0 u8
 simp only [Function.comp,List.map_cons,List.map_nil,Z7]
def nI (p q:Int×Int):Int×Int:=(q.2 - p.2,-(q.1 - p.1))
theorem pT (p q:Int×Int):kJ (Qe p) (Qe q)=Qe (nI p q):=by
 unfold kJ nI Qe V2.sub
 simp only [Rat.intCast_sub,Rat.intCast_neg]
def IF (A B:List (Int×Int)):List (Int×Int) :=
 ((List.range A.length).map fun i=>nI (A.getD i (0,0)) (A.getD ((i+1) % A.length) (0,0))) ++ ((List.range B.length).map fun i=>nI (B.getD ((i+1) % B.length) (0,0)) (B.getD i (0,0))) ++ [(1,0),(0,1),(-1,0),(0,-1)]
theorem ar {A B:List (Int×Int)} {n:Int×Int} (h:n∈IF A B):Qe n∈Bf (A.map Qe) (B.map Qe):=by
 have e:∀ (R:List (Int×Int)) (i:Nat),(R.map Qe).getD i v0=Qe (R.getD i (0,0)):=fun R i=>Z7 R i
 unfold IF at h
 unfold Bf
 rw [List.mem_append,List.mem_append] at *
 rcases h with (h | h) | h
 ·refine .inl (.inl ?_)
  obtain ⟨i,hi,rfl⟩:=List.mem_map.1 h
  unfold PK
  refine List.mem_map.2 ⟨i,by simpa using hi,?_⟩
  unfold dA
  rw [e,e,List.length_map,pT]
 ·refine .inl (.inr ?_)
  obtain ⟨i,hi,rfl⟩:=List.mem_map.1 h
  unfold TV
  refine List.mem_map.2 ⟨i,by simpa using hi,?_⟩
  unfold dB
  rw [e,e,List.length_map,pT]
 ·refine .inr ?_
  simp only [List.mem_cons,List.not_mem_nil,or_false] at h ⊢
  rcases h with rfl | rfl | rfl | rfl <;> simp
def Mn (n:Int×Int) (A B:List (Int×Int)):Bool:=A.all fun a=>B.all fun b=>decide (0≤n.1*(b.1 - a.1)+n.2*(b.2 - a.2))
theorem PW (sg:Int) (x:Rat) (l:List Rat):∀ k,k≤l.length→Cd sg x l k∈x :: l
 | 0,_=>by simp [Cd]
 | k+1,hk=>by
  unfold Cd
  split
  ·rw [List.getD_eq_getElem?_getD,List.getElem?_eq_getElem (by omega)]
   exact List.mem_cons_of_mem _ (List.getElem_mem _)
  ·exact PW sg x l k (by omega)
theorem PU (sg:Int) (l:List Rat) (h:0<l.length):Fs sg l∈l:=by
 obtain ⟨x,l,rfl⟩:∃ x r,l=x :: r:=by cases l with | nil=>exact absurd h (by simp) | cons x r=>exact ⟨x,r,rfl⟩
 exact PW sg x l l.length (Nat.le_refl _)
theorem oC {n:Int×Int} {A B:List (Int×Int)} (hA:0<A.length) (hB:0<B.length) (h:Mn n A B=true):GL (Qe n) (A.map Qe) (B.map Qe) 0:=by
 unfold GL Mf
 have m1:=PU (-1) (Q7 (Qe n) (B.map Qe)) (by simpa [Q7] using hB)
 have m2:=PU 1 (Q7 (Qe n) (A.map Qe)) (by simpa [Q7] using hA)
 generalize Fs (-1) (Q7 (Qe n) (B.map Qe))=x at *
 generalize Fs 1 (Q7 (Qe n) (A.map Qe))=y at *
 unfold Q7 at m1 m2
 rw [List.map_map] at m1 m2
 obtain ⟨b,hb,rfl⟩:=List.mem_map.1 m1
 obtain ⟨a,ha,rfl⟩:=List.mem_map.1 m2
 have h1:=of_decide_eq_true (List.all_eq_true.1 (List.all_eq_true.1 h a ha) b hb)
 have e:Q1 (Qe n) (Qe b) - Q1 (Qe n) (Qe a)=((n.1*(b.1 - a.1)+n.2*(b.2 - a.2):Int):Rat):=by
  unfold Q1 Qe
  simp only [Rat.intCast_sub,Rat.intCast_mul,Rat.intCast_add]
  grind
 show 0*_≤Q1 (Qe n) (Qe b) - Q1 (Qe n) (Qe a)
 rw [e,Rat.zero_mul]
 exact Rat.intCast_nonneg.2 h1
def Np (A B:List (Int×Int)):Bool:=(IF A B).any fun n=>Mn n A B
open Classical in
theorem iZ {A B:List (Int×Int)} (hA:0<A.length) (hB:0<B.length) (h:Np A B=true):(A8 (A.map Qe) (B.map Qe) 0).2=true:=by
 obtain ⟨n,hn,hs⟩:=List.any_eq_true.1 h
 unfold A8
 rw [Cf]
 exact ⟨Qe n,ar hn,decide_eq_true (oC hA hB hs)⟩
def fD (P Q:List (Int×Int)):Bool:=(CY P).all fun x=>(CY Q).all fun y=>Np x y
theorem MC {P x:List (Int×Int)} (h:x∈CY P):0<x.length:=by
 unfold CY at h
 obtain ⟨d,_,rfl⟩:=List.mem_map.1 h
 show 0<3
 omega
theorem YV {P Q:List (Int×Int)} (h:fD P Q=true):CG (Qg (Xr P)) (Qg (Xr Q)) 0=true:=by
 rw [eL,ME,ME]
 intro x hx y hy
 obtain ⟨a,ha,rfl⟩:=List.mem_map.1 hx
 obtain ⟨b,hb,rfl⟩:=List.mem_map.1 hy
 exact iZ (MC ha) (MC hb) (List.all_eq_true.1 (List.all_eq_true.1 h a ha) b hb)
def ci (p:Nat×Nat):Int×Int:=((p.1:Int),(p.2:Int))
def CO (P:List (Nat×Nat)):List (Int×Int):=P.map ci
theorem Od (P:List (Nat×Nat)) (i:Nat):(CO P).getD i (0,0)=ci (P.getD i (0,0)):=by
 unfold CO
 rw [List.getD_eq_getElem?_getD,List.getElem?_map,List.getD_eq_getElem?_getD]
 cases P[i]? <;> rfl
def MK (a b c:Nat×Nat):Nat:=b.1*c.2+a.2*c.1+a.1*b.2
def MJ (a b c:Nat×Nat):Nat:=b.2*c.1+a.1*c.2+a.2*b.1
theorem Rl (a b c:Nat×Nat):Hz (ci a) (ci b) (ci c)=(MK a b c:Int) - (MJ a b c:Int):=by
 unfold Hz ci MK MJ
 simp only [Int.natCast_add,Int.natCast_mul]
 grind
theorem UW (a b c:Nat×Nat):decide (0<(Hz (ci a) (ci b) (ci c)).sign)=Nat.blt (MJ a b c) (MK a b c):=by
 rw [Rl,Bool.eq_iff_iff,decide_eq_true_eq,Int.sign_pos_iff,Nat.blt_eq]
 omega
theorem cM (a b c:Nat×Nat):decide (0≤(Hz (ci a) (ci b) (ci c)).sign)=Nat.ble (MJ a b c) (MK a b c):=by
 rw [Rl,Bool.eq_iff_iff,decide_eq_true_eq,Int.sign_nonneg_iff,Nat.ble_eq]
 omega
theorem jG (a b c:Nat×Nat):decide ((Hz (ci a) (ci b) (ci c)).sign=0)=Nat.beq (MK a b c) (MJ a b c):=by
 rw [Rl,Bool.eq_iff_iff,decide_eq_true_eq,Int.sign_eq_zero_iff_zero,Nat.beq_eq]
 omega
def rU (a b c p:Nat×Nat):Bool:=Nat.ble (MJ a b p) (MK a b p) && Nat.ble (MJ b c p) (MK b c p) && Nat.ble (MJ c a p) (MK c a p)
def Re (P:List (Nat×Nat)) (a b c k:Nat):Bool:=Nat.beq k a || Nat.beq k c || Nat.beq k b || !rU (P.getD a (0,0)) (P.getD b (0,0)) (P.getD c (0,0)) (P.getD k (0,0))
theorem lD (a b:Nat):decide (a=b)=Nat.beq a b:=by rw [Bool.eq_iff_iff,decide_eq_true_eq,Nat.beq_eq]
theorem gU (P:List (Nat×Nat)) (a b c k:Nat):Rd (CO P) a b c k=Re P a b c k:=by
 unfold Rd Re rT rU
 simp only [Od,cM,lD]
def U3 (P:List (Nat×Nat)) (R:List Nat) (n p:Nat):Bool :=
 Nat.blt (MJ (P.getD (R.getD ((p+n - 1) % n) 0) (0,0)) (P.getD (R.getD p 0) (0,0)) (P.getD (R.getD ((p+n+1) % n) 0) (0,0))) (MK (P.getD (R.getD ((p+n - 1) % n) 0) (0,0)) (P.getD (R.getD p 0) (0,0)) (P.getD (R.getD ((p+n+1) % n) 0) (0,0))) &&
 R.all fun k=>Re P (R.getD ((p+n - 1) % n) 0) (R.getD p 0) (R.getD ((p+n+1) % n) 0) k
theorem mD (P:List (Nat×Nat)) (R:List Nat) (p:Nat):U2 (CO P) R p=U3 P R R.length p:=by
 unfold U2 U3 uA nr
 simp only [Od,UW,gU]
 congr 1
 rw [Bool.eq_iff_iff,List.all_eq_true,← Ii R 0]
 exact ⟨fun h i hi=>h i (List.mem_range.2 hi),fun h i hi=>h i (List.mem_range.1 hi)⟩
def MT (P:List (Nat×Nat)) (R:List Nat) (n:Nat):Nat:=(List.range (n - 1)).findIdx (U3 P R n)
def Da (P:List (Nat×Nat)) (R:List Nat) (n:Nat):Nat:=(List.range n).findIdx fun p=>Nat.beq (MK (P.getD (R.getD ((p+n - 1) % n) 0) (0,0)) (P.getD (R.getD p 0) (0,0)) (P.getD (R.getD ((p+n+1) % n) 0) (0,0))) (MJ (P.getD (R.getD ((p+n - 1) % n) 0) (0,0)) (P.getD (R.getD p 0) (0,0)) (P.getD (R.getD ((p+n+1) % n) 0) (0,0)))
theorem gh (P:List (Nat×Nat)) (R:List Nat):MS (CO P) R=MT P R R.length:=by
 unfold MS MT
 rw [show U2 (CO P) R=U3 P R R.length from funext (mD P R)]
theorem gM (P:List (Nat×Nat)) (R:List Nat):MY (CO P) R=Da P R R.length:=by
 unfold MY Da uA nr
 simp only [Od,jG]
def YY (P:List (Nat×Nat)):Nat→List Nat→List Nat
 | 0,R=>R
 | f+1,R=>match Nat.blt 3 R.length && Nat.blt (Da P R R.length) R.length with
  | true=>YY P f (R.eraseIdx (Da P R R.length))
  | false=>R
theorem Vx (P:List (Nat×Nat)):∀ (f:Nat) (R:List Nat),YX (CO P) f R=YY P f R
 | 0,_=>rfl
 | f+1,R=>by
  unfold YX YY
  rw [gM,Vx P f]
  by_cases h:3<R.length∧Da P R R.length<R.length
  ·rw [if_pos h,show (Nat.blt 3 R.length && Nat.blt (Da P R R.length) R.length)=true by rw [Bool.and_eq_true,Nat.blt_eq,Nat.blt_eq]; exact h]
  ·rw [if_neg h,show (Nat.blt 3 R.length && Nat.blt (Da P R R.length) R.length)=false by rw [Bool.eq_false_iff]; intro g; rw [Bool.and_eq_true,Nat.blt_eq,Nat.blt_eq] at g; exact h g]
def TU (P:List (Nat×Nat)):Nat→List Nat→List (Nat×Nat×Nat)
 | 0,R=>[(R.getD 0 0,R.getD 1 0,R.getD 2 0)]
 | f+1,R=>match Nat.blt 3 R.length with
  | true=>HG R (MT P R R.length) :: TU P f (YY P (R.length - 1) (R.eraseIdx (MT P R R.length)))
  | false=>[(R.getD 0 0,R.getD 1 0,R.getD 2 0)]
theorem VD (P:List (Nat×Nat)):∀ (f:Nat) (R:List Nat),ap (CO P) f R=TU P f R
 | 0,_=>rfl
 | f+1,R=>by
  unfold ap TU
  rw [gh,Vx,VD P f]
  by_cases h:3<R.length
  ·rw [if_pos h,show Nat.blt 3 R.length=true by rw [Nat.blt_eq]; exact h]
  ·rw [if_neg h,show Nat.blt 3 R.length=false by rw [Bool.eq_false_iff]; intro g; rw [Nat.blt_eq] at g; exact h g]
def u9 (P:List (Nat×Nat)) (d:Nat×Nat×Nat):List (Nat×Nat):=[P.getD d.1 (0,0),P.getD d.2.1 (0,0),P.getD d.2.2 (0,0)]
def Iv (P:List (Nat×Nat)):List (List (Nat×Nat)):=(TU P P.length (List.range P.length)).map (u9 P)
theorem MF (P:List (Nat×Nat)):CY (CO P)=(Iv P).map CO:=by
 unfold CY Iv
 rw [VD,show (CO P).length=P.length by simp [CO],List.map_map]
 refine List.map_congr_left fun d _=>?_
 unfold u8 u9
 simp only [Function.comp,Od]
 rfl
def EZ (p q:Nat×Nat) (A B:List (Nat×Nat)):Bool:=A.all fun a=>B.all fun b=>Nat.ble (q.2*a.1+p.2*b.1+q.1*b.2+p.1*a.2) (q.2*b.1+p.2*a.1+q.1*a.2+p.1*b.2)
theorem A3 {p q:Nat×Nat} {A B:List (Nat×Nat)} (h:EZ p q A B=true):Mn (nI (ci p) (ci q)) (CO A) (CO B)=true:=by
 unfold Mn CO
 refine List.all_eq_true.2 fun x hx=>List.all_eq_true.2 fun y hy=>decide_eq_true ?_
 obtain ⟨a,ha,rfl⟩:=List.mem_map.1 hx
 obtain ⟨b,hb,rfl⟩:=List.mem_map.1 hy
 have h1:=Nat.le_of_ble_eq_true (List.all_eq_true.1 (List.all_eq_true.1 h a ha) b hb)
 have h2:((q.2*a.1+p.2*b.1+q.1*b.2+p.1*a.2:Nat):Int)≤((q.2*b.1+p.2*a.1+q.1*a.2+p.1*b.2:Nat):Int):=by exact_mod_cast h1
 simp only [Int.natCast_add,Int.natCast_mul] at h2
 unfold nI ci
 simp only
 grind
def j8 (A B:List (Nat×Nat)):Bool :=
 match A,B with
 | [a,b,c],[d,e,f]=>EZ a b A B || EZ b c A B || EZ c a A B || EZ e d A B || EZ f e A B || EZ d f A B || EZ (0,0) (0,1) A B || EZ (1,0) (0,0) A B || EZ (0,1) (0,0) A B || EZ (0,0) (1,0) A B
 | _,_=>false
theorem VH (a b c d e f:Int×Int):IF [a,b,c] [d,e,f]=[nI a b,nI b c,nI c a,nI e d,nI f e,nI d f,(1,0),(0,1),(-1,0),(0,-1)]:=by
 unfold IF
 rw [show [a,b,c].length=3 from rfl,show [d,e,f].length=3 from rfl,show List.range 3=[0,1,2] from rfl]
 rfl
theorem j9 {A B:List (Nat×Nat)} (h:j8 A B=true):Np (CO A) (CO B)=true:=by
 unfold j8 at h
 split at h
 rotate_left
 ·cases h
 rename_i a b c d e f
 simp only [Bool.or_eq_true] at h
 unfold Np
 rw [show IF (CO [a,b,c]) (CO [d,e,f])=_ from VH (ci a) (ci b) (ci c) (ci d) (ci e) (ci f)]
 simp only [List.any_cons,List.any_nil,Bool.or_false,Bool.or_eq_true]
 have x1:EZ (0,0) (0,1) [a,b,c] [d,e,f]=true→Mn (1,0) (CO [a,b,c]) (CO [d,e,f])=true:=fun h=>A3 h
 have x2:EZ (1,0) (0,0) [a,b,c] [d,e,f]=true→Mn (0,1) (CO [a,b,c]) (CO [d,e,f])=true:=fun h=>A3 h
 have x3:EZ (0,1) (0,0) [a,b,c] [d,e,f]=true→Mn (-1,0) (CO [a,b,c]) (CO [d,e,f])=true:=fun h=>A3 h
 have x4:EZ (0,0) (1,0) [a,b,c] [d,e,f]=true→Mn (0,-1) (CO [a,b,c]) (CO [d,e,f])=true:=fun h=>A3 h
 rcases h with ((((((((h | h) | h) | h) | h) | h) | h) | h) | h) | h
 ·exact .inl (A3 h)
 ·exact .inr (.inl (A3 h))
 ·exact .inr (.inr (.inl (A3 h)))
 ·exact .inr (.inr (.inr (.inl (A3 h))))
 ·exact .inr (.inr (.inr (.inr (.inl (A3 h)))))
 ·exact .inr (.inr (.inr (.inr (.inr (.inl (A3 h))))))
 ·exact .inr (.inr (.inr (.inr (.inr (.inr (.inl (x1 h)))))))
 ·exact .inr (.inr (.inr (.inr (.inr (.inr (.inr (.inl (x2 h))))))))
 ·exact .inr (.inr (.inr (.inr (.inr (.inr (.inr (.inr (.inl (x3 h)))))))))
 ·exact .inr (.inr (.inr (.inr (.inr (.inr (.inr (.inr (.inr (x4 h)))))))))
end Go.Ab.N
