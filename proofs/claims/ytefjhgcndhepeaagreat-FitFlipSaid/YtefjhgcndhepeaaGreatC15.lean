/- Own texts. -/
import Derived.Test.YtefjhgcndhepeaaGreatC14
import Derived.Test.YtefjhgcndhepeaaGreatC13
import Derived.Test.YtefjhgcndhepeaaGreatC12
set_option linter.unusedSimpArgs false
set_option linter.unusedVariables false
open Nat renaming reducePow → Y1, reduceLT → Y2, reduceLeDiff → Y3, reduceEqDiff → Y4, reduceAdd → Y5, reduceMul → Y6, reduceSub → Y7, reduceBEq → Y8, reduceDiv → Y9, reduceMod → YA
namespace Go.Ab.N
open Go Go.RowKit Go.Proofs
set_option maxRecDepth 10000
set_option maxHeartbeats 4000000
def Du:List (Int×Int):=[(0,0),(2,0),(3,2),(2,4),(0,4)]
def Dv:List (Int×Int):=[(0,0),(2,0),(1,2),(2,4),(0,4)]
def exA:PV:=Cm Du
def exB:PV:=Cm Dv
def exT:V2:=⟨-1,0⟩
def mT:FV:=⟨0,1,1,2,2,exT,v0,v0⟩
def MP (eb m:Int):FV:=⟨0,1,1,eb,m,exT,⟨4,4⟩,⟨4,4⟩⟩
theorem NO (R:List (Int×Int)) (h:E0 (Xz R)=true) (hn:∀ c∈R,(-65536≤c.1∧c.1≤65536)∧(-65536≤c.2∧c.2≤65536)) (hl:R.length<1000000):GP (Cm R) 0 :=
 ⟨⟨hl,by simp [Cm],by simp [Cm],hn⟩,E5 _ h,rfl,by have:=Aj; omega⟩
theorem exA_gp:GP exA 0:=NO Du (by decide +kernel) (by decide) (by decide)
theorem exB_gp:GP exB 0:=NO Dv (by decide +kernel) (by decide) (by decide)
theorem fh {a b t:V2} (h:XS a a≠0∧XS a a=XS b b∧XS a b / XS a a=t.x∧Qe a b / XS a a=t.y):QI a b=(t,0):=by
 obtain ⟨h1,h2,h3,h4⟩:=h
 unfold QI
 rw [if_neg (by rw [← h2]; simp [h1]),if_pos h2]
 rw [Prod.mk.injEq,V2.ext']
 exact ⟨⟨h3,h4⟩,rfl⟩
theorem N3 {a b:List (Int×Int)} {i j:Int} {t:V2} (h:ON a.length b.length i j) (h2:XS (Jb (Ba b j.toNat)) (Jb (Ba b j.toNat))≠0∧XS (Jb (Ba b j.toNat)) (Jb (Ba b j.toNat))=XS (Ba a i.toNat) (Ba a i.toNat) ∧
  XS (Jb (Ba b j.toNat)) (Ba a i.toNat) / XS (Jb (Ba b j.toNat)) (Jb (Ba b j.toNat))=t.x∧Qe (Jb (Ba b j.toNat)) (Ba a i.toNat) / XS (Jb (Ba b j.toNat)) (Jb (Ba b j.toNat))=t.y):Q9 a b i j=(t,true):=by
 unfold Q9
 rw [if_pos h,fh h2]; rfl
theorem N2 {a b:List (Int×Int)} {i j:Int} (h2:XS (Jb (Ba b j.toNat)) (Jb (Ba b j.toNat))≠XS (Ba a i.toNat) (Ba a i.toNat)):Q9 a b i j=(v0,false):=by
 unfold Q9
 split
 ·obtain ⟨e1,e2⟩:=FQ _ _ h2
  rw [e1,decide_eq_false e2]
 ·rfl
theorem UD:Q9 Du Dv 1 2=(exT,true):=N3 (by unfold ON; decide) (by decide +kernel)
theorem rT:Q9 Du Dv 0 2=(v0,false):=N2 (by decide +kernel)
theorem gN:Xv Du Dv mT 0=(⟨4,4⟩,⟨4,4⟩,true):=N1 (by decide +kernel)
theorem aI (m:Int) (h:m=1∨m=2):Xv Du Dv (MP 2 m) 0=(⟨4,4⟩,⟨4,4⟩,true):=by
 rcases h with rfl | rfl <;> exact N1 (by decide +kernel)
theorem jt {a b:PV} {f:FV} (h:((List.range f.M.toNat).all fun k=>!OA a b f k)=true):Dy a b f:=fun k hk=>by
 have:=List.all_eq_true.1 h k (List.mem_range.2 hk)
 simpa using this
theorem Lo (m:Int) (h:m=1∨m=2):Zv exA exB (MP 2 m) 0=0:=by
 rw [C4]
 refine ⟨?_,?_,⟨0,?_,?_,?_⟩,?_,?_⟩
 ·rcases h with rfl | rfl <;> exact GH.1 (by decide)
 ·rcases h with rfl | rfl <;> exact jt (by decide +kernel)
 ·rcases h with rfl | rfl <;> decide
 ·rcases h with rfl | rfl <;> exact congrArg (·.2) UD
 ·rcases h with rfl | rfl <;> exact congrArg (·.1) UD
 ·have:=aI m h
  show (Xv Du Dv (MP 2 m) 0).2.2=true∧(Xv Du Dv (MP 2 m) 0).1=_∧(Xv Du Dv (MP 2 m) 0).2.1=_
  rw [this]; exact ⟨rfl,rfl,rfl⟩
 ·rw [aq]
  rcases h with rfl | rfl <;> decide +kernel
theorem gQ:Zv exA exB (MP 3 2) 0=21:=by
 unfold Zv
 rw [if_pos (GH.1 (by decide)),if_pos (jt (by decide +kernel)),if_neg]
 rintro ⟨k,hk,h1,h2⟩
 have hk:k<2:=hk
 have e0:Q9 Du Dv 1 3=(v0,false):=N2 (by decide +kernel)
 have e1:Q9 Du Dv 2 2=(⟨-3 / 5,-4 / 5⟩,true):=N3 (by unfold ON; decide) (by decide +kernel)
 match k,hk with
 | 0,_ =>
  have:(Q9 Du Dv 1 3).2=true:=h1
  rw [e0] at this; cases this
 | 1,_ =>
  have:(Q9 Du Dv 2 2).1=exT:=h2
  rw [e1,V2.ext'] at this
  exact absurd this.1 (by decide +kernel)
theorem gP:Hr exA exB (MP 2 2)=10:=by
 unfold Hr
 rw [if_pos (GH.1 (by decide))]
 decide +kernel
open Classical in
theorem gO:MP 2 2∈G5 exA exB 0:=by
 refine List.mem_filter.2 ⟨an (Lo 2 (.inr rfl)) rfl rfl (by decide) (by decide),?_⟩
 rw [Bool.not_eq_true',Bool.eq_false_iff]
 intro h
 unfold Ex at h
 obtain ⟨g,hg,hp⟩:=List.any_eq_true.1 h
 have hp:EZ 5 5 (MP 2 2) g:=of_decide_eq_true hp
 have hc:=HA hg (by decide) (by decide)
 obtain ⟨_,_,_,⟨ha,_⟩,_⟩:=(C4 exA exB g 0).1 hc
 obtain ⟨_,_,q1,q2,q3,q4,q5⟩:=U1 hg (by decide) (by decide)
 obtain ⟨A,B,EA,EB,M,t,lo,hi⟩:=g
 have q1:0≤EA∧EA<5:=q1
 have q2:0≤EB∧EB<5:=q2
 have q4:M<5:=q4
 obtain ⟨p1,p2,p3,p4⟩:=hp
 have p1:2<M:=p1
 have p2:(1 - EA) % 5+2≤M:=p2
 have p3:(EB - (1 - EA) % 5) % 5=2:=p3
 have p4:exT=t:=p4
 subst p4
 have key:∀ (i:Nat),i≤M.toNat→K5 Du Dv ⟨0,0,EA,EB,0,exT,v0,v0⟩ i=K5 Du Dv ⟨0,0,EA,EB,0,exT,v0,v0⟩ 0:=fun i h=>YE ha i 0 h (by omega)
 have k3:=key 3 (by omega)
 have k4:=fun h=>key 4 h
 have c:(EA=1∧EB=2)∨(EA=0∧EB=3)∨(EA=4∧EB=4∧M=4):=by omega
 rcases c with ⟨rfl,rfl⟩ | ⟨rfl,rfl⟩ | ⟨rfl,rfl,rfl⟩
 ·exact absurd k3 (by rw [V2.ext']; decide +kernel)
 ·exact absurd k3 (by rw [V2.ext']; decide +kernel)
 ·exact absurd (k4 (by decide)) (by rw [V2.ext']; decide +kernel)
end Go.Ab.N
namespace Go.Ab.N
open Go Go.RowKit Go.Proofs
noncomputable section
set_option maxRecDepth 10000
set_option maxHeartbeats 4000000
open Classical
theorem ow (p:Int×Int):(Kq p).length=2:=rfl
theorem GR (R:List (Int×Int)) (n m:Nat) (t:Bool) (l:List AV) (hl:l=R.flatMap Kq) (hn:n=R.length) (hm:m=R.length*2) (h0:0<R.length):Weak (.sl n m (Xn l) t) (Dz R):=by
 subst hn hm hl
 rw [Xd]
 exact Aq (by rfl) (Nat.le_refl _) fun j hj=>by rw [Hc Kq 2 (0,0) (by omega) ow R j hj]; exact Weak.rfl' _
theorem Ps (t:Bool):WeakL [.bool false,.sl 0 0 (fun _=>.any) t,.bool false,.sl 0 0 (fun _=>.any) t] (qC 0) :=
 have h1:X8 (0:Rat).num.natAbs=[]:=by rw [Rat.zero_num]; simp [Q1]
 have h2:X8 (qd (0:Rat))=[]:=Da rfl
 ⟨Weak.rfl' _,Qw h1,Weak.rfl' _,Qw h2,trivial⟩
def S3 (W:List FV) (f:FV) (j:Nat):Bool:=(W.take j).any fun g=>decide (g=f)
theorem bG (W:List FV) (f:FV) (j:Nat) (h:j<W.length):S3 W f (j+1)=(S3 W f j || decide (W.getD j fv0=f)):=by
 unfold S3
 rw [List.take_succ_eq_append_getElem h,List.any_append,List.getD_eq_getElem?_getD,List.getElem?_eq_getElem h]
 simp
theorem iO {W:List FV} {f:FV} (h:f∈W):S3 W f W.length=true:=by
 unfold S3
 rw [List.take_length,List.any_eq_true]
 exact ⟨f,h,by simp⟩
theorem kD (t:Bool):WeakL [.bool (decide (exT.x.num<0)),X7 (X8 exT.x.num.natAbs),.bool false,X7 (X8 (qd exT.x)),.bool false,.sl 0 0 (fun _=>.any) t,.bool false,.sl 0 0 (fun _=>.any) t] (vC exT):=by
 obtain ⟨u1,u2,u3,u4,_⟩:=Ps t
 exact ⟨Weak.rfl' _,Weak.rfl' _,Weak.rfl' _,Weak.rfl' _,u1,u2,u3,u4,trivial⟩
theorem kB (t:Bool):WeakL [I 0,I 1,I 1,I 2,I 2,.bool (decide (exT.x.num<0)),X7 (X8 exT.x.num.natAbs),.bool false,X7 (X8 (qd exT.x)),.bool false,.sl 0 0 (fun _=>.any) t,.bool false,.sl 0 0 (fun _=>.any) t,
  .bool false,.sl 0 0 (fun _=>.any) t,.bool false,.sl 0 0 (fun _=>.any) t,.bool false,.sl 0 0 (fun _=>.any) t,.bool false,.sl 0 0 (fun _=>.any) t,.bool false,.sl 0 0 (fun _=>.any) t,.bool false,.sl 0 0 (fun _=>.any) t,.bool false,.sl 0 0 (fun _=>.any) t,.bool false,.sl 0 0 (fun _=>.any) t] (XJ mT):=by
 obtain ⟨u1,u2,u3,u4,_⟩:=Ps t
 obtain ⟨w1,w2,w3,w4,w5,w6,w7,w8,_⟩:=CM t
 exact ⟨Weak.rfl' _,Weak.rfl' _,Weak.rfl' _,Weak.rfl' _,Weak.rfl' _,Weak.rfl' _,Weak.rfl' _,Weak.rfl' _,Weak.rfl' _,u1,u2,u3,u4,w1,w2,w3,w4,w5,w6,w7,w8,w1,w2,w3,w4,w5,w6,w7,w8,trivial⟩
theorem kC (t:Bool):WeakL ([I 0,I 1,I 1,I 2,I 2,.bool (decide (exT.x.num<0)),X7 (X8 exT.x.num.natAbs),.bool false,X7 (X8 (qd exT.x)),.bool false,.sl 0 0 (fun _=>.any) t,.bool false,.sl 0 0 (fun _=>.any) t] ++ (vC ⟨4,4⟩ ++ vC ⟨4,4⟩)) (XJ (MP 2 2)):=by
 obtain ⟨u1,u2,u3,u4,_⟩:=Ps t
 exact ⟨Weak.rfl' _,Weak.rfl' _,Weak.rfl' _,Weak.rfl' _,Weak.rfl' _,Weak.rfl' _,Weak.rfl' _,Weak.rfl' _,Weak.rfl' _,u1,u2,u3,u4,Weak.rfl' _,Weak.rfl' _,Weak.rfl' _,Weak.rfl' _,Weak.rfl' _,Weak.rfl' _,Weak.rfl' _,Weak.rfl' _,Weak.rfl' _,Weak.rfl' _,Weak.rfl' _,Weak.rfl' _,Weak.rfl' _,Weak.rfl' _,Weak.rfl' _,Weak.rfl' _,trivial⟩
theorem rS:(⟨((4:Int):Rat),((4:Int):Rat)⟩:V2)=⟨4,4⟩:=by rw [V2.ext']; exact ⟨by decide +kernel,by decide +kernel⟩
theorem Ir (eb m:Int):(MP eb m).fine:=⟨by show vb exT≤60; decide +kernel,by show vb ⟨4,4⟩≤300; decide +kernel,by show vb ⟨4,4⟩≤300; decide +kernel⟩
theorem AA:Fn Tryz.prog 49 [] (.bool true):=by
 have cA:=LM Du (by decide)
 have cB:=LM Dv (by decide)
 rw [show Cm Du=exA from rfl] at cA
 rw [show Cm Dv=exB from rfl] at cB
 have a1:=D4 exA exB 1 2 (by decide) (by decide) exA_gp.even.near exB_gp.even.near
 rw [show Q9 exA.rim exB.rim 1 2=(exT,true) from UD] at a1
 have a2:=D4 exA exB 0 2 (by decide) (by decide) exA_gp.even.near exB_gp.even.near
 rw [show Q9 exA.rim exB.rim 0 2=(v0,false) from rT] at a2
 have o1:=QV (-1) 1 ⟨by omega,by omega⟩ ⟨by omega,by omega⟩
 have q0:=Aj
 have g1:=FN exA exB mT exA_gp.even exB_gp.even (by show vb exT≤1000; decide +kernel) exA_gp.tol exB_gp.tol (by omega) (by omega)
 rw [show Xv exA.rim exB.rim mT (0+0)=(⟨4,4⟩,⟨4,4⟩,true) from by rw [show (0:Rat)+0=0 by decide +kernel]; exact gN] at g1
 have hT:vb exT≤60:=by decide +kernel
 have s1:=Al exT exT (by unfold vm; omega) (by unfold vm; omega)
 rw [decide_eq_true rfl] at s1
 have of1:=KR 4 4 ⟨by omega,by omega⟩ ⟨by omega,by omega⟩
 rw [rS] at of1
 have hc0:vb ⟨4,4⟩≤60:=by decide +kernel
 have hc:vb ⟨4,4⟩≤vm:=by unfold vm; omega
 have s2:=FB ⟨4,4⟩ ⟨4,4⟩ hc hc
 rw [decide_eq_true rfl] at s2
 have z0:(0:Rat)+0=0:=by decide +kernel
 have cf:=gT exA exB exA_gp exB_gp
 have hF:=Rt exA_gp exB_gp
 rw [z0] at cf hF
 have hfd:=iO gO
 generalize G5 exA exB 0=W at *
 have k1:=Es exA exB (MP 2 2) exA_gp exB_gp (Ir 2 2)
 have k2:=Es exA exB (MP 2 1) exA_gp exB_gp (Ir 2 1)
 have k3:=Es exA exB (MP 3 2) exA_gp exB_gp (Ir 3 2)
 rw [z0] at k1 k2 k3
 rw [Lo 2 (.inr rfl)] at k1
 rw [Lo 1 (.inl rfl)] at k2
 rw [gQ] at k3
 have k4:=aR exA exB (MP 2 2) exA_gp.even exB_gp.even
 rw [gP] at k4
 have lW:=hF.len
 have fW:=hF.fine
 clear hF
 rw [show Rat.divInt (-1) 1=exT.x by decide +kernel] at o1
 generalize hEA:exA=pa at *
 generalize hEB:exB=pb at *
 refine Fn.intro (fn:=Tryz.f49) Tryz.call49 Tryz.func49 rfl mixed 16 [] [7,8012,80000003,80000008,80000009,16] [] (by kernel_rfl) (Nat.le_of_ble_eq_true rfl) (by simp) (Xl ?_)
 simp (disch:=omega) only [AS.start,↓Xu,wG,seval]
 refine XW cA ⟨GR Du _ _ _ _ rfl rfl rfl (by decide),trivial⟩ ?_
 simp (disch:=omega) only [QP,XG,↓Xu,wG,seval]
 refine XW cB ⟨GR Dv _ _ _ _ rfl rfl rfl (by decide),trivial⟩ ?_
 simp (disch:=omega) only [QP,XG,↓Xu,wG,seval]
 refine X0 a1 rfl ?_
 simp (disch:=omega) only [QP,XG,↓Xu,wG,seval]
 refine X0 a2 rfl ?_
 simp (disch:=omega) only [QP,XG,↓Xu,wG,seval]
 refine X0 o1 rfl ?_
 simp (disch:=omega) only [QP,XG,↓Xu,wG,seval]
 refine XW g1 ⟨Weak.rfl' _,Weak.rfl' _,XO (kB false),trivial⟩ ?_
 simp (disch:=omega) only [↓Xu,wG,seval]
 refine XW s1 ⟨Weak.rfl' _,XO (kD false),trivial⟩ ?_
 simp (disch:=omega) only [↓Xu,wG,seval]
 refine X0 of1 rfl ?_
 simp (disch:=omega) only [↓Xu,wG,seval]
 refine X0 s2 rfl ?_
 simp (disch:=omega) only [↓Xu,wG,seval]
 refine X0 s2 rfl ?_
 simp (disch:=omega) only [QP,XG,↓Xu,wG,seval]
 refine X0 cf rfl ?_
 simp (disch:=omega) only [↓Xu,wG,seval]
 refine Xe (fun i:Nat=>⟨16,[],[.any,.ref 0 0 0,.ref 1 0 0,.any,.any,.any,.any,.ref 4 0 0,.any,.any,.any,G8 W,.bool (S3 W (MP 2 2) i),I i,.any,.any],[],[.con 0 25 (Xn (XG pa)),.con 0 25 (Xn (XG pb)),.con 0 8 (Xn (vC exT)),.row 0 8 (Xn (vC v0)),.con 0 29 (Xn (XJ (MP 2 2))),.con 0 8 (Xn (vC ⟨4,4⟩)),.con 0 8 (Xn (vC ⟨4,4⟩))]⟩) (fun i=>i≤W.length) (fun i=>W.length - i) 0 (by omega)
  (Sub.trans (XX 0 rfl) (Sub.trans (XX 1 rfl) (Sub.trans (Ef 4 _ rfl rfl (kC false)) (Sub.trans (XX 4 rfl) (Jm (by simp [Xf,XH,I,S3]) (by simp [XG,XJ,vC,Xd,Xm,X3,I,sg])))))) ?_
 intro i hi next
 by_cases hi2:i<W.length
 ·have x1:=fF W i
  have x2:=rU W i
  have hm:=fW _ (QS (d:=fv0) hi2)
  have hs:=bG W (MP 2 2) i hi2
  generalize W.getD i fv0=f at *
  have cs:=LU f (MP 2 2) hm (Ir 2 2)
  generalize decide (f=MP 2 2)=D at *
  generalize S3 W (MP 2 2) i=B0 at *
  cases B0
  ·refine Xl ?_
   simp (disch:=omega) only [x1,x2,XH,XJ,List.cons_append,List.nil_append,↓Xu,wG,seval]
   refine X0 cs rfl ?_
   simp (disch:=omega) only [XH,↓Xu,wG,seval]
   exact next (i+1) _ (by omega) (by omega) (Jm (by simp [Xf,XH,I,hs]) (by simp [XG,XJ,vC,Xd,Xm,X3,I,sg]))
  ·refine Xl ?_
   simp (disch:=omega) only [x1,x2,XH,XJ,List.cons_append,List.nil_append,↓Xu,wG,seval]
   exact next (i+1) _ (by omega) (by omega) (Jm (by simp [Xf,XH,I,hs]) (by simp [XG,XJ,vC,Xd,Xm,X3,I,sg]))
 obtain rfl:i=W.length:=by omega
 refine Xl ?_
 rw [hfd]
 simp (disch:=omega) only [XH,XG,XJ,List.cons_append,List.nil_append,↓Xu,wG,seval]
 refine X0 k1 rfl ?_
 simp (disch:=omega) only [XG,XJ,List.cons_append,List.nil_append,↓Xu,wG,seval]
 refine X0 k2 rfl ?_
 simp (disch:=omega) only [XG,XJ,List.cons_append,List.nil_append,↓Xu,wG,seval]
 refine X0 k3 rfl ?_
 simp (disch:=omega) only [XG,XJ,List.cons_append,List.nil_append,↓Xu,wG,seval]
 refine X0 k4 rfl ?_
 simp (disch:=omega) only [↓Xu,wG,seval]
 exact Xt rfl rfl (X2 _) rfl
theorem O9:∀ {l m:List AV} (r:List AV),WeakL l m→WeakL (l ++ r) (m ++ r)
 | [],[],r,_=>XZ r
 | _ :: _,[],_,h=>h.elim
 | [],_ :: _,_,h=>h.elim
 | _ :: _,_ :: _,r,h=>⟨h.1,O9 r h.2⟩
theorem Ry (f:FV):(XJ f).length=29:=rfl
theorem Rv:∀ L:List FV,(L.flatMap XJ).length=L.length*29
 | []=>rfl
 | f :: L=>by rw [List.flatMap_cons,List.length_append,Rv L,Ry,List.length_cons]; omega
theorem Ob {l:List AV} {L:List FV} {n m:Nat} {t:Bool} (h:WeakL l (L.flatMap XJ)) (hn:n=L.length) (hm:m=L.length*29) (h0:0<L.length):Weak (.sl n m (Xn l) t) (G8 L):=by
 subst hn hm
 rw [XH]
 refine Aq (by rfl) (Nat.le_refl _) fun j hj=>?_
 have hj:j<L.length*29:=hj
 rw [← Hc XJ 29 fv0 (by omega) Ry L j hj]
 exact fun c v hv=>(WeakL.spec h).2 j (by rw [(WeakL.spec (c:=c) h).1,Rv]; exact hj) v hv
theorem ja (g:Nat→Rat):∀ n,∃ k,k≤n∧Ic g n=g k
 | 0=>⟨0,Nat.le_refl _,rfl⟩
 | n+1=>by
  obtain ⟨k,hk,e⟩:=ja g n
  unfold Ic Sb
  split
  ·exact ⟨n+1,Nat.le_refl _,rfl⟩
  ·exact ⟨k,by omega,e⟩
theorem iW (g:Nat→Rat):∀ n,∃ k,k≤n∧Ib g n=g k
 | 0=>⟨0,Nat.le_refl _,rfl⟩
 | n+1=>by
  obtain ⟨k,hk,e⟩:=iW g n
  unfold Ib S8
  split
  ·exact ⟨n+1,Nat.le_refl _,rfl⟩
  ·exact ⟨k,by omega,e⟩
def bk (t:V2):V2:=⟨t.x,-t.y⟩
theorem qw (t:V2):vb (bk t)=vb t:=by unfold vb bk; simp only [IC]
theorem YT (t:V2):Fn Tryz.prog 153 [vA t] (vA (bk t))∧(vb t≤rm→Fn Tryz.prog 154 [vA t] (vA (bk t))):=by
 have c1:=Cf t.y
 have c2:=fun h=>KE t.y h
 obtain ⟨R,hR⟩:∃ R,R=vA (bk t):=⟨_,rfl⟩
 have sR:Settled R:=hR▸Xk _
 rw [← hR]
 unfold bk at hR
 constructor
 ·refine Fr Tryz.call153 Tryz.func153 3 [] [1,20000001] [] ?_
  simp (disch:=omega) only [AS.start,vA,vC,↓Xu,wG,seval]
  refine X0 c1 rfl ?_
  simp (disch:=omega) only [↓Xu,wG,seval]
  exact Zm rfl C9 rfl rfl rfl sR (hR.trans rfl)
 ·intro h
  have:=Qm t
  have c2:=c2 (by omega)
  refine Fr Tryz.call154 Tryz.func154 3 [] [1,20000001] [] ?_
  simp (disch:=omega) only [AS.start,vA,vC,↓Xu,wG,seval]
  refine X0 c2 rfl ?_
  simp (disch:=omega) only [↓Xu,wG,seval]
  exact Zm rfl C9 rfl rfl rfl sR (hR.trans rfl)
def QE (n m:Nat) (f:FV):FV:=⟨f.B,f.A,(f.EB - f.M+1) % m,(f.EA+f.M - 1) % n,f.M,bk f.turn,v0,v0⟩
def KZ (a b:PV) (f:FV) (e:Rat):FV×Bool :=
 if Zd a.rim.length b.rim.length f then if (Xv b.rim a.rim (QE a.rim.length b.rim.length f) e).2.2=true then (Jx b a (QE a.rim.length b.rim.length f) e,true) else (fv0,false) else (fv0,false)
theorem Hd (a b:PV) (f:FV) {ta tb:Rat} (ha:GP a ta) (hb:GP b tb) (hf:f.fine) (na:a.rim.length≤12) (nb:b.rim.length≤12) :
  Fn Tryz.prog 64 [QP a,QP b,Jz f] (.tup [Jz (KZ a b f (tb+ta)).1,.bool (KZ a b f (tb+ta)).2]) ∧
  Fn Tryz.prog 65 [QP a,QP b,Jz f] (.tup [Jz (KZ a b f (tb+ta)).1,.bool (KZ a b f (tb+ta)).2]):=by
 have la:=ha.even.rim; have lb:=hb.even.rim
 have s1:=C7 a b f la lb
 have s2:=HQ a b f la lb
 obtain ⟨R,hR⟩:∃ R,R=KZ a b f (tb+ta):=⟨_,rfl⟩
 rw [← hR]
 unfold KZ at hR
 by_cases hs:Zd a.rim.length b.rim.length f
 rotate_left
 ·rw [decide_eq_false hs] at s1 s2
  rw [if_neg hs] at hR
  subst hR
  constructor
  refine Fv Tryz.call64 Tryz.func64 10 [] [3,40000003,40000004,40000005] [] ?_
  rotate_left
  refine Fv Tryz.call65 Tryz.func65 12 [] [3,40000003,40000004,40000005] [] ?_
  all_goals
   simp (disch:=omega) only [AS.start,QP,XG,Jz,XJ,↓Xu,wG,seval]
   first | refine X0 s1 rfl ?_ | refine X0 s2 rfl ?_
   simp (disch:=omega) only [↓Xu,wG,seval]
   exact J2 rfl (Xo (L:=FI) RU rfl rfl rfl) (by unfold QH; rfl) (Xr (Ka _) (XO Tq)) ((X2 _).sees _)
 rw [decide_eq_true hs] at s1 s2
 rw [if_pos hs] at hR
 obtain ⟨⟨h1,h2⟩,⟨h3,h4⟩,h5,h6,h7⟩:=hs
 have w1:IntKind.i64.wrap (f.EB - f.M)=f.EB - f.M:=by rw [IntKind.wrap_i64]; omega
 have w2:IntKind.i64.wrap (f.EB - f.M+1)=f.EB - f.M+1:=by rw [IntKind.wrap_i64]; omega
 have w3:IntKind.i64.wrap (f.EA+f.M)=f.EA+f.M:=by rw [IntKind.wrap_i64]; omega
 have w4:IntKind.i64.wrap (f.EA+f.M - 1)=f.EA+f.M - 1:=by rw [IntKind.wrap_i64]; omega
 have c1:=Z4 (f.EB - f.M+1) b.rim.length (by omega) (by omega) (by omega)
 have c2:=Z4 (f.EA+f.M - 1) a.rim.length (by omega) (by omega) (by omega)
 have d1:=Ql (f.EB - f.M+1) b.rim.length (by omega) (by omega) (by omega)
 have d2:=Ql (f.EA+f.M - 1) a.rim.length (by omega) (by omega) (by omega)
 obtain ⟨c3,d3⟩:=YT f.turn
 have ht:=hf.turn
 have d3:=d3 (by unfold rm; omega)
 have qa:=ha.qt; have qb':=hb.qt
 have hg:vb (QE a.rim.length b.rim.length f).turn≤60:=by show vb (bk f.turn)≤60; rw [qw]; exact ht
 have c4:=FN b a (QE a.rim.length b.rim.length f) hb.even ha.even (by omega) hb.tol ha.tol (by omega) (by omega)
 have d4:=NV b a (QE a.rim.length b.rim.length f) hb.even ha.even (by omega) hb.tol ha.tol (by omega) (by omega)
 unfold Jx at hR
 generalize Xv b.rim a.rim (QE a.rim.length b.rim.length f) (tb+ta)=G at *
 obtain ⟨lo,hi,ok⟩:=G
 simp only at c4 d4 hR
 have wg:∀ t':Bool,WeakL ([I f.B,I f.A,I ((f.EB - f.M+1) % (b.rim.length:Int)),I ((f.EA+f.M - 1) % (a.rim.length:Int)),I f.M] ++ (vC (bk f.turn) ++ ([.bool false,.sl 0 0 (fun _=>.any) t',.bool false,.sl 0 0 (fun _=>.any) t',.bool false,.sl 0 0 (fun _=>.any) t',.bool false,.sl 0 0 (fun _=>.any) t'] ++ [.bool false,.sl 0 0 (fun _=>.any) t',.bool false,.sl 0 0 (fun _=>.any) t',.bool false,.sl 0 0 (fun _=>.any) t',.bool false,.sl 0 0 (fun _=>.any) t']))) (XJ (QE a.rim.length b.rim.length f)):=fun t'=>by
  obtain ⟨w1,w2,w3,w4,w5,w6,w7,w8,_⟩:=CM t'
  exact ⟨Weak.rfl' _,Weak.rfl' _,Weak.rfl' _,Weak.rfl' _,Weak.rfl' _,Weak.rfl' _,Weak.rfl' _,Weak.rfl' _,Weak.rfl' _,Weak.rfl' _,Weak.rfl' _,Weak.rfl' _,Weak.rfl' _,w1,w2,w3,w4,w5,w6,w7,w8,w1,w2,w3,w4,w5,w6,w7,w8,trivial⟩
 constructor
 refine Fv Tryz.call64 Tryz.func64 10 [] [3,40000003,40000004,40000005] [] ?_
 rotate_left
 refine Fv Tryz.call65 Tryz.func65 12 [] [3,40000003,40000004,40000005] [] ?_
 all_goals
  simp (disch:=omega) only [AS.start,QP,XG,Jz,XJ,↓Xu,wG,seval]
  first | refine X0 s1 rfl ?_ | refine X0 s2 rfl ?_
  simp (disch:=omega) only [w1,w2,XG,XJ,↓Xu,wG,seval]
  first | refine X0 c1 rfl ?_ | refine X0 d1 rfl ?_
  simp (disch:=omega) only [w3,w4,XG,XJ,↓Xu,wG,seval]
  first | refine X0 c2 rfl ?_ | refine X0 d2 rfl ?_
  simp (disch:=omega) only [XG,XJ,↓Xu,wG,seval]
  first | refine X0 c3 rfl ?_ | refine X0 d3 rfl ?_
  simp (disch:=omega) only [XG,XJ,↓Xu,wG,seval]
  first | refine XW c4 ⟨Weak.rfl' _,Weak.rfl' _,XO (wg _),trivial⟩ ?_ | refine XW d4 ⟨Weak.rfl' _,Weak.rfl' _,XO (wg _),trivial⟩ ?_
  cases ok
  ·simp (disch:=omega) only [↓Xu,wG,seval]
   subst hR
   exact J2 rfl (Xo (L:=FI) RU rfl rfl rfl) (by unfold QH; rfl) (Xr (Ka _) (XO Tq)) ((X2 _).sees _)
  ·simp (disch:=omega) only [↓Xu,wG,seval]
   subst hR
   exact J2 rfl (Xo RU rfl rfl rfl) (by unfold QH; rfl) ((Ka { QE a.rim.length b.rim.length f with lo:=lo,hi:=hi }).sees _) ((X2 _).sees _)
theorem u8 (t:V2):bk (bk t)=t:=by unfold bk; rw [V2.ext']; exact ⟨rfl,Rat.neg_neg _⟩
theorem pr {t:V2} (h:Jy t):Jy (bk t):=by unfold Jy bk at *; simp only; grind
theorem sZ {t:V2} (h:Jy t) (a:V2):Co (bk t) (Co t a)=a:=by
 unfold Jy at h; unfold Co bk; rw [V2.ext']; exact ⟨by simp only; grind,by simp only; grind⟩
theorem Hu {n m:Nat} {f:FV} (h:Zd n m f):Zd m n (QE n m f):=by
 obtain ⟨⟨h1,h2⟩,⟨h3,h4⟩,h5,h6,h7⟩:=h
 have a1:=Int.emod_nonneg (f.EB - f.M+1) (show (m:Int)≠0 by omega)
 have a2:=Int.emod_lt_of_pos (f.EB - f.M+1) (show (0:Int)<m by omega)
 have a3:=Int.emod_nonneg (f.EA+f.M - 1) (show (n:Int)≠0 by omega)
 have a4:=Int.emod_lt_of_pos (f.EA+f.M - 1) (show (0:Int)<n by omega)
 exact ⟨⟨a1,a2⟩,⟨a3,a4⟩,h5,h7,h6⟩
theorem aO {n m:Nat} {f:FV} (h:Zd n m f):(QE m n (QE n m f)).EA=f.EA∧(QE m n (QE n m f)).EB=f.EB∧(QE m n (QE n m f)).M=f.M∧(QE m n (QE n m f)).turn=f.turn:=by
 obtain ⟨⟨h1,h2⟩,⟨h3,h4⟩,h5,h6,h7⟩:=h
 refine ⟨?_,?_,rfl,u8 _⟩
 ·show ((f.EA+f.M - 1) % (n:Int) - f.M+1) % (n:Int)=f.EA
  rw [show (f.EA+f.M - 1) % (n:Int) - f.M+1=(f.EA+f.M - 1) % (n:Int)+(1 - f.M) by omega,Int.emod_add_emod,show f.EA+f.M - 1+(1 - f.M)=f.EA by omega]
  exact Int.emod_eq_of_lt h1 h2
 ·show ((f.EB - f.M+1) % (m:Int)+f.M - 1) % (m:Int)=f.EB
  rw [show (f.EB - f.M+1) % (m:Int)+f.M - 1=(f.EB - f.M+1) % (m:Int)+(f.M - 1) by omega,Int.emod_add_emod,show f.EB - f.M+1+(f.M - 1)=f.EB by omega]
  exact Int.emod_eq_of_lt h3 h4
theorem ic {n m:Nat} {f:FV} (h:Zd n m f) (k:Nat) (hk:k<f.M.toNat):xK m (QE n m f) k=yK m f (f.M.toNat - 1 - k)∧yK n (QE n m f) k=xK n f (f.M.toNat - 1 - k):=by
 obtain ⟨⟨h1,h2⟩,⟨h3,h4⟩,h5,h6,h7⟩:=h
 have e:((f.M.toNat - 1 - k:Nat):Int)=f.M - 1 - k:=by omega
 constructor
 ·show (((f.EB - f.M+1) % (m:Int)+k) % (m:Int)).toNat=((f.EB - ((f.M.toNat - 1 - k:Nat):Int)) % (m:Int)).toNat
  rw [Int.emod_add_emod,e,show f.EB - f.M+1+(k:Int)=f.EB - (f.M - 1 - k) by omega]
 ·show (((f.EA+f.M - 1) % (n:Int) - k) % (n:Int)).toNat=((f.EA+((f.M.toNat - 1 - k:Nat):Int)) % (n:Int)).toNat
  rw [Int.emod_sub_emod,e,show f.EA+f.M - 1 - (k:Int)=f.EA+(f.M - 1 - k) by omega]
theorem rW {n m:Nat} {f:FV} (h:Zd n m f) (k:Nat) (hk:k≤f.M.toNat):xK m (QE n m f) k=yL m f (f.M.toNat - k)∧yL n (QE n m f) k=xK n f (f.M.toNat - k):=by
 obtain ⟨⟨h1,h2⟩,⟨h3,h4⟩,h5,h6,h7⟩:=h
 have e:((f.M.toNat - k:Nat):Int)=f.M - k:=by omega
 constructor
 ·show (((f.EB - f.M+1) % (m:Int)+k) % (m:Int)).toNat=((f.EB+1 - ((f.M.toNat - k:Nat):Int)) % (m:Int)).toNat
  rw [Int.emod_add_emod,e,show f.EB - f.M+1+(k:Int)=f.EB+1 - (f.M - k) by omega]
 ·show (((f.EA+f.M - 1) % (n:Int)+1 - k) % (n:Int)).toNat=((f.EA+((f.M.toNat - k:Nat):Int)) % (n:Int)).toNat
  rw [show (f.EA+f.M - 1) % (n:Int)+1 - (k:Int)=(f.EA+f.M - 1) % (n:Int)+(1 - k) by omega,Int.emod_add_emod,e,show f.EA+f.M - 1+(1 - (k:Int))=f.EA+(f.M - k) by omega]
theorem YU (wa wb:Bool) (x y:Int):H4 wa wb x y=H4 wb wa y x:=by
 unfold H4
 rw [Bool.eq_iff_iff]
 simp only [Bool.or_eq_true,Bool.and_eq_true,decide_eq_true_eq]
 grind
theorem js {a b:PV} {f:FV} (h:Zd a.rim.length b.rim.length f) (hp:Dy a b f):Dy b a (QE a.rim.length b.rim.length f):=fun k hk=>by
 have hk:k<f.M.toNat:=hk
 obtain ⟨e1,e2⟩:=ic h k hk
 have:=hp (f.M.toNat - 1 - k) (by omega)
 unfold OA at *
 rw [e1,e2,YU]
 exact this
theorem gk (a b:V2):XS (Jb a) b=XS (Jb b) a:=by unfold XS Jb; grind
theorem Uu (a b:V2):Qe (Jb a) b = -Qe (Jb b) a:=by unfold Qe Jb; grind
theorem TZ {a b:V2} (h:(QI (Jb b) a).2=0):(QI (Jb a) b).2=0∧(QI (Jb a) b).1=bk (QI (Jb b) a).1:=by
 unfold QI at *
 rw [Iq b] at h
 rw [Iq a,Iq b]
 by_cases h0:XS b b=0∨XS a a=0
 ·rw [if_pos h0] at h; exact absurd h (by decide)
 rw [if_neg h0] at h
 rw [if_neg h0,if_neg (fun h=>h0 h.symm)]
 by_cases h1:XS b b=XS a a
 rotate_left
 ·rw [if_neg h1] at h; exact absurd h (by decide)
 rw [if_pos h1,if_pos h1.symm]
 refine ⟨rfl,?_⟩
 unfold bk
 rw [V2.ext']
 refine ⟨?_,?_⟩
 ·show XS (Jb a) b / XS a a=XS (Jb b) a / XS b b
  rw [h1,gk]
 ·show Qe (Jb a) b / XS a a = -(Qe (Jb b) a / XS b b)
  rw [h1,Uu]
  grind
theorem fu {a b:PV} {f:FV} (h:Zd a.rim.length b.rim.length f) (hp:Ow a b f):Ow b a (QE a.rim.length b.rim.length f):=by
 obtain ⟨k,hk,h1,h2⟩:=hp
 refine ⟨f.M.toNat - 1 - k,show f.M.toNat - 1 - k<f.M.toNat by omega,?_⟩
 obtain ⟨e1,e2⟩:=ic h (f.M.toNat - 1 - k) (by omega)
 rw [show f.M.toNat - 1 - (f.M.toNat - 1 - k)=k by omega] at e1 e2
 unfold GZ at *
 rw [e1,e2]
 unfold Q9 at *
 by_cases hr:ON a.rim.length b.rim.length (xK a.rim.length f k) (yK b.rim.length f k)
 ·rw [if_pos hr] at h1 h2
  rw [if_pos (show ON b.rim.length a.rim.length (yK b.rim.length f k) (xK a.rim.length f k) from ⟨hr.2,hr.1⟩)]
  have:=of_decide_eq_true h1
  obtain ⟨q1,q2⟩:=TZ this
  exact ⟨decide_eq_true q1,by rw [q2]; exact congrArg bk h2⟩
 ·rw [if_neg hr] at h1; cases h1
def ZI (t:V2):Prop:=t=⟨1,0⟩∨t=⟨-1,0⟩∨t=⟨0,1⟩∨t=⟨0,-1⟩
theorem jU {y:Rat} (h:y*y=1):y=1∨y = -1:=by
 have h2:(y - 1)*(y+1)=0:=by grind
 rcases Rat.mul_eq_zero.1 h2 with h | h
 ·exact .inl (by grind)
 ·exact .inr (by grind)
theorem V9 {t:V2} (h:Jy t) (hq:t.x=0∨t.y=0):ZI t:=by
 obtain ⟨x,y⟩:=t
 unfold Jy at h
 unfold ZI
 simp only [V2.ext'] at *
 rcases hq with rfl | rfl
 ·rcases jU (show y*y=1 by grind) with rfl | rfl
  ·exact .inr (.inr (.inl ⟨rfl,rfl⟩))
  ·exact .inr (.inr (.inr ⟨rfl,rfl⟩))
 ·rcases jU (show x*x=1 by grind) with rfl | rfl
  ·exact .inl ⟨rfl,rfl⟩
  ·exact .inr (.inl ⟨rfl,rfl⟩)
theorem Gw {t:V2} (h:ZI t):Jy t:=by
 rcases h with rfl | rfl | rfl | rfl <;> (unfold Jy; decide +kernel)
def rv (t a:V2):V2:=Jb (Co (bk t) a)
theorem M6 {t:V2} (h:ZI t):(∀ a,rv t a=⟨-a.x,-a.y⟩)∨(∀ a,rv t a=⟨a.x,a.y⟩)∨(∀ a,rv t a=⟨-a.y,a.x⟩)∨(∀ a,rv t a=⟨a.y,-a.x⟩):=by
 unfold rv Jb Co bk
 rcases h with rfl | rfl | rfl | rfl
 ·exact .inl fun a=>by rw [V2.ext']; exact ⟨by simp only; grind,by simp only; grind⟩
 ·exact .inr (.inl fun a=>by rw [V2.ext']; exact ⟨by simp only; grind,by simp only; grind⟩)
 ·exact .inr (.inr (.inl fun a=>by rw [V2.ext']; exact ⟨by simp only; grind,by simp only; grind⟩))
 ·exact .inr (.inr (.inr fun a=>by rw [V2.ext']; exact ⟨by simp only; grind,by simp only; grind⟩))
theorem uN {g h:Nat→Rat} {n:Nat} (h1:∀ k,k≤n→∃ j,j≤n∧g k=h j) (h2:∀ k,k≤n→∃ j,j≤n∧h k=g j):Ic g n=Ic h n:=by
 obtain ⟨k,hk,e⟩:=ja g n
 obtain ⟨l,hl,e2⟩:=ja h n
 obtain ⟨j,hj,e3⟩:=h1 k hk
 obtain ⟨i,hi,e4⟩:=h2 l hl
 refine Rat.le_antisymm ?_ ?_
 ·rw [e,e3]; exact Sa h n j hj
 ·rw [e2,e4]; exact Sa g n i hi
theorem uL {g h:Nat→Rat} {n:Nat} (h1:∀ k,k≤n→∃ j,j≤n∧g k=h j) (h2:∀ k,k≤n→∃ j,j≤n∧h k=g j):Ib g n=Ib h n:=by
 obtain ⟨k,hk,e⟩:=iW g n
 obtain ⟨l,hl,e2⟩:=iW h n
 obtain ⟨j,hj,e3⟩:=h1 k hk
 obtain ⟨i,hi,e4⟩:=h2 l hl
 refine Rat.le_antisymm ?_ ?_
 ·rw [e2,e4]; exact S7 g n i hi
 ·rw [e,e3]; exact S7 h n j hj
theorem UW (g:Nat→Rat):∀ n,Ic (fun k=>-g k) n = -Ib g n
 | 0=>rfl
 | n+1=>by
  unfold Ic Ib Sb S8
  rw [UW g n]
  by_cases h:g (n+1)<Ib g n
  ·rw [if_pos h,if_pos (by grind)]
  ·rw [if_neg h,if_neg (by grind)]
theorem UU (g:Nat→Rat):∀ n,Ib (fun k=>-g k) n = -Ic g n
 | 0=>rfl
 | n+1=>by
  unfold Ic Ib Sb S8
  rw [UU g n]
  by_cases h:Ic g n<g (n+1)
  ·rw [if_pos h,if_pos (by grind)]
  ·rw [if_neg h,if_neg (by grind)]
theorem jb (g:Nat→Rat) (n:Nat):Ic (fun k=>g (n - k)) n=Ic g n :=
 uN (fun k hk=>⟨n - k,by omega,rfl⟩) (fun k hk=>⟨n - k,by omega,by show g k=g (n - (n - k)); rw [show n - (n - k)=k by omega]⟩)
theorem iX (g:Nat→Rat) (n:Nat):Ib (fun k=>g (n - k)) n=Ib g n :=
 uL (fun k hk=>⟨n - k,by omega,rfl⟩) (fun k hk=>⟨n - k,by omega,by show g k=g (n - (n - k)); rw [show n - (n - k)=k by omega]⟩)
theorem OR {g h:Nat→Rat}:∀ {n:Nat},(∀ k,k≤n→g k=h k)→Ic g n=Ic h n
 | 0,e=>e 0 (Nat.le_refl _)
 | n+1,e=>by
  unfold Ic
  rw [OR fun k hk=>e k (by omega),e (n+1) (Nat.le_refl _)]
theorem OQ {g h:Nat→Rat}:∀ {n:Nat},(∀ k,k≤n→g k=h k)→Ib g n=Ib h n
 | 0,e=>e 0 (Nat.le_refl _)
 | n+1,e=>by
  unfold Ib
  rw [OQ fun k hk=>e k (by omega),e (n+1) (Nat.le_refl _)]
theorem mL {a b:List (Int×Int)} {f:FV} (h:Zd a.length b.length f) (ht:Jy f.turn) (k:Nat) (hk:k≤f.M.toNat):K5 b a (QE a.length b.length f) k=rv f.turn (K5 a b f (f.M.toNat - k)):=by
 obtain ⟨e1,e2⟩:=rW h k hk
 unfold K5
 have e2':(((QE a.length b.length f).EB+1 - (k:Int)) % (a.length:Int)).toNat=xK a.length f (f.M.toNat - k):=e2
 have e1':((f.EB+1 - ((f.M.toNat - k:Nat):Int)) % (b.length:Int)).toNat=xK b.length (QE a.length b.length f) k:=e1.symm
 rw [e2',e1']
 show (Jv (b.getD (xK b.length (QE a.length b.length f) k) (0,0))).sub (Co (bk f.turn) (Jv (a.getD (xK a.length f (f.M.toNat - k)) (0,0))))=_
 generalize Jv (b.getD (xK b.length (QE a.length b.length f) k) (0,0))=P
 generalize Jv (a.getD (xK a.length f (f.M.toNat - k)) (0,0))=Q
 have hr:=sZ ht P
 unfold rv
 have e:Co (bk f.turn) (Q.sub (Co f.turn P))=(Co (bk f.turn) Q).sub (Co (bk f.turn) (Co f.turn P)):=by
  generalize Co f.turn P=R
  unfold Co V2.sub; rw [V2.ext']; exact ⟨by simp only; grind,by simp only; grind⟩
 rw [e,hr]
 generalize Co (bk f.turn) Q=R
 unfold Jb V2.sub; rw [V2.ext']; exact ⟨by simp only; grind,by simp only; grind⟩
theorem TU {a b:List (Int×Int)} {f:FV} {e:Rat} (hq:ZI f.turn) (h:(Xv a b f e).2.2=true):(Xv b a (QE a.length b.length f) e).2.2=true ∧
  (Xv b a (QE a.length b.length f) e).1.add (Xv b a (QE a.length b.length f) e).2.1=rv f.turn ((Xv a b f e).1.add (Xv a b f e).2.1):=by
 obtain ⟨h1,h2,h3,h4,h5⟩:=IU h
 have hd:=fun k hk=>mL h1 h2 k hk
 have hM:(QE a.length b.length f).M=f.M:=rfl
 have l1:=OR (g:=fun j=>(K5 b a (QE a.length b.length f) j).x) (h:=fun j=>(rv f.turn (K5 a b f (f.M.toNat - j))).x) (n:=f.M.toNat) fun k hk=>by rw [hd k hk]
 have l2:=OR (g:=fun j=>(K5 b a (QE a.length b.length f) j).y) (h:=fun j=>(rv f.turn (K5 a b f (f.M.toNat - j))).y) (n:=f.M.toNat) fun k hk=>by rw [hd k hk]
 have l3:=OQ (g:=fun j=>(K5 b a (QE a.length b.length f) j).x) (h:=fun j=>(rv f.turn (K5 a b f (f.M.toNat - j))).x) (n:=f.M.toNat) fun k hk=>by rw [hd k hk]
 have l4:=OQ (g:=fun j=>(K5 b a (QE a.length b.length f) j).y) (h:=fun j=>(rv f.turn (K5 a b f (f.M.toNat - j))).y) (n:=f.M.toNat) fun k hk=>by rw [hd k hk]
 have r1:=jb (fun j=>(K5 a b f j).x) f.M.toNat
 have r2:=jb (fun j=>(K5 a b f j).y) f.M.toNat
 have r3:=iX (fun j=>(K5 a b f j).x) f.M.toNat
 have r4:=iX (fun j=>(K5 a b f j).y) f.M.toNat
 have n1:=UW (fun j=>(K5 a b f (f.M.toNat - j)).x) f.M.toNat
 have n2:=UW (fun j=>(K5 a b f (f.M.toNat - j)).y) f.M.toNat
 have n3:=UU (fun j=>(K5 a b f (f.M.toNat - j)).x) f.M.toNat
 have n4:=UU (fun j=>(K5 a b f (f.M.toNat - j)).y) f.M.toNat
 have s:=Hu h1
 have u:Jy (QE a.length b.length f).turn:=pr h2
 rw [h3]
 unfold Xv
 rw [if_pos ⟨s,u⟩,hM]
 unfold At As at h4 h5 ⊢
 rw [l1,l2,l3,l4]
 clear l1 l2 l3 l4 hd
 simp only at h4 h5
 rcases M6 hq with hv | hv | hv | hv
 all_goals
  simp only [hv]
  simp only [r1,r2,r3,r4,n1,n2,n3,n4]
  generalize Ic (fun j=>(K5 a b f j).x) f.M.toNat=x1 at *
  generalize Ic (fun j=>(K5 a b f j).y) f.M.toNat=x2 at *
  generalize Ib (fun j=>(K5 a b f j).x) f.M.toNat=x3 at *
  generalize Ib (fun j=>(K5 a b f j).y) f.M.toNat=x4 at *
  clear r1 r2 r3 r4 n1 n2 n3 n4
  unfold V2.add V2.sub
  simp only
  rw [if_neg (by rintro (g | g) <;> grind)]
  rw [V2.ext']
  refine ⟨rfl,?_,?_⟩ <;> simp only <;> grind
theorem Sw (a b:Rat):Qj a b=if a<b then -1 else if b<a then 1 else 0:=by
 have h1:=K7 a b
 have h2:=JN a b
 have h3:Qj a b = -1∨Qj a b=0∨Qj a b=1:=by
  unfold Qj
  rcases Int.lt_trichotomy (a.num*b.den - b.num*a.den) 0 with h | h | h
  ·exact .inl (Int.sign_eq_neg_one_of_neg h)
  ·rw [h]; exact .inr (.inl rfl)
  ·exact .inr (.inr (Int.sign_eq_one_of_pos h))
 by_cases g1:a<b
 ·rw [if_pos g1]; have:=h1.2 g1; omega
 ·rw [if_neg g1]
  by_cases g2:b<a
  ·rw [if_pos g2]; have:=h2.2 g2; omega
  ·rw [if_neg g2]
   have a1:¬ Qj a b<0:=fun h=>g1 (h1.1 h)
   have a2:¬ 0<Qj a b:=fun h=>g2 (h2.1 h)
   omega
theorem Sv (d x y:Rat):Qj (d - x) (d - y) = -Qj x y:=by
 rw [Sw,Sw]
 by_cases g1:x<y
 ·rw [if_pos g1,if_neg (by grind),if_pos (by grind)]; rfl
 ·by_cases g2:y<x
  ·rw [if_neg g1,if_pos g2,if_pos (by grind)]
  ·rw [if_neg g1,if_neg g2,if_neg (by grind),if_neg (by grind)]; rfl
theorem Wf (d:Rat) (sg:Int) (x:Rat) (l:List Rat):∀ k,k≤l.length→Z0 (-sg) (d - x) (l.map fun y=>d - y) k=d - Z0 sg x l k
 | 0,_=>rfl
 | k+1,hk=>by
  have e:(l.map fun y=>d - y).getD k 0=d - l.getD k 0:=by
   rw [List.getD_eq_getElem?_getD,List.getElem?_map,List.getD_eq_getElem?_getD,List.getElem?_eq_getElem (by omega)]; rfl
  unfold Z0
  rw [Wf d sg x l k (by omega),e]
  by_cases h:Qj (l.getD k 0) (Z0 sg x l k)=sg
  ·rw [if_pos h,if_pos (by rw [Sv,h])]
  ·rw [if_neg h,if_neg (by rw [Sv]; omega)]
theorem Rn (d:Rat) (sg:Int) (l:List Rat) (h:0<l.length):Cx (-sg) (l.map fun y=>d - y)=d - Cx sg l:=by
 obtain ⟨x,l,rfl⟩:∃ x r,l=x :: r:=by cases l with | nil=>exact absurd h (by simp) | cons x r=>exact ⟨x,r,rfl⟩
 unfold Cx
 simp only [List.map_cons,List.drop_one,List.tail_cons,List.length_map]
 exact Wf d sg x l l.length (Nat.le_refl _)
def oo (t c x:V2):V2:=put (bk t) (rv t c) x
theorem rC {t:V2} (h:Jy t) (c n y:V2):XS (rv t n) y=XS n c - XS n (put t c y):=by
 unfold rv put XS Jb Co bk V2.add; simp only; grind
theorem mO {t:V2} (h:Jy t) (c n x:V2):XS (rv t n) (oo t c x)=XS n c - XS n x:=by
 unfold Jy at h
 unfold oo rv put XS Jb Co bk V2.add; simp only; grind
theorem iq {t:V2} (h:Jy t) (c n:V2) (A B:List V2) (hA:0<A.length) (hB:0<B.length):Dw (rv t n) B (A.map (oo t c))=Dw n A (JM t c B):=by
 unfold Dw Qb JM
 rw [List.map_map,List.map_map]
 have e1:A.map (XS (rv t n)∘oo t c)=(A.map (XS n)).map fun y=>XS n c - y:=by
  rw [List.map_map]; exact List.map_congr_left fun x _=>mO h c n x
 have e2:B.map (XS (rv t n))=(B.map (XS n∘put t c)).map fun y=>XS n c - y:=by
  rw [List.map_map]; exact List.map_congr_left fun x _=>rC h c n x
 have f1:=Rn (XS n c) 1 (A.map (XS n)) (by simpa using hA)
 have f2:=Rn (XS n c) (-1) (B.map (XS n∘put t c)) (by simpa using hB)
 rw [e1,e2,f1]
 rw [show (1:Int) = -(-1) from rfl,f2]
 grind
theorem lm (x:Rat):Bw (-x)=Bw x:=by
 unfold Bw
 by_cases h:x<0
 ·rw [if_pos h,if_neg (by grind)]
 ·rw [if_neg h]
  by_cases h2:-x<0
  ·rw [if_pos h2]; grind
  ·rw [if_neg h2]; grind
theorem d8 {t:V2} (h:ZI t) (n:V2):KN (rv t n)=KN n:=by
 unfold KN
 rcases M6 h with hv | hv | hv | hv <;> rw [hv] <;> simp only [lm] <;> grind
theorem nY {t:V2} (c p q:V2):LI (oo t c q) (oo t c p)=rv t (LI p q):=by
 unfold oo put rv LI Jb Co bk V2.add V2.sub
 rw [V2.ext']; exact ⟨by simp only; grind,by simp only; grind⟩
theorem nZ {t:V2} (h:Jy t) (c p q:V2):LI p q=rv t (LI (put t c q) (put t c p)):=by
 unfold Jy at h
 unfold put rv LI Jb Co bk V2.add V2.sub
 rw [V2.ext']; exact ⟨by simp only; grind,by simp only; grind⟩
theorem EC {g:V2→V2} {L:List V2} {i:Nat} (h:i<L.length):(L.map g).getD i v0=g (L.getD i v0):=by
 rw [List.getD_eq_getElem?_getD,List.getElem?_map,List.getD_eq_getElem?_getD,List.getElem?_eq_getElem h]; rfl
theorem aE {t:V2} (h:ZI t) (c:V2) (A B:List V2) (n:V2) (hn:n∈Z3 A (JM t c B)):rv t n∈Z3 B (A.map (oo t c)):=by
 unfold Z3 at *
 rw [List.mem_append,List.mem_append] at *
 rcases hn with (hn | hn) | hn
 ·refine .inl (.inr ?_)
  unfold GS at hn; unfold In
  obtain ⟨i,hi,rfl⟩:=List.mem_map.1 hn
  have hi:=List.mem_range.1 hi
  refine List.mem_map.2 ⟨i,List.mem_range.2 (by rw [List.length_map]; exact hi),?_⟩
  unfold dA dB
  rw [List.length_map,EC hi,EC (Nat.mod_lt _ (by omega))]
  exact nY c _ _
 ·refine .inl (.inl ?_)
  unfold In at hn; unfold GS
  obtain ⟨i,hi,rfl⟩:=List.mem_map.1 hn
  have hi:=List.mem_range.1 hi
  unfold JM at hi ⊢
  rw [List.length_map] at hi
  refine List.mem_map.2 ⟨i,List.mem_range.2 hi,?_⟩
  unfold dA dB
  rw [List.length_map,EC hi,EC (Nat.mod_lt _ (by omega))]
  exact nZ (Gw h) c _ _
 ·refine .inr ?_
  simp only [List.mem_cons,List.not_mem_nil,or_false] at hn ⊢
  have hax:∀ x y:Int,Jv (x,y)=⟨(x:Rat),(y:Rat)⟩:=fun _ _=>rfl
  simp only [hax] at hn ⊢
  rcases M6 h with hv | hv | hv | hv <;> rcases hn with rfl | rfl | rfl | rfl <;> rw [hv] <;> simp only [V2.ext'] <;> decide +kernel
theorem bU {t:V2} (h:ZI t) (c:V2) (A B:List V2) (hA:0<A.length) (hB:0<B.length) (e:Rat) (hp:(KK A (JM t c B) e).2=true):(KK B (A.map (oo t c)) e).2=true:=by
 unfold KK at *
 rw [Fm] at *
 obtain ⟨n,hn,hs⟩:=hp
 refine ⟨rv t n,aE h c A B n hn,decide_eq_true ?_⟩
 have hs:=of_decide_eq_true hs
 unfold FE at *
 rw [d8 h,iq (Gw h) c n A B hA hB]
 exact hs
theorem fj (A B:List (List V2)) (e:Rat):F9 A B e=true↔∀ x∈A,∀ y∈B,(KK x y e).2=true:=by
 rw [VL]
 unfold lC
 simp only [List.all_eq_true,Sp]
theorem bI (L:List V2):JM JQ v0 L=L:=by
 unfold JM
 have:∀ x,put JQ v0 x=x:=fun x=>by unfold put JQ Co V2.add v0; rw [V2.ext']; exact ⟨by simp only; grind,by simp only; grind⟩
 rw [show put JQ v0=id from funext this,List.map_id]
theorem R5 (p:PV):Jn p JQ v0=JL (Xz p.rim):=by
 unfold Jn
 rw [show JM JQ v0=id from funext bI,List.map_id]
theorem R1 {L:List V2} {x:List V2} (h:x∈JL L):0<x.length:=by
 unfold JL at h
 obtain ⟨d,_,rfl⟩:=List.mem_map.1 h
 show 0<3
 omega
theorem Un {a b:PV} {t c:V2} {e:Rat} (hq:ZI t) (h:F9 (Jn a JQ v0) (Jn b t c) e=true):F9 (Jn b JQ v0) (Jn a (bk t) (rv t c)) e=true:=by
 rw [fj] at *
 rw [R5] at *
 intro x hx y hy
 unfold Jn at hy h
 obtain ⟨z,hz,rfl⟩:=List.mem_map.1 hy
 exact bU hq c z x (R1 hz) (R1 hx) e (h z hz (JM t c x) (List.mem_map.2 ⟨x,hx,rfl⟩))
theorem oQ (t a:V2):(rv t a).scale (Rat.divInt 1 2)=rv t (a.scale (Rat.divInt 1 2)):=by
 unfold rv Jb Co V2.scale; rw [V2.ext']; exact ⟨by simp only; grind,by simp only; grind⟩
theorem Um {a b:PV} {f:FV} {e:Rat} (hq:ZI f.turn) (h:Zv a b f e=0):(Xv b.rim a.rim (QE a.rim.length b.rim.length f) e).2.2=true∧Zv b a (Jx b a (QE a.rim.length b.rim.length f) e) e=0:=by
 obtain ⟨h1,h2,h3,⟨h4,h5,h6⟩,h7⟩:=(C4 a b f e).1 h
 obtain ⟨q1,q2⟩:=TU hq h4
 refine ⟨q1,(C4 _ _ _ _).2 ⟨Hu h1,js h1 h2,fu h1 h3,⟨q1,rfl,rfl⟩,?_⟩⟩
 unfold KT at *
 have hm:DT (Jx b a (QE a.rim.length b.rim.length f) e)=rv f.turn (DT f):=by
  unfold DT Jx
  show ((Xv b.rim a.rim (QE a.rim.length b.rim.length f) e).1.add (Xv b.rim a.rim (QE a.rim.length b.rim.length f) e).2.1).scale (Rat.divInt 1 2)=_
  rw [q2,oQ,h5,h6]
 rw [hm]
 exact Un hq h7
theorem aN {a b:PV} {f:FV} {e:Rat} (h:Zv a b f e=0) (hs:Jx a b f e=f):KZ b a (KZ a b f e).1 e=(f,true)∨(KZ a b f e).2=false:=by
 obtain ⟨h1,h2,h3,⟨h4,h5,h6⟩,h7⟩:=(C4 a b f e).1 h
 unfold KZ
 rw [if_pos h1]
 by_cases hg:(Xv b.rim a.rim (QE a.rim.length b.rim.length f) e).2.2=true
 rotate_left
 ·rw [if_neg hg]; exact .inr rfl
 rw [if_pos hg]
 left
 have h8:Zd b.rim.length a.rim.length (Jx b a (QE a.rim.length b.rim.length f) e):=Hu h1
 obtain ⟨e1,e2,e3,e4⟩:=aO h1
 have hG:QE b.rim.length a.rim.length (Jx b a (QE a.rim.length b.rim.length f) e)={ f with lo:=v0,hi:=v0 }:=by
  rw [io]
  exact ⟨⟨rfl,rfl,e1,e2,e3⟩,e4,rfl,rfl⟩
 rw [if_pos h8,hG]
 have hA:Xv a.rim b.rim { f with lo:=v0,hi:=v0 } e=Xv a.rim b.rim f e:=rfl
 rw [hA,if_pos h4]
 have:Jx a b { f with lo:=v0,hi:=v0 } e=Jx a b f e:=rfl
 rw [this,hs]
theorem Nl {a b:PV} {f:FV} {ta tb:Rat} (ha:GP a ta) (hb:GP b tb) (hf:f.fine):(KZ a b f (tb+ta)).1.fine:=by
 have z:=CL
 have hg:(QE a.rim.length b.rim.length f).fine:=⟨by show vb (bk f.turn)≤60; rw [qw]; exact hf.turn,by show vb v0≤300; omega,by show vb v0≤300; omega⟩
 unfold KZ
 split
 ·split
  ·exact Vs hb ha hg
  ·exact Rx
 ·exact Rx
theorem jT (x:Rat):x.num.sign=0↔x=0:=by rw [Int.sign_eq_zero_iff_zero,Rat.num_eq_zero]
theorem UG (l m:List Int) (wh how b:Int) (hl:C2 l) (hl2:l.length<9223372036854775808) (hm:C2 m) (hm2:m.length<9223372036854775808) (hw:KM wh) (hh:KM how) (hb:KM b) :
  Fn Tryz.prog 10 [X7 l,X7 m,I wh,I how,I b] (.bool true):=by
 obtain ⟨A,B,ta,tb,cP,gA,gB,sA,sB⟩:=bY l m hl hl2 hm hm2
 have pA:=IH gA; have pB:=IH gB
 obtain ⟨cT,vT⟩:=O6 b hb
 have cF:=Va A B gA gB
 have hF:=Rt gA gB
 have hsm:∀ f∈G5 A B (ta+tb),vb f.turn≤26∧vb f.lo≤200∧vb f.hi≤200:=fun f hf=>(G7 gA gB (List.mem_filter.1 hf).1).2
 generalize G5 A B (ta+tb)=L at *
 have lL:=hF.len
 generalize Th b=tu at *
 have z0:=CL
 have bA:XI 3 (.con 0 25 (Xn (XG A)))=True:=eq_true (fun j _=>X5 (Xb (Xy A) _))
 have bB:XI 3 (.con 0 25 (Xn (XG B)))=True:=eq_true (fun j _=>X5 (Xb (Xy B) _))
 have bL:JO 3 (G8 L)=True:=eq_true (X5 (Kb L))
 refine Fr Tryz.call10 Tryz.func10 26 [] [6,7000,7001,10,11] [] ?_
 simp (disch:=omega) only [AS.start,↓Xu,wG,seval]
 refine X0 cP rfl ?_
 simp (disch:=omega) only [QP,XG,↓Xu,wG,seval]
 refine X0 cF rfl ?_
 simp (disch:=omega) only [QP,XG,↓Xu,wG,seval]
 refine X0 cT rfl ?_
 apply uK (X:=QJ Tryz.prog Tryz.f10 [6,7000,7001,10,11] [] (.bool true)) (fun p:FV×FV=>p.1.fine∧p.2.fine∧(L.length≠0→Zv A B p.1 (ta+tb)=0∧Jx A B p.1 (ta+tb)=p.1))
  (fun p=>⟨26,[],[.any,.any,.any,.any,.any,.any,.any,.any,.any,.any,.any,.ref 0 0 0,.ref 1 0 0,G8 L,.ref 2 0 0,G8 [p.1,p.2],I 0,.any,.any,.any,.any,.any,.any,.any,.any,.any],[],[.con 0 25 (Xn (XG A)),.con 0 25 (Xn (XG B)),.con 0 29 (Xn (XJ p.1))]⟩)
 case h1 =>
  intro key
  by_cases hL:L.length=0
  ·have ff:FV.fine ⟨0,0,wh,b,how,tu,v0,v0⟩:=⟨by show vb tu≤60; omega,by show vb v0≤300; omega,by show vb v0≤300; omega⟩
   obtain ⟨G1,cG1,fG1⟩:=VW ⟨0,0,wh,b,how,tu,v0,v0⟩ ff.turn (by show vb v0≤250; omega) (by show vb v0≤250; omega) how b hh hb
   have wf:∀ t':Bool,WeakL ([I 0,I 0,I wh,I b,I how] ++ (vC tu ++ ([.bool false,.sl 0 0 (fun _=>.any) t',.bool false,.sl 0 0 (fun _=>.any) t',.bool false,.sl 0 0 (fun _=>.any) t',.bool false,.sl 0 0 (fun _=>.any) t'] ++ [.bool false,.sl 0 0 (fun _=>.any) t',.bool false,.sl 0 0 (fun _=>.any) t',.bool false,.sl 0 0 (fun _=>.any) t',.bool false,.sl 0 0 (fun _=>.any) t']))) (XJ ⟨0,0,wh,b,how,tu,v0,v0⟩):=fun t'=>by
    obtain ⟨w1,w2,w3,w4,w5,w6,w7,w8,_⟩:=CM t'
    exact ⟨Weak.rfl' _,Weak.rfl' _,Weak.rfl' _,Weak.rfl' _,Weak.rfl' _,Weak.rfl' _,Weak.rfl' _,Weak.rfl' _,Weak.rfl' _,Weak.rfl' _,Weak.rfl' _,Weak.rfl' _,Weak.rfl' _,w1,w2,w3,w4,w5,w6,w7,w8,w1,w2,w3,w4,w5,w6,w7,w8,trivial⟩
   simp (disch:=omega) only [XH,hL,↓Xu,wG,seval]
   refine XW cG1 ⟨XO (wf _),Weak.rfl' _,Weak.rfl' _,trivial⟩ ?_
   simp (maxSteps:=999999) (disch:=omega) only [Jz,XJ,List.cons_append,List.nil_append,↓Xu,wG,seval]
   have wF:∀ t':Bool,Weak (.sl 2 58 (Xn (([I 0,I 0,I wh,I b,I how] ++ (vC tu ++ ([.bool false,.sl 0 0 (fun _=>.any) t',.bool false,.sl 0 0 (fun _=>.any) t',.bool false,.sl 0 0 (fun _=>.any) t',.bool false,.sl 0 0 (fun _=>.any) t'] ++ [.bool false,.sl 0 0 (fun _=>.any) t',.bool false,.sl 0 0 (fun _=>.any) t',.bool false,.sl 0 0 (fun _=>.any) t',.bool false,.sl 0 0 (fun _=>.any) t']))) ++ (XJ G1 ++ []))) true) (G8 [⟨0,0,wh,b,how,tu,v0,v0⟩,G1]):=fun t'=>Ob (L:=[⟨0,0,wh,b,how,tu,v0,v0⟩,G1]) (O9 _ (wf t')) rfl rfl (Nat.succ_pos _)
   have bF:JO 3 (G8 [⟨0,0,wh,b,how,tu,v0,v0⟩,G1])=True:=eq_true (X5 (Kb _))
   have bf:XI 3 (.con 0 29 (Xn (XJ ⟨0,0,wh,b,how,tu,v0,v0⟩)))=True:=eq_true (fun j _=>X5 (Xb (XN _) _))
   refine (key (⟨0,0,wh,b,how,tu,v0,v0⟩,G1) ⟨ff,fG1,fun h=>absurd hL h⟩).sub ?_
   exact Sub.trans (XX 0 rfl) (Sub.trans (XX 1 rfl) (Sub.trans (ZV 15 _ (by show 15<26; omega) (Zo (wF _))) (Sub.trans (Ef 2 _ rfl rfl (wf _)) (Sub.trans (XX 2 rfl) (XE (m:=3) (Nat.zero_le _) rfl (by simp [AS.put,Xf,XH,I,hL]) (by simp [AS.put,Xq]) (by simp [XG,XJ,Xd,Xm,X3,I,sg]) (by simp [XA,bL,bF]) (by simp [XA]) (by simp [bA,bB,bf]))))))
  ·have cW:=ZW wh L.length hw (by omega)
   have bW:=Kh wh L.length (by omega)
   obtain ⟨x,hx⟩:∃ x:Nat,J5 wh L.length=x:=⟨(J5 wh L.length).toNat,by omega⟩
   rw [hx] at cW bW
   have hmem:L.getD x fv0∈L:=QS (by omega)
   obtain ⟨s1,s2,s3⟩:=hsm _ hmem
   have v1:=fF L x
   have v2:=rU L x
   have ff:=hF.fine _ hmem
   have fs:=hF.self _ hmem
   have fo:=hF.ok _ hmem
   generalize L.getD x fv0=f at *
   obtain ⟨G1,cG1,fG1⟩:=VW f (by omega) (by omega) (by omega) how b hh hb
   simp (disch:=omega) only [XH,↓Xu,wG,seval]
   refine X0 cW rfl ?_
   simp (disch:=omega) only [v1,v2,XH,Jz,XJ,List.cons_append,List.nil_append,↓Xu,wG,seval]
   refine X0 cG1 rfl ?_
   simp (maxSteps:=999999) (disch:=omega) only [Jz,XJ,List.cons_append,List.nil_append,↓Xu,wG,seval]
   have wF:Weak (.sl 2 58 (Xn (XJ f ++ (XJ G1 ++ []))) true) (G8 [f,G1]):=Ob (L:=[f,G1]) (XZ _) rfl rfl (Nat.succ_pos _)
   have bF:JO 3 (G8 [f,G1])=True:=eq_true (X5 (Kb _))
   have bf:XI 3 (.con 0 29 (Xn (XJ f)))=True:=eq_true (fun j _=>X5 (Xb (XN _) _))
   refine (key (f,G1) ⟨ff,fG1,fun _=>⟨fo,fs⟩⟩).sub ?_
   exact Sub.trans (XX 0 rfl) (Sub.trans (XX 1 rfl) (Sub.trans (ZV 15 _ (by show 15<26; omega) (Zo wF)) (Sub.trans (XX 2 rfl) (XE (m:=3) (Nat.zero_le _) rfl (by simp [AS.put,Xf,XH,I]) (by simp [AS.put,Xq]) (by simp [XG,XJ,Xd,Xm,X3,I,sg]) (by simp [XA,bL,bF]) (by simp [XA]) (by simp [bA,bB,bf])))))
 rintro ⟨F,F1⟩ ⟨f0,f1,hQ⟩
 simp only at f0 f1 hQ ⊢
 have hfs:∀ j,j<2→FV.fine ([F,F1].getD j fv0):=fun j hj=>by
  match j,hj with
  | 0,_=>exact f0
  | 1,_=>exact f1
  | j+2,h=>omega
 have lT:[F,F1].length=2:=rfl
 have bF:XI 3 (.con 0 29 (Xn (XJ F)))=True:=eq_true (fun j _=>X5 (Xb (XN _) _))
 clear f1
 generalize [F,F1]=T at *
 have bT:JO 3 (G8 T)=True:=eq_true (X5 (Kb T))
 refine Xe (fun i:Nat=>⟨26,[],[.any,.any,.any,.any,.any,.any,.any,.any,.any,.any,.any,.ref 0 0 0,.ref 1 0 0,G8 L,.ref 2 0 0,G8 T,I i,.any,.any,.any,.any,.any,.any,.any,.any,.any],[],[.con 0 25 (Xn (XG A)),.con 0 25 (Xn (XG B)),.con 0 29 (Xn (XJ F))]⟩) (fun i=>i≤2) (fun i=>2 - i) 0 (by omega)
  (Jm (by simp [Xf,I]) rfl) ?_
 intro i hi next
 by_cases hi2:i<2
 ·have hg:=hfs i hi2
  have z1:=fF T i
  have z2:=rU T i
  generalize T.getD i fv0=g at *
  obtain ⟨c1,c2⟩:=Hd A B g gA gB hg pA.2 pB.2
  have hr:(KZ A B g (tb+ta)).1.fine:=Nl gA gB hg
  generalize KZ A B g (tb+ta)=R at *
  obtain ⟨R,ok⟩:=R
  simp only at c1 c2 hr
  have c3:=LU R R hr hr
  rw [decide_eq_true rfl] at c3
  have bne:(ok != ok)=false:=by simp
  refine Xl ?_
  simp (disch:=omega) only [z1,z2,lT,XH,XJ,↓Xu,wG,seval]
  refine X0 c1 rfl ?_
  simp (disch:=omega) only [z1,z2,lT,XH,Jz,XJ,List.cons_append,List.nil_append,↓Xu,wG,seval]
  refine X0 c2 rfl ?_
  simp (disch:=omega) only [bne,XJ,Jz,List.cons_append,List.nil_append,↓Xu,wG,seval]
  refine X0 c3 rfl ?_
  simp (disch:=omega) only [↓Xu,wG,seval]
  exact next (i+1) _ (by omega) (by omega) (dK (m:=3) (by simp [Xf,XH,lT,I]) (by simp [XG,XJ,Xd,Xm,X3,I,sg]) (by simp [XA,bL,bT]) (by simp [bA,bB,bF]))
 clear next
 obtain rfl:i=2:=by omega
 obtain ⟨c1,_⟩:=Hd A B F gA gB f0 pA.2 pB.2
 have hr:(KZ A B F (tb+ta)).1.fine:=Nl gA gB f0
 have cB:=Es B A (KZ A B F (tb+ta)).1 gB gA hr
 obtain ⟨cR,_⟩:=Hd B A (KZ A B F (tb+ta)).1 gB gA hr pB.2 pA.2
 have hk:L.length≠0→((F.turn.x=0∨F.turn.y=0)→(KZ A B F (tb+ta)).2=true∧Zv B A (KZ A B F (tb+ta)).1 (tb+ta)=0)∧((KZ A B F (tb+ta)).2=true→KZ B A (KZ A B F (tb+ta)).1 (ta+tb)=(F,true)):=fun h=>by
  obtain ⟨h1,h2⟩:=hQ h
  rw [Rat.add_comm tb ta]
  refine ⟨fun hq=>?_,fun hok=>?_⟩
  ·obtain ⟨g1,g2,_,⟨g3,_⟩,_⟩:=(C4 A B F (ta+tb)).1 h1
   obtain ⟨_,ht,_⟩:=IU g3
   obtain ⟨k1,k2⟩:=Um (V9 ht hq) h1
   unfold KZ
   rw [if_pos g1,if_pos k1]
   exact ⟨rfl,k2⟩
  ·rcases aN h1 h2 with h | h
   ·exact h
   ·rw [h] at hok; cases hok
 generalize KZ A B F (tb+ta)=G at *
 obtain ⟨G,ok⟩:=G
 simp only at c1 hr cB cR hk
 have cX:=Ks F.turn.x
 have cY:=Ks F.turn.y
 have eX:=jT F.turn.x
 have eY:=jT F.turn.y
 generalize F.turn.x.num.sign=sx at *
 generalize F.turn.y.num.sign=sy at *
 have cS:=im F F f0 f0
 rw [decide_eq_true rfl] at cS
 by_cases hL:L.length=0
 ·by_cases hx:sx=0
  ·refine Xl ?_
   simp (disch:=omega) only [XH,XJ,↓Xu,wG,seval]
   refine X0 c1 rfl ?_
   simp (disch:=omega) only [Jz,XJ,List.cons_append,List.nil_append,↓Xu,wG,seval]
   refine X0 cX rfl ?_
   simp (disch:=omega) only [hx,hL,XJ,↓Xu,wG,seval]
   refine X0 AA rfl ?_
   simp (disch:=omega) only [↓Xu,wG,seval]
   exact Xt rfl rfl (X2 _) rfl
  ·refine Xl ?_
   simp (disch:=omega) only [XH,XJ,↓Xu,wG,seval]
   refine X0 c1 rfl ?_
   simp (disch:=omega) only [Jz,XJ,List.cons_append,List.nil_append,↓Xu,wG,seval]
   refine X0 cX rfl ?_
   simp (disch:=omega) only [eq_false hx,XJ,↓Xu,wG,seval]
   refine X0 cY rfl ?_
   simp (disch:=omega) only [hL,XJ,↓Xu,wG,seval]
   refine X0 AA rfl ?_
   simp (disch:=omega) only [↓Xu,wG,seval]
   exact Xt rfl rfl (X2 _) rfl
 obtain ⟨hk1,hk2⟩:=hk hL
 have nL:((L.length:Int)=0)=False:=eq_false (by omega)
 by_cases hx:sx=0
 ·obtain ⟨rfl,hc⟩:=hk1 (.inl (eX.1 hx))
  rw [hk2 rfl] at cR
  rw [hc] at cB
  refine Xl ?_
  simp (disch:=omega) only [XH,XJ,↓Xu,wG,seval]
  refine X0 c1 rfl ?_
  simp (disch:=omega) only [Jz,XJ,List.cons_append,List.nil_append,↓Xu,wG,seval]
  refine X0 cX rfl ?_
  simp (disch:=omega) only [hx,XJ,↓Xu,wG,seval]
  refine X0 cB rfl ?_
  simp (disch:=omega) only [XJ,↓Xu,wG,seval]
  refine X0 cR rfl ?_
  simp (disch:=omega) only [Jz,XJ,List.cons_append,List.nil_append,↓Xu,wG,seval]
  refine X0 cS rfl ?_
  simp (disch:=omega) only [↓Xu,wG,seval]
  refine X0 AA rfl ?_
  simp (disch:=omega) only [↓Xu,wG,seval]
  exact Xt rfl rfl (X2 _) rfl
 by_cases hy:sy=0
 ·obtain ⟨rfl,hc⟩:=hk1 (.inr (eY.1 hy))
  rw [hk2 rfl] at cR
  rw [hc] at cB
  refine Xl ?_
  simp (disch:=omega) only [XH,XJ,↓Xu,wG,seval]
  refine X0 c1 rfl ?_
  simp (disch:=omega) only [Jz,XJ,List.cons_append,List.nil_append,↓Xu,wG,seval]
  refine X0 cX rfl ?_
  simp (disch:=omega) only [eq_false hx,XJ,↓Xu,wG,seval]
  refine X0 cY rfl ?_
  simp (disch:=omega) only [hy,XJ,↓Xu,wG,seval]
  refine X0 cB rfl ?_
  simp (disch:=omega) only [XJ,↓Xu,wG,seval]
  refine X0 cR rfl ?_
  simp (disch:=omega) only [Jz,XJ,List.cons_append,List.nil_append,↓Xu,wG,seval]
  refine X0 cS rfl ?_
  simp (disch:=omega) only [↓Xu,wG,seval]
  refine X0 AA rfl ?_
  simp (disch:=omega) only [↓Xu,wG,seval]
  exact Xt rfl rfl (X2 _) rfl
 cases ok
 ·refine Xl ?_
  simp (disch:=omega) only [XH,XJ,↓Xu,wG,seval]
  refine X0 c1 rfl ?_
  simp (disch:=omega) only [Jz,XJ,List.cons_append,List.nil_append,↓Xu,wG,seval]
  refine X0 cX rfl ?_
  simp (disch:=omega) only [eq_false hx,XJ,↓Xu,wG,seval]
  refine X0 cY rfl ?_
  simp (disch:=omega) only [eq_false hy,XJ,↓Xu,wG,seval]
  refine X0 AA rfl ?_
  simp (disch:=omega) only [↓Xu,wG,seval]
  exact Xt rfl rfl (X2 _) rfl
 ·rw [hk2 rfl] at cR
  refine Xl ?_
  simp (disch:=omega) only [XH,XJ,↓Xu,wG,seval]
  refine X0 c1 rfl ?_
  simp (disch:=omega) only [Jz,XJ,List.cons_append,List.nil_append,↓Xu,wG,seval]
  refine X0 cX rfl ?_
  simp (disch:=omega) only [eq_false hx,XJ,↓Xu,wG,seval]
  refine X0 cY rfl ?_
  simp (disch:=omega) only [eq_false hy,XJ,↓Xu,wG,seval]
  refine X0 cR rfl ?_
  simp (disch:=omega) only [Jz,XJ,List.cons_append,List.nil_append,↓Xu,wG,seval]
  refine X0 cS rfl ?_
  simp (disch:=omega) only [↓Xu,wG,seval]
  refine X0 AA rfl ?_
  simp (disch:=omega) only [↓Xu,wG,seval]
  exact Xt rfl rfl (X2 _) rfl
end
end Go.Ab.N
