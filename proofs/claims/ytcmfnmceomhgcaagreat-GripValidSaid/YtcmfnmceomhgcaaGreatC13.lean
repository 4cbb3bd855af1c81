/- Contracts of functions, for every argument that fits. -/
import Derived.Test.YtcmfnmceomhgcaaGreatC12
set_option linter.unusedSimpArgs false
set_option linter.unusedVariables false
namespace Go.Ab.N
open Go Go.RowKit Go.Proofs
noncomputable section
set_option maxRecDepth 10000
set_option maxHeartbeats 4000000
open Classical
def KD (b:BB)(l:List GG):Nat→GG×Rat
 |0=>(gZ,-1)
 |k+1=>if(KD b l k).2<Iz b (l.getD k gZ)then(l.getD k gZ,Iz b (l.getD k gZ))else KD b l k
def fP (b:BB)(l:List GG):GG×Rat×Int:=if(KD b l l.length).2<0 then(gZ,0,6)else((KD b l l.length).1,(KD b l l.length).2,0)
def Rg (L:List V2)(b:BB)(f r:Rat):GG×Rat×Int:=if Am L∧B7 b=true∧Bb f r=true then fP b (LH L f r)else(gZ,0,1)
def sw (x:GG×Rat×Int):AV:=.tup [gA x.1,qA x.2.1,I x.2.2]
def zg (t:Bool):List AV:=zC t ++ zC t ++ zC t ++ [.bool false,.sl 0 0 (fun _=>.any) t,.bool false,.sl 0 0 (fun _=>.any) t] ++ [.bool false,.sl 0 0 (fun _=>.any) t,.bool false,.sl 0 0 (fun _=>.any) t]
def mg (t:Bool):List AV:=[.bool false,.sl 0 0 (fun _=>.any) t,.bool false,.sl 0 0 (fun _=>.any) t]
theorem IR (t:Bool):WeakL (zg t) (gC gZ):=by
 obtain⟨q1,q2,q3,q4,_⟩:=Zr t;exact⟨q1,q2,q3,q4,q1,q2,q3,q4,q1,q2,q3,q4,q1,q2,q3,q4,q1,q2,q3,q4,q1,q2,q3,q4,q1,q2,q3,q4,q1,q2,q3,q4,trivial⟩
theorem Li {b:BB}{l:List GG}(h:∀i,i<l.length→∃p q,Mg b (l.getD i gZ) p q):∀k,k≤l.length→qb (KD b l k).2≤rm
 |0,_=>by unfold rm;show qb (-1)≤_;exact Nat.le_trans (by decide +kernel:qb (-1)≤10) (by omega)
 |k+1,hk=>by
  have ih:=Li h k (by omega);obtain⟨p,q,hm⟩:=h k (by omega);have:=hm.z.2.2.2.2;unfold rm at *;show qb (if(KD b l k).2<Iz b (l.getD k gZ)then(l.getD k gZ,Iz b (l.getD k gZ))else KD b l k).2≤_
  split
  ·show qb (Iz b (l.getD k gZ))≤_;omega
  ·exact ih
theorem iQ (L:List V2)(b:BB)(f r:Rat)(h:Qp L 7)(hl:L.length≤12)(hb:bS b)(hf:qb f≤40)(hr:qb r≤40):Fn Tryz.prog 42 [Q6 L,bA b,qA f,qA r] (sw (Rg L b f r)):=by
 have c1:=EV L (fun i=>Nat.le_trans (h i) (by omega)) (by omega);have c2:=LO b hb.ok;have c3:=LR f r (by unfold rm;omega) (by unfold rm;omega);have c4:=LP L f r h (by omega) (by omega) hf hr;have c5:=Cy (-1) 1 ⟨by omega,by omega⟩ ⟨by omega,by omega⟩;obtain⟨R,hR⟩:∃R,R=Rg L b f r:=⟨_,rfl⟩
 rw[←hR];have fk:=Iw L h f r;unfold Kc at c4 fk;rw[CX]at c4 fk;unfold Rg at hR;have bad:∀ (s:AS) (c:Int),s.get 8=.ref 3 0 0→s.get 9=.ref 4 0 0→s.get 10=I c→s.h[3]?=some (.row 0 32 (Xg (zg false)))→s.h[4]?=some (.row 0 4 (Xg [.bool false,.sl 0 0 (fun _=>.any) false,.bool false,.sl 0 0 (fun _=>.any) false]))→R=(gZ,0,c)→RetOk (Jv Tryz.prog Tryz.f42 [11000000000001,11000000000002,15000000000001,15000000000002] [] (sw R)) s:=by
  intro s c e1 e2 e3 e4 e5 e6;unfold sw;rw[e6];exact DB (r1:=.cell 8 32) (r2:=.cell 9 28) (r3:=.tmp 10) rfl (Xt Bc e1 e4 rfl) (Xt XT e2 e5 rfl) (congrArg some e3) (Xs (QE _) (ZS (IR _))) (Xs (Xb _) (ZS (Zr _))) (Qa (Xa _) rfl)
 refine Fq Tryz.call42 Tryz.func42 18 [38,39,40] [11000000000001,11000000000002,15000000000001,15000000000002] [] (by simp[Xn,Xb,AL]) (Xl ?_);simp(disch:=omega)only[AS.start,X4,bA,JL,qA,qC,↓Xd,wG,seval];refine X0 c1 ⟨by rw[X4];exact Weak.rfl' _,trivial⟩ ?_;simp(disch:=omega)only[↓Xd,wG,seval];refine⟨fun hp=>bad _ 1 rfl rfl rfl rfl rfl (by rw[hR,if_neg fun h=>hp h.1]),fun hp=>?_⟩;refine X0 c2 ⟨by rw[bA,JL];exact Weak.rfl' _,trivial⟩ ?_;simp(disch:=omega)only[↓Xd,wG,seval];refine⟨fun hp2=>bad _ 1 rfl rfl rfl rfl rfl (by rw[hR,if_neg fun h=>by rw[h.2.1]at hp2;exact absurd hp2 (by simp)]),fun hp2=>?_⟩;have hp2:B7 b=true:=by simpa using hp2
 refine X0 c3 (X2 _) ?_;simp(disch:=omega)only[↓Xd,wG,seval];refine⟨fun hp3=>bad _ 1 rfl rfl rfl rfl rfl (by rw[hR,if_neg fun h=>by rw[h.2.2]at hp3;exact absurd hp3 (by simp)]),fun hp3=>?_⟩;have hp3:Bb f r=true:=by simpa using hp3
 rw[if_pos ⟨hp,hp3⟩]at c4 fk;rw[if_pos ⟨hp,hp2,hp3⟩]at hR;have hGl:(LH L f r).length≤1000:=by
  have:=CN L f r L.length;have g3:L.length*L.length≤12*12:=Nat.mul_le_mul hl hl;unfold LH;omega
 generalize LH L f r=G at *;have hG:∀g∈G,gS g∧Kh g=true:=fun g hg=>by
  obtain⟨k1,k2,k3,k4,k5,k6⟩:=fk g hg;refine⟨⟨by omega,by omega,by omega,by rw[k5];exact hf,by rw[k6];exact hr⟩,?_⟩;unfold Kh;rw[k5,k6,hp3,Bool.true_and,decide_eq_true_eq];rw[Gh];exact k4
 have bP0:∀q,Jo q (bP b)=True:=fun q=>eq_true (X7 (XN fun j _=>Xe (C4 b) j))
 have bV:∀q,Jo q (Nh G)=True:=fun q=>eq_true (X7 (Z9 G))
 have bO:∀q i,Qo q (.con i 20 (Xg (bC b)))=True:=fun q i=>eq_true fun j _=>X7 (Xe (C4 b) j)
 have bQ:∀q i x,Qo q (.row i 4 (Xg (qC x)))=True:=fun q i x=>eq_true fun j _=>X7 (Xe (Jn x) j)
 have bR:∀q i g,Qo q (.row i 32 (Xg (gC g)))=True:=fun q i g=>eq_true fun j _=>X7 (Xe (Ka _) _)
 have bZ:∀q i,Qo q (.row i 32 (Xg (zg true)))=True:=fun q i=>eq_true fun j _=>X7 (Xe (by simp[zg,zC,X5,Zb]) j)
 have bZ4:∀q i,Qo q (.row i 4 (Xg (mg true)))=True:=fun q i=>eq_true fun j _=>X7 (Xe (by simp[mg,X5,Zb]) j)
 refine X0 c5 (X2 _) ?_;simp(disch:=omega)only[qA,qC,↓Xd,wG,seval];refine X0 c4 ⟨by rw[X4];exact Weak.rfl' _,Weak.rfl' _,Weak.rfl' _,trivial⟩ ?_;simp(disch:=omega)only[XC,↓Xd,wG,seval];refine Run.sub ?_ (Q0 0 rfl);refine Run.sub ?_ (Q5 5 rfl rfl (by omega));have hG2:∀i,i<G.length→∃p q,Mg b (G.getD i gZ) p q:=fun i hi=>by
  obtain⟨g1,g2⟩:=hG _ (QC gZ hi);exact Wf b _ hb g1 hp2 g2
 refine Run.sub ?_ (Tf 5 (gC gZ) rfl rfl (IR true));have dG:AV.sl G.length (G.length*32) (XA gC 32 gZ G) false=Nh G:=(XC G).symm;rw[dG];refine Xj (fun i:Nat=>⟨18,[38,39,40],[.any,.any,.any,.any,.any,bP b,.any,.any,.ref 3 0 0,.ref 4 0 0,I 0,.ref 5 0 0,.ref 6 0 0,.any,.any,.any,.any,.any],[(38,Nh G),(39,I G.length),(40,I i)],[.con 0 20 (Xg (bC b)),.row 0 4 (Xg (qC f)),.row 0 4 (Xg (qC r)),.row 0 32 (Xg (zg true)),.row 0 4 (Xg (mg true)),.row 0 32 (Xg (gC (KD b G i).1)),.row 0 4 (Xg (qC (KD b G i).2))]⟩) (fun i=>i≤G.length) (fun i=>G.length-i) 0 (by omega)
  (Xi rfl ⟨.inl rfl,.inl rfl,.inl rfl,.inl rfl,.inl rfl,.inr rfl,.inl rfl,.inl rfl,.inr rfl,.inr rfl,.inr rfl,.inr rfl,.inr rfl,.inl rfl,.inl rfl,.inl rfl,.inl rfl,.inl rfl,trivial⟩ (by simp[AS.put,Xy,Xz,I]) rfl) ?_
 intro i hi next
 have w1:=wj i (by omega);by_cases hi2:i<G.length
 rotate_left
 ·obtain rfl:i=G.length:=by omega
  unfold fP at hR;have hz:qb (KD b G G.length).2≤rm:=Li hG2 _ (Nat.le_refl _);have cs:=Qj (KD b G G.length).2;have sg1:=Bx (KD b G G.length).2;obtain⟨p,hp⟩:∃p,p=KD b G G.length:=⟨_,rfl⟩
  rw[←hp]at cs sg1 hR hz;rw[←hp];obtain⟨g,m⟩:=p;simp only at cs sg1 hR hz;refine XL 19 ?_;simp(disch:=omega)only[XC,↓Xd,wG,seval];refine X0 cs (X2 _) ?_;simp(disch:=omega)only[sg1,↓Xd,wG,seval];refine⟨fun hm=>?_,fun hm=>?_⟩
  ·rw[if_pos hm]at hR
   refine Xl ?_;simp(disch:=omega)only[zg,zC,mg,List.cons_append,List.nil_append,↓Xd,wG,seval];exact bad _ 6 rfl rfl rfl rfl rfl hR
  ·rw[if_neg hm]at hR
   rw[hR];refine XL 2 ?_;simp(disch:=omega)only[↓Xd,wG,seval];show Run _ (_ :: _) _;refine AH (fun x=>x=6) ?_;obtain⟨A,hA⟩:∃A:AO,A=.con 0 20 (Xg (bC b)):=⟨_,rfl⟩
   obtain⟨B,hB⟩:∃B:AO,B=.row 0 4 (Xg (qC f)):=⟨_,rfl⟩
   obtain⟨C,hC⟩:∃C:AO,C=.row 0 4 (Xg (qC r)):=⟨_,rfl⟩
   have l0:=KL (P:=Tryz.prog) (T:=32) (id:=5) (Z:=gC g) (H:=[A,B,C,.row 0 32 (Xg (zg true)),.row 0 4 (Xg (mg true)),.row 0 32 (Xg (gC g)),.row 0 4 (Xg (qC m))]) Bc rfl rfl;have l1:=KL (P:=Tryz.prog) (T:=28) (id:=6) (Z:=qC m) (H:=[A,B,C,.row 0 32 (Xg (zg true)),.row 0 4 (Xg (mg true)),.row 0 32 (Xg (gC g)),.row 0 4 (Xg (qC m))]) XT rfl rfl;have l2:=K3 (P:=Tryz.prog) (T:=32) (id:=3) (Z:=zg true) (W:=gC g) (H:=[A,B,C,.row 0 32 (Xg (zg true)),.row 0 4 (Xg (mg true)),.row 0 32 (Xg (gC g)),.row 0 4 (Xg (qC m))]) PF rfl rfl rfl (by decide) rfl;have l3:=K3 (P:=Tryz.prog) (T:=28) (id:=4) (Z:=mg true) (W:=qC m) (H:=[A,B,C,.row 0 32 (Xg (gC g)),.row 0 4 (Xg (mg true)),.row 0 32 (Xg (gC g)),.row 0 4 (Xg (qC m))]) PE rfl rfl rfl (by decide) rfl;rw[hA,hB,hC]at l0 l1 l2 l3;show ∃s',AExecT _ _ _ _ _ _ _ _ _ _ s'∧_;refine⟨_,⟨In rfl,_,Qt rfl rfl rfl rfl (congrArg (Option.map fun w=>(w,_)) l0),uV rfl rfl (fun o' va off e=>by cases e;rfl),_,Qt rfl rfl rfl rfl (congrArg (Option.map fun w=>(w,_)) l1),
    wn rfl rfl (fun o' va off e=>by cases e;decide),_,Qt rfl rfl rfl rfl (congrArg (Option.map fun w=>(XM,w)) l2),In rfl,_,Qt rfl rfl rfl rfl (congrArg (Option.map fun w=>(XM,w)) l3),In rfl,_,Qt (v:=I 0) (h':=[.con 0 20 (Xg (bC b)),.row 0 4 (Xg (qC f)),.row 0 4 (Xg (qC r)),.row 0 32 (Xg (gC g)),.row 0 4 (Xg (qC m)),.row 0 32 (Xg (gC g)),.row 0 4 (Xg (qC m))]) rfl rfl rfl rfl rfl,rfl⟩,?fin⟩
   refine Run.sub (s':=⟨18,[38,39,40],[.any,.any,.any,.any,.any,.any,.any,.any,.ref 3 0 0,.ref 4 0 0,I 0,.any,.any,.any,.any,.any,.any,.any],[],[A,B,C,.row 0 32 (Xg (gC g)),.row 0 4 (Xg (qC m)),.row 0 32 (Xg (gC g)),.row 0 4 (Xg (qC m))]⟩) ?_ (Xi rfl ⟨.inl rfl,.inl rfl,.inl rfl,.inl rfl,.inl rfl,.inl rfl,.inl rfl,.inl rfl,.inr rfl,.inr rfl,.inr rfl,.inl rfl,.inl rfl,.inl rfl,.inl rfl,.inl rfl,.inl rfl,.inl rfl,trivial⟩ trivial (by rw[hA,hB,hC];rfl));refine Xl ?_;simp(disch:=omega)only[↓Xd,wG,seval];exact DB (r1:=.cell 8 32) (r2:=.cell 9 28) (r3:=.tmp 10) rfl (Xt Bc rfl rfl rfl) (Xt XT rfl rfl rfl) rfl (Qa (QE _) rfl) (Qa (Xb _) rfl) (Qa (Xa _) rfl)
 have nx:=next (i+1)
 rw[show KD b G (i+1)=if(KD b G i).2<Iz b (G.getD i gZ)then(G.getD i gZ,Iz b (G.getD i gZ))else KD b G i from rfl]at nx;obtain⟨p,q,hm⟩:=hG2 i hi2;have l0:=Km gC 32 gZ G i (by omega);have l1:=JK gC 32 gZ G i;have hz:qb (KD b G i).2≤rm:=Li hG2 _ hi;generalize G.getD i gZ=g at *;have hz2:=hm.z.2.2.2.2;have cm:=hm.fn;have cc:=QZ (Iz b g) (KD b G i).2 (by unfold rm;omega) hz;have f1:(i<G.length)=True:=eq_true hi2;clear hm c1 c2 c3 c4 c5 hR hG hG2 fk next bad
 generalize Iz b g=m at *;obtain⟨h0,hh0⟩:∃h0,h0=(KD b G i).1:=⟨_,rfl⟩
 obtain⟨m0,hm0⟩:∃m0,m0=(KD b G i).2:=⟨_,rfl⟩
 rw[←hm0]at cc nx hz;rw[←hh0,←hm0];refine XL 66 ?_;simp(disch:=omega)only[XC,w1,f1,l0,l1,bP,JL,QJ,↓Xd,wG,seval];refine X0 cm ⟨by rw[bA,JL];exact Weak.rfl' _,by rw[gA,QJ];exact Weak.rfl' _,trivial⟩ ?_;simp(disch:=omega)only[qA,qC,↓Xd,wG,seval];refine X0 cc (X2 _) ?_;simp(disch:=omega)only[Bs,↓Xd,wG,seval];refine⟨fun hc=>?_,fun hc=>?_⟩
 rotate_left
 ·rw[if_neg hc]at nx
  refine Xl ?_;simp(disch:=omega)only[XC,↓Xd,wG,seval];exact nx _ (by omega) (by omega) (XQ (m:=7) (Nat.zero_le _) rfl ⟨.inl rfl,.inl rfl,.inl rfl,.inl rfl,.inl rfl,.inr rfl,.inl rfl,.inl rfl,.inr rfl,.inr rfl,.inr rfl,.inr rfl,.inr rfl,.inl rfl,.inl rfl,.inl rfl,.inl rfl,.inl rfl,trivial⟩ (by simp[Xy,Xz,XC,I]) (by rw[hh0,hm0,JL];rfl) (by simp[XO,bV,bP0]) (by simp[XO,bV]) (by simp[bO,bR,bQ,bZ,bZ4]))
 ·rw[if_pos hc]at nx
  show Run _ (_ :: _) _;refine AH (fun x=>x=8) ?_;obtain⟨A,hA⟩:∃A:AO,A=.con 0 20 (Xg (bC b)):=⟨_,rfl⟩
  obtain⟨B,hB⟩:∃B:AO,B=.row 0 4 (Xg (qC f)):=⟨_,rfl⟩
  obtain⟨C,hC⟩:∃C:AO,C=.row 0 4 (Xg (qC r)):=⟨_,rfl⟩
  obtain⟨D,hD⟩:∃D:AO,D=.row 0 32 (Xg (zg true)):=⟨_,rfl⟩
  obtain⟨E,hE⟩:∃E:AO,E=.row 0 4 (Xg (mg true)):=⟨_,rfl⟩
  have l0:=KL (P:=Tryz.prog) (T:=32) (id:=7) (Z:=gC g) (H:=[A,B,C,D,E,.row 0 32 (Xg (gC h0)),.row 0 4 (Xg (qC m0)),.row 0 32 (Xg (gC g)),.row 0 4 (Xg (qC m))]) Bc rfl rfl;have l1:=KL (P:=Tryz.prog) (T:=28) (id:=8) (Z:=qC m) (H:=[A,B,C,D,E,.row 0 32 (Xg (gC h0)),.row 0 4 (Xg (qC m0)),.row 0 32 (Xg (gC g)),.row 0 4 (Xg (qC m))]) XT rfl rfl;have l2:=K3 (P:=Tryz.prog) (T:=32) (id:=5) (Z:=gC h0) (W:=gC g) (H:=[A,B,C,D,E,.row 0 32 (Xg (gC h0)),.row 0 4 (Xg (qC m0)),.row 0 32 (Xg (gC g)),.row 0 4 (Xg (qC m))]) PF rfl rfl rfl (by decide) rfl;have l3:=K3 (P:=Tryz.prog) (T:=28) (id:=6) (Z:=qC m0) (W:=qC m) (H:=[A,B,C,D,E,.row 0 32 (Xg (gC g)),.row 0 4 (Xg (qC m0)),.row 0 32 (Xg (gC g)),.row 0 4 (Xg (qC m))]) PE rfl rfl rfl (by decide) rfl;rw[hA,hB,hC,hD,hE]at l0 l1 l2 l3;show ∃s',AExecT _ _ _ _ _ _ _ _ _ _ s'∧_;refine⟨_,⟨In rfl,_,Qt rfl rfl rfl rfl (congrArg (Option.map fun w=>(w,_)) l0),uV rfl rfl (fun o' va off e=>by cases e;rfl),_,Qt rfl rfl rfl rfl (congrArg (Option.map fun w=>(w,_)) l1),
   wn rfl rfl (fun o' va off e=>by cases e;decide),_,Qt rfl rfl rfl rfl (congrArg (Option.map fun w=>(XM,w)) l2),In rfl,_,Qt rfl rfl rfl rfl (congrArg (Option.map fun w=>(XM,w)) l3),rfl⟩,?fin2⟩
  refine Run.sub (s':=⟨18,[38,39,40],[.any,.any,.any,.any,.any,bP b,.any,.any,.ref 3 0 0,.ref 4 0 0,I 0,.ref 5 0 0,.ref 6 0 0,.any,.any,.any,.any,.any],[(38,Nh G),(39,I G.length),(40,I i)],[A,B,C,D,E,.row 0 32 (Xg (gC g)),.row 0 4 (Xg (qC m)),.row 0 32 (Xg (gC g)),.row 0 4 (Xg (qC m))]⟩) ?_ (Xi rfl ⟨.inl rfl,.inl rfl,.inl rfl,.inl rfl,.inl rfl,.inr rfl,.inl rfl,.inl rfl,.inr rfl,.inr rfl,.inr rfl,.inr rfl,.inr rfl,.inl rfl,.inl rfl,.inl rfl,.inl rfl,.inl rfl,trivial⟩ ⟨.inr rfl,.inr rfl,.inr rfl,trivial⟩ (by rw[hA,hB,hC,hD,hE];rfl));refine Xl ?_;simp(disch:=omega)only[XC,↓Xd,wG,seval];exact nx _ (by omega) (by omega) (XQ (m:=7) (Nat.zero_le _) rfl (by simp[XC,Xm,I]) (by simp[Xy,Xz,XC,I]) (by rw[hA,hB,hC,hD,hE];rfl) (by simp[XO,bV,bP0]) (by simp[XO,bV]) (by simp[hA,hB,hC,hD,hE,bO,bR,bQ,bZ,bZ4]))
theorem EL {α:Type}(d:α):∀ {A B:List α},A.length=B.length→(∀j,j<A.length→A.getD j d=B.getD j d)→A=B
 | [],[],_,_=>rfl
 |a :: A,b :: B,hl,h=>by
  have h0:=h 0 (by simp);rw[show a=b from h0,EL d (A:=A) (B:=B) (by simpa using hl) fun j hj=>h (j+1) (by simpa using hj)]
theorem I8 (A B:List V2)(hA:∀i,vb (A.getD i v0)≤vm) (hB:∀i,vb (B.getD i v0)≤vm) (la:A.length<1000000) (lb:B.length<1000000):Fn Tryz.prog 115 [Q6 A,Q6 B] (.bool (decide (A=B))):=by
 obtain⟨V,hV⟩:∃V,V=decide (A=B):=⟨_,rfl⟩
 rw[←hV];refine Fn.intro (fn:=Tryz.f115) Tryz.call115 Tryz.func115 rfl mixed 6 [] [] [] (by kernel_rfl) (Nat.le_of_ble_eq_true rfl) (Kd (Xn A) (Xn B)) (Xl ?_);by_cases hl:A.length=B.length
 rotate_left
 ·have f1:((A.length:Int)=B.length)=False:=eq_false (by omega)
  have f2:(A.length=B.length)=False:=eq_false hl;simp(disch:=omega)only[AS.start,X4,f1,f2,↓Xd,wG,seval];exact Xk (v:=.bool false) rfl rfl (X5 _) (by rw[hV,decide_eq_false fun e=>hl (by rw[e])])
 have f1:(A.length=B.length)=True:=eq_true hl;simp(disch:=omega)only[AS.start,X4,f1,↓Xd,wG,seval];refine Xj (fun i:Nat=>⟨6,[],[Q6 A,Q6 B,.any,.any,.any,I i],[],[]⟩) (fun i=>i≤A.length∧∀j,j<i→A.getD j v0=B.getD j v0) (fun i=>A.length-i) 0 ⟨by omega,by omega⟩
  (Xi rfl (by simp[Xm,I,X4]) trivial rfl) ?_
 rintro i ⟨hi,hs⟩ next
 have w1:=wj i (by omega);by_cases hi2:i<A.length
 ·have v1:=vF A i
  have v2:=vF B i;have c1:=FN (A.getD i v0) (B.getD i v0) (hA i) (hB i);have f2:(i<A.length)=True:=eq_true hi2;have f3:(i<B.length)=True:=eq_true (by omega);obtain⟨x,hx⟩:∃x,x=A.getD i v0:=⟨_,rfl⟩
  obtain⟨y,hy⟩:∃y,y=B.getD i v0:=⟨_,rfl⟩
  rw[←hx]at v1 c1;rw[←hy]at v2 c1;refine Xl ?_;simp(disch:=omega)only[X4,w1,f2,f3,v1,v2,↓Xd,wG,seval];refine X0 c1 ⟨by rw[vA,vC];exact Weak.rfl' _,by rw[vA,vC];exact Weak.rfl' _,trivial⟩ ?_;simp(disch:=omega)only[X4,↓Xd,wG,seval];refine⟨fun h=>?_,fun h=>?_⟩
  ·exact Xk (v:=.bool false) rfl rfl (X5 _) (by rw[hV,decide_eq_false fun e=>h (by rw[hx,hy,e])])
  ·exact next (i+1) _ ⟨by omega,fun j hj=>by
    by_cases e:j=i
    ·rw[e,←hx,←hy];exact h
    ·exact hs j (by omega)⟩ (by omega) (Aw (by simp[Xm,I,X4]) rfl)
 ·obtain rfl:i=A.length:=by omega
  refine Xl ?_;simp(disch:=omega)only[X4,↓Xd,wG,seval];exact Xk (v:=.bool true) rfl rfl (X5 _) (by rw[hV,decide_eq_true (EL v0 hl hs)])
def gW (g:GG):Prop:=vb g.p≤10000∧vb g.q≤10000∧vb g.n≤10000∧qb g.force≤10000∧qb g.rough≤10000
theorem gS.w {g:GG}(h:gS g):gW g:=by obtain⟨h1,h2,h3,h4,h5⟩:=h;unfold gW;omega
theorem NM (a b:GG)(ha:gW a)(hb:gW b):Fn Tryz.prog 44 [gA a,gA b] (.bool (decide (a=b))):=by
 obtain⟨a1,a2,a3,a4,a5⟩:=ha;obtain⟨b1,b2,b3,b4,b5⟩:=hb;have sm:∀p q n:V2,vb p≤10000→vb q≤10000→vb n≤10000→∀i,vb ([p,q,n].getD i v0)≤vm:=fun p q n h1 h2 h3 i=>by
  unfold vm
  match i with
  |0=>show vb p≤_;omega
  |1=>show vb q≤_;omega
  |2=>show vb n≤_;omega
  |_+3=>exact Nat.le_trans Tr (by omega)
 have c1:=I8 [a.p,a.q,a.n] [b.p,b.q,b.n] (sm _ _ _ a1 a2 (by omega)) (sm _ _ _ b1 b2 (by omega)) (by simp) (by simp);have c2:=DG a.force b.force (by unfold rm;omega) (by unfold rm;omega);have c3:=DG a.rough b.rough (by unfold rm;omega) (by unfold rm;omega);have e1:decide ([a.p,a.q,a.n]=[b.p,b.q,b.n])=decide (a.p=b.p∧a.q=b.q∧a.n=b.n):=decide_eq_decide.2 (by simp);rw[e1]at c1;obtain⟨V,hV⟩:∃V,V=decide (a=b):=⟨_,rfl⟩
 have hV:V=(decide (a.p=b.p∧a.q=b.q∧a.n=b.n) && (decide (a.force=b.force) && decide (a.rough=b.rough))):=by
  rw[hV,←Bool.decide_and,←Bool.decide_and,decide_eq_decide];cases a;cases b;rw[GG.mk.injEq];constructor
  ·rintro⟨h1,h2,h3,h4,h5⟩;exact⟨⟨h1,h2,h3⟩,h4,h5⟩
  ·rintro⟨⟨h1,h2,h3⟩,h4,h5⟩;exact⟨h1,h2,h3,h4,h5⟩
 rename_i hV0;rw[←hV0];generalize decide (a.p=b.p∧a.q=b.q∧a.n=b.n)=x at *;generalize decide (a.force=b.force)=y at *;generalize decide (a.rough=b.rough)=z at *;refine Fn.intro (fn:=Tryz.f44) Tryz.call44 Tryz.func44 rfl mixed 5 [] [] [] (by kernel_rfl) (Nat.le_of_ble_eq_true rfl) (Kd (QE a) (QE b)) (Xl ?_);simp(disch:=omega)only[AS.start,gA,QJ,↓Xd,wG,seval];cases x
 ·refine X0 c1 ⟨JE vC 8 v0 (fun _=>rfl) [a.p,a.q,a.n] _ _ _ _ rfl rfl rfl,JE vC 8 v0 (fun _=>rfl) [b.p,b.q,b.n] _ _ _ _ rfl rfl rfl,trivial⟩ ?_
  simp(disch:=omega)only[↓Xd,wG,seval];exact Xk (v:=.bool false) rfl rfl (X5 _) (by rw[hV];rfl)
 ·refine X0 c1 ⟨JE vC 8 v0 (fun _=>rfl) [a.p,a.q,a.n] _ _ _ _ rfl rfl rfl,JE vC 8 v0 (fun _=>rfl) [b.p,b.q,b.n] _ _ _ _ rfl rfl rfl,trivial⟩ ?_
  cases y
  ·simp(disch:=omega)only[↓Xd,wG,seval]
   refine X0 c2 (X2 _) ?_;simp(disch:=omega)only[↓Xd,wG,seval];exact Xk (v:=.bool false) rfl rfl (X5 _) (by rw[hV];rfl)
  ·simp(disch:=omega)only[↓Xd,wG,seval]
   refine X0 c2 (X2 _) ?_;simp(disch:=omega)only[↓Xd,wG,seval];refine X0 c3 (X2 _) ?_;simp(disch:=omega)only[↓Xd,wG,seval];exact Xk (v:=.bool z) rfl rfl (X5 _) (by rw[hV];rfl)
theorem RK (a b:GG)(ha:gS a)(hb:gS b):Fn Tryz.prog 44 [gA a,gA b] (.bool (decide (a=b))):=NM a b ha.w hb.w
theorem UB (L:List V2)(f r k1 k2 k3 k4 n5:Rat)(u1 u2 u3 u4 u5 u6:V2)(B1 B6:BB)(x1 x2 y1 y2 z1 z2:Rat×Rat)
  (o1:Fn Tryz.prog 20 [I 8,I 1] (qA f)) (o2:Fn Tryz.prog 20 [I 1,I 2] (qA r))
  (o3:Fn Tryz.prog 20 [I 4,I 1] (qA k1)) (o4:Fn Tryz.prog 20 [I 3,I 2] (qA k3)) (o5:Fn Tryz.prog 20 [I 3,I 1] (qA k4)) (o6:Fn Tryz.prog 20 [I 5,I 1] (qA n5))
  (sq:Fn Tryz.prog 75 [] (Q6 L))
  (c1:Fn Tryz.prog 45 [Q6 L,qA f,qA r] (Nh [⟨u1,u2,u3,f,r⟩,⟨u4,u5,u6,f,r⟩]))
  (p1:Fn Tryz.prog 53 [I 1,I 0] (vA u1)) (p2:Fn Tryz.prog 53 [I 1,I 2] (vA u2)) (p3:Fn Tryz.prog 53 [I 0,I 2] (vA u3))
  (p4:Fn Tryz.prog 53 [I 2,I 1] (vA u4)) (p5:Fn Tryz.prog 53 [I 0,I 1] (vA u5)) (p6:Fn Tryz.prog 53 [I (-2),I 0] (vA u6))
  (b1:Fn Tryz.prog 76 [I 100] (bA B1)) (b2:Fn Tryz.prog 76 [I 6] (bA B6))
  (m1:Fn Tryz.prog 22 [bA B1,gA ⟨u1,u2,u3,f,r⟩] (.tup [qA k1,bD [x1,x2],I 0]))
  (m2:Fn Tryz.prog 22 [bA B1,gA ⟨u4,u5,u6,f,r⟩] (.tup [qA k1,bD [y1,y2],I 0]))
  (m3:Fn Tryz.prog 22 [bA B6,gA ⟨u4,u5,u6,f,r⟩] (.tup [qA k3,bD [z1,z2],I 0]))
  (cb:Fn Tryz.prog 42 [Q6 L,bA B6,qA f,qA r] (.tup [gA ⟨u1,u2,u3,f,r⟩,qA k4,I 0]))
  (s1:Fn Tryz.prog 44 [gA ⟨u1,u2,u3,f,r⟩,gA ⟨u1,u2,u3,f,r⟩] (.bool true))
  (s2:Fn Tryz.prog 44 [gA ⟨u4,u5,u6,f,r⟩,gA ⟨u4,u5,u6,f,r⟩] (.bool true))
  (q1:Fn Tryz.prog 26 [qA k1,qA k1] (.bool true)) (q3:Fn Tryz.prog 26 [qA k3,qA k3] (.bool true)) (q4:Fn Tryz.prog 26 [qA k4,qA k4] (.bool true))
  (d1:Fn Tryz.prog 29 [bA B1,gA ⟨u1,u2,u3,f,r⟩,qA k1,bD [x1,x2]] (I 0))
  (d2:Fn Tryz.prog 29 [bA B1,gA ⟨u1,u2,u3,f,r⟩,qA n5,bD [x1,x2]] (I 22))
  (v1:Fn Tryz.prog 15 [Q6 L,gA ⟨u1,u2,u3,f,r⟩] (I 0)) (v2:Fn Tryz.prog 15 [Q6 L,gA gZ] (I 1)) :
  Fn Tryz.prog 17 [] (.bool true):=by
 obtain⟨G,hG⟩:∃G:List GG,G=[⟨u1,u2,u3,f,r⟩,⟨u4,u5,u6,f,r⟩]:=⟨_,rfl⟩
 have l1:∀j,j<32→XA gC 32 gZ G j=(gC ⟨u1,u2,u3,f,r⟩).getD j .any:=fun j hj=>by
  have:=JK gC 32 gZ G 0 j hj;rw[show G.getD 0 gZ=⟨u1,u2,u3,f,r⟩by rw[hG];rfl]at this;rw[←this];congr 1;omega
 have l3:∀j,32≤j→j<64→XA gC 32 gZ G j=(gC ⟨u4,u5,u6,f,r⟩).getD (j-32) .any:=fun j h1 h2=>by
  have:=JK gC 32 gZ G 1 (j-32) (by omega);rw[show G.getD 1 gZ=⟨u4,u5,u6,f,r⟩by rw[hG];rfl]at this;rw[←this];congr 1;omega
 rw[←hG]at c1;have hl:G.length=2:=by rw[hG];rfl
 clear hG;refine Fn.intro (fn:=Tryz.f17) Tryz.call17 Tryz.func17 rfl mixed 19 [] [6,7003,7004,7,8003,8004,8,9003,9,10003,10,11003,11,12002,12003] [] (by kernel_rfl) (Nat.le_of_ble_eq_true rfl) (by simp) (Xl ?_);simp(disch:=omega)only[AS.start,↓Xd,wG,seval];refine X0 o1 (X2 _) ?_;simp(disch:=omega)only[qA,qC,↓Xd,wG,seval];refine X0 o2 (X2 _) ?_;simp(disch:=omega)only[qA,qC,↓Xd,wG,seval];refine X0 sq (X2 _) ?_;simp(disch:=omega)only[X4,↓Xd,wG,seval];refine X0 c1 ⟨by rw[X4];exact Weak.rfl' _,Weak.rfl' _,Weak.rfl' _,trivial⟩ ?_;simp(disch:=omega)only[XC,hl,↓Xd,wG,seval];refine X0 p1 (X2 _) ?_;simp(disch:=omega)only[vA,vC,↓Xd,wG,seval];refine X0 p2 (X2 _) ?_;simp(disch:=omega)only[vA,vC,↓Xd,wG,seval];refine X0 p3 (X2 _) ?_;simp(disch:=omega)only[vA,vC,↓Xd,wG,seval];refine X0 p4 (X2 _) ?_;simp(disch:=omega)only[vA,vC,↓Xd,wG,seval];refine X0 p5 (X2 _) ?_;simp(disch:=omega)only[vA,vC,↓Xd,wG,seval];refine X0 p6 (X2 _) ?_;simp(disch:=omega)only[vA,vC,↓Xd,wG,seval];refine X0 b1 (X2 _) ?_;simp(disch:=omega)only[bA,JL,l1,l3,Nat.reduceSub,QJ,↓Xd,wG,seval];refine X0 m1 ⟨by rw[bA,JL];exact Weak.rfl' _,by rw[gA,QJ];exact Weak.rfl' _,trivial⟩ ?_;simp(disch:=omega)only[vA,vC,qA,qC,bA,JL,gA,QJ,l1,l3,Nat.reduceSub,XC,hl,X4,↓Xd,wG,seval];refine X0 b1 (X2 _) ?_;simp(disch:=omega)only[vA,vC,qA,qC,bA,JL,gA,QJ,l1,l3,Nat.reduceSub,XC,hl,X4,↓Xd,wG,seval];refine X0 m2 ⟨by rw[bA,JL];exact Weak.rfl' _,by rw[gA,QJ];exact Weak.rfl' _,trivial⟩ ?_;simp(disch:=omega)only[vA,vC,qA,qC,bA,JL,gA,QJ,l1,l3,Nat.reduceSub,XC,hl,X4,↓Xd,wG,seval];refine X0 b2 (X2 _) ?_;simp(disch:=omega)only[vA,vC,qA,qC,bA,JL,gA,QJ,l1,l3,Nat.reduceSub,XC,hl,X4,↓Xd,wG,seval];refine X0 m3 ⟨by rw[bA,JL];exact Weak.rfl' _,by rw[gA,QJ];exact Weak.rfl' _,trivial⟩ ?_;simp(disch:=omega)only[vA,vC,qA,qC,bA,JL,gA,QJ,l1,l3,Nat.reduceSub,XC,hl,X4,↓Xd,wG,seval];refine X0 sq (X2 _) ?_;simp(disch:=omega)only[vA,vC,qA,qC,bA,JL,gA,QJ,l1,l3,Nat.reduceSub,XC,hl,X4,↓Xd,wG,seval];refine X0 b2 (X2 _) ?_;simp(disch:=omega)only[vA,vC,qA,qC,bA,JL,gA,QJ,l1,l3,Nat.reduceSub,XC,hl,X4,↓Xd,wG,seval];refine X0 cb ⟨by rw[X4];exact Weak.rfl' _,by rw[bA,JL];exact Weak.rfl' _,Weak.rfl' _,Weak.rfl' _,trivial⟩ ?_;simp(disch:=omega)only[vA,vC,qA,qC,bA,JL,gA,QJ,l1,l3,Nat.reduceSub,XC,hl,X4,↓Xd,wG,seval];refine X0 s1 ⟨by rw[gA,QJ];exact Weak.rfl' _,by rw[gA,QJ];exact Weak.rfl' _,trivial⟩ ?_;simp(disch:=omega)only[vA,vC,qA,qC,bA,JL,gA,QJ,l1,l3,Nat.reduceSub,XC,hl,X4,↓Xd,wG,seval];refine X0 s2 ⟨by rw[gA,QJ];exact Weak.rfl' _,by rw[gA,QJ];exact Weak.rfl' _,trivial⟩ ?_;simp(disch:=omega)only[vA,vC,qA,qC,bA,JL,gA,QJ,l1,l3,Nat.reduceSub,XC,hl,X4,↓Xd,wG,seval];refine X0 o3 (X2 _) ?_;simp(disch:=omega)only[vA,vC,qA,qC,bA,JL,gA,QJ,l1,l3,Nat.reduceSub,XC,hl,X4,↓Xd,wG,seval];refine X0 q1 (X2 _) ?_;simp(disch:=omega)only[vA,vC,qA,qC,bA,JL,gA,QJ,l1,l3,Nat.reduceSub,XC,hl,X4,↓Xd,wG,seval];refine X0 o3 (X2 _) ?_;simp(disch:=omega)only[vA,vC,qA,qC,bA,JL,gA,QJ,l1,l3,Nat.reduceSub,XC,hl,X4,↓Xd,wG,seval];refine X0 q1 (X2 _) ?_;simp(disch:=omega)only[vA,vC,qA,qC,bA,JL,gA,QJ,l1,l3,Nat.reduceSub,XC,hl,X4,↓Xd,wG,seval];refine X0 o4 (X2 _) ?_;simp(disch:=omega)only[vA,vC,qA,qC,bA,JL,gA,QJ,l1,l3,Nat.reduceSub,XC,hl,X4,↓Xd,wG,seval];refine X0 q3 (X2 _) ?_;simp(disch:=omega)only[vA,vC,qA,qC,bA,JL,gA,QJ,l1,l3,Nat.reduceSub,XC,hl,X4,↓Xd,wG,seval];refine X0 o5 (X2 _) ?_;simp(disch:=omega)only[vA,vC,qA,qC,bA,JL,gA,QJ,l1,l3,Nat.reduceSub,XC,hl,X4,↓Xd,wG,seval];refine X0 q4 (X2 _) ?_;simp(disch:=omega)only[vA,vC,qA,qC,bA,JL,gA,QJ,l1,l3,Nat.reduceSub,XC,hl,X4,↓Xd,wG,seval];refine X0 s1 ⟨by rw[gA,QJ];exact Weak.rfl' _,by rw[gA,QJ];exact Weak.rfl' _,trivial⟩ ?_;simp(disch:=omega)only[vA,vC,qA,qC,bA,JL,gA,QJ,l1,l3,Nat.reduceSub,XC,hl,X4,↓Xd,wG,seval];refine X0 b1 (X2 _) ?_;simp(disch:=omega)only[vA,vC,qA,qC,bA,JL,gA,QJ,l1,l3,Nat.reduceSub,XC,hl,X4,↓Xd,wG,seval];refine X0 d1 ⟨by rw[bA,JL];exact Weak.rfl' _,by rw[gA,QJ];exact Weak.rfl' _,Weak.rfl' _,Weak.rfl' _,trivial⟩ ?_;simp(disch:=omega)only[vA,vC,qA,qC,bA,JL,gA,QJ,l1,l3,Nat.reduceSub,XC,hl,X4,↓Xd,wG,seval];refine X0 b1 (X2 _) ?_;simp(disch:=omega)only[vA,vC,qA,qC,bA,JL,gA,QJ,l1,l3,Nat.reduceSub,XC,hl,X4,↓Xd,wG,seval];refine X0 o6 (X2 _) ?_;simp(disch:=omega)only[vA,vC,qA,qC,bA,JL,gA,QJ,l1,l3,Nat.reduceSub,XC,hl,X4,↓Xd,wG,seval];refine X0 d2 ⟨by rw[bA,JL];exact Weak.rfl' _,by rw[gA,QJ];exact Weak.rfl' _,Weak.rfl' _,Weak.rfl' _,trivial⟩ ?_;simp(disch:=omega)only[vA,vC,qA,qC,bA,JL,gA,QJ,l1,l3,Nat.reduceSub,XC,hl,X4,↓Xd,wG,seval];refine X0 sq (X2 _) ?_;simp(disch:=omega)only[vA,vC,qA,qC,bA,JL,gA,QJ,l1,l3,Nat.reduceSub,XC,hl,X4,↓Xd,wG,seval];refine X0 v1 ⟨by rw[X4];exact Weak.rfl' _,by rw[gA,QJ];exact Weak.rfl' _,trivial⟩ ?_;simp(disch:=omega)only[vA,vC,qA,qC,bA,JL,gA,QJ,l1,l3,Nat.reduceSub,XC,hl,X4,↓Xd,wG,seval];refine X0 sq (X2 _) ?_;simp(disch:=omega)only[vA,vC,qA,qC,bA,JL,gA,QJ,l1,l3,Nat.reduceSub,XC,hl,X4,zg,zC,List.cons_append,List.nil_append,↓Xd,wG,seval];refine X0 v2 ⟨by rw[X4];exact Weak.rfl' _,ZS (IR _),trivial⟩ ?_;simp(disch:=omega)only[vA,vC,qA,qC,bA,JL,gA,QJ,l1,l3,Nat.reduceSub,XC,hl,X4,zg,zC,List.cons_append,List.nil_append,↓Xd,wG,seval];exact Xk (v:=.bool true) rfl rfl (X5 _) rfl
theorem m8 (L:List V2):Ce L gZ=1:=by
 unfold Ce;rw[if_neg fun h=>by
  have:=h.2;rw[CP]at this;exact absurd this.1.1 (by show ¬ (0:Rat)<0;decide)]
theorem xQ {i:Nat}(hi:i<4):Jl sqV i∈Jz sqV:=by
 unfold Jz JB;exact List.mem_map.2 ⟨i,List.mem_range.2 hi,rfl⟩
theorem nM:Ce sqV eg1=0:=by
 have h1:(Jz sqV).any (ZW eg1)=true:=List.any_eq_true.2 ⟨_,xQ (i:=0) (by omega),by
  unfold ZW;rw[Bool.and_eq_true];refine⟨decide_eq_true (LC (by decide +kernel)),?_⟩;rw[show Jl sqV 0=⟨(Jl sqV 0).a,(Jl sqV 0).b,(Jl sqV 0).i⟩from rfl,Pi];unfold TD;exact decide_eq_true ⟨by decide +kernel,by decide +kernel⟩⟩
 have h2:(Jz sqV).any (KA eg1)=true:=List.any_eq_true.2 ⟨_,xQ (i:=2) (by omega),by
  unfold KA;rw[Bool.and_eq_true];refine⟨decide_eq_true ⟨by decide +kernel,by decide +kernel⟩,?_⟩;rw[show Jl sqV 2=⟨(Jl sqV 2).a,(Jl sqV 2).b,(Jl sqV 2).i⟩from rfl,Pi];unfold TD;exact decide_eq_true ⟨by decide +kernel,by decide +kernel⟩⟩
 unfold Ce;rw[if_pos ⟨(CX _).1 GP,vX.1.2⟩,if_pos ⟨h1,h2⟩]
theorem pR:Rg sqV (ED 6) (Rat.divInt 8 1) (Rat.divInt 1 2)=(eg1,Rat.divInt 3 1,0):=by
 have e3:Iz (ED 6) eg2=Rat.divInt 3 2:=Hu (gM 6 _ (.inr ⟨rfl,rfl⟩));have e4:Iz (ED 6) eg1=Rat.divInt 3 1:=Hu (qS 6 _ (.inr ⟨by decide +kernel,rfl⟩));have hf:=WW;unfold Kc at hf;rw[if_pos ⟨GP,PB⟩]at hf;unfold Rg;rw[if_pos ⟨(CX _).1 GP,(fQ 6 (by omega)).2,PB⟩,hf];have b1:KD (ED 6) [eg1,eg2] 1=(eg1,Rat.divInt 3 1):=by
  show(if(-1:Rat)<Iz (ED 6) eg1 then(eg1,Iz (ED 6) eg1)else(gZ,-1))=_;rw[e4,if_pos (by decide +kernel)]
 have b2:KD (ED 6) [eg1,eg2] 2=(eg1,Rat.divInt 3 1):=by
  show(if(KD (ED 6) [eg1,eg2] 1).2<Iz (ED 6) eg2 then(eg2,Iz (ED 6) eg2)else KD (ED 6) [eg1,eg2] 1)=_;rw[b1,e3,if_neg (by decide +kernel)]
 unfold fP;rw[show [eg1,eg2].length=2 from rfl,b2,if_neg (by show ¬Rat.divInt 3 1<0;decide +kernel)]
theorem RX:Fn Tryz.prog 17 [] (.bool true):=by
 have q8:=Gx 8 1 (by omega) (by omega);have qh:=Gx 1 2 (by omega) (by omega);have q4:=Gx 4 1 (by omega) (by omega);have q3:=Gx 3 1 (by omega) (by omega);have q32:=Gx 3 2 (by omega) (by omega);have q5:=Gx 5 1 (by omega) (by omega);obtain⟨s1,s2⟩:=fQ 100 (by omega);obtain⟨s3,s4⟩:=fQ 6 (by omega);obtain⟨⟨t1,t2⟩,t3,t4⟩:=vX;have M4:=qS 100 (Rat.divInt 4 1) (.inl ⟨by decide +kernel,rfl⟩);have e1:Iz (ED 100) eg1=Rat.divInt 4 1:=Hu M4;have e2:Iz (ED 100) eg2=Rat.divInt 4 1:=Hu (gM 100 _ (.inl ⟨by decide +kernel,rfl⟩));have e3:Iz (ED 6) eg2=Rat.divInt 3 2:=Hu (gM 6 _ (.inr ⟨rfl,rfl⟩));obtain⟨x1,x2,m1⟩:=Wf (ED 100) eg1 s1 t1 s2 t2;obtain⟨y1,y2,m2⟩:=Wf (ED 100) eg2 s1 t3 s2 t4;obtain⟨z1,z2,m3⟩:=Wf (ED 6) eg2 s3 t3 s4 t4;have n1:=m1.fn;have n2:=m2.fn;have n3:=m3.fn;have n4:=m1.ok;obtain⟨w1,w2,w3,w4,w5⟩:=m1.z;rw[e1]at n1 n4;rw[e2]at n2;rw[e3]at n3;have cb:=iQ sqV (ED 6) (Rat.divInt 8 1) (Rat.divInt 1 2) kP.2.1 (by decide) s3 (by omega) (by omega);rw[pR]at cb;have c1:=LP sqV (Rat.divInt 8 1) (Rat.divInt 1 2) kP.2.1 (by omega) (by decide) (by omega) (by omega);rw[WW]at c1;have p:=fun(x y:Int) (hx:KT x) (hy:KT y)=>Kj x y hx hy
 have sm:Qp sqV 1000:=fun i=>Nat.le_trans (kP.2.1 i) (by omega)
 have g1:=W9 sqV eg1 sm (by decide) t1;rw[nM]at g1;have gz:gS gZ:=⟨by show vb v0≤_;decide +kernel,by show vb v0≤_;decide +kernel,by show vb v0≤_;decide +kernel,by show qb 0≤_;decide +kernel,by show qb 0≤_;decide +kernel⟩
 have g2:=W9 sqV gZ sm (by decide) gz;rw[m8]at g2;have a1:=RK eg1 eg1 t1 t1;have a2:=RK eg2 eg2 t3 t3;rw[decide_eq_true rfl]at a1 a2;have sQ:∀x:Rat,qb x≤10→Fn Tryz.prog 26 [qA x,qA x] (.bool true):=fun x hx=>by
  have:=DG x x (by unfold rm;omega) (by unfold rm;omega);rwa[decide_eq_true rfl]at this
 have hp:∀x∈[x1,x2],qb x.1≤1500000∧qb x.2≤1500000:=by
  intro x hx;rcases List.mem_cons.1 hx with rfl |hx
  ·omega
  ·rw[List.mem_singleton.1 hx];omega
 have d1:=NK (ED 100) eg1 (Rat.divInt 4 1) [x1,x2] s1 t1 (by omega) (by simp) hp;have d2:=NK (ED 100) eg1 (Rat.divInt 5 1) [x1,x2] s1 t1 (by omega) (by simp) hp;rw[show ZT (ED 100) eg1 (Rat.divInt 4 1) [x1,x2]=0 by
  unfold ZT;rw[if_pos (by rw[s2,t2];rfl),if_pos ⟨rfl,n4⟩]]at d1
 rw[show ZT (ED 100) eg1 (Rat.divInt 5 1) [x1,x2]=22 by
  unfold ZT;rw[if_pos (by rw[s2,t2];rfl),if_neg fun h=>absurd (M4.2 _ _ _ _ _ h.2) (by decide +kernel)]]at d2
 exact UB sqV (Rat.divInt 8 1) (Rat.divInt 1 2) (Rat.divInt 4 1) 0 (Rat.divInt 3 2) (Rat.divInt 3 1) (Rat.divInt 5 1) (pI 1 0) (pI 1 2) (pI 0 2) (pI 2 1) (pI 0 1) (pI (-2) 0) (ED 100) (ED 6) x1 x2 y1 y2 z1 z2
  (XS 8 1 ⟨by omega,by omega⟩ ⟨by omega,by omega⟩) (XS 1 2 ⟨by omega,by omega⟩ ⟨by omega,by omega⟩) (XS 4 1 ⟨by omega,by omega⟩ ⟨by omega,by omega⟩) (XS 3 2 ⟨by omega,by omega⟩ ⟨by omega,by omega⟩) (XS 3 1 ⟨by omega,by omega⟩ ⟨by omega,by omega⟩) (XS 5 1 ⟨by omega,by omega⟩ ⟨by omega,by omega⟩)
  UF c1 (p 1 0 ⟨by omega,by omega⟩ ⟨by omega,by omega⟩) (p 1 2 ⟨by omega,by omega⟩ ⟨by omega,by omega⟩) (p 0 2 ⟨by omega,by omega⟩ ⟨by omega,by omega⟩) (p 2 1 ⟨by omega,by omega⟩ ⟨by omega,by omega⟩) (p 0 1 ⟨by omega,by omega⟩ ⟨by omega,by omega⟩) (p (-2) 0 ⟨by omega,by omega⟩ ⟨by omega,by omega⟩)
  (NS 100 ⟨by omega,by omega⟩) (NS 6 ⟨by omega,by omega⟩) n1 n2 n3 cb a1 a2 (sQ _ (by omega)) (sQ _ (by omega)) (sQ _ (by omega)) d1 d2 g1 g2
structure TC where
 p:V2
 n:V2
 r:Rat
def uC (t:TC):List AV:=[I 0,I (-1)] ++ vC t.p ++ vC t.p ++ vC t.n ++ qC t.r
def xE:TC:=⟨v0,v0,0⟩
def xF (l:List TC):AV:=cS uC 30 xE l
theorem IM (l:List TC):xF l=.sl l.length (l.length*30) (XA uC 30 xE l) false:=nrfl rfl
theorem kV (t:TC):uC t=[I 0,I (-1),.bool (sg t.p.x),X8 (X9 t.p.x.num.natAbs),.bool false,X8 (X9 (qd t.p.x)),.bool (sg t.p.y),X8 (X9 t.p.y.num.natAbs),.bool false,X8 (X9 (qd t.p.y)),.bool (sg t.p.x),X8 (X9 t.p.x.num.natAbs),.bool false,X8 (X9 (qd t.p.x)),.bool (sg t.p.y),X8 (X9 t.p.y.num.natAbs),.bool false,X8 (X9 (qd t.p.y)),
 .bool (sg t.n.x),X8 (X9 t.n.x.num.natAbs),.bool false,X8 (X9 (qd t.n.x)),.bool (sg t.n.y),X8 (X9 t.n.y.num.natAbs),.bool false,X8 (X9 (qd t.n.y)),.bool (sg t.r),X8 (X9 t.r.num.natAbs),.bool false,X8 (X9 (qd t.r))]:=rfl
theorem Ie (t:TC):∀a∈uC t,Settled a:=by simp[uC,vC,qC,Xc,X5,Xa]
theorem SZ (l:List TC):Settled (xF l):=JZ fun a x hx=>Ie a x hx
def Vj (g:GG):List TC:=[⟨g.p,g.n,g.rough⟩,⟨g.q,g.n.opp,g.rough⟩]
theorem Vk (g:GG)(h:vb g.n≤vm):Fn Tryz.prog 48 [gA g] (xF (Vj g)):=by
 have c1:=aC g.n;obtain⟨R,hR⟩:∃R,R=Vj g:=⟨_,rfl⟩
 rw[←hR];refine Fn.intro (fn:=Tryz.f48) Tryz.call48 Tryz.func48 rfl mixed 3 [] [] [] (by kernel_rfl) (Nat.le_of_ble_eq_true rfl) (fun a ha=>List.mem_singleton.1 ha▸QE g) (Xl ?_);simp(disch:=omega)only[AS.start,gA,QJ,↓Xd,wG,seval];refine X0 c1 (X2 _) ?_;simp(disch:=omega)only[vA,vC,↓Xd,wG,seval];exact ZP rfl (Xs (SZ _) (by rw[hR];exact JE uC 30 xE (fun _=>rfl) (Vj g) _ _ _ _ rfl rfl rfl))
theorem Tl (p n:V2)(r:Rat)(hp:vb p≤vm)(hn:vb n≤vm)(hr:qb r≤rm):Fn Tryz.prog 49 [.agg (uC ⟨p,n,r⟩),vA p,vA n,qA r] (.bool true):=by
 have sm:∀i,vb ([p,p,n].getD i v0)≤vm:=fun i=>by
  match i with
  |0=>exact hp
  |1=>exact hp
  |2=>exact hn
  |_+3=>unfold vm;exact Nat.le_trans Tr (by omega)
 have c1:=I8 [p,p,n] [p,p,n] sm sm (by simp) (by simp);have c2:=DG r r hr hr;rw[decide_eq_true rfl]at c1 c2;refine Fn.intro (fn:=Tryz.f49) Tryz.call49 Tryz.func49 rfl mixed 9 [] [] [] (by kernel_rfl) (Nat.le_of_ble_eq_true rfl) (by
  intro a ha;simp only[List.mem_cons,List.not_mem_nil,or_false]at ha;rcases ha with rfl |rfl |rfl |rfl
  ·exact Xw (Ie _)
  ·exact Xr _
  ·exact Xr _
  ·exact Xb _) (Xl ?_)
 simp(disch:=omega)only[AS.start,kV,vA,vC,qA,qC,↓Xd,wG,seval];refine X0 c1 ⟨JE vC 8 v0 (fun _=>rfl) [p,p,n] _ _ _ _ rfl rfl rfl,JE vC 8 v0 (fun _=>rfl) [p,p,n] _ _ _ _ rfl rfl rfl,trivial⟩ ?_;simp(disch:=omega)only[↓Xd,wG,seval];refine X0 c2 (X2 _) ?_;simp(disch:=omega)only[↓Xd,wG,seval];exact Xk (v:=.bool true) rfl rfl (X5 _) rfl
structure RV where
 x:RQ
 y:RQ
def Cq (v:RV):List AV:=v.x.L ++ v.y.L
def JM:RV:=⟨Pw,Pw⟩
def Z8 (l:List RV):AV:=cS Cq 8 JM l
theorem XF (l:List RV):Z8 l=.sl l.length (l.length*8) (XA Cq 8 JM l) false:=nrfl rfl
theorem Id (v:RV):∀a∈Cq v,Settled a:=by simp[Cq,RQ.L,Xc,X5]
theorem QK (l:List RV):Settled (Z8 l):=JZ fun a x hx=>Id a x hx
def RV.ok (v:RV):Prop:=v.x.ok∧v.y.ok
def RV.of (v:V2):RV:=⟨RQ.of v.x,RQ.of v.y⟩
theorem x9 (l:List RV)(i:Nat):XA Cq 8 JM l (i*8)=.bool (l.getD i JM).x.pn∧XA Cq 8 JM l (i*8+1)=X8 (l.getD i JM).x.pd∧XA Cq 8 JM l (i*8+2)=.bool (l.getD i JM).x.qn∧XA Cq 8 JM l (i*8+3)=X8 (l.getD i JM).x.qd ∧
  XA Cq 8 JM l (i*8+4)=.bool (l.getD i JM).y.pn∧XA Cq 8 JM l (i*8+5)=X8 (l.getD i JM).y.pd∧XA Cq 8 JM l (i*8+6)=.bool (l.getD i JM).y.qn∧XA Cq 8 JM l (i*8+7)=X8 (l.getD i JM).y.qd:=by
 refine⟨?_,?_,?_,?_,?_,?_,?_,?_⟩
 ·rw[Km _ _ _ _ _ (by omega)];rfl
 all_goals rw[JK _ _ _ _ _ _ (by omega)];rfl
def rz (l:List RV):Prop:=∀i,(l.getD i JM).x.sz<1000000000∧(l.getD i JM).y.sz<1000000000
theorem I1 (l:List RV)(hs:rz l)(hl:l.length<1000000)(k:Nat)(hk:k<l.length)(hb:¬ (l.getD k JM).ok):Fn Tryz.prog 85 [Z8 l] (.bool false):=by
 refine Fn.intro (fn:=Tryz.f85) Tryz.call85 Tryz.func85 rfl mixed 4 [] [] [] (by kernel_rfl) (Nat.le_of_ble_eq_true rfl) (fun a ha=>List.mem_singleton.1 ha▸QK l) (Xl ?_);simp(disch:=omega)only[AS.start,XF,↓Xd,wG,seval];refine Xj (fun i:Nat=>⟨4,[],[Z8 l,.any,.bool false,I i],[],[]⟩) (fun i=>i≤k) (fun i=>k-i) 0 (by omega)
  (Aw (by simp[XF,Xm,I]) rfl) ?_
 intro i hi next
 have w1:=wj i (by omega);have f2:(i<l.length)=True:=eq_true (by omega);have v1:=x9 l i;obtain⟨h1,h2⟩:=hs i;have c1:=Bv (l.getD i JM).x h1;have c2:=Bv (l.getD i JM).y h2;have hb2:i=k→¬ (l.getD i JM).ok:=fun e=>e▸hb
 generalize l.getD i JM=v at *;unfold RV.ok at hb2;refine Xl ?_;simp(disch:=omega)only[XF,w1,f2,v1,↓Xd,wG,seval];by_cases hx:v.x.ok
 ·rw[decide_eq_true hx]at c1
  refine X0 c1 (X2 _) ?_;simp(disch:=omega)only[XF,w1,f2,v1,↓Xd,wG,seval];by_cases hy:v.y.ok
  ·rw[decide_eq_true hy]at c2
   have hik:i≠k:=fun e=>hb2 e ⟨hx,hy⟩
   refine X0 c2 (X2 _) ?_;simp(disch:=omega)only[XF,w1,↓Xd,wG,seval];exact next (i+1) _ (by omega) (by omega) (Aw (by simp[XF,Xm,I]) rfl)
  ·rw[decide_eq_false hy]at c2
   refine X0 c2 (X2 _) ?_;simp(disch:=omega)only[↓Xd,wG,seval];exact Xk (v:=.bool false) rfl rfl (X5 _) rfl
 ·rw[decide_eq_false hx]at c1
  refine X0 c1 (X2 _) ?_;simp(disch:=omega)only[↓Xd,wG,seval];exact Xk (v:=.bool false) rfl rfl (X5 _) rfl
theorem Fo (l:List RV)(hs:rz l)(hl:l.length<1000000)(k:Nat)(hk:k<l.length)(hb:¬ (l.getD k JM).ok):Fn Tryz.prog 71 [Z8 l] (.bool false):=by
 have c:=I1 l hs hl k hk hb;refine Fn.intro (fn:=Tryz.f71) Tryz.call71 Tryz.func71 rfl mixed 6 [] [] [] (by kernel_rfl) (Nat.le_of_ble_eq_true rfl) (fun a ha=>List.mem_singleton.1 ha▸QK l) (Xl ?_);by_cases h1:l.length<3
 ·have f1:((l.length:Int)<3)=True:=eq_true (by omega)
  simp(disch:=omega)only[AS.start,XF,f1,↓Xd,wG,seval];exact Xk (v:=.bool false) rfl rfl (X5 _) rfl
 have f1:((l.length:Int)<3)=False:=eq_false (by omega);by_cases h2:12<l.length
 ·have f2:((12:Int)<l.length)=True:=eq_true (by omega)
  simp(disch:=omega)only[AS.start,XF,f1,f2,↓Xd,wG,seval];exact Xk (v:=.bool false) rfl rfl (X5 _) rfl
 have f2:((12:Int)<l.length)=False:=eq_false (by omega);simp(disch:=omega)only[AS.start,XF,f1,f2,↓Xd,wG,seval];refine X0 c ⟨by rw[XF];exact Weak.rfl' _,trivial⟩ ?_;simp(disch:=omega)only[↓Xd,wG,seval];exact Xk (v:=.bool false) rfl rfl (X5 _) rfl
theorem Mn (l:List RV)(hs:rz l)(hl:l.length<1000000)(k:Nat)(hk:k<l.length)(hb:¬ (l.getD k JM).ok):Fn Tryz.prog 62 [Z8 l] (.bool false):=by
 have hs0:Settled (.ptr 1 (Xg [Z8 l]) 0):=XN fun j hj=>by
   obtain rfl:j=0:=by omega
   exact QK l
 have hs1:Settled (.ptr 1 (Xg [I l.length]) 0):=XN fun j hj=>by
   obtain rfl:j=0:=by omega
   exact Xa _
 refine Fn.intro (fn:=Tryz.f62) Tryz.call62 Tryz.func62 rfl mixed 9 [17,18,19,35,36] [] [] (by kernel_rfl) (Nat.le_of_ble_eq_true rfl) (fun a ha=>List.mem_singleton.1 ha▸QK l) (Xl ?_);by_cases h1:l.length<3
 ·have f1:((l.length:Int)<3)=True:=eq_true (by omega)
  simp(disch:=omega)only[AS.start,XF,f1,↓Xd,wG,seval];exact Xk (v:=.bool false) rfl rfl (X5 _) rfl
 have f1:((l.length:Int)<3)=False:=eq_false (by omega);by_cases h2:12<l.length
 ·have f2:((12:Int)<l.length)=True:=eq_true (by omega)
  simp(disch:=omega)only[AS.start,XF,f1,f2,↓Xd,wG,seval];exact Xk (v:=.bool false) rfl rfl (X5 _) rfl
 have f2:((12:Int)<l.length)=False:=eq_false (by omega);simp(disch:=omega)only[AS.start,XF,f1,f2,↓Xd,wG,seval];have b0:Jo 0 (.ptr 1 (Xg [Z8 l]) 0)=True:=eq_true (X7 hs0);have b1:Jo 0 (.ptr 1 (Xg [I l.length]) 0)=True:=eq_true (X7 hs1);have b2:Jo 0 (Z8 l)=True:=eq_true (X7 (QK l));refine Xj (fun i:Nat=>⟨9,[17,18,19,35,36],[.any,.ptr 1 (Xg [Z8 l]) 0,.bool false,.ptr 1 (Xg [I l.length]) 0,.any,.any,.any,.any,.any],[(17,Z8 l),(18,I l.length),(19,I i)],[]⟩) (fun i=>i≤k) (fun i=>k-i) 0 (by omega)
  ((Q0 0 rfl).trans ((Q0 1 rfl).trans ((Q5 1 rfl rfl (by omega)).trans ((Q5 3 rfl rfl (by omega)).trans (XQ (m:=0) (Nat.zero_le _) rfl (by simp[AS.put,XF,Xm,I]) (by simp[AS.put,XF,Xy,Xz,I]) rfl (by simp[b0,b1,XO]) (by simp[b2,XO]) (by simp)))))) ?_
 intro i hi next
 have w1:=wj i (by omega);have f3:(i<l.length)=True:=eq_true (by omega);have v1:=x9 l i;obtain⟨h1,h2⟩:=hs i;have c1:=F0 (l.getD i JM).x h1;have c2:=F0 (l.getD i JM).y h2;have hb2:i=k→¬ (l.getD i JM).ok:=fun e=>e▸hb
 generalize l.getD i JM=v at *;unfold RV.ok at hb2;refine Xl ?_;simp(disch:=omega)only[XF,w1,f3,v1,↓Xd,wG,seval];by_cases hx:v.x.ok
 ·rw[decide_eq_true hx]at c1
  refine X0 c1 (X2 _) ?_;simp(disch:=omega)only[XF,w1,f3,v1,↓Xd,wG,seval];by_cases hy:v.y.ok
  ·rw[decide_eq_true hy]at c2
   have hik:i≠k:=fun e=>hb2 e ⟨hx,hy⟩
   refine X0 c2 (X2 _) ?_;simp(disch:=omega)only[XF,w1,↓Xd,wG,seval];exact next (i+1) _ (by omega) (by omega) (XQ (m:=0) (Nat.zero_le _) rfl (by simp[XF,Xm,I]) (by simp[XF,Xy,Xz,I]) rfl (by simp[b0,b1,XO]) (by simp[b2,XO]) (by simp))
  ·rw[decide_eq_false hy]at c2
   refine X0 c2 (X2 _) ?_;simp(disch:=omega)only[↓Xd,wG,seval];exact Xk (v:=.bool false) rfl rfl (X5 _) rfl
 ·rw[decide_eq_false hx]at c1
  refine X0 c1 (X2 _) ?_;simp(disch:=omega)only[↓Xd,wG,seval];exact Xk (v:=.bool false) rfl rfl (X5 _) rfl
theorem aA (l:List RV)(f r:Rat)(hs:rz l)(hl:l.length<1000000)(k:Nat)(hk:k<l.length)(hb:¬ (l.getD k JM).ok):Fn Tryz.prog 45 [Z8 l,qA f,qA r] (Nh []):=by
 have c:=Mn l hs hl k hk hb;refine Fq Tryz.call45 Tryz.func45 16 [27,28,29,37,38,39] [] [] (by simp[QK,Xb]) (Xl ?_);simp(disch:=omega)only[AS.start,XF,qA,qC,↓Xd,wG,seval];refine X0 c ⟨by rw[XF];exact Weak.rfl' _,trivial⟩ ?_;simp(disch:=omega)only[↓Xd,wG,seval];exact ZP rfl (Xs (Z9 []) (D6 gC 32 gZ _ _))
theorem ck (l:List RV)(f r:Rat)(hs:rz l)(hl:l.length<1000000)(k:Nat)(hk:k<l.length)(hb:¬ (l.getD k JM).ok):Fn Tryz.prog 47 [Z8 l,qA f,qA r] (Nh []):=by
 have c:=Fo l hs hl k hk hb;refine Fq Tryz.call47 Tryz.func47 18 [] [18,19012,19,20004,20006,20008,20009] [] (by simp[QK,Xb]) (Xl ?_);simp(disch:=omega)only[AS.start,XF,qA,qC,↓Xd,wG,seval];refine X0 c ⟨by rw[XF];exact Weak.rfl' _,trivial⟩ ?_;simp(disch:=omega)only[↓Xd,wG,seval];exact ZP rfl (Xs (Z9 []) (D6 gC 32 gZ _ _))
theorem GN {α:Type}(e:α→List AV)(s:Nat)(d:α)(l:List α)(k:Nat)(x:α)(he:(e x).length=s) (hs:0<s) (hk:k<l.length):EA (XA e s d l) (k*s) (e x)=XA e s d (l.set k x):=funext fun j=>by
 rw[Bj];have hd:=Nat.div_add_mod j s;have hm:=Nat.mod_lt j hs;show(if k*s≤j∧j<k*s+(e x).length then(e x).getD (j-k*s) .any else(e (l.getD (j/s) d)).getD (j%s) .any)=(e ((l.set k x).getD (j/s) d)).getD (j%s) .any;rw[he];by_cases h:j/s=k
 ·have h1:j=k*s+j%s:=by rw[←h,Nat.mul_comm];omega
  have e1:(l.set k x).getD (j/s) d=x:=by rw[h,List.getD_eq_getElem?_getD,List.getElem?_set_self hk];rfl
  rw[if_pos ⟨by omega,by omega⟩,e1];congr 1;omega
 ·rw[if_neg,List.getD_eq_getElem?_getD (l:=l.set k x),List.getElem?_set_ne (Ne.symm h),←List.getD_eq_getElem?_getD]
  rintro⟨h1,h2⟩;refine h (Nat.div_eq_of_lt_le ?_ ?_)
  ·exact h1
  ·rw[Nat.succ_mul];exact h2
theorem kE (L:List V2):XA Cq 8 JM (L.map RV.of)=XA vC 8 v0 L:=funext fun j=>by
 have e:(L.map RV.of).getD (j/8) JM=RV.of (L.getD (j/8) v0):=by
  rw[List.getD_eq_getElem?_getD,List.getElem?_map,List.getD_eq_getElem?_getD];cases L[j/8]? <;> rfl
 show(Cq ((L.map RV.of).getD (j/8) JM)).getD (j%8) .any=_;rw[e];rfl
theorem C2 {H:List AO}{id ver n N:Nat}{f:Nat→AV}(l:List RV)(ho:H[id]?=some (.row ver N f)) (hN:N=l.length*8) (hn:n=l.length) (hf:∀j,j<N→Weak (f j) (XA Cq 8 JM l j)):Zv H (.osl id ver 8 0 n) (Z8 l):=by
 subst hn hN;rw[XF];refine ZR (.inl ho) (by omega) (fun h=>by rw[h]) fun j hj=>?_
 rw[Nat.zero_add];exact Xs (Xe (Id _) _) (hf j (by omega))
theorem MH {α:Type}(e:α→List AV)(s:Nat)(d:α)(l:List α)(k j:Nat)(hs:0<s):XA e s d l (k*s+j)=XA e s d (l.drop k) j:=by
 have h:l.getD (k+j/s) d=(l.drop k).getD (j/s) d:=by
  rw[List.getD_eq_getElem?_getD,List.getD_eq_getElem?_getD,List.getElem?_drop]
 show(e (l.getD ((k*s+j)/s) d)).getD ((k*s+j)%s) .any=(e ((l.drop k).getD (j/s) d)).getD (j%s) .any;rw[Nat.mul_comm k s,Nat.mul_add_div hs,Nat.mul_add_mod,h]
theorem MI {α:Type}(e:α→List AV)(s:Nat)(d:α)(l m:List α)(j:Nat)(hs:0<s)(hj:j<l.length*s):XA e s d (l ++ m) j=XA e s d l j:=by
 have h:j/s<l.length:=Nat.div_lt_of_lt_mul (by rw[Nat.mul_comm];exact hj);have g:(l ++ m).getD (j/s) d=l.getD (j/s) d:=by
  rw[List.getD_eq_getElem?_getD,List.getElem?_append_left h,←List.getD_eq_getElem?_getD]
 show(e ((l ++ m).getD (j/s) d)).getD (j%s) .any=(e (l.getD (j/s) d)).getD (j%s) .any;rw[g]
theorem PA {α:Type}(e:α→List AV)(s:Nat)(d:α)(l m:List α)(f g:Nat→AV)(hs:0<s)(hf:∀ j,j<l.length*s→f j=XA e s d l j)(hg:∀ j,j<m.length*s→g j=XA e s d m j)(N K:Nat)(hN:N=l.length*s)(hK:K=m.length*s)(j:Nat)(hj:j<(l ++ m).length*s):Qd N f K g j=XA e s d (l ++ m) j:=by
 subst hN hK;rw[List.length_append,Nat.add_mul]at hj;unfold Qd;by_cases h:j<l.length*s
 ·rw[if_pos h,hf j h,MI e s d l m j hs h]
 ·rw[if_neg h,if_pos (by omega),hg _ (by omega)]
  have:=MH e s d (l ++ m) l.length (j-l.length*s) hs;rw[show l.length*s+(j-l.length*s)=j by omega,List.drop_left]at this;exact this.symm
def GO (L:List V2)(how by':Int):List RV :=
 if L.length=0 then [RV.of (pI (by'.tmod 9) 1)]else
 if Xo how 7=0 then(L.map RV.of).take (Xo by' L.length).toNat ++ (L.map RV.of).drop ((Xo by' L.length).toNat+1)
 else if Xo how 7=1 then(L.map RV.of).set (Xo by' L.length).toNat (RV.of (pI (Xo by' 17-8) (Xo (by'.tdiv 17) 17-8)))
 else if Xo how 7=2 then(L.map RV.of).set (Xo by' L.length).toNat ((L.map RV.of).getD (Xo (by'.tdiv 16) L.length).toNat JM)
 else if Xo how 7=3 then(L.map RV.of).set (Xo by' L.length).toNat (RV.of (Cw (L.getD (Xo by' L.length).toNat v0) (J4 L (Xo by' L.length).toNat)))
 else if Xo how 7=4 then(List.range L.length).map fun j=>(L.map RV.of).getD (L.length-1-j) JM
 else if Xo how 7=5 then(L.map RV.of).set (Xo by' L.length).toNat ⟨⟨((L.map RV.of).getD (Xo by' L.length).toNat JM).x.pn,((L.map RV.of).getD (Xo by' L.length).toNat JM).x.pd,false,[1]⟩,((L.map RV.of).getD (Xo by' L.length).toNat JM).y⟩
 else(L.map RV.of).take (Xo by' L.length).toNat ++ [RV.of (Cw (L.getD (Xo by' L.length).toNat v0) (J4 L (Xo by' L.length).toNat))] ++ (L.map RV.of).drop (Xo by' L.length).toNat
theorem lj (v:V2):∀j,j<8→((vC v).getD j .any).one=true:=fun j hj=>by
 match j,hj with
 |0,_ |1,_ |2,_ |3,_ |4,_ |5,_ |6,_ |7,_=>rfl
 |j+8,h=>omega
theorem GZ {a b:AV}(h:a=b):Weak a b:=h▸Weak.rfl' _
theorem py (M:List RV)(k:Nat)(hk:k<M.length)(a b c d:AV)(w:RQ)(h0:Weak a (.bool w.pn)) (h1:Weak b (X8 w.pd)) (h2:Weak c (.bool w.qn)) (h3:Weak d (X8 w.qd)) (j:Nat):Weak (EA (XA Cq 8 JM M) (k*8) [a,b,c,d] j) (XA Cq 8 JM (M.set k ⟨w,(M.getD k JM).y⟩) j):=by
 rw[←GN Cq 8 JM M k ⟨w,(M.getD k JM).y⟩ rfl (by omega) hk,Bj,Bj];show Weak (if k*8≤j∧j<k*8+4 then([a,b,c,d]:List AV).getD (j-k*8) .any else XA Cq 8 JM M j) (if k*8≤j∧j<k*8+8 then(Cq ⟨w,(M.getD k JM).y⟩).getD (j-k*8) .any else XA Cq 8 JM M j);by_cases h:k*8≤j∧j<k*8+8
 ·rw[if_pos h]
  obtain⟨i,rfl⟩:∃i,j=k*8+i:=⟨j-k*8,by omega⟩
  rw[Nat.add_sub_cancel_left,JK Cq 8 JM M k i (by omega)];have hi:i<8:=by omega
  match i,hi with
  |0,_=>rw[if_pos ⟨by omega,by omega⟩];exact h0
  |1,_=>rw[if_pos ⟨by omega,by omega⟩];exact h1
  |2,_=>rw[if_pos ⟨by omega,by omega⟩];exact h2
  |3,_=>rw[if_pos ⟨by omega,by omega⟩];exact h3
  |4,_ |5,_ |6,_ |7,_=>rw[if_neg (by omega)];exact Weak.rfl' _
  |i+8,h=>omega
 ·rw[if_neg h,if_neg (by omega)];exact Weak.rfl' _
def En (M:List RV)(i:Nat):List RV:=(List.range M.length).map fun j=>if j<i then M.getD (M.length-1-j) JM else M.getD j JM
theorem Pt (M:List RV)(i:Nat){j:Nat}(hj:j<M.length):(En M i).getD j JM=if j<i then M.getD (M.length-1-j) JM else M.getD j JM:=by
 unfold En;rw[List.getD_eq_getElem?_getD,List.getElem?_map,List.getElem?_range hj];rfl
theorem bY (M:List RV)(i:Nat)(hi:i<M.length):(En M i).set i (M.getD (M.length-1-i) JM)=En M (i+1):=EL JM (by simp[En]) fun j hj=>by
 have hj:j<M.length:=by simpa [En]using hj
 rw[Pt M (i+1) hj,List.getD_eq_getElem?_getD];by_cases h:i=j
 ·subst h
  rw[List.getElem?_set_self (by simpa [En]using hj),if_pos (by omega)];rfl
 ·rw[List.getElem?_set_ne h,←List.getD_eq_getElem?_getD,Pt M i hj]
  by_cases h2:j<i
  ·rw[if_pos h2,if_pos (by omega)]
  ·rw[if_neg h2,if_neg (by omega)]
theorem BE {n:Int}(h:KT n):IntKind.i64.wrap n=n:=by
 unfold KT at h;rw[IntKind.wrap_i64];omega
theorem Ov (L:List V2)(how by':Int)(h:Qp L 7)(hl:L.length≤12)(hw:KT how)(hb:KT by')(h0:L.length≠0):Fn Tryz.prog 14 [Q6 L,I how,I by'] (Z8 (GO L how by')):=by
 obtain⟨R,hR⟩:∃R,R=GO L how by':=⟨_,rfl⟩
 rw[←hR];unfold GO at hR;rw[if_neg h0]at hR;have hlen:(L.length:Int)≠0:=by omega
 have c1:=QP by' L.length hb hlen;have c2:=QP how 7 hw (by omega);have hd16:=CR hb (m:=16) (by omega);have hd17:=CR hb (m:=17) (by omega);have x1:=BE hd16;have x2:=BE hd17;have c3:=QP by' 17 hb (by omega);have c4:=QP (by'.tdiv 17) 17 hd17 (by omega);have c5:=QP (by'.tdiv 16) L.length hd16 hlen;obtain⟨k1,k2⟩:=XH by' L.length (by omega);obtain⟨m1,m2⟩:=XH how 7 (by omega);obtain⟨a1,a2⟩:=XH by' 17 (by omega);obtain⟨b1,b2⟩:=XH (by'.tdiv 17) 17 (by omega);obtain⟨d1,d2⟩:=XH (by'.tdiv 16) L.length (by omega);have c6:=Kj (Xo by' 17-8) (Xo (by'.tdiv 17) 17-8) ⟨by omega,by omega⟩ ⟨by omega,by omega⟩;generalize Xo by' L.length=kI at *;generalize Xo how 7=m at *;generalize Xo by' 17=p at *;generalize Xo (by'.tdiv 17) 17=q at *;generalize Xo (by'.tdiv 16) L.length=dI at *;obtain⟨k,rfl⟩:=Int.eq_ofNat_of_zero_le k1;obtain⟨d,rfl⟩:=Int.eq_ofNat_of_zero_le d1;rw[Int.toNat_natCast,Int.toNat_natCast]at hR;have hk:k<L.length:=by omega
 have hd:d<L.length:=by omega
 have wk:=wj k (by omega);have wd:=wj d (by omega);have hkt:(k<L.length)=True:=eq_true hk;have hdt:(d<L.length)=True:=eq_true hd;have g1:=Ak L k (by omega) hk;have h1:=h k;have h2:=h ((k+1)%L.length);have g2:=CU (L.getD k v0) (L.getD ((k+1)%L.length) v0) (by omega) (by omega);rw[show L.getD ((k+1)%L.length) v0=J4 L k from rfl]at g1 g2;have lk0:=Km vC 8 v0 L k (by omega);have lk1:=JK vC 8 v0 L k;obtain⟨M,hM⟩:∃M,M=L.map RV.of:=⟨_,rfl⟩
 have hMl:M.length=L.length:=by rw[hM,List.length_map]
 have dV:XA vC 8 v0 L=XA Cq 8 JM M:=by rw[hM,kE]
 rw[←hM]at hR;have one:∀j,(XA vC 8 v0 L j).one=true:=fun j=>lj _ _ (Nat.mod_lt _ (by omega))
 have n1:((k:Int)-0).toNat=k:=by omega
 have n2:((L.length:Int)-((k+1:Nat):Int)).toNat=L.length-(k+1):=by omega
 have n3:((L.length:Int)-(k:Int)).toNat=L.length-k:=by omega
 refine Fq Tryz.call14 Tryz.func14 10 [27] [8,14,15005] [] (by simp[Xn,Xa]) (XL 17 ?_);have f0:((L.length:Int)=0)=False:=eq_false hlen;have f1:(L.length=0)=False:=eq_false h0;have dF:∀j,j<L.length*8→Qd 0 (Xg []) (L.length*8) (XA vC 8 v0 L) j=XA Cq 8 JM M j:=fun j hj=>by
  unfold Qd;rw[if_neg (by omega),if_pos (by omega),Nat.sub_zero,dV]
 have dM:∀j,(XA Cq 8 JM M j).one=true:=fun j=>by rw[←dV];exact one j
 simp(disch:=omega)only[AS.start,X4,f0,f1,↓Xd,wG,seval];refine⟨fun j hj=>one j,?_⟩;refine Run.sub ?_ (QL 0 (XA Cq 8 JM M) rfl fun j hj c' v' _ _ hv=>by rw[dF j hj]at hv;exact hv);refine Xl ?_;simp(disch:=omega)only[X4,f0,f1,List.set,↓Xd,wG,seval];refine X0 c1 (X2 _) ?_;simp(disch:=omega)only[↓Xd,wG,seval];refine X0 c2 (X2 _) ?_;have hm:m=0∨m=1∨m=2∨m=3∨m=4∨m=5∨m=6:=by omega
 rcases hm with rfl |rfl |rfl |rfl |rfl |rfl |rfl
 ·rw[if_pos rfl]at hR
  simp(disch:=omega)only[wk,hkt,n1,n2,List.set,↓Xd,wG,seval];refine⟨fun j hj=>dM _,?_⟩;refine ZP rfl ?_;rw[hR];refine C2 _ rfl (by rw[List.length_append,List.length_take,List.length_drop,hMl];congr 1;omega) (by rw[List.length_append,List.length_take,List.length_drop,hMl];omega) fun j hj=>GZ (PA Cq 8 JM _ _ _ _ (by omega) (fun j hj=>?_) (fun j hj=>MH Cq 8 JM M (k+1) j (by omega)) _ _ (by rw[List.length_take,hMl];congr 1;omega) (by rw[List.length_drop,hMl]) j (by rw[List.length_append,List.length_take,List.length_drop,hMl];omega))
  have:=MI Cq 8 JM (M.take k) (M.drop k) j (by omega) hj;rwa[List.take_append_drop]at this
 ·rw[if_neg (by omega),if_pos rfl]at hR
  simp(disch:=omega)only[wk,hkt,List.set,↓Xd,wG,seval];refine X0 c3 (X2 _) ?_;simp(disch:=omega)only[x2,List.set,↓Xd,wG,seval];refine X0 c4 (X2 _) ?_;simp(disch:=omega)only[hkt,List.set,↓Xd,wG,seval];refine X0 c6 (X2 _) ?_;simp(disch:=omega)only[vA,vC,hkt,List.set,↓Xd,wG,seval];exact ZP rfl (by rw[hR];exact C2 _ rfl (by rw[List.length_set,hMl]) (by rw[List.length_set,hMl]) fun j hj=>GZ (congrFun (GN Cq 8 JM M k (RV.of (pI (p-8) (q-8))) rfl (by omega) (by omega)) j))
 ·rw[if_neg (by omega),if_neg (by omega),if_pos rfl]at hR
  simp(disch:=omega)only[wk,x1,hkt,List.set,↓Xd,wG,seval];refine X0 c5 (X2 _) ?_;have rd:=x9 M d;simp(disch:=omega)only[hkt,hdt,rd,List.set,↓Xd,wG,seval];exact ZP rfl (by rw[hR];exact C2 _ rfl (by rw[List.length_set,hMl]) (by rw[List.length_set,hMl]) fun j hj=>GZ (congrFun (GN Cq 8 JM M k (M.getD d JM) rfl (by omega) (by omega)) j))
 ·rw[if_neg (by omega),if_neg (by omega),if_neg (by omega),if_pos rfl]at hR
  simp(disch:=omega)only[wk,hkt,List.set,↓Xd,wG,seval];refine X0 g1 ⟨by rw[X4];exact Weak.rfl' _,Weak.rfl' _,trivial⟩ ?_;simp(disch:=omega)only[vA,vC,lk0,lk1,hkt,List.set,↓Xd,wG,seval];refine X0 g2 (X2 _) ?_;simp(disch:=omega)only[vA,vC,hkt,List.set,↓Xd,wG,seval];exact ZP rfl (by rw[hR];exact C2 _ rfl (by rw[List.length_set,hMl]) (by rw[List.length_set,hMl]) fun j hj=>GZ (congrFun (GN Cq 8 JM M k (RV.of (Cw (L.getD k v0) (J4 L k))) rfl (by omega) (by omega)) j))
 ·rw[if_neg (by omega),if_neg (by omega),if_neg (by omega),if_neg (by omega),if_pos rfl]at hR
  simp(disch:=omega)only[wk,List.set,↓Xd,wG,seval];have hr0:En M 0=M:=EL JM (by simp[En]) fun j hj=>by
   rw[Pt M 0 (by simpa [En]using hj),if_neg (by omega)]
  refine Xj (fun i:Nat=>⟨10,[27],[Q6 L,.any,.any,.any,.any,.any,.any,.osl 0 0 8 0 L.length,.any,I i],[],[.row 0 (L.length*8) (XA Cq 8 JM (En M i))]⟩) (fun i=>i≤L.length) (fun i=>L.length-i) 0 (by omega)
   (Aw (by simp[Xm,I,X4]) (by rw[hr0])) ?_
  intro i hi next
  have w1:=wj i (by omega);by_cases hi2:i<L.length
  rotate_left
  ·obtain rfl:i=L.length:=by omega
   refine Xl ?_;simp(disch:=omega)only[X4,↓Xd,wG,seval];have hrn:En M L.length=(List.range L.length).map fun j=>M.getD (L.length-1-j) JM:=by
    unfold En;rw[hMl];exact List.map_congr_left fun j hj=>by rw[if_pos (List.mem_range.1 hj)]
   exact ZP rfl (by rw[hR,←hrn];exact C2 _ rfl (by simp[En,hMl]) (by simp[En,hMl]) fun j hj=>Weak.rfl' _)
  ·have nx:=next (i+1)
   have f2:(i<L.length)=True:=eq_true hi2;obtain⟨x,hx⟩:∃x,x=L.length-1-i:=⟨_,rfl⟩
   have e1:(L.length:Int)-1-i=(x:Int):=by omega
   have f3:(x<L.length)=True:=eq_true (by omega);have lq0:=Km vC 8 v0 L x (by omega);have lq1:=JK vC 8 v0 L x;refine Xl ?_;simp(disch:=omega)only[X4,w1,f2,f3,e1,lq0,lq1,vC,↓Xd,wG,seval];refine nx _ (by omega) (by omega) (Xi rfl (by simp[Xm,I,X4]) (by simp[Xy]) ?_);have hv:M.getD x JM=RV.of (L.getD x v0):=by
    rw[hM,List.getD_eq_getElem?_getD,List.getElem?_map,List.getD_eq_getElem?_getD];cases L[x]? <;> rfl
   have hs:=GN Cq 8 JM (En M i) i (RV.of (L.getD x v0)) rfl (by omega) (by simp[En,hMl];exact hi2);rw[←bY M i (by omega),hMl,←hx,hv,←hs];rfl
 ·rw[if_neg (by omega),if_neg (by omega),if_neg (by omega),if_neg (by omega),if_neg (by omega),if_pos rfl]at hR
  have rd:=x9 M k;simp(disch:=omega)only[wk,hkt,rd,Bool.and_self,List.set,↓Xd,wG,seval];refine ZP rfl ?_;rw[hR];have w3:Weak (.sl 1 1 (Xg [I 1]) false) (X8 [1]):=MT rfl (Nat.le_refl _) fun j hj=>by
   have h1:j<1:=hj;obtain rfl:j=0:=by omega
   rfl
  exact C2 _ rfl (by rw[List.length_set,hMl]) (by rw[List.length_set,hMl]) fun j hj=>py M k (by omega) (.bool (M.getD k JM).x.pn) (X8 (M.getD k JM).x.pd) (.bool false) (.sl 1 1 (Xg [I 1]) false) ⟨(M.getD k JM).x.pn,(M.getD k JM).x.pd,false,[1]⟩ (Weak.rfl' _) (Weak.rfl' _) (Weak.rfl' _) w3 j
 ·rw[if_neg (by omega),if_neg (by omega),if_neg (by omega),if_neg (by omega),if_neg (by omega),if_neg (by omega)]at hR
  simp(disch:=omega)only[wk,hkt,n1,n3,List.set,↓Xd,wG,seval];refine⟨fun j hj=>one _,?_⟩;refine X0 g1 ⟨by rw[X4];exact Weak.rfl' _,Weak.rfl' _,trivial⟩ ?_;simp(disch:=omega)only[vA,vC,lk0,lk1,hkt,n1,n3,List.set,↓Xd,wG,seval];refine X0 g2 (X2 _) ?_;simp(disch:=omega)only[vA,vC,hkt,n1,n3,List.set,↓Xd,wG,seval];refine⟨fun j hj=>lj (Cw (L.getD k v0) (J4 L k)) j hj,fun j hj=>one _,?_⟩;have tk:∀j,j<(M.take k).length*8→XA Cq 8 JM M j=XA Cq 8 JM (M.take k) j:=fun j hj=>by
   have:=MI Cq 8 JM (M.take k) (M.drop k) j (by omega) hj;rwa[List.take_append_drop]at this
  have lt:(M.take k).length=k:=by rw[List.length_take,hMl];omega
  have ld:(M.drop k).length=L.length-k:=by rw[List.length_drop,hMl]
  have l1:(M.take k ++ [RV.of (Cw (L.getD k v0) (J4 L k))]).length=k+1:=by rw[List.length_append,lt];rfl
  have l2:(M.take k ++ [RV.of (Cw (L.getD k v0) (J4 L k))] ++ M.drop k).length=k+1+(L.length-k):=by rw[List.length_append,l1,ld]
  have i0:∀j,j<(M.take k).length*8→Qd 0 (Xg []) (k*8) (fun j=>XA vC 8 v0 L j) j=XA Cq 8 JM (M.take k) j:=fun j hj=>by
   rw[←tk j hj,←dV];rw[lt]at hj;unfold Qd;rw[if_neg (by omega),if_pos (by omega),Nat.sub_zero]
  refine ZP rfl ?_;rw[hR];refine C2 _ rfl (by rw[l2]) (by rw[l2]) fun j hj=>GZ (PA Cq 8 JM _ _ _ _ (by omega) (fun j hj=>?_) (fun j hj=>by rw[dV];exact MH Cq 8 JM M k j (by omega)) _ _ (by rw[l1]) (by rw[ld]) j (by rw[l2];exact hj))
  exact PA Cq 8 JM (M.take k) [RV.of (Cw (L.getD k v0) (J4 L k))] _ _ (by omega) i0 (fun j hj=>by
   have h8:j<8:=by simpa using hj
   have:=JK Cq 8 JM [RV.of (Cw (L.getD k v0) (J4 L k))] 0 j h8;rw[Nat.zero_mul,Nat.zero_add]at this;rw[this];rfl) _ _ (by rw[lt]) rfl j hj
theorem jl (A:List GG)(la:A.length<1000000)(hs:∀g∈A,Fn Tryz.prog 44 [gA g,gA g] (.bool true)):Fn Tryz.prog 46 [Nh A,Nh A] (.bool true):=by
 refine Fn.intro (fn:=Tryz.f46) Tryz.call46 Tryz.func46 rfl mixed 6 [] [] [] (by kernel_rfl) (Nat.le_of_ble_eq_true rfl) (Kd (Z9 A) (Z9 A)) (Xl ?_);simp(disch:=omega)only[AS.start,XC,↓Xd,wG,seval];refine Xj (fun i:Nat=>⟨6,[],[Nh A,Nh A,.any,.any,.any,I i],[],[]⟩) (fun i=>i≤A.length) (fun i=>A.length-i) 0 (by omega)
  (Xi rfl (by simp[Xm,I,XC]) trivial rfl) ?_
 intro i hi next
 have w1:=wj i (by omega);by_cases hi2:i<A.length
 ·have l0:=Km gC 32 gZ A i (by omega)
  have l1:=JK gC 32 gZ A i;have c1:=hs _ (QC gZ hi2);have f2:(i<A.length)=True:=eq_true hi2;generalize A.getD i gZ=g at *;refine Xl ?_;simp(disch:=omega)only[XC,w1,f2,l0,l1,QJ,↓Xd,wG,seval];refine X0 c1 ⟨by rw[gA,QJ];exact Weak.rfl' _,by rw[gA,QJ];exact Weak.rfl' _,trivial⟩ ?_;simp(disch:=omega)only[XC,w1,↓Xd,wG,seval];exact next (i+1) _ (by omega) (by omega) (Aw (by simp[Xm,I,XC]) rfl)
 ·obtain rfl:i=A.length:=by omega
  refine Xl ?_;simp(disch:=omega)only[XC,↓Xd,wG,seval];exact Xk (v:=.bool true) rfl rfl (X5 _) rfl
theorem Ac {W:List V2}{k:Nat}(h:∀ v∈W,vb v≤k)(hk:2≤k):Qp W k:=fun i=>by
 by_cases hi:i<W.length
 ·exact h _ (QC v0 hi)
 ·rw[List.getD_eq_getElem?_getD,List.getElem?_eq_none (by omega)]
  exact Nat.le_trans (show vb v0≤2 by decide +kernel) (by omega)
theorem oQ {a b:V2}(ha:vb a≤7)(hb:vb b≤7):vb (Cw a b)≤18:=by
 have h1:=AU a b;have h3:=Gx 1 2 (by omega) (by omega);have h4:=HG (a.add b) (Rat.divInt 1 2);unfold Cw;omega
theorem WU (L:List V2)(how by':Int)(h:Qp L 7)(h0:L.length≠0)(hm:Xo how 7≠5):∃W:List V2,GO L how by'=W.map RV.of∧Qp W 18∧W.length≤L.length+1:=by
 have hn:(0:Int)<L.length:=by omega
 have bk:=XH by' L.length hn;have bd:=XH (by'.tdiv 16) L.length hn;have a1:=XH by' 17 (by omega);have a2:=XH (by'.tdiv 17) 17 (by omega);have hg:∀i,i<L.length→(L.map RV.of).getD i JM=RV.of (L.getD i v0):=fun i hi=>by
  rw[List.getD_eq_getElem?_getD,List.getElem?_map,List.getD_eq_getElem?_getD];cases L[i]? <;> rfl
 have hL:∀v∈L,vb v≤18:=fun v hv=>by
  obtain⟨i,hi,rfl⟩:=List.getElem_of_mem hv;have:=h i;rw[List.getD_eq_getElem?_getD,List.getElem?_eq_getElem hi]at this;exact Nat.le_trans this (by omega)
 have hset:∀ (k:Nat) (x:V2),vb x≤18→∀v∈L.set k x,vb v≤18:=fun k x hx v hv=>by
  rcases List.mem_or_eq_of_mem_set hv with hv |hv
  ·exact hL v hv
  ·rw[hv];exact hx
 have hmid:=oQ (h (Xo by' L.length).toNat) (h (((Xo by' L.length).toNat+1)%L.length));rw[show L.getD (((Xo by' L.length).toNat+1)%L.length) v0=J4 L (Xo by' L.length).toNat from rfl]at hmid;have hd:=hg (Xo (by'.tdiv 16) L.length).toNat (by omega);have hdb:=h (Xo (by'.tdiv 16) L.length).toNat;unfold GO;rw[if_neg h0];have hlk:(Xo by' L.length).toNat<L.length:=by omega
 generalize (Xo by' L.length).toNat=k at *;generalize (Xo (by'.tdiv 16) L.length).toNat=d at *
 split
 ·exact⟨L.take k ++ L.drop (k+1),by simp,Ac (fun v hv=>by
   rcases List.mem_append.1 hv with hv |hv
   ·exact hL v (List.mem_of_mem_take hv)
   ·exact hL v (List.mem_of_mem_drop hv)) (by omega),by simp;omega⟩
 split
 ·refine⟨L.set k (pI (Xo by' 17-8) (Xo (by'.tdiv 17) 17-8)),by rw[List.map_set],Ac (hset k _ (Nat.le_trans (GX _ _ (by omega) (by omega)) (by omega))) (by omega),by simp⟩
 split
 ·exact⟨L.set k (L.getD d v0),by rw[List.map_set,hd],Ac (hset k _ (by omega)) (by omega),by simp⟩
 split
 ·exact⟨L.set k (Cw (L.getD k v0) (J4 L k)),by rw[List.map_set],Ac (hset k _ hmid) (by omega),by simp⟩
 split
 ·refine⟨(List.range L.length).map fun j=>L.getD (L.length-1-j) v0,?_,Ac (fun v hv=>?_) (by omega),by simp⟩
  ·rw[List.map_map]
   exact List.map_congr_left fun j hj=>hg _ (by have:=List.mem_range.1 hj;omega)
  ·obtain⟨j,hj,rfl⟩:=List.mem_map.1 hv
   exact Nat.le_trans (h _) (by omega)
 exact⟨L.take k ++ [Cw (L.getD k v0) (J4 L k)] ++ L.drop k,by simp,Ac (fun v hv=>by
  rcases List.mem_append.1 hv with hv |hv
  ·rcases List.mem_append.1 hv with hv |hv
   ·exact hL v (List.mem_of_mem_take hv)
   ·rw[List.mem_singleton.1 hv];exact hmid
  ·exact hL v (List.mem_of_mem_drop hv)) (by omega),by simp;omega⟩
theorem VK (r:Rat):¬ (RQ.mk (RQ.of r).pn (RQ.of r).pd false [1]).ok:=by
 rw[RQ.ok_iff _ r.num 1 rfl rfl (by simp) (show [(1:Int)]=X9 1 by decide +kernel)];rintro⟨_,h,_⟩;exact h rfl
theorem T6 (L:List V2)(how by':Int)(h:Qp L 7)(h0:L.length≠0)(hm:Xo how 7=5):(GO L how by').length=L.length∧rz (GO L how by')∧∃k,k<(GO L how by').length∧¬ ((GO L how by').getD k JM).ok:=by
 have hn:(0:Int)<L.length:=by omega
 have bk:=XH by' L.length hn;have hg:∀i,(L.map RV.of).getD i JM=RV.of (L.getD i v0):=fun i=>by
  rw[List.getD_eq_getElem?_getD,List.getElem?_map,List.getD_eq_getElem?_getD];cases L[i]? <;> rfl
 unfold GO;rw[if_neg h0,if_neg (by omega),if_neg (by omega),if_neg (by omega),if_neg (by omega),if_neg (by omega),if_pos hm];have hlk:(Xo by' L.length).toNat<L.length:=by omega
 generalize (Xo by' L.length).toNat=k at *;rw[hg];have hs:∀v:V2,vb v≤7→(RV.of v).x.sz<1000000000∧(RV.of v).y.sz<1000000000:=fun v hv=>by
  have h1:=RQ.of_sz v.x;have h2:=RQ.of_sz v.y;have h3:=QS v;have h4:=QN v;exact⟨by show(RQ.of v.x).sz<_;omega,by show(RQ.of v.y).sz<_;omega⟩
 refine⟨by simp,fun i=>?_,k,by simpa using hlk,?_⟩
 ·rw[List.getD_eq_getElem?_getD]
  by_cases e:k=i
  ·subst e
   rw[List.getElem?_set_self (by simpa using hlk)];have:=hs _ (h k);refine⟨?_,this.2⟩;have h1:=this.1;unfold RQ.sz at h1 ⊢;show max (RQ.of (L.getD k v0).x).pd.length ([1]:List Int).length<_;have h2:max (RQ.of (L.getD k v0).x).pd.length (RQ.of (L.getD k v0).x).qd.length<1000000000:=h1;simp only[List.length_singleton];omega
  ·rw[List.getElem?_set_ne e,←List.getD_eq_getElem?_getD,hg]
   exact hs _ (h i)
 ·rw[List.getD_eq_getElem?_getD,List.getElem?_set_self (by simpa using hlk)]
  intro ho;exact VK _ ho.1
end
end Go.Ab.N
