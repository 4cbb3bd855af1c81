/- Contracts of functions, for every argument that fits. -/
import Derived.Test.YtcmfnmceomhgcaaGreatC12
import Derived.Test.YtcmfnmceomhgcaaGreatC9
import Derived.Test.YtcmfnmceomhgcaaGreatC10
set_option linter.unusedSimpArgs false
set_option linter.unusedVariables false
namespace Go.Ab.N
open Go Go.RowKit Go.Proofs
noncomputable section
set_option maxRecDepth 10000
set_option maxHeartbeats 4000000
open Classical
def KD (b:BB)(l:List GG):Nat→GG×Rat
 |0=>(gZ,-1)
 |k+1=>if(KD b l k).2<Iy b (l.getD k gZ)then(l.getD k gZ,Iy b (l.getD k gZ))else KD b l k
def eJ (b:BB)(l:List GG):GG×Rat×Int:=if(KD b l l.length).2<0 then(gZ,0,6)else((KD b l l.length).1,(KD b l l.length).2,0)
def PV (L:List V2)(b:BB)(f r:Rat):GG×Rat×Int:=if Bk L∧Ag b=true∧Ba f r=true then eJ b (Nv L f r)else(gZ,0,1)
def rp (x:GG×Rat×Int):AV:=.tup [gA x.1,qA x.2.1,I x.2.2]
def zg (t:Bool):List AV:=zC t ++ zC t ++ zC t ++ [.bool false,.sl 0 0 (fun _=>.any) t,.bool false,.sl 0 0 (fun _=>.any) t] ++ [.bool false,.sl 0 0 (fun _=>.any) t,.bool false,.sl 0 0 (fun _=>.any) t]
def lC (t:Bool):List AV:=[.bool false,.sl 0 0 (fun _=>.any) t,.bool false,.sl 0 0 (fun _=>.any) t]
theorem Pq (t:Bool):WeakL (zg t) (gC gZ):=by
 obtain⟨q1,q2,q3,q4,_⟩:=Kd t;exact⟨q1,q2,q3,q4,q1,q2,q3,q4,q1,q2,q3,q4,q1,q2,q3,q4,q1,q2,q3,q4,q1,q2,q3,q4,q1,q2,q3,q4,q1,q2,q3,q4,trivial⟩
theorem Le {b:BB}{l:List GG}(h:∀i,i<l.length→∃p q,Mg b (l.getD i gZ) p q):∀k,k≤l.length→qb (KD b l k).2≤rm
 |0,_=>by unfold rm;show qb (-1)≤_;exact Nat.le_trans (by decide +kernel:qb (-1)≤10) (by omega)
 |k+1,hk=>by
  have ih:=Le h k (by omega);obtain⟨p,q,hm⟩:=h k (by omega);have:=hm.z.2.2.2.2;unfold rm at *;show qb (if(KD b l k).2<Iy b (l.getD k gZ)then(l.getD k gZ,Iy b (l.getD k gZ))else KD b l k).2≤_
  split
  ·show qb (Iy b (l.getD k gZ))≤_;omega
  ·exact ih
theorem ib (L:List V2)(b:BB)(f r:Rat)(h:QN L 7)(hl:L.length≤12)(hb:bS b)(hf:qb f≤40)(hr:qb r≤40):Fn Tryz.prog 42 [Ql L,bA b,qA f,qA r] (rp (PV L b f r)):=by
 have c1:=Hx L (fun i=>Nat.le_trans (h i) (by omega)) (by omega);have c2:=LF b hb.ok;have c3:=LH f r (by unfold rm;omega) (by unfold rm;omega);have c4:=Rp L f r h (by omega) (by omega) hf hr;have c5:=Cz (-1) 1 ⟨by omega,by omega⟩ ⟨by omega,by omega⟩;obtain⟨R,hR⟩:∃R,R=PV L b f r:=⟨_,rfl⟩
 rw[←hR];have fk:=VK L h f r;unfold ZH at c4 fk;rw[Gy]at c4 fk;unfold PV at hR;have bad:∀ (s:AS) (c:Int),s.get 8=.ref 3 0 0→s.get 9=.ref 4 0 0→s.get 10=I c→s.h[3]?=some (.row 0 32 (Xf (zg false)))→s.h[4]?=some (.row 0 4 (Xf [.bool false,.sl 0 0 (fun _=>.any) false,.bool false,.sl 0 0 (fun _=>.any) false]))→R=(gZ,0,c)→RetOk (Ju Tryz.prog Tryz.f42 [11000000000001,11000000000002,15000000000001,15000000000002] [] (rp R)) s:=by
  intro s c e1 e2 e3 e4 e5 e6;unfold rp;rw[e6];exact Dw (r1:=.cell 8 32) (r2:=.cell 9 28) (r3:=.tmp 10) rfl (Xs I0 e1 e4 rfl) (Xs XR e2 e5 rfl) (congrArg some e3) (XF (Jh _) (ZR (Pq _))) (XF (Xa _) (ZR (Kd _))) (Q1 (Xb _) rfl)
 refine Fq Tryz.call42 Tryz.func42 18 [38,39,40] [11000000000001,11000000000002,15000000000001,15000000000002] [] (by simp[Xq,Xa,Z3]) (Xk ?_);simp(disch:=omega)only[AS.start,X7,bA,QW,qA,qC,↓Xd,wG,seval];refine X0 c1 ⟨by rw[X7];exact Weak.rfl' _,trivial⟩ ?_;simp(disch:=omega)only[↓Xd,wG,seval];refine⟨fun hp=>bad _ 1 rfl rfl rfl rfl rfl (by rw[hR,if_neg fun h=>hp h.1]),fun hp=>?_⟩;refine X0 c2 ⟨by rw[bA,QW];exact Weak.rfl' _,trivial⟩ ?_;simp(disch:=omega)only[↓Xd,wG,seval];refine⟨fun hp2=>bad _ 1 rfl rfl rfl rfl rfl (by rw[hR,if_neg fun h=>by rw[h.2.1]at hp2;exact absurd hp2 (by simp)]),fun hp2=>?_⟩;have hp2:Ag b=true:=by simpa using hp2
 refine X0 c3 (X2 _) ?_;simp(disch:=omega)only[↓Xd,wG,seval];refine⟨fun hp3=>bad _ 1 rfl rfl rfl rfl rfl (by rw[hR,if_neg fun h=>by rw[h.2.2]at hp3;exact absurd hp3 (by simp)]),fun hp3=>?_⟩;have hp3:Ba f r=true:=by simpa using hp3
 rw[if_pos ⟨hp,hp3⟩]at c4 fk;rw[if_pos ⟨hp,hp2,hp3⟩]at hR;have hGl:(Nv L f r).length≤1000:=by
  have:=E7 L f r L.length;have g3:L.length*L.length≤12*12:=Nat.mul_le_mul hl hl;unfold Nv;omega
 generalize Nv L f r=G at *;have hG:∀g∈G,gS g∧Zo g=true:=fun g hg=>by
  obtain⟨k1,k2,k3,k4,k5,k6⟩:=fk g hg;refine⟨⟨by omega,by omega,by omega,by rw[k5];exact hf,by rw[k6];exact hr⟩,?_⟩;unfold Zo;rw[k5,k6,hp3,Bool.true_and,decide_eq_true_eq];rw[Rz];exact k4
 have bP0:∀q,Jq q (bP b)=True:=fun q=>eq_true (X6 (XI fun j _=>Xe (C7 b) j))
 have bV:∀q,Jq q (cH G)=True:=fun q=>eq_true (X6 (Ep G))
 have bO:∀q i,Qa q (.con i 20 (Xf (bC b)))=True:=fun q i=>eq_true fun j _=>X6 (Xe (C7 b) j)
 have bQ:∀q i x,Qa q (.row i 4 (Xf (qC x)))=True:=fun q i x=>eq_true fun j _=>X6 (Xe (QJ x) j)
 have bR:∀q i g,Qa q (.row i 32 (Xf (gC g)))=True:=fun q i g=>eq_true fun j _=>X6 (Xe (KB _) _)
 have bZ:∀q i,Qa q (.row i 32 (Xf (zg true)))=True:=fun q i=>eq_true fun j _=>X6 (Xe (by simp[zg,zC,X5,JB]) j)
 have bZ4:∀q i,Qa q (.row i 4 (Xf (lC true)))=True:=fun q i=>eq_true fun j _=>X6 (Xe (by simp[lC,X5,JB]) j)
 refine X0 c5 (X2 _) ?_;simp(disch:=omega)only[qA,qC,↓Xd,wG,seval];refine X0 c4 ⟨by rw[X7];exact Weak.rfl' _,Weak.rfl' _,Weak.rfl' _,trivial⟩ ?_;simp(disch:=omega)only[Q0,↓Xd,wG,seval];refine Run.sub ?_ (XC 0 rfl);refine Run.sub ?_ (Xy 5 rfl rfl (by omega));have hG2:∀i,i<G.length→∃p q,Mg b (G.getD i gZ) p q:=fun i hi=>by
  obtain⟨g1,g2⟩:=hG _ (Qp gZ hi);exact RE b _ hb g1 hp2 g2
 refine Run.sub ?_ (SR 5 (gC gZ) rfl rfl (Pq true));have dG:AV.sl G.length (G.length*32) (XD gC 32 gZ G) false=cH G:=(Q0 G).symm;rw[dG];refine Xj (fun i:Nat=>⟨18,[38,39,40],[.any,.any,.any,.any,.any,bP b,.any,.any,.ref 3 0 0,.ref 4 0 0,I 0,.ref 5 0 0,.ref 6 0 0,.any,.any,.any,.any,.any],[(38,cH G),(39,I G.length),(40,I i)],[.con 0 20 (Xf (bC b)),.row 0 4 (Xf (qC f)),.row 0 4 (Xf (qC r)),.row 0 32 (Xf (zg true)),.row 0 4 (Xf (lC true)),.row 0 32 (Xf (gC (KD b G i).1)),.row 0 4 (Xf (qC (KD b G i).2))]⟩) (fun i=>i≤G.length) (fun i=>G.length-i) 0 (by omega)
  (Xi rfl ⟨.inl rfl,.inl rfl,.inl rfl,.inl rfl,.inl rfl,.inr rfl,.inl rfl,.inl rfl,.inr rfl,.inr rfl,.inr rfl,.inr rfl,.inr rfl,.inl rfl,.inl rfl,.inl rfl,.inl rfl,.inl rfl,trivial⟩ (by simp[AS.put,Xw,XA,I]) rfl) ?_
 intro i hi next
 have w1:=wj i (by omega);by_cases hi2:i<G.length
 rotate_left
 ·obtain rfl:i=G.length:=by omega
  unfold eJ at hR;have hz:qb (KD b G G.length).2≤rm:=Le hG2 _ (Nat.le_refl _);have cs:=Qe (KD b G G.length).2;have sg1:=B0 (KD b G G.length).2;obtain⟨p,hp⟩:∃p,p=KD b G G.length:=⟨_,rfl⟩
  rw[←hp]at cs sg1 hR hz;rw[←hp];obtain⟨g,m⟩:=p;simp only at cs sg1 hR hz;refine XG 19 ?_;simp(disch:=omega)only[Q0,↓Xd,wG,seval];refine X0 cs (X2 _) ?_;simp(disch:=omega)only[sg1,↓Xd,wG,seval];refine⟨fun hm=>?_,fun hm=>?_⟩
  ·rw[if_pos hm]at hR
   refine Xk ?_;simp(disch:=omega)only[zg,zC,lC,List.cons_append,List.nil_append,↓Xd,wG,seval];exact bad _ 6 rfl rfl rfl rfl rfl hR
  ·rw[if_neg hm]at hR
   rw[hR];refine XG 2 ?_;simp(disch:=omega)only[↓Xd,wG,seval];show Run _ (_ :: _) _;refine AF (fun x=>x=6) ?_;obtain⟨A,hA⟩:∃A:AO,A=.con 0 20 (Xf (bC b)):=⟨_,rfl⟩
   obtain⟨B,hB⟩:∃B:AO,B=.row 0 4 (Xf (qC f)):=⟨_,rfl⟩
   obtain⟨C,hC⟩:∃C:AO,C=.row 0 4 (Xf (qC r)):=⟨_,rfl⟩
   have l0:=KJ (P:=Tryz.prog) (T:=32) (id:=5) (Z:=gC g) (H:=[A,B,C,.row 0 32 (Xf (zg true)),.row 0 4 (Xf (lC true)),.row 0 32 (Xf (gC g)),.row 0 4 (Xf (qC m))]) I0 rfl rfl;have l1:=KJ (P:=Tryz.prog) (T:=28) (id:=6) (Z:=qC m) (H:=[A,B,C,.row 0 32 (Xf (zg true)),.row 0 4 (Xf (lC true)),.row 0 32 (Xf (gC g)),.row 0 4 (Xf (qC m))]) XR rfl rfl;have l2:=K1 (P:=Tryz.prog) (T:=32) (id:=3) (Z:=zg true) (W:=gC g) (H:=[A,B,C,.row 0 32 (Xf (zg true)),.row 0 4 (Xf (lC true)),.row 0 32 (Xf (gC g)),.row 0 4 (Xf (qC m))]) Pl rfl rfl rfl (by decide) rfl;have l3:=K1 (P:=Tryz.prog) (T:=28) (id:=4) (Z:=lC true) (W:=qC m) (H:=[A,B,C,.row 0 32 (Xf (gC g)),.row 0 4 (Xf (lC true)),.row 0 32 (Xf (gC g)),.row 0 4 (Xf (qC m))]) Pk rfl rfl rfl (by decide) rfl;rw[hA,hB,hC]at l0 l1 l2 l3;show ∃s',AExecT _ _ _ _ _ _ _ _ _ _ s'∧_;refine⟨_,⟨In rfl,_,Qt rfl rfl rfl rfl (congrArg (Option.map fun w=>(w,_)) l0),tV rfl rfl (fun o' va off e=>by cases e;rfl),_,Qt rfl rfl rfl rfl (congrArg (Option.map fun w=>(w,_)) l1),
    uP rfl rfl (fun o' va off e=>by cases e;decide),_,Qt rfl rfl rfl rfl (congrArg (Option.map fun w=>(XO,w)) l2),In rfl,_,Qt rfl rfl rfl rfl (congrArg (Option.map fun w=>(XO,w)) l3),In rfl,_,Qt (v:=I 0) (h':=[.con 0 20 (Xf (bC b)),.row 0 4 (Xf (qC f)),.row 0 4 (Xf (qC r)),.row 0 32 (Xf (gC g)),.row 0 4 (Xf (qC m)),.row 0 32 (Xf (gC g)),.row 0 4 (Xf (qC m))]) rfl rfl rfl rfl rfl,rfl⟩,?fin⟩
   refine Run.sub (s':=⟨18,[38,39,40],[.any,.any,.any,.any,.any,.any,.any,.any,.ref 3 0 0,.ref 4 0 0,I 0,.any,.any,.any,.any,.any,.any,.any],[],[A,B,C,.row 0 32 (Xf (gC g)),.row 0 4 (Xf (qC m)),.row 0 32 (Xf (gC g)),.row 0 4 (Xf (qC m))]⟩) ?_ (Xi rfl ⟨.inl rfl,.inl rfl,.inl rfl,.inl rfl,.inl rfl,.inl rfl,.inl rfl,.inl rfl,.inr rfl,.inr rfl,.inr rfl,.inl rfl,.inl rfl,.inl rfl,.inl rfl,.inl rfl,.inl rfl,.inl rfl,trivial⟩ trivial (by rw[hA,hB,hC];rfl));refine Xk ?_;simp(disch:=omega)only[↓Xd,wG,seval];exact Dw (r1:=.cell 8 32) (r2:=.cell 9 28) (r3:=.tmp 10) rfl (Xs I0 rfl rfl rfl) (Xs XR rfl rfl rfl) rfl (Q1 (Jh _) rfl) (Q1 (Xa _) rfl) (Q1 (Xb _) rfl)
 have nx:=next (i+1)
 rw[show KD b G (i+1)=if(KD b G i).2<Iy b (G.getD i gZ)then(G.getD i gZ,Iy b (G.getD i gZ))else KD b G i from rfl]at nx;obtain⟨p,q,hm⟩:=hG2 i hi2;have l0:=Z7 gC 32 gZ G i (by omega);have l1:=KS gC 32 gZ G i;have hz:qb (KD b G i).2≤rm:=Le hG2 _ hi;generalize G.getD i gZ=g at *;have hz2:=hm.z.2.2.2.2;have cm:=hm.fn;have cc:=QR (Iy b g) (KD b G i).2 (by unfold rm;omega) hz;have f1:(i<G.length)=True:=eq_true hi2;clear hm c1 c2 c3 c4 c5 hR hG hG2 fk next bad
 generalize Iy b g=m at *;obtain⟨h0,hh0⟩:∃h0,h0=(KD b G i).1:=⟨_,rfl⟩
 obtain⟨m0,hm0⟩:∃m0,m0=(KD b G i).2:=⟨_,rfl⟩
 rw[←hm0]at cc nx hz;rw[←hh0,←hm0];refine XG 66 ?_;simp(disch:=omega)only[Q0,w1,f1,l0,l1,bP,QW,QK,↓Xd,wG,seval];refine X0 cm ⟨by rw[bA,QW];exact Weak.rfl' _,by rw[gA,QK];exact Weak.rfl' _,trivial⟩ ?_;simp(disch:=omega)only[qA,qC,↓Xd,wG,seval];refine X0 cc (X2 _) ?_;simp(disch:=omega)only[AZ,↓Xd,wG,seval];refine⟨fun hc=>?_,fun hc=>?_⟩
 rotate_left
 ·rw[if_neg hc]at nx
  refine Xk ?_;simp(disch:=omega)only[Q0,↓Xd,wG,seval];exact nx _ (by omega) (by omega) (XT (m:=7) (Nat.zero_le _) rfl ⟨.inl rfl,.inl rfl,.inl rfl,.inl rfl,.inl rfl,.inr rfl,.inl rfl,.inl rfl,.inr rfl,.inr rfl,.inr rfl,.inr rfl,.inr rfl,.inl rfl,.inl rfl,.inl rfl,.inl rfl,.inl rfl,trivial⟩ (by simp[Xw,XA,Q0,I]) (by rw[hh0,hm0,QW];rfl) (by simp[XW,bV,bP0]) (by simp[XW,bV]) (by simp[bO,bR,bQ,bZ,bZ4]))
 ·rw[if_pos hc]at nx
  show Run _ (_ :: _) _;refine AF (fun x=>x=8) ?_;obtain⟨A,hA⟩:∃A:AO,A=.con 0 20 (Xf (bC b)):=⟨_,rfl⟩
  obtain⟨B,hB⟩:∃B:AO,B=.row 0 4 (Xf (qC f)):=⟨_,rfl⟩
  obtain⟨C,hC⟩:∃C:AO,C=.row 0 4 (Xf (qC r)):=⟨_,rfl⟩
  obtain⟨D,hD⟩:∃D:AO,D=.row 0 32 (Xf (zg true)):=⟨_,rfl⟩
  obtain⟨E,hE⟩:∃E:AO,E=.row 0 4 (Xf (lC true)):=⟨_,rfl⟩
  have l0:=KJ (P:=Tryz.prog) (T:=32) (id:=7) (Z:=gC g) (H:=[A,B,C,D,E,.row 0 32 (Xf (gC h0)),.row 0 4 (Xf (qC m0)),.row 0 32 (Xf (gC g)),.row 0 4 (Xf (qC m))]) I0 rfl rfl;have l1:=KJ (P:=Tryz.prog) (T:=28) (id:=8) (Z:=qC m) (H:=[A,B,C,D,E,.row 0 32 (Xf (gC h0)),.row 0 4 (Xf (qC m0)),.row 0 32 (Xf (gC g)),.row 0 4 (Xf (qC m))]) XR rfl rfl;have l2:=K1 (P:=Tryz.prog) (T:=32) (id:=5) (Z:=gC h0) (W:=gC g) (H:=[A,B,C,D,E,.row 0 32 (Xf (gC h0)),.row 0 4 (Xf (qC m0)),.row 0 32 (Xf (gC g)),.row 0 4 (Xf (qC m))]) Pl rfl rfl rfl (by decide) rfl;have l3:=K1 (P:=Tryz.prog) (T:=28) (id:=6) (Z:=qC m0) (W:=qC m) (H:=[A,B,C,D,E,.row 0 32 (Xf (gC g)),.row 0 4 (Xf (qC m0)),.row 0 32 (Xf (gC g)),.row 0 4 (Xf (qC m))]) Pk rfl rfl rfl (by decide) rfl;rw[hA,hB,hC,hD,hE]at l0 l1 l2 l3;show ∃s',AExecT _ _ _ _ _ _ _ _ _ _ s'∧_;refine⟨_,⟨In rfl,_,Qt rfl rfl rfl rfl (congrArg (Option.map fun w=>(w,_)) l0),tV rfl rfl (fun o' va off e=>by cases e;rfl),_,Qt rfl rfl rfl rfl (congrArg (Option.map fun w=>(w,_)) l1),
   uP rfl rfl (fun o' va off e=>by cases e;decide),_,Qt rfl rfl rfl rfl (congrArg (Option.map fun w=>(XO,w)) l2),In rfl,_,Qt rfl rfl rfl rfl (congrArg (Option.map fun w=>(XO,w)) l3),rfl⟩,?fin2⟩
  refine Run.sub (s':=⟨18,[38,39,40],[.any,.any,.any,.any,.any,bP b,.any,.any,.ref 3 0 0,.ref 4 0 0,I 0,.ref 5 0 0,.ref 6 0 0,.any,.any,.any,.any,.any],[(38,cH G),(39,I G.length),(40,I i)],[A,B,C,D,E,.row 0 32 (Xf (gC g)),.row 0 4 (Xf (qC m)),.row 0 32 (Xf (gC g)),.row 0 4 (Xf (qC m))]⟩) ?_ (Xi rfl ⟨.inl rfl,.inl rfl,.inl rfl,.inl rfl,.inl rfl,.inr rfl,.inl rfl,.inl rfl,.inr rfl,.inr rfl,.inr rfl,.inr rfl,.inr rfl,.inl rfl,.inl rfl,.inl rfl,.inl rfl,.inl rfl,trivial⟩ ⟨.inr rfl,.inr rfl,.inr rfl,trivial⟩ (by rw[hA,hB,hC,hD,hE];rfl));refine Xk ?_;simp(disch:=omega)only[Q0,↓Xd,wG,seval];exact nx _ (by omega) (by omega) (XT (m:=7) (Nat.zero_le _) rfl (by simp[Q0,Xm,I]) (by simp[Xw,XA,Q0,I]) (by rw[hA,hB,hC,hD,hE];rfl) (by simp[XW,bV,bP0]) (by simp[XW,bV]) (by simp[hA,hB,hC,hD,hE,bO,bR,bQ,bZ,bZ4]))
theorem Nt {α:Type}(d:α):∀ {A B:List α},A.length=B.length→(∀j,j<A.length→A.getD j d=B.getD j d)→A=B
 | [],[],_,_=>rfl
 |a :: A,b :: B,hl,h=>by
  have h0:=h 0 (by simp);rw[show a=b from h0,Nt d (A:=A) (B:=B) (by simpa using hl) fun j hj=>h (j+1) (by simpa using hj)]
theorem Sw (A B:List V2)(hA:∀i,vb (A.getD i v0)≤vm) (hB:∀i,vb (B.getD i v0)≤vm) (la:A.length<1000000) (lb:B.length<1000000):Fn Tryz.prog 115 [Ql A,Ql B] (.bool (decide (A=B))):=by
 obtain⟨V,hV⟩:∃V,V=decide (A=B):=⟨_,rfl⟩
 rw[←hV];refine Fn.intro (fn:=Tryz.f115) Tryz.call115 Tryz.func115 rfl mixed 6 [] [] [] (by kernel_rfl) (Nat.le_of_ble_eq_true rfl) (JY (Xq A) (Xq B)) (Xk ?_);by_cases hl:A.length=B.length
 rotate_left
 ·have f1:((A.length:Int)=B.length)=False:=eq_false (by omega)
  have f2:(A.length=B.length)=False:=eq_false hl;simp(disch:=omega)only[AS.start,X7,f1,f2,↓Xd,wG,seval];exact Xo (v:=.bool false) rfl rfl (X5 _) (by rw[hV,decide_eq_false fun e=>hl (by rw[e])])
 have f1:(A.length=B.length)=True:=eq_true hl;simp(disch:=omega)only[AS.start,X7,f1,↓Xd,wG,seval];refine Xj (fun i:Nat=>⟨6,[],[Ql A,Ql B,.any,.any,.any,I i],[],[]⟩) (fun i=>i≤A.length∧∀j,j<i→A.getD j v0=B.getD j v0) (fun i=>A.length-i) 0 ⟨by omega,by omega⟩
  (Xi rfl (by simp[Xm,I,X7]) trivial rfl) ?_
 rintro i ⟨hi,hs⟩ next
 have w1:=wj i (by omega);by_cases hi2:i<A.length
 ·have v1:=vF A i
  have v2:=vF B i;have c1:=UL (A.getD i v0) (B.getD i v0) (hA i) (hB i);have f2:(i<A.length)=True:=eq_true hi2;have f3:(i<B.length)=True:=eq_true (by omega);obtain⟨x,hx⟩:∃x,x=A.getD i v0:=⟨_,rfl⟩
  obtain⟨y,hy⟩:∃y,y=B.getD i v0:=⟨_,rfl⟩
  rw[←hx]at v1 c1;rw[←hy]at v2 c1;refine Xk ?_;simp(disch:=omega)only[X7,w1,f2,f3,v1,v2,↓Xd,wG,seval];refine X0 c1 ⟨by rw[vA,vC];exact Weak.rfl' _,by rw[vA,vC];exact Weak.rfl' _,trivial⟩ ?_;simp(disch:=omega)only[X7,↓Xd,wG,seval];refine⟨fun h=>?_,fun h=>?_⟩
  ·exact Xo (v:=.bool false) rfl rfl (X5 _) (by rw[hV,decide_eq_false fun e=>h (by rw[hx,hy,e])])
  ·exact next (i+1) _ ⟨by omega,fun j hj=>by
    by_cases e:j=i
    ·rw[e,←hx,←hy];exact h
    ·exact hs j (by omega)⟩ (by omega) (BA (by simp[Xm,I,X7]) rfl)
 ·obtain rfl:i=A.length:=by omega
  refine Xk ?_;simp(disch:=omega)only[X7,↓Xd,wG,seval];exact Xo (v:=.bool true) rfl rfl (X5 _) (by rw[hV,decide_eq_true (Nt v0 hl hs)])
def gW (g:GG):Prop:=vb g.p≤10000∧vb g.q≤10000∧vb g.n≤10000∧qb g.force≤10000∧qb g.rough≤10000
theorem gS.w {g:GG}(h:gS g):gW g:=by obtain⟨h1,h2,h3,h4,h5⟩:=h;unfold gW;omega
theorem YT (a b:GG)(ha:gW a)(hb:gW b):Fn Tryz.prog 44 [gA a,gA b] (.bool (decide (a=b))):=by
 obtain⟨a1,a2,a3,a4,a5⟩:=ha;obtain⟨b1,b2,b3,b4,b5⟩:=hb;have sm:∀p q n:V2,vb p≤10000→vb q≤10000→vb n≤10000→∀i,vb ([p,q,n].getD i v0)≤vm:=fun p q n h1 h2 h3 i=>by
  unfold vm
  match i with
  |0=>show vb p≤_;omega
  |1=>show vb q≤_;omega
  |2=>show vb n≤_;omega
  |_+3=>exact Nat.le_trans vH (by omega)
 have c1:=Sw [a.p,a.q,a.n] [b.p,b.q,b.n] (sm _ _ _ a1 a2 (by omega)) (sm _ _ _ b1 b2 (by omega)) (by simp) (by simp);have c2:=FN a.force b.force (by unfold rm;omega) (by unfold rm;omega);have c3:=FN a.rough b.rough (by unfold rm;omega) (by unfold rm;omega);have e1:decide ([a.p,a.q,a.n]=[b.p,b.q,b.n])=decide (a.p=b.p∧a.q=b.q∧a.n=b.n):=decide_eq_decide.2 (by simp);rw[e1]at c1;obtain⟨V,hV⟩:∃V,V=decide (a=b):=⟨_,rfl⟩
 have hV:V=(decide (a.p=b.p∧a.q=b.q∧a.n=b.n) && (decide (a.force=b.force) && decide (a.rough=b.rough))):=by
  rw[hV,←Bool.decide_and,←Bool.decide_and,decide_eq_decide];cases a;cases b;rw[GG.mk.injEq];constructor
  ·rintro⟨h1,h2,h3,h4,h5⟩;exact⟨⟨h1,h2,h3⟩,h4,h5⟩
  ·rintro⟨⟨h1,h2,h3⟩,h4,h5⟩;exact⟨h1,h2,h3,h4,h5⟩
 rename_i hV0;rw[←hV0];generalize decide (a.p=b.p∧a.q=b.q∧a.n=b.n)=x at *;generalize decide (a.force=b.force)=y at *;generalize decide (a.rough=b.rough)=z at *;refine Fn.intro (fn:=Tryz.f44) Tryz.call44 Tryz.func44 rfl mixed 5 [] [] [] (by kernel_rfl) (Nat.le_of_ble_eq_true rfl) (JY (Jh a) (Jh b)) (Xk ?_);simp(disch:=omega)only[AS.start,gA,QK,↓Xd,wG,seval];cases x
 ·refine X0 c1 ⟨JD vC 8 v0 (fun _=>rfl) [a.p,a.q,a.n] _ _ _ _ rfl rfl rfl,JD vC 8 v0 (fun _=>rfl) [b.p,b.q,b.n] _ _ _ _ rfl rfl rfl,trivial⟩ ?_
  simp(disch:=omega)only[↓Xd,wG,seval];exact Xo (v:=.bool false) rfl rfl (X5 _) (by rw[hV];rfl)
 ·refine X0 c1 ⟨JD vC 8 v0 (fun _=>rfl) [a.p,a.q,a.n] _ _ _ _ rfl rfl rfl,JD vC 8 v0 (fun _=>rfl) [b.p,b.q,b.n] _ _ _ _ rfl rfl rfl,trivial⟩ ?_
  cases y
  ·simp(disch:=omega)only[↓Xd,wG,seval]
   refine X0 c2 (X2 _) ?_;simp(disch:=omega)only[↓Xd,wG,seval];exact Xo (v:=.bool false) rfl rfl (X5 _) (by rw[hV];rfl)
  ·simp(disch:=omega)only[↓Xd,wG,seval]
   refine X0 c2 (X2 _) ?_;simp(disch:=omega)only[↓Xd,wG,seval];refine X0 c3 (X2 _) ?_;simp(disch:=omega)only[↓Xd,wG,seval];exact Xo (v:=.bool z) rfl rfl (X5 _) (by rw[hV];rfl)
theorem Rs (a b:GG)(ha:gS a)(hb:gS b):Fn Tryz.prog 44 [gA a,gA b] (.bool (decide (a=b))):=YT a b ha.w hb.w
theorem Ul (L:List V2)(f r k1 k2 k3 k4 n5:Rat)(u1 u2 u3 u4 u5 u6:V2)(B1 B6:BB)(x1 x2 y1 y2 z1 z2:Rat×Rat)
  (o1:Fn Tryz.prog 20 [I 8,I 1] (qA f)) (o2:Fn Tryz.prog 20 [I 1,I 2] (qA r))
  (o3:Fn Tryz.prog 20 [I 4,I 1] (qA k1)) (o4:Fn Tryz.prog 20 [I 3,I 2] (qA k3)) (o5:Fn Tryz.prog 20 [I 3,I 1] (qA k4)) (o6:Fn Tryz.prog 20 [I 5,I 1] (qA n5))
  (sq:Fn Tryz.prog 75 [] (Ql L))
  (c1:Fn Tryz.prog 45 [Ql L,qA f,qA r] (cH [⟨u1,u2,u3,f,r⟩,⟨u4,u5,u6,f,r⟩]))
  (p1:Fn Tryz.prog 53 [I 1,I 0] (vA u1)) (p2:Fn Tryz.prog 53 [I 1,I 2] (vA u2)) (p3:Fn Tryz.prog 53 [I 0,I 2] (vA u3))
  (p4:Fn Tryz.prog 53 [I 2,I 1] (vA u4)) (p5:Fn Tryz.prog 53 [I 0,I 1] (vA u5)) (p6:Fn Tryz.prog 53 [I (-2),I 0] (vA u6))
  (b1:Fn Tryz.prog 76 [I 100] (bA B1)) (b2:Fn Tryz.prog 76 [I 6] (bA B6))
  (m1:Fn Tryz.prog 22 [bA B1,gA ⟨u1,u2,u3,f,r⟩] (.tup [qA k1,Wf [x1,x2],I 0]))
  (m2:Fn Tryz.prog 22 [bA B1,gA ⟨u4,u5,u6,f,r⟩] (.tup [qA k1,Wf [y1,y2],I 0]))
  (m3:Fn Tryz.prog 22 [bA B6,gA ⟨u4,u5,u6,f,r⟩] (.tup [qA k3,Wf [z1,z2],I 0]))
  (cb:Fn Tryz.prog 42 [Ql L,bA B6,qA f,qA r] (.tup [gA ⟨u1,u2,u3,f,r⟩,qA k4,I 0]))
  (s1:Fn Tryz.prog 44 [gA ⟨u1,u2,u3,f,r⟩,gA ⟨u1,u2,u3,f,r⟩] (.bool true))
  (s2:Fn Tryz.prog 44 [gA ⟨u4,u5,u6,f,r⟩,gA ⟨u4,u5,u6,f,r⟩] (.bool true))
  (q1:Fn Tryz.prog 26 [qA k1,qA k1] (.bool true)) (q3:Fn Tryz.prog 26 [qA k3,qA k3] (.bool true)) (q4:Fn Tryz.prog 26 [qA k4,qA k4] (.bool true))
  (d1:Fn Tryz.prog 29 [bA B1,gA ⟨u1,u2,u3,f,r⟩,qA k1,Wf [x1,x2]] (I 0))
  (d2:Fn Tryz.prog 29 [bA B1,gA ⟨u1,u2,u3,f,r⟩,qA n5,Wf [x1,x2]] (I 22))
  (v1:Fn Tryz.prog 15 [Ql L,gA ⟨u1,u2,u3,f,r⟩] (I 0)) (v2:Fn Tryz.prog 15 [Ql L,gA gZ] (I 1)) :
  Fn Tryz.prog 17 [] (.bool true):=by
 obtain⟨G,hG⟩:∃G:List GG,G=[⟨u1,u2,u3,f,r⟩,⟨u4,u5,u6,f,r⟩]:=⟨_,rfl⟩
 have l1:∀j,j<32→XD gC 32 gZ G j=(gC ⟨u1,u2,u3,f,r⟩).getD j .any:=fun j hj=>by
  have:=KS gC 32 gZ G 0 j hj;rw[show G.getD 0 gZ=⟨u1,u2,u3,f,r⟩by rw[hG];rfl]at this;rw[←this];congr 1;omega
 have l3:∀j,32≤j→j<64→XD gC 32 gZ G j=(gC ⟨u4,u5,u6,f,r⟩).getD (j-32) .any:=fun j h1 h2=>by
  have:=KS gC 32 gZ G 1 (j-32) (by omega);rw[show G.getD 1 gZ=⟨u4,u5,u6,f,r⟩by rw[hG];rfl]at this;rw[←this];congr 1;omega
 rw[←hG]at c1;have hl:G.length=2:=by rw[hG];rfl
 clear hG;refine Fn.intro (fn:=Tryz.f17) Tryz.call17 Tryz.func17 rfl mixed 19 [] [6,7003,7004,7,8003,8004,8,9003,9,10003,10,11003,11,12002,12003] [] (by kernel_rfl) (Nat.le_of_ble_eq_true rfl) (by simp) (Xk ?_);simp(disch:=omega)only[AS.start,↓Xd,wG,seval];refine X0 o1 (X2 _) ?_;simp(disch:=omega)only[qA,qC,↓Xd,wG,seval];refine X0 o2 (X2 _) ?_;simp(disch:=omega)only[qA,qC,↓Xd,wG,seval];refine X0 sq (X2 _) ?_;simp(disch:=omega)only[X7,↓Xd,wG,seval];refine X0 c1 ⟨by rw[X7];exact Weak.rfl' _,Weak.rfl' _,Weak.rfl' _,trivial⟩ ?_;simp(disch:=omega)only[Q0,hl,↓Xd,wG,seval];refine X0 p1 (X2 _) ?_;simp(disch:=omega)only[vA,vC,↓Xd,wG,seval];refine X0 p2 (X2 _) ?_;simp(disch:=omega)only[vA,vC,↓Xd,wG,seval];refine X0 p3 (X2 _) ?_;simp(disch:=omega)only[vA,vC,↓Xd,wG,seval];refine X0 p4 (X2 _) ?_;simp(disch:=omega)only[vA,vC,↓Xd,wG,seval];refine X0 p5 (X2 _) ?_;simp(disch:=omega)only[vA,vC,↓Xd,wG,seval];refine X0 p6 (X2 _) ?_;simp(disch:=omega)only[vA,vC,↓Xd,wG,seval];refine X0 b1 (X2 _) ?_;simp(disch:=omega)only[bA,QW,l1,l3,Nat.reduceSub,QK,↓Xd,wG,seval];refine X0 m1 ⟨by rw[bA,QW];exact Weak.rfl' _,by rw[gA,QK];exact Weak.rfl' _,trivial⟩ ?_;simp(disch:=omega)only[vA,vC,qA,qC,bA,QW,gA,QK,l1,l3,Nat.reduceSub,Q0,hl,X7,↓Xd,wG,seval];refine X0 b1 (X2 _) ?_;simp(disch:=omega)only[vA,vC,qA,qC,bA,QW,gA,QK,l1,l3,Nat.reduceSub,Q0,hl,X7,↓Xd,wG,seval];refine X0 m2 ⟨by rw[bA,QW];exact Weak.rfl' _,by rw[gA,QK];exact Weak.rfl' _,trivial⟩ ?_;simp(disch:=omega)only[vA,vC,qA,qC,bA,QW,gA,QK,l1,l3,Nat.reduceSub,Q0,hl,X7,↓Xd,wG,seval];refine X0 b2 (X2 _) ?_;simp(disch:=omega)only[vA,vC,qA,qC,bA,QW,gA,QK,l1,l3,Nat.reduceSub,Q0,hl,X7,↓Xd,wG,seval];refine X0 m3 ⟨by rw[bA,QW];exact Weak.rfl' _,by rw[gA,QK];exact Weak.rfl' _,trivial⟩ ?_;simp(disch:=omega)only[vA,vC,qA,qC,bA,QW,gA,QK,l1,l3,Nat.reduceSub,Q0,hl,X7,↓Xd,wG,seval];refine X0 sq (X2 _) ?_;simp(disch:=omega)only[vA,vC,qA,qC,bA,QW,gA,QK,l1,l3,Nat.reduceSub,Q0,hl,X7,↓Xd,wG,seval];refine X0 b2 (X2 _) ?_;simp(disch:=omega)only[vA,vC,qA,qC,bA,QW,gA,QK,l1,l3,Nat.reduceSub,Q0,hl,X7,↓Xd,wG,seval];refine X0 cb ⟨by rw[X7];exact Weak.rfl' _,by rw[bA,QW];exact Weak.rfl' _,Weak.rfl' _,Weak.rfl' _,trivial⟩ ?_;simp(disch:=omega)only[vA,vC,qA,qC,bA,QW,gA,QK,l1,l3,Nat.reduceSub,Q0,hl,X7,↓Xd,wG,seval];refine X0 s1 ⟨by rw[gA,QK];exact Weak.rfl' _,by rw[gA,QK];exact Weak.rfl' _,trivial⟩ ?_;simp(disch:=omega)only[vA,vC,qA,qC,bA,QW,gA,QK,l1,l3,Nat.reduceSub,Q0,hl,X7,↓Xd,wG,seval];refine X0 s2 ⟨by rw[gA,QK];exact Weak.rfl' _,by rw[gA,QK];exact Weak.rfl' _,trivial⟩ ?_;simp(disch:=omega)only[vA,vC,qA,qC,bA,QW,gA,QK,l1,l3,Nat.reduceSub,Q0,hl,X7,↓Xd,wG,seval];refine X0 o3 (X2 _) ?_;simp(disch:=omega)only[vA,vC,qA,qC,bA,QW,gA,QK,l1,l3,Nat.reduceSub,Q0,hl,X7,↓Xd,wG,seval];refine X0 q1 (X2 _) ?_;simp(disch:=omega)only[vA,vC,qA,qC,bA,QW,gA,QK,l1,l3,Nat.reduceSub,Q0,hl,X7,↓Xd,wG,seval];refine X0 o3 (X2 _) ?_;simp(disch:=omega)only[vA,vC,qA,qC,bA,QW,gA,QK,l1,l3,Nat.reduceSub,Q0,hl,X7,↓Xd,wG,seval];refine X0 q1 (X2 _) ?_;simp(disch:=omega)only[vA,vC,qA,qC,bA,QW,gA,QK,l1,l3,Nat.reduceSub,Q0,hl,X7,↓Xd,wG,seval];refine X0 o4 (X2 _) ?_;simp(disch:=omega)only[vA,vC,qA,qC,bA,QW,gA,QK,l1,l3,Nat.reduceSub,Q0,hl,X7,↓Xd,wG,seval];refine X0 q3 (X2 _) ?_;simp(disch:=omega)only[vA,vC,qA,qC,bA,QW,gA,QK,l1,l3,Nat.reduceSub,Q0,hl,X7,↓Xd,wG,seval];refine X0 o5 (X2 _) ?_;simp(disch:=omega)only[vA,vC,qA,qC,bA,QW,gA,QK,l1,l3,Nat.reduceSub,Q0,hl,X7,↓Xd,wG,seval];refine X0 q4 (X2 _) ?_;simp(disch:=omega)only[vA,vC,qA,qC,bA,QW,gA,QK,l1,l3,Nat.reduceSub,Q0,hl,X7,↓Xd,wG,seval];refine X0 s1 ⟨by rw[gA,QK];exact Weak.rfl' _,by rw[gA,QK];exact Weak.rfl' _,trivial⟩ ?_;simp(disch:=omega)only[vA,vC,qA,qC,bA,QW,gA,QK,l1,l3,Nat.reduceSub,Q0,hl,X7,↓Xd,wG,seval];refine X0 b1 (X2 _) ?_;simp(disch:=omega)only[vA,vC,qA,qC,bA,QW,gA,QK,l1,l3,Nat.reduceSub,Q0,hl,X7,↓Xd,wG,seval];refine X0 d1 ⟨by rw[bA,QW];exact Weak.rfl' _,by rw[gA,QK];exact Weak.rfl' _,Weak.rfl' _,Weak.rfl' _,trivial⟩ ?_;simp(disch:=omega)only[vA,vC,qA,qC,bA,QW,gA,QK,l1,l3,Nat.reduceSub,Q0,hl,X7,↓Xd,wG,seval];refine X0 b1 (X2 _) ?_;simp(disch:=omega)only[vA,vC,qA,qC,bA,QW,gA,QK,l1,l3,Nat.reduceSub,Q0,hl,X7,↓Xd,wG,seval];refine X0 o6 (X2 _) ?_;simp(disch:=omega)only[vA,vC,qA,qC,bA,QW,gA,QK,l1,l3,Nat.reduceSub,Q0,hl,X7,↓Xd,wG,seval];refine X0 d2 ⟨by rw[bA,QW];exact Weak.rfl' _,by rw[gA,QK];exact Weak.rfl' _,Weak.rfl' _,Weak.rfl' _,trivial⟩ ?_;simp(disch:=omega)only[vA,vC,qA,qC,bA,QW,gA,QK,l1,l3,Nat.reduceSub,Q0,hl,X7,↓Xd,wG,seval];refine X0 sq (X2 _) ?_;simp(disch:=omega)only[vA,vC,qA,qC,bA,QW,gA,QK,l1,l3,Nat.reduceSub,Q0,hl,X7,↓Xd,wG,seval];refine X0 v1 ⟨by rw[X7];exact Weak.rfl' _,by rw[gA,QK];exact Weak.rfl' _,trivial⟩ ?_;simp(disch:=omega)only[vA,vC,qA,qC,bA,QW,gA,QK,l1,l3,Nat.reduceSub,Q0,hl,X7,↓Xd,wG,seval];refine X0 sq (X2 _) ?_;simp(disch:=omega)only[vA,vC,qA,qC,bA,QW,gA,QK,l1,l3,Nat.reduceSub,Q0,hl,X7,zg,zC,List.cons_append,List.nil_append,↓Xd,wG,seval];refine X0 v2 ⟨by rw[X7];exact Weak.rfl' _,ZR (Pq _),trivial⟩ ?_;simp(disch:=omega)only[vA,vC,qA,qC,bA,QW,gA,QK,l1,l3,Nat.reduceSub,Q0,hl,X7,zg,zC,List.cons_append,List.nil_append,↓Xd,wG,seval];exact Xo (v:=.bool true) rfl rfl (X5 _) rfl
theorem lj (L:List V2):HW L gZ=1:=by
 unfold HW;rw[if_neg fun h=>by
  have:=h.2;rw[BG]at this;exact absurd this.1.1 (by show ¬ (0:Rat)<0;decide)]
theorem wL {i:Nat}(hi:i<4):JJ sqV i∈K8 sqV:=by
 unfold K8 AK;exact List.mem_map.2 ⟨i,List.mem_range.2 hi,rfl⟩
theorem mU:HW sqV eg1=0:=by
 have h1:(K8 sqV).any (Dh eg1)=true:=List.any_eq_true.2 ⟨_,wL (i:=0) (by omega),by
  unfold Dh;rw[Bool.and_eq_true];refine⟨decide_eq_true (Lz (by decide +kernel)),?_⟩;rw[show JJ sqV 0=⟨(JJ sqV 0).a,(JJ sqV 0).b,(JJ sqV 0).i⟩from rfl,io];unfold vQ;exact decide_eq_true ⟨by decide +kernel,by decide +kernel⟩⟩
 have h2:(K8 sqV).any (Bx eg1)=true:=List.any_eq_true.2 ⟨_,wL (i:=2) (by omega),by
  unfold Bx;rw[Bool.and_eq_true];refine⟨decide_eq_true ⟨by decide +kernel,by decide +kernel⟩,?_⟩;rw[show JJ sqV 2=⟨(JJ sqV 2).a,(JJ sqV 2).b,(JJ sqV 2).i⟩from rfl,io];unfold vQ;exact decide_eq_true ⟨by decide +kernel,by decide +kernel⟩⟩
 unfold HW;rw[if_pos ⟨(Gy _).1 GP,uI.1.2⟩,if_pos ⟨h1,h2⟩]
theorem oY:PV sqV (ED 6) (Rat.divInt 8 1) (Rat.divInt 1 2)=(eg1,Rat.divInt 3 1,0):=by
 have e3:Iy (ED 6) eg2=Rat.divInt 3 2:=FG (fV 6 _ (.inr ⟨rfl,rfl⟩));have e4:Iy (ED 6) eg1=Rat.divInt 3 1:=FG (pX 6 _ (.inr ⟨by decide +kernel,rfl⟩));have hf:=Wz;unfold ZH at hf;rw[if_pos ⟨GP,Pi⟩]at hf;unfold PV;rw[if_pos ⟨(Gy _).1 GP,(eK 6 (by omega)).2,Pi⟩,hf];have b1:KD (ED 6) [eg1,eg2] 1=(eg1,Rat.divInt 3 1):=by
  show(if(-1:Rat)<Iy (ED 6) eg1 then(eg1,Iy (ED 6) eg1)else(gZ,-1))=_;rw[e4,if_pos (by decide +kernel)]
 have b2:KD (ED 6) [eg1,eg2] 2=(eg1,Rat.divInt 3 1):=by
  show(if(KD (ED 6) [eg1,eg2] 1).2<Iy (ED 6) eg2 then(eg2,Iy (ED 6) eg2)else KD (ED 6) [eg1,eg2] 1)=_;rw[b1,e3,if_neg (by decide +kernel)]
 unfold eJ;rw[show [eg1,eg2].length=2 from rfl,b2,if_neg (by show ¬Rat.divInt 3 1<0;decide +kernel)]
theorem iJ:Fn Tryz.prog 17 [] (.bool true):=by
 have q8:=Fm 8 1 (by omega) (by omega);have qh:=Fm 1 2 (by omega) (by omega);have q4:=Fm 4 1 (by omega) (by omega);have q3:=Fm 3 1 (by omega) (by omega);have q32:=Fm 3 2 (by omega) (by omega);have q5:=Fm 5 1 (by omega) (by omega);obtain⟨s1,s2⟩:=eK 100 (by omega);obtain⟨s3,s4⟩:=eK 6 (by omega);obtain⟨⟨t1,t2⟩,t3,t4⟩:=uI;have M4:=pX 100 (Rat.divInt 4 1) (.inl ⟨by decide +kernel,rfl⟩);have e1:Iy (ED 100) eg1=Rat.divInt 4 1:=FG M4;have e2:Iy (ED 100) eg2=Rat.divInt 4 1:=FG (fV 100 _ (.inl ⟨by decide +kernel,rfl⟩));have e3:Iy (ED 6) eg2=Rat.divInt 3 2:=FG (fV 6 _ (.inr ⟨rfl,rfl⟩));obtain⟨x1,x2,m1⟩:=RE (ED 100) eg1 s1 t1 s2 t2;obtain⟨y1,y2,m2⟩:=RE (ED 100) eg2 s1 t3 s2 t4;obtain⟨z1,z2,m3⟩:=RE (ED 6) eg2 s3 t3 s4 t4;have n1:=m1.fn;have n2:=m2.fn;have n3:=m3.fn;have n4:=m1.ok;obtain⟨w1,w2,w3,w4,w5⟩:=m1.z;rw[e1]at n1 n4;rw[e2]at n2;rw[e3]at n3;have cb:=ib sqV (ED 6) (Rat.divInt 8 1) (Rat.divInt 1 2) ke.2.1 (by decide) s3 (by omega) (by omega);rw[oY]at cb;have c1:=Rp sqV (Rat.divInt 8 1) (Rat.divInt 1 2) ke.2.1 (by omega) (by decide) (by omega) (by omega);rw[Wz]at c1;have p:=fun(x y:Int) (hx:BS x) (hy:BS y)=>Kh x y hx hy
 have sm:QN sqV 1000:=fun i=>Nat.le_trans (ke.2.1 i) (by omega)
 have g1:=VQ sqV eg1 sm (by decide) t1;rw[mU]at g1;have gz:gS gZ:=⟨by show vb v0≤_;decide +kernel,by show vb v0≤_;decide +kernel,by show vb v0≤_;decide +kernel,by show qb 0≤_;decide +kernel,by show qb 0≤_;decide +kernel⟩
 have g2:=VQ sqV gZ sm (by decide) gz;rw[lj]at g2;have a1:=Rs eg1 eg1 t1 t1;have a2:=Rs eg2 eg2 t3 t3;rw[decide_eq_true rfl]at a1 a2;have sQ:∀x:Rat,qb x≤10→Fn Tryz.prog 26 [qA x,qA x] (.bool true):=fun x hx=>by
  have:=FN x x (by unfold rm;omega) (by unfold rm;omega);rwa[decide_eq_true rfl]at this
 have hp:∀x∈[x1,x2],qb x.1≤1500000∧qb x.2≤1500000:=by
  intro x hx;rcases List.mem_cons.1 hx with rfl |hx
  ·omega
  ·rw[List.mem_singleton.1 hx];omega
 have d1:=Hp (ED 100) eg1 (Rat.divInt 4 1) [x1,x2] s1 t1 (by omega) (by simp) hp;have d2:=Hp (ED 100) eg1 (Rat.divInt 5 1) [x1,x2] s1 t1 (by omega) (by simp) hp;rw[show Zg (ED 100) eg1 (Rat.divInt 4 1) [x1,x2]=0 by
  unfold Zg;rw[if_pos (by rw[s2,t2];rfl),if_pos ⟨rfl,n4⟩]]at d1
 rw[show Zg (ED 100) eg1 (Rat.divInt 5 1) [x1,x2]=22 by
  unfold Zg;rw[if_pos (by rw[s2,t2];rfl),if_neg fun h=>absurd (M4.2 _ _ _ _ _ h.2) (by decide +kernel)]]at d2
 exact Ul sqV (Rat.divInt 8 1) (Rat.divInt 1 2) (Rat.divInt 4 1) 0 (Rat.divInt 3 2) (Rat.divInt 3 1) (Rat.divInt 5 1) (pI 1 0) (pI 1 2) (pI 0 2) (pI 2 1) (pI 0 1) (pI (-2) 0) (ED 100) (ED 6) x1 x2 y1 y2 z1 z2
  (XP 8 1 ⟨by omega,by omega⟩ ⟨by omega,by omega⟩) (XP 1 2 ⟨by omega,by omega⟩ ⟨by omega,by omega⟩) (XP 4 1 ⟨by omega,by omega⟩ ⟨by omega,by omega⟩) (XP 3 2 ⟨by omega,by omega⟩ ⟨by omega,by omega⟩) (XP 3 1 ⟨by omega,by omega⟩ ⟨by omega,by omega⟩) (XP 5 1 ⟨by omega,by omega⟩ ⟨by omega,by omega⟩)
  Up c1 (p 1 0 ⟨by omega,by omega⟩ ⟨by omega,by omega⟩) (p 1 2 ⟨by omega,by omega⟩ ⟨by omega,by omega⟩) (p 0 2 ⟨by omega,by omega⟩ ⟨by omega,by omega⟩) (p 2 1 ⟨by omega,by omega⟩ ⟨by omega,by omega⟩) (p 0 1 ⟨by omega,by omega⟩ ⟨by omega,by omega⟩) (p (-2) 0 ⟨by omega,by omega⟩ ⟨by omega,by omega⟩)
  (NC 100 ⟨by omega,by omega⟩) (NC 6 ⟨by omega,by omega⟩) n1 n2 n3 cb a1 a2 (sQ _ (by omega)) (sQ _ (by omega)) (sQ _ (by omega)) d1 d2 g1 g2
structure TC where
 p:V2
 n:V2
 r:Rat
structure RV where
 x:RQ
 y:RQ
def RV.ok (v:RV):Prop:=v.x.ok∧v.y.ok
def RV.of (v:V2):RV:=⟨RQ.of v.x,RQ.of v.y⟩
theorem jY {α:Type}(e:α→List AV)(s:Nat)(d:α)(l:List α)(k j:Nat)(hs:0<s):XD e s d l (k*s+j)=XD e s d (l.drop k) j:=by
 have h:l.getD (k+j/s) d=(l.drop k).getD (j/s) d:=by
  rw[List.getD_eq_getElem?_getD,List.getD_eq_getElem?_getD,List.getElem?_drop]
 show(e (l.getD ((k*s+j)/s) d)).getD ((k*s+j)%s) .any=(e ((l.drop k).getD (j/s) d)).getD (j%s) .any;rw[Nat.mul_comm k s,Nat.mul_add_div hs,Nat.mul_add_mod,h]
theorem jZ {α:Type}(e:α→List AV)(s:Nat)(d:α)(l m:List α)(j:Nat)(hs:0<s)(hj:j<l.length*s):XD e s d (l ++ m) j=XD e s d l j:=by
 have h:j/s<l.length:=Nat.div_lt_of_lt_mul (by rw[Nat.mul_comm];exact hj);have g:(l ++ m).getD (j/s) d=l.getD (j/s) d:=by
  rw[List.getD_eq_getElem?_getD,List.getElem?_append_left h,←List.getD_eq_getElem?_getD]
 show(e ((l ++ m).getD (j/s) d)).getD (j%s) .any=(e (l.getD (j/s) d)).getD (j%s) .any;rw[g]
theorem oT {α:Type}(e:α→List AV)(s:Nat)(d:α)(l m:List α)(f g:Nat→AV)(hs:0<s)(hf:∀ j,j<l.length*s→f j=XD e s d l j)(hg:∀ j,j<m.length*s→g j=XD e s d m j)(N K:Nat)(hN:N=l.length*s)(hK:K=m.length*s)(j:Nat)(hj:j<(l ++ m).length*s):Qf N f K g j=XD e s d (l ++ m) j:=by
 subst hN hK;rw[List.length_append,Nat.add_mul]at hj;unfold Qf;by_cases h:j<l.length*s
 ·rw[if_pos h,hf j h,jZ e s d l m j hs h]
 ·rw[if_neg h,if_pos (by omega),hg _ (by omega)]
  have:=jY e s d (l ++ m) l.length (j-l.length*s) hs;rw[show l.length*s+(j-l.length*s)=j by omega,List.drop_left]at this;exact this.symm
theorem sS (x:Rat):∀j,j<4→((qC x).getD j .any).one=true:=fun j hj=>by
 match j,hj with
 |0,_ |1,_ |2,_ |3,_=>rfl
 |j+4,h=>omega
theorem UI (l:List Rat):(Qb l).boxed=Qb l:=nrfl rfl
theorem Sy (l:List Rat)(t:Rat)(hl:l.length<1000000)(ht:qb t≤rm)(h:∀x∈l,qb x≤rm):Fn Tryz.prog 197 [Qb l,qA t] (Qb (l.map (·*t))):=by
  have bV:∀q,Jq q (Qb l)=True:=fun q=>eq_true (X6 (Xz l))
  have bO:∀q i,Qa q (.row i 4 (Xf (qC t)))=True:=fun q i=>eq_true (QX (QJ t))
  have bR:∀q i n x,Qa q (.row i n (XD qC 4 0 x))=True:=fun q i n x=>eq_true fun j _=>X6 (Xe (QJ _) _)
  refine Fn.intro (fn:=Tryz.f197) Tryz.call197 Tryz.func197 rfl mixed 7 [] [] [] (by kernel_rfl) (Nat.le_of_ble_eq_true rfl) (JY (Xz l) (Xa t)) (Xk ?_);simp(disch:=omega)only[AS.start,Xr,qA,qC,↓Xd,wG,seval];refine Xj (fun i:Nat=>⟨7,[],[Qb l,.any,.any,.ref 0 0 0,.any,.osl 1 i 4 0 i,I i],[],[.row 0 4 (Xf (qC t)),.row i (i*4) (XD qC 4 0 ((l.take i).map (·*t)))]⟩) (fun i=>i≤l.length) (fun i=>l.length-i) 0 (by omega)
    (Sub.trans (Kk 5 4 (XD qC 4 0 []) rfl) (Xi rfl ⟨.inr (Xr l).symm,.inl rfl,.inl rfl,.inr rfl,.inl rfl,.inr rfl,.inr rfl,trivial⟩ trivial rfl)) ?_
  intro i hi next
  have w1:=wj i (by omega);have hlk:∀i,i≤l.length→((l.take i).map (·*t)).length=i:=fun i hi=>by simp;omega
  by_cases hi2:i<l.length
  · have f1:(i<l.length)=True:=eq_true hi2;have v0:Xn (fun i=>l.getD i 0) (i*4)=(qC (l.getD i 0)).getD 0 .any:=Z7 qC 4 0 l i (by omega);have v1:∀j,j<4→Xn (fun i=>l.getD i 0) (i*4+j)=(qC (l.getD i 0)).getD j .any:=fun j hj=>KS qC 4 0 l i j hj
    have s1:=h _ (Qp 0 hi2);have hk:=hlk i hi;have ht2:(l.take i).map (·*t) ++ [l.getD i 0*t]=(l.take (i+1)).map (·*t):=by
      rw[MA l 0 hi2,List.map_append];rfl
    have nx:=next (i+1)
    rw[←ht2]at nx;generalize l.getD i 0=p at *;have c1:=J1 p t s1 ht;have hap:=Az qC 4 0 ((l.take i).map (·*t)) (p*t) (by omega);rw[hk]at hap;refine Xk ?_;simp(disch:=omega)only[Xr,w1,f1,v0,v1,qC,↓Xd,wG,seval];refine X0 c1 (X2 _) ?_;simp(disch:=omega)only[qA,qC,↓Xd,wG,seval];exact⟨fun j hj=>sS (p*t) j hj,nx _ (by omega) (by omega) (ta (m:=2) (by simp[Xm,I,Xr]) (by rw[←hap];rfl) (by simp[XW,bV]) (by simp[bO,bR]))⟩
  · obtain rfl:i=l.length:=by omega
    refine Xk ?_;simp(disch:=omega)only[Xr,↓Xd,wG,seval];refine C4 rfl ?_;show Zs _ (.osl 1 l.length 4 0 l.length) (Qb (l.map (·*t)));have hk:=hlk l.length (Nat.le_refl _);rw[List.take_length]at hk;rw[Xr,hk,List.take_length];refine Z2 (.inl rfl) (by omega) (fun h=>by rw[h]) fun j hj=>?_
    rw[Nat.zero_add];exact(Xe (QJ _) _).sees _
theorem Uu (l:List Rat)(hl:l.length<1000000)(h:∀x∈l,qb x≤rm):Fn Tryz.prog 124 [Qb l] (Qb (N1 l)):=by
  have c0:=XP (-1) 1 ⟨by omega,by omega⟩ ⟨by omega,by omega⟩;rw[show Rat.divInt (-1) 1 = -1 by decide +kernel]at c0;have c1:=Sy l (-1) hl (by decide +kernel) h;rw[show l.map (· * -1)=N1 l from List.map_congr_left fun x _=>by grind]at c1;refine Fn.intro (fn:=Tryz.f124) Tryz.call124 Tryz.func124 rfl mixed 2 [] [] [] (by kernel_rfl) (Nat.le_of_ble_eq_true rfl) (fun a ha=>List.mem_singleton.1 ha▸Xz l) (Xk ?_);simp(disch:=omega)only[AS.start,↓Xd,wG,seval];refine X0 c0 (X2 _) ?_;simp(disch:=omega)only[↓Xd,wG,seval];refine X0 c1 (X2 _) ?_;simp(disch:=omega)only[↓Xd,wG,seval];exact Xo rfl rfl (Xz _) rfl
theorem Al (a b c d k r:Rat):Fn Tryz.prog 123 [qA a,qA b,qA c,qA d,qA k,qA r] (.agg (Ka ⟨[a,b,c,d,k],r⟩)):=by
 refine Fq Tryz.call123 Tryz.func123 13 [] [] [] (by simp[Xa]) (Xk ?_);simp(disch:=omega)only[AS.start,qA,qC,↓Xd,wG,seval];exact Bl rfl iF rfl rfl rfl (XF (Qr (Kp _)) (ZR ⟨JD qC 4 0 (fun _=>rfl) [a,b,c,d,k] _ _ _ _ rfl rfl rfl,Weak.rfl' _,Weak.rfl' _,Weak.rfl' _,Weak.rfl' _,trivial⟩))
def Sb (b:BB)(g:GG):List Ln :=
  [⟨[-1,0,0,0,0],0⟩,⟨[0,0,-1,0,0],0⟩,⟨[-g.rough,1,0,0,0],0⟩,⟨[-g.rough,-1,0,0,0],0⟩,⟨[0,0,-g.rough,1,0],0⟩,⟨[0,0,-g.rough,-1,0],0⟩,
   ⟨[QA g.n,0,0,0,0],g.force⟩,⟨[0,0,QA g.n,0,0],g.force⟩,⟨[QA g.n,0,QA g.n,0,0],b.strength⟩,⟨[0,0,0,0,1],16⟩,⟨[0,0,0,0,-1],0⟩]
def Bu (b:BB)(g:GG):List Ln:=Sb b g ++ (DR b g).flatMap G3
theorem Mh (b:BB)(g:GG)(x:Nat→Rat):(∀i,i<17→XB (fun k=>lA (Bu b g) i k*x k) 5≤lB (Bu b g) i)↔okP b g (x 0) (x 1) (x 2) (x 3) (x 4):=by
 rw[←Gg];constructor
 ·intro h i hi
  match i,hi with
  |0,_=>exact h 0 (by omega)
  |1,_=>exact h 1 (by omega)
  |2,_=>exact h 2 (by omega)
  |3,_=>exact h 4 (by omega)
  |4,_=>exact h 3 (by omega)
  |5,_=>exact h 5 (by omega)
  |6,_=>exact h 6 (by omega)
  |7,_=>exact h 7 (by omega)
  |8,_=>exact h 8 (by omega)
  |9,_=>exact h 9 (by omega)
  |10,_=>exact h 10 (by omega)
  |11,_=>exact h 11 (by omega)
  |12,_=>exact h 12 (by omega)
  |13,_=>exact h 13 (by omega)
  |14,_=>exact h 14 (by omega)
  |15,_=>exact h 15 (by omega)
  |16,_=>exact h 16 (by omega)
  |i+17,h=>omega
 ·intro h i hi
  match i,hi with
  |0,_=>exact h 0 (by omega)
  |1,_=>exact h 1 (by omega)
  |2,_=>exact h 2 (by omega)
  |3,_=>exact h 4 (by omega)
  |4,_=>exact h 3 (by omega)
  |5,_=>exact h 5 (by omega)
  |6,_=>exact h 6 (by omega)
  |7,_=>exact h 7 (by omega)
  |8,_=>exact h 8 (by omega)
  |9,_=>exact h 9 (by omega)
  |10,_=>exact h 10 (by omega)
  |11,_=>exact h 11 (by omega)
  |12,_=>exact h 12 (by omega)
  |13,_=>exact h 13 (by omega)
  |14,_=>exact h 14 (by omega)
  |15,_=>exact h 15 (by omega)
  |16,_=>exact h 16 (by omega)
  |i+17,h=>omega
theorem oB {b:BB}{g:GG}{x y:Nat→Rat}{val:Rat}(h:IsOpt 5 17 (lA (Bu b g)) (lB (Bu b g)) (lG goal5) x y val):iA b g val∧okP b g (x 0) (x 1) (x 2) (x 3) val∧x 4=val:=by
 have e:x 4=val:=by rw[←h.val1,Gi 0]
 have ok:=(Mh b g x).1 h.feas;rw[e]at ok;refine⟨⟨⟨_,_,_,_,ok⟩,fun a0 c0 a1 c1 k' hk=>?_⟩,ok,e⟩
 let z:Nat→Rat:=fun k=>match k with |0=>a0 |1=>c0 |2=>a1 |3=>c1 |_=>k'
 have:=h.most (z:=z) ((Mh b g z).2 hk);rw[Gi 0]at this;exact this
theorem Q6 (l:List Rat):(Qb l).one=true:=nrfl rfl
theorem XQ (l:List Rat):(Qb l).loose=Qb l:=nrfl rfl
theorem UJ (l:List Rat):(Qb l).cells=[Qb l]:=nrfl rfl
theorem Ec (x y:Ln):∀j,j<10→((Ka x ++ Ka y).getD j .any).one=true:=fun j hj=>by
 match j,hj with
 |0,_ |1,_ |2,_ |3,_ |4,_ |5,_ |6,_ |7,_ |8,_ |9,_=>rfl
 |j+10,h=>omega
theorem an (x:Ln):∀j,j<5→((Ka x).getD j .any).one=true:=fun j hj=>by
 match j,hj with
 |0,_ |1,_ |2,_ |3,_ |4,_=>rfl
 |j+5,h=>omega
def GX (x:V2):AV:=.ptr 8 (Xf (vC x)) 0
def FM (b:BB)(g:GG)(ver:Nat)(Ls:List Ln):List AO:=[.con 0 20 (Xf (bC b)),.con 0 32 (Xf (gC g)),.row 0 3 (Xf [I 0,.sl 0 0 (fun _=>.any) true,.sl 0 0 (fun _=>.any) true]),
 .con 0 4 (Xf (qC 0)),.con 0 4 (Xf (qC 1)),.con 0 4 (Xf (qC (-1))),.con 0 4 (Xf (qC (-g.rough))),.con 0 4 (Xf (qC (QA g.n))),.con 0 8 (Xf (vC g.n.turned)),.con 0 8 (Xf (vC (g.p.sub b.c))),.con 0 8 (Xf (vC (g.q.sub b.c))),
 .row 0 3 (Xf [I 5,.osl 12 ver 5 0 Ls.length,Qb goal5]),.row ver (Ls.length*5) (XD Ka 5 K9 Ls)]
def Fp (b:BB)(g:GG)(l:List AV):List AV:=[.any,.any,bP b,gP g,.ref 2 0 0,Jx 0,Jx 1,Jx (-1),Jx (-g.rough),Jx (QA g.n),GX g.n.turned,GX (g.p.sub b.c),GX (g.q.sub b.c),.ref 11 0 0] ++ l
theorem iK (Ls:List Ln)(x y:Ln):∀j,j<(Ls ++ [x,y]).length*5→Qf (Ls.length*5) (XD Ka 5 K9 Ls) 10 (Xf (Ka x ++ Ka y)) j=XD Ka 5 K9 (Ls ++ [x,y]) j:=fun j hj =>
 oT Ka 5 K9 Ls [x,y] _ _ (by omega) (fun _ _=>rfl) (fun j hj=>by
  have:j<10:=hj
  match j,this with
  |0,_ |1,_ |2,_ |3,_ |4,_ |5,_ |6,_ |7,_ |8,_ |9,_=>rfl
  |j+10,h=>omega) _ _ rfl rfl j hj
def wI:List AV:=[.bool false,.sl 0 0 (fun _=>.any) false,.bool false,.sl 0 0 (fun _=>.any) false]
theorem nS (H:List AO)(Ls:List Ln)(r s:List Rat)(w:AV)(j:Nat)(hw:w=Qb s):j<(Ls.length+2)*5→Ke H (Qf (Ls.length*5) (XD Ka 5 K9 Ls) 10 (Xf (Qb r :: wI ++ w :: wI)) j) (XD Ka 5 K9 (Ls ++ [⟨r,0⟩,⟨s,0⟩]) j):=fun hj=>by
 subst hw;rw[←iK Ls ⟨r,0⟩ ⟨s,0⟩ j (by rw[List.length_append];exact hj)];unfold Qf
 split
 ·exact XL _ _
 ·rw[if_pos (by omega),if_pos (by omega)]
  have h10:j-Ls.length*5<10:=by omega
  have w0:=Kd false;generalize j-Ls.length*5=k at *
  match k,h10 with
  |0,_=>exact XL _ _
  |1,_=>exact Q3 w0.1
  |2,_=>exact Q3 w0.2.1
  |3,_=>exact Q3 w0.2.2.1
  |4,_=>exact Q3 w0.2.2.2.1
  |5,_=>exact XL _ _
  |6,_=>exact Q3 w0.1
  |7,_=>exact Q3 w0.2.1
  |8,_=>exact Q3 w0.2.2.1
  |9,_=>exact Q3 w0.2.2.2.1
  |k+10,h=>omega
theorem Sq (b:BB)(g:GG)(h1:vb b.c≤1400)(h2:vb g.p≤1400)(h3:vb g.q≤1400)(h4:vb g.n≤1400)(h5:qb b.heavy≤1400)(h6:qb g.rough≤1400):Fn Tryz.prog 50 [bA b,gA g] (I7 5 (Bu b g) goal5):=by
 have c1:=XP 1 1 ⟨by omega,by omega⟩ ⟨by omega,by omega⟩;rw[show Rat.divInt 1 1=1 by decide +kernel]at c1;have cm:=XP (-1) 1 ⟨by omega,by omega⟩ ⟨by omega,by omega⟩;rw[show Rat.divInt (-1) 1 = -1 by decide +kernel]at cm;have c16:=XP 16 1 ⟨by omega,by omega⟩ ⟨by omega,by omega⟩;rw[show Rat.divInt 16 1=16 by decide +kernel]at c16;have cr:=Jw g.rough (by unfold rm;omega);have cq:=Ia g.n (by unfold rm;omega);have cp:=QM g.p b.c (by unfold rm;omega) (by unfold rm;omega);have cs:=QM g.q b.c (by unfold rm;omega) (by unfold rm;omega);have cl:=UN g.n (by unfold rm;omega);have:=J8 g.n;have:=J4 g.n;have:=J8 g.n.turned;have:=J4 g.n.turned;have vt:vb g.n.turned=vb g.n:=BI g.n;have vp:=QO g.p b.c;have vq:=QO g.q b.c;have k1:=JT (g.q.sub b.c) g.n;have k2:=JT (g.q.sub b.c) g.n.turned;obtain⟨R,hR⟩:∃R,R=I7 5 (Bu b g) goal5:=⟨_,rfl⟩
 have sR:Settled R:=hR▸Ks _ _ _;rw[←hR];refine Fn.intro (fn:=Tryz.f50) Tryz.call50 Tryz.func50 rfl mixed 19 [] [9,10000,10001,10002,10003,10004,10005] [] (by kernel_rfl) (Nat.le_of_ble_eq_true rfl) (JY (Z3 b) (Jh g)) (XG 10 ?_);simp(disch:=omega)only[AS.start,bA,gA,QW,QK,Xl,↓Xd,wG,seval];refine Run.sub (s':=⟨19,[],[.any,.any,.ref 0 0 0,.ref 1 0 0,.ref 2 0 0,.any,.any,.any,.any,.any,.any,.any,.any,.any,.any,.any,.any,.any,.any],[],[.row 0 20 (Xf (bC b)),.row 0 32 (Xf (gC g)),.row 0 3 (Xf [I 0,.sl 0 0 (fun _=>.any) true,.sl 0 0 (fun _=>.any) true])]⟩) ?_ (Xi rfl (by simp[Xm]) trivial (by rw[QW,QK];rfl));refine Run.sub ?_ (XC 0 rfl);refine Run.sub ?_ (XC 1 rfl);refine Run.sub ?_ (Xy 2 rfl rfl (by omega));refine Run.sub ?_ (Xy 3 rfl rfl (by omega));refine Run.sub (s':=⟨19,[],[.any,.any,bP b,gP g,.ref 2 0 0,.any,.any,.any,.any,.any,.any,.any,.any,.any,.any,.any,.any,.any,.any],[],[.con 0 20 (Xf (bC b)),.con 0 32 (Xf (gC g)),.row 0 3 (Xf [I 0,.sl 0 0 (fun _=>.any) true,.sl 0 0 (fun _=>.any) true])]⟩) ?_ (Xi rfl (by simp[AS.put,Xm,bP,gP]) trivial rfl);refine XG 120 ?_;have gf:=gF g;have bf:=bF b;simp(disch:=omega)only[gP,bP,gf,bf,Xl,↓Xd,wG,seval];refine X1 c1 rfl ?_;simp(disch:=omega)only[gP,bP,gf,bf,qA,qC,Xl,↓Xd,wG,seval];refine X1 cm rfl ?_;simp(disch:=omega)only[gP,bP,gf,bf,qA,qC,Xl,↓Xd,wG,seval];refine X0 cr (X2 _) ?_;simp(disch:=omega)only[gP,bP,gf,bf,qA,qC,Xl,↓Xd,wG,seval];refine X0 cl (X2 _) ?_;simp(disch:=omega)only[gP,bP,gf,bf,qA,qC,Xl,↓Xd,wG,seval];refine X0 cq (X2 _) ?_;simp(disch:=omega)only[gP,bP,gf,bf,vA,vC,Xl,↓Xd,wG,seval];refine X0 cp (X2 _) ?_;simp(disch:=omega)only[gP,bP,gf,bf,vA,vC,Xl,↓Xd,wG,seval];refine X0 cs (X2 _) ?_;simp(disch:=omega)only[gP,bP,gf,bf,vA,vC,Xl,↓Xd,wG,seval];have w0:=Kd false;have hz':∀ (H:List AO) (j:Nat),j<4→Ke H (Xf EB j) (Xf (qC 0) j):=fun H j hj=>by
  match j,hj with
  |0,_=>exact Q3 w0.1
  |1,_=>exact Q3 w0.2.1
  |2,_=>exact Q3 w0.2.2.1
  |3,_=>exact Q3 w0.2.2.2.1
  |j+4,h=>omega
 refine Run.sub (s':=⟨19,[],[.any,.any,bP b,gP g,.ref 2 0 0,.ref 3 0 0,.ref 4 0 0,.ref 5 0 0,.ref 6 0 0,.ref 7 0 0,.ref 8 0 0,.ref 9 0 0,.ref 10 0 0,.ref 11 0 0,.any,.any,.any,.any,.any],[],[.con 0 20 (Xf (bC b)),.con 0 32 (Xf (gC g)),.row 0 3 (Xf [I 0,.sl 0 0 (fun _=>.any) true,.sl 0 0 (fun _=>.any) true]),
  .row 0 4 (Xf EB),.row 0 4 (Xf (qC 1)),.row 0 4 (Xf (qC (-1))),.row 0 4 (Xf (qC (-g.rough))),.row 0 4 (Xf (qC (QA g.n))),.row 0 8 (Xf (vC g.n.turned)),.row 0 8 (Xf (vC (g.p.sub b.c))),.row 0 8 (Xf (vC (g.q.sub b.c))),.row 0 3 (Xf [I 5,.sl 0 0 (fun _=>.any) true,.sl 5 20 (Xf (EB ++ EB ++ EB ++ EB ++ qC 1)) false])]⟩) ?_ (Xi rfl (by exact⟨.inl rfl,.inl rfl,.inr rfl,.inr rfl,.inr rfl,.inr rfl,.inr rfl,.inr rfl,.inr rfl,.inr rfl,.inr rfl,.inr rfl,.inr rfl,.inr rfl,.inl rfl,.inl rfl,.inl rfl,.inl rfl,.inl rfl,trivial⟩) trivial (by rfl))
 refine Run.sub ?_ (Qo 3 (Xf (qC 0)) rfl (hz' _));refine Run.sub ?_ (IK (XD Ka 5 K9 []));refine Run.sub ?_ (Qo 11 (Xf [I 5,.osl 12 0 5 0 0,Qb goal5]) rfl (fun j hj=>by
  match j,hj with
  |0,_=>exact XL _ _
  |1,_=>exact BC (f:=XD Ka 5 K9 []) (n:=0) rfl
  |2,_ =>
   exact Q3 (JK rfl (Nat.le_refl _) fun j hj=>by
    have:j<20:=hj
    match j,this with
    |0,_ |4,_ |8,_ |12,_=>exact w0.1
    |1,_ |5,_ |9,_ |13,_=>exact w0.2.1
    |2,_ |6,_ |10,_ |14,_=>exact w0.2.2.1
    |3,_ |7,_ |11,_ |15,_=>exact w0.2.2.2.1
    |16,_ |17,_ |18,_ |19,_=>exact Weak.rfl' _
    |j+20,h=>omega)
  |j+3,h=>omega))
 refine Run.sub ?_ (XC 3 rfl);refine Run.sub ?_ (XC 4 rfl);refine Run.sub ?_ (XC 5 rfl);refine Run.sub ?_ (XC 6 rfl);refine Run.sub ?_ (XC 7 rfl);refine Run.sub ?_ (XC 8 rfl);refine Run.sub ?_ (XC 9 rfl);refine Run.sub ?_ (XC 10 rfl);refine Run.sub ?_ (Xy 5 rfl rfl (by omega));refine Run.sub ?_ (Xy 6 rfl rfl (by omega));refine Run.sub ?_ (Xy 7 rfl rfl (by omega));refine Run.sub ?_ (Xy 8 rfl rfl (by omega));refine Run.sub ?_ (Xy 9 rfl rfl (by omega));refine Run.sub ?_ (Xy 10 rfl rfl (by omega));refine Run.sub ?_ (Xy 11 rfl rfl (by omega));refine Run.sub ?_ (Xy 12 rfl rfl (by omega));refine Run.sub (s':=⟨19,[],Fp b g [.any,.any,.any,.any,.any],[],FM b g 0 []⟩) ?_ (Xi rfl (by exact⟨.inl rfl,.inl rfl,.inr rfl,.inr rfl,.inr rfl,.inr rfl,.inr rfl,.inr rfl,.inr rfl,.inr rfl,.inr rfl,.inr rfl,.inr rfl,.inr rfl,.inl rfl,.inl rfl,.inl rfl,.inl rfl,.inl rfl,trivial⟩) trivial (by rfl));refine Xk ?_;simp(disch:=omega)only[Q6,XQ,Fp,FM,List.cons_append,List.nil_append,gP,bP,gf,bf,Jx,GX,qC,Ka,↓Xd,wG,seval];refine X0 (Al (-1) 0 0 0 0 0) (X2 _) ?_;simp(disch:=omega)only[Q6,XQ,Fp,FM,List.cons_append,List.nil_append,gP,bP,gf,bf,Jx,GX,qC,Ka,↓Xd,wG,seval];refine X0 (Al 0 0 (-1) 0 0 0) (X2 _) ?_;simp(disch:=omega)only[Q6,XQ,Fp,FM,List.cons_append,List.nil_append,gP,bP,gf,bf,Jx,GX,qC,Ka,↓Xd,wG,seval];refine⟨Ec ⟨[(-1),0,0,0,0],0⟩ ⟨[0,0,(-1),0,0],0⟩,?_⟩;refine X0 (Al (-g.rough) 1 0 0 0 0) (X2 _) ?_;simp(disch:=omega)only[Q6,XQ,Fp,FM,List.cons_append,List.nil_append,gP,bP,gf,bf,Jx,GX,qC,Ka,↓Xd,wG,seval];refine X0 (Al (-g.rough) (-1) 0 0 0 0) (X2 _) ?_;simp(disch:=omega)only[Q6,XQ,Fp,FM,List.cons_append,List.nil_append,gP,bP,gf,bf,Jx,GX,qC,Ka,↓Xd,wG,seval];refine⟨Ec ⟨[(-g.rough),1,0,0,0],0⟩ ⟨[(-g.rough),(-1),0,0,0],0⟩,?_⟩;refine X0 (Al 0 0 (-g.rough) 1 0 0) (X2 _) ?_;simp(disch:=omega)only[Q6,XQ,Fp,FM,List.cons_append,List.nil_append,gP,bP,gf,bf,Jx,GX,qC,Ka,↓Xd,wG,seval];refine X0 (Al 0 0 (-g.rough) (-1) 0 0) (X2 _) ?_;simp(disch:=omega)only[Q6,XQ,Fp,FM,List.cons_append,List.nil_append,gP,bP,gf,bf,Jx,GX,qC,Ka,↓Xd,wG,seval];refine⟨Ec ⟨[0,0,(-g.rough),1,0],0⟩ ⟨[0,0,(-g.rough),(-1),0],0⟩,?_⟩;refine X0 (Al (QA g.n) 0 0 0 0 g.force) (X2 _) ?_;simp(disch:=omega)only[Q6,XQ,Fp,FM,List.cons_append,List.nil_append,gP,bP,gf,bf,Jx,GX,qC,Ka,↓Xd,wG,seval];refine X0 (Al 0 0 (QA g.n) 0 0 g.force) (X2 _) ?_;simp(disch:=omega)only[Q6,XQ,Fp,FM,List.cons_append,List.nil_append,gP,bP,gf,bf,Jx,GX,qC,Ka,↓Xd,wG,seval];refine⟨Ec ⟨[(QA g.n),0,0,0,0],g.force⟩ ⟨[0,0,(QA g.n),0,0],g.force⟩,?_⟩;refine X0 (Al (QA g.n) 0 (QA g.n) 0 0 b.strength) (X2 _) ?_;simp(disch:=omega)only[Q6,XQ,Fp,FM,List.cons_append,List.nil_append,gP,bP,gf,bf,Jx,GX,qC,Ka,↓Xd,wG,seval];refine⟨an ⟨[QA g.n,0,QA g.n,0,0],b.strength⟩,?_⟩;refine X0 c16 (X2 _) ?_;simp(disch:=omega)only[Q6,XQ,Fp,FM,List.cons_append,List.nil_append,gP,bP,gf,bf,Jx,GX,qC,Ka,qA,↓Xd,wG,seval];refine X0 (Al 0 0 0 0 1 16) (X2 _) ?_;simp(disch:=omega)only[Q6,XQ,Fp,FM,List.cons_append,List.nil_append,gP,bP,gf,bf,Jx,GX,qC,Ka,↓Xd,wG,seval];refine X0 (Al 0 0 0 0 (-1) 0) (X2 _) ?_;simp(disch:=omega)only[Q6,XQ,Fp,FM,List.cons_append,List.nil_append,gP,bP,gf,bf,Jx,GX,qC,Ka,↓Xd,wG,seval];refine⟨Ec ⟨[0,0,0,0,1],16⟩ ⟨[0,0,0,0,-1],0⟩,?_⟩;refine X0 (Jw g.n.x (by unfold rm;omega)) (X2 _) ?_;simp(disch:=omega)only[Q6,XQ,Fp,FM,List.cons_append,List.nil_append,gP,bP,gf,bf,Jx,GX,qC,Ka,vC,qA,↓Xd,wG,seval];refine X0 (Jw g.n.turned.x (by unfold rm;omega)) (X2 _) ?_;simp(disch:=omega)only[Q6,XQ,Fp,FM,List.cons_append,List.nil_append,gP,bP,gf,bf,Jx,GX,qC,Ka,vC,qA,↓Xd,wG,seval];refine X0 (Jw g.n.y (by unfold rm;omega)) (X2 _) ?_;simp(disch:=omega)only[Q6,XQ,Fp,FM,List.cons_append,List.nil_append,gP,bP,gf,bf,Jx,GX,qC,Ka,vC,qA,↓Xd,wG,seval];refine X0 (Jw g.n.turned.y (by unfold rm;omega)) (X2 _) ?_;simp(disch:=omega)only[Q6,XQ,Fp,FM,List.cons_append,List.nil_append,gP,bP,gf,bf,Jx,GX,qC,Ka,vC,qA,↓Xd,wG,seval];refine X0 (Jw b.heavy (by unfold rm;omega)) (X2 _) ?_;simp(disch:=omega)only[Q6,XQ,Fp,FM,List.cons_append,List.nil_append,gP,bP,gf,bf,Jx,GX,qC,Ka,vC,qA,↓Xd,wG,seval];refine X0 (Ky (g.p.sub b.c) g.n (by unfold vm;omega) (by unfold vm;omega)) (X2 _) ?_;simp(disch:=omega)only[Q6,XQ,Fp,FM,List.cons_append,List.nil_append,gP,bP,gf,bf,Jx,GX,qC,Ka,vC,qA,↓Xd,wG,seval];refine X0 (Ky (g.p.sub b.c) g.n.turned (by unfold vm;omega) (by unfold vm;omega)) (X2 _) ?_;simp(disch:=omega)only[Q6,XQ,Fp,FM,List.cons_append,List.nil_append,gP,bP,gf,bf,Jx,GX,qC,Ka,vC,qA,↓Xd,wG,seval];refine X0 (Ky (g.q.sub b.c) g.n (by unfold vm;omega) (by unfold vm;omega)) (X2 _) ?_;simp(disch:=omega)only[Q6,XQ,Fp,FM,List.cons_append,List.nil_append,gP,bP,gf,bf,Jx,GX,qC,Ka,vC,qA,↓Xd,wG,seval];refine X0 (Jw (Xp (g.q.sub b.c) g.n) (by unfold rm;omega)) (X2 _) ?_;simp(disch:=omega)only[Q6,XQ,Fp,FM,List.cons_append,List.nil_append,gP,bP,gf,bf,Jx,GX,qC,Ka,vC,qA,↓Xd,wG,seval];refine X0 (Ky (g.q.sub b.c) g.n.turned (by unfold vm;omega) (by unfold vm;omega)) (X2 _) ?_;simp(disch:=omega)only[Q6,XQ,Fp,FM,List.cons_append,List.nil_append,gP,bP,gf,bf,Jx,GX,qC,Ka,vC,qA,↓Xd,wG,seval];refine X0 (Jw (Xp (g.q.sub b.c) g.n.turned) (by unfold rm;omega)) (X2 _) ?_;simp(disch:=omega)only[Q6,XQ,Fp,FM,List.cons_append,List.nil_append,gP,bP,gf,bf,Jx,GX,qC,Ka,vC,qA,↓Xd,wG,seval];refine Run.sub ?_ (Qo 12 (XD Ka 5 K9 (Sb b g)) rfl (fun j hj=>by
  have:j<55:=hj
  match j,this with
  |0,_ |1,_ |2,_ |3,_ |4,_ |5,_ |6,_ |7,_ |8,_ |9,_ |10,_ |11,_ |12,_ |13,_ |14,_ |15,_ |16,_ |17,_ |18,_ |19,_ |20,_ |21,_ |22,_ |23,_ |24,_ |25,_ |26,_ |27,_ |28,_ |29,_ |30,_ |31,_ |32,_ |33,_ |34,_ |35,_ |36,_ |37,_ |38,_ |39,_ |40,_ |41,_ |42,_ |43,_ |44,_ |45,_ |46,_ |47,_ |48,_ |49,_ |50,_ |51,_ |52,_ |53,_ |54,_=>exact XL _ _
  |j+55,h=>omega))
 refine Run.sub ?_ (DI 17 (.sl 3 3 (Xf ((DR b g).map Qb)) false) (show 17<19 by omega) (Q3 (JK rfl (Nat.le_refl _) fun j hj=>by
  have:j<3:=hj
  match j,this with
  |0,_=>exact JD qC 4 0 (fun _=>rfl) [g.n.x,g.n.turned.x,-g.n.x,-g.n.turned.x,0] _ _ _ _ rfl rfl rfl
  |1,_=>exact JD qC 4 0 (fun _=>rfl) [g.n.y,g.n.turned.y,-g.n.y,-g.n.turned.y,-b.heavy] _ _ _ _ rfl rfl rfl
  |2,_=>exact JD qC 4 0 (fun _=>rfl) [Xp (g.p.sub b.c) g.n,Xp (g.p.sub b.c) g.n.turned,-Xp (g.q.sub b.c) g.n,-Xp (g.q.sub b.c) g.n.turned,0] _ _ _ _ rfl rfl rfl
  |j+3,h=>omega)))
 refine Run.sub (s':=⟨19,[],Fp b g [.any,.any,.any,.sl 3 3 (Xf ((DR b g).map Qb)) false,I 0],[],FM b g 6 (Sb b g)⟩) ?_ (BA (by exact⟨.inl rfl,.inl rfl,.inr rfl,.inr rfl,.inr rfl,.inr rfl,.inr rfl,.inr rfl,.inr rfl,.inr rfl,.inr rfl,.inr rfl,.inr rfl,.inr rfl,.inl rfl,.inl rfl,.inl rfl,.inr rfl,.inr rfl,trivial⟩) (by rfl));obtain⟨F,hF⟩:∃F,F=Xf ((DR b g).map Qb):=⟨_,rfl⟩
 have key:∀i,i<3→∃r,F i=Qb r∧r.length=5∧(∀x∈r,qb x≤rm)∧((DR b g).take (i+1)).flatMap G3=((DR b g).take i).flatMap G3 ++ [⟨r,0⟩,⟨N1 r,0⟩]:=fun i hi=>by
  have z0:qb 0≤rm:=by decide +kernel
  have k3:=JT (g.p.sub b.c) g.n;have k4:=JT (g.p.sub b.c) g.n.turned;subst hF
  match i,hi with
  |0,_=>exact⟨_,rfl,rfl,by simp only[List.mem_cons,List.not_mem_nil,or_false];rintro x (rfl |rfl |rfl |rfl |rfl) <;> (try simp only[Dq]) <;> first |exact z0 | (unfold rm;omega),rfl⟩
  |1,_=>exact⟨_,rfl,rfl,by simp only[List.mem_cons,List.not_mem_nil,or_false];rintro x (rfl |rfl |rfl |rfl |rfl) <;> (try simp only[Dq]) <;> first |exact z0 | (unfold rm;omega),rfl⟩
  |2,_=>exact⟨_,rfl,rfl,by simp only[List.mem_cons,List.not_mem_nil,or_false];rintro x (rfl |rfl |rfl |rfl |rfl) <;> (try simp only[Dq]) <;> first |exact z0 | (unfold rm;omega),rfl⟩
  |i+3,h=>omega
 have kend:Sb b g ++ ((DR b g).take 3).flatMap G3=Bu b g:=rfl;rw[←hF];obtain⟨LL,hLL⟩:∃LL:Nat→List Ln,LL=fun i=>Sb b g ++ ((DR b g).take i).flatMap G3:=⟨_,rfl⟩
 refine Xj (fun i:Nat=>⟨19,[],Fp b g [.any,.any,.any,.sl 3 3 F false,I i],[],FM b g (6+i) (LL i)⟩) (fun i=>i≤3) (fun i=>3-i) 0 (by omega) (BA (by simp[Xm,Fp,bP,gP,Jx,GX,I]) (by rw[hLL];rfl)) ?_;intro i hi next
 have w1:=wj i (by omega);by_cases hi2:i<3
 rotate_left
 ·obtain rfl:i=3:=by omega
  have hl:(LL 3).length=17:=by rw[hLL];rfl
  refine Xk ?_;simp(disch:=omega)only[Fp,FM,List.cons_append,List.nil_append,hl,Q6,XQ,↓Xd,wG,seval];refine Bl (L:=[I 5,.osl 12 9 5 0 17,Qb goal5]) rfl iH rfl rfl rfl ?_;rw[hR];refine Eo ⟨Q1 (Xb _) rfl,?_,Q1 (Xz _) rfl,trivial⟩;refine Z2 (m:=85) (M:=85) (ver:=9) (f:=XD Ka 5 K9 (Bu b g)) (.inl ?_) (by omega) (by omega) fun j hj=>?_
  ·rw[←kend,hLL];rfl
  ·rw[Nat.zero_add]
   exact(Xe (Kp _) _).sees _
 have nx:=next (i+1)
 clear next
 obtain⟨r,e1,e2,e3,e4⟩:=key i hi2;have e5:LL (i+1)=LL i ++ [⟨r,0⟩,⟨N1 r,0⟩]:=by rw[hLL];show Sb b g ++ _=(Sb b g ++ _) ++ _;rw[e4,List.append_assoc]
 have hl:(LL i).length<1000:=by
  rw[hLL]
  match i,hi2 with
  |0,_=>exact Nat.le_of_ble_eq_true rfl
  |1,_=>exact Nat.le_of_ble_eq_true rfl
  |2,_=>exact Nat.le_of_ble_eq_true rfl
  |i+3,h=>omega
 rw[e5]at nx;generalize LL i=Ls at *;have c3:=Uu r (by omega) e3;have f3:(i<3)=True:=eq_true hi2;have f3':((i:Int)<3)=True:=eq_true (by omega);refine Xk ?_;simp(disch:=omega)only[Fp,FM,List.cons_append,List.nil_append,w1,f3,f3',e1,Q6,XQ,↓Xd,wG,seval];refine⟨⟨rfl,rfl⟩,?_⟩;refine X0 c3 (X2 _) ?_;simp(disch:=omega)only[Fp,FM,List.cons_append,List.nil_append,w1,f3,f3',e1,Q6,XQ,UJ,List.map_cons,List.map_nil,↓Xd,wG,seval];refine⟨fun j hj=>by
  match j,hj with
  |0,_ |1,_ |2,_ |3,_ |4,_ |5,_ |6,_ |7,_ |8,_ |9,_=>rfl
  |j+10,h=>omega,?_⟩
 refine nx _ (by omega) (by omega) (Sub.trans (Qo 12 (XD Ka 5 K9 (Ls ++ [⟨r,0⟩,⟨N1 r,0⟩])) rfl (fun j hj=>nS _ Ls r (N1 r) _ j rfl hj)) (BA (by simp[Xm,Fp,bP,gP,Jx,GX,I]) (by unfold FM;rw[List.length_append];rfl)))
theorem jw (l:List Rat):oH (l.map RQ.of)=Qb l:=by
 rw[Bw,Xr,List.length_map];congr 1;funext j;unfold XD Xn;rw[show(l.map RQ.of).getD (j/4) Ps=RQ.of (l.getD (j/4) 0)by rw[Ps,List.getD_eq_getElem?_getD,List.getElem?_map,List.getD_eq_getElem?_getD,Option.getD_map]];rfl
theorem ki (r:Rat):Fn Tryz.prog 229 [qA r] (.bool (decide (r<0))):=by
 have c:=Qe r;refine Fn.intro (fn:=Tryz.f229) Tryz.call229 Tryz.func229 rfl mixed 3 [] [] [] (by kernel_rfl) (Nat.le_of_ble_eq_true rfl) (fun a ha=>List.mem_singleton.1 ha▸Xa r) (Xk ?_);simp(disch:=omega)only[AS.start,qA,qC,↓Xd,wG,seval];refine X0 c (X2 _) ?_;simp(disch:=omega)only[↓Xd,wG,seval];exact Xo (v:=.bool (decide (r.num.sign<0))) rfl rfl (X5 _) (congrArg AV.bool (decide_eq_decide.2 (by rw[Int.sign_neg_iff,Rat.lt_iff];simp)))
theorem kj (x:Ln)(k:Nat)(hk:k<x.a.length)(hl:x.a.length<1000000):Fn Tryz.prog 231 [Ti x,.ptr 1 (Xf [I k]) 0] (qA (x.a.getD k 0)):=by
 obtain⟨R,hR⟩:∃R,R=qA (x.a.getD k 0):=⟨_,rfl⟩
 have sR:Settled R:=hR▸Xa _;have v0:Xn (fun i=>x.a.getD i 0) (k*4)=(qC (x.a.getD k 0)).getD 0 .any:=Z7 qC 4 0 x.a k (by omega);have v1:∀j,j<4→Xn (fun i=>x.a.getD i 0) (k*4+j)=(qC (x.a.getD k 0)).getD j .any:=fun j hj=>KS qC 4 0 x.a k j hj
 have f1:(k<x.a.length)=True:=eq_true hk;rw[←hR];refine Fn.intro (fn:=Tryz.f231) Tryz.call231 Tryz.func231 rfl mixed 4 [] [] [] (by kernel_rfl) (Nat.le_of_ble_eq_true rfl) (JY (Bf x) (XI fun j _=>Xe (l:=[I k]) (by simp[Xb]) j)) (Xk ?_);simp(disch:=omega)only[AS.start,Ti,Ka,Xr,f1,v0,v1,qC,↓Xd,wG,seval];exact J2 rfl XR rfl rfl rfl sR (hR.trans rfl)
theorem ko (x:Ln):Fn Tryz.prog 232 [Ti x] (qA x.b):=by
 obtain⟨R,hR⟩:∃R,R=qA x.b:=⟨_,rfl⟩
 have sR:Settled R:=hR▸Xa _;rw[←hR];refine Fn.intro (fn:=Tryz.f232) Tryz.call232 Tryz.func232 rfl mixed 3 [] [] [] (by kernel_rfl) (Nat.le_of_ble_eq_true rfl) (fun a ha=>List.mem_singleton.1 ha▸Bf x) (Xk ?_);simp(disch:=omega)only[AS.start,Ti,Ka,Xr,qC,↓Xd,wG,seval];exact J2 rfl XR rfl rfl rfl sR (hR.trans rfl)
theorem YV (x:Ln)(z:List Rat)(E:Nat)(hl:z.length<49)(ha:x.a.length=z.length)(hE:∀i,i<z.length→qb (x.a.getD i 0)+qb (z.getD i 0)≤E) (hE2:E≤2083000) (hb:qb x.b≤rm) (hs:XB (fun k=>x.a.getD k 0*z.getD k 0) z.length≤x.b) (hq:qb (XB (fun k=>x.a.getD k 0*z.getD k 0) z.length)≤rm) :
  Fn Tryz.prog 233 [Ti x,.ptr 1 (Xf [.bool false]) 0,.ptr 1 (Xf [Qb z]) 0] (.bool false):=by
 have c1:=Lu x.a z E (by omega) ha.symm (fun i hi=>hE i (by omega)) hE2;rw[ha]at c1;have c2:=QR _ x.b hq hb;have hc:¬ (0<Bs (XB (fun k=>x.a.getD k 0*z.getD k 0) z.length) x.b):=by rw[AZ];exact Rat.not_lt.2 hs
 generalize XB (fun k=>x.a.getD k 0*z.getD k 0) z.length=s at *;refine Fn.intro (fn:=Tryz.f233) Tryz.call233 Tryz.func233 rfl mixed 6 [] [] [] (by kernel_rfl) (Nat.le_of_ble_eq_true rfl) (by
  intro a ha;simp only[List.mem_cons,List.not_mem_nil,or_false]at ha;rcases ha with rfl |rfl |rfl
  ·exact Bf x
  ·exact XI fun j _=>Xe (l:=[.bool false]) (by simp[X5]) j
  ·exact XI fun j _=>Xe (l:=[Qb z]) (by simp[Xz]) j) (Xk ?_)
 simp(disch:=omega)only[AS.start,Ti,Ka,qC,Q6,UI,↓Xd,wG,seval];refine X0 c1 (X2 _) ?_;simp(disch:=omega)only[qA,qC,↓Xd,wG,seval];refine X0 c2 (X2 _) ?_;simp(disch:=omega)only[↓Xd,wG,seval];exact Xo (v:=.bool false) rfl rfl (X5 _) rfl
end
end Go.Ab.N
