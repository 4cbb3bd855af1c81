/- Contracts of functions, for every argument that fits. -/
import Derived.Test.YtcmfnmceomhgcaaGreatC12
set_option linter.unusedSimpArgs false
set_option linter.unusedVariables false
namespace Go.Ab.N
open Go Go.RowKit Go.Proofs
noncomputable section
set_option maxRecDepth 10000
set_option maxHeartbeats 4000000
open Classical
def Ky (b:BB)(l:List GG):Nat→GG×Rat
 |0=>(gZ,-1)
 |k+1=>if(Ky b l k).2<EY b (l.getD k gZ)then(l.getD k gZ,EY b (l.getD k gZ))else Ky b l k
def ej (b:BB)(l:List GG):GG×Rat×Int:=if(Ky b l l.length).2<0 then(gZ,0,6)else((Ky b l l.length).1,(Ky b l l.length).2,0)
def PS (L:List V2)(b:BB)(f r:Rat):GG×Rat×Int:=if Bm L∧ZZ b=true∧Ba f r=true then ej b (Nm L f r)else(gZ,0,1)
def rc (x:GG×Rat×Int):AV:=.tup [gA x.1,qA x.2.1,I x.2.2]
def zg (t:Bool):List AV:=zC t ++ zC t ++ zC t ++ [.bool false,.sl 0 0 (fun _=>.any) t,.bool false,.sl 0 0 (fun _=>.any) t] ++ [.bool false,.sl 0 0 (fun _=>.any) t,.bool false,.sl 0 0 (fun _=>.any) t]
def kZ (t:Bool):List AV:=[.bool false,.sl 0 0 (fun _=>.any) t,.bool false,.sl 0 0 (fun _=>.any) t]
theorem Pm (t:Bool):WeakL (zg t) (gC gZ):=by
 obtain⟨q1,q2,q3,q4,_⟩:=KS t;exact⟨q1,q2,q3,q4,q1,q2,q3,q4,q1,q2,q3,q4,q1,q2,q3,q4,q1,q2,q3,q4,q1,q2,q3,q4,q1,q2,q3,q4,q1,q2,q3,q4,trivial⟩
theorem IV {b:BB}{l:List GG}(h:∀i,i<l.length→∃p q,Mg b (l.getD i gZ) p q):∀k,k≤l.length→qb (Ky b l k).2≤rm
 |0,_=>by unfold rm;show qb (-1)≤_;exact Nat.le_trans (by decide +kernel:qb (-1)≤10) (by omega)
 |k+1,hk=>by
  have ih:=IV h k (by omega);obtain⟨p,q,hm⟩:=h k (by omega);have:=hm.z.2.2.2.2;unfold rm at *;show qb (if(Ky b l k).2<EY b (l.getD k gZ)then(l.getD k gZ,EY b (l.getD k gZ))else Ky b l k).2≤_
  split
  ·show qb (EY b (l.getD k gZ))≤_;omega
  ·exact ih
theorem gN (L:List V2)(b:BB)(f r:Rat)(h:QT L 7)(hl:L.length≤12)(hb:bS b)(hf:qb f≤40)(hr:qb r≤40):Fn Tryz.prog 42 [Qh L,bA b,qA f,qA r] (rc (PS L b f r)):=by
 have c1:=Hq L (fun i=>Nat.le_trans (h i) (by omega)) (by omega);have c2:=Lr b hb.ok;have c3:=Lu f r (by unfold rm;omega) (by unfold rm;omega);have c4:=Rn L f r h hl hf hr;have c5:=Cw (-1) 1 ⟨by omega,by omega⟩ ⟨by omega,by omega⟩;obtain⟨R,hR⟩:∃R,R=PS L b f r:=⟨_,rfl⟩
 rw[←hR];have fk:=VB L h f r;unfold ZF at c4 fk;rw[Gn]at c4 fk;unfold PS at hR;have bad:∀ (s:AS) (c:Int),s.get 8=.ref 3 0 0→s.get 9=.ref 4 0 0→s.get 10=I c→s.h[3]?=some (.row 0 32 (Xh (zg false)))→s.h[4]?=some (.row 0 4 (Xh [.bool false,.sl 0 0 (fun _=>.any) false,.bool false,.sl 0 0 (fun _=>.any) false]))→R=(gZ,0,c)→RetOk (Jq Tryz.prog Tryz.f42 [11000000000001,11000000000002,15000000000001,15000000000002] [] (rc R)) s:=by
  intro s c e1 e2 e3 e4 e5 e6;unfold rc;rw[e6];exact Dr (r1:=.cell 8 32) (r2:=.cell 9 28) (r3:=.tmp 10) rfl (Xt HO e1 e4 rfl) (Xt XS e2 e5 rfl) (congrArg some e3) (XC (Js _) (Bh (Pm _))) (XC (Xc _) (Bh (KS _))) (Q6 (Xa _) rfl)
 refine Fq Tryz.call42 Tryz.func42 18 [38,39,40] [11000000000001,11000000000002,15000000000001,15000000000002] [] (by simp[Xq,Xc,ZX]) (Xm ?_);simp(disch:=omega)only[AS.start,X7,bA,Xz,qA,qC,↓Xd,wG,seval];refine X0 c1 ⟨by rw[X7];exact Weak.rfl' _,trivial⟩ ?_;simp(disch:=omega)only[↓Xd,wG,seval];refine⟨fun hp=>bad _ 1 rfl rfl rfl rfl rfl (by rw[hR,if_neg fun h=>hp h.1]),fun hp=>?_⟩;refine X0 c2 ⟨by rw[bA,Xz];exact Weak.rfl' _,trivial⟩ ?_;simp(disch:=omega)only[↓Xd,wG,seval];refine⟨fun hp2=>bad _ 1 rfl rfl rfl rfl rfl (by rw[hR,if_neg fun h=>by rw[h.2.1]at hp2;exact absurd hp2 (by simp)]),fun hp2=>?_⟩;have hp2:ZZ b=true:=by simpa using hp2
 refine X0 c3 (X1 _) ?_;simp(disch:=omega)only[↓Xd,wG,seval];refine⟨fun hp3=>bad _ 1 rfl rfl rfl rfl rfl (by rw[hR,if_neg fun h=>by rw[h.2.2]at hp3;exact absurd hp3 (by simp)]),fun hp3=>?_⟩;have hp3:Ba f r=true:=by simpa using hp3
 rw[if_pos ⟨hp,hp3⟩]at c4 fk;rw[if_pos ⟨hp,hp2,hp3⟩]at hR;have hGl:(Nm L f r).length≤1000:=by
  have:=E2 L f r L.length;have g3:L.length*L.length≤12*12:=Nat.mul_le_mul hl hl;unfold Nm;omega
 generalize Nm L f r=G at *;have hG:∀g∈G,gS g∧Kj g=true:=fun g hg=>by
  obtain⟨k1,k2,k3,k4,k5,k6⟩:=fk g hg;refine⟨⟨by omega,by omega,by omega,by rw[k5];exact hf,by rw[k6];exact hr⟩,?_⟩;unfold Kj;rw[k5,k6,hp3,Bool.true_and,decide_eq_true_eq];rw[Gb];exact k4
 have bP0:∀q,Ju q (bP b)=True:=fun q=>eq_true (X6 (XV fun j _=>Xf (AL b) j))
 have bV:∀q,Ju q (bW G)=True:=fun q=>eq_true (X6 (Ei G))
 have bO:∀q i,Qc q (.con i 20 (Xh (bC b)))=True:=fun q i=>eq_true fun j _=>X6 (Xf (AL b) j)
 have bQ:∀q i x,Qc q (.row i 4 (Xh (qC x)))=True:=fun q i x=>eq_true fun j _=>X6 (Xf (QP x) j)
 have bR:∀q i g,Qc q (.row i 32 (Xh (gC g)))=True:=fun q i g=>eq_true fun j _=>X6 (Xf (K0 _) _)
 have bZ:∀q i,Qc q (.row i 32 (Xh (zg true)))=True:=fun q i=>eq_true fun j _=>X6 (Xf (by simp[zg,zC,X5,Ko]) j)
 have bZ4:∀q i,Qc q (.row i 4 (Xh (kZ true)))=True:=fun q i=>eq_true fun j _=>X6 (Xf (by simp[kZ,X5,Ko]) j)
 refine X0 c5 (X1 _) ?_;simp(disch:=omega)only[qA,qC,↓Xd,wG,seval];refine X0 c4 ⟨by rw[X7];exact Weak.rfl' _,Weak.rfl' _,Weak.rfl' _,trivial⟩ ?_;simp(disch:=omega)only[XZ,↓Xd,wG,seval];refine Run.sub ?_ (Q3 0 rfl);refine Run.sub ?_ (Qa 5 rfl rfl (by omega));have hG2:∀i,i<G.length→∃p q,Mg b (G.getD i gZ) p q:=fun i hi=>by
  obtain⟨g1,g2⟩:=hG _ (QN gZ hi);exact Cf b _ hb g1 hp2 g2
 refine Run.sub ?_ (SL 5 (gC gZ) rfl rfl (Pm true));have dG:AV.sl G.length (G.length*32) (XO gC 32 gZ G) false=bW G:=(XZ G).symm;rw[dG];refine Xl (fun i:Nat=>⟨18,[38,39,40],[.any,.any,.any,.any,.any,bP b,.any,.any,.ref 3 0 0,.ref 4 0 0,I 0,.ref 5 0 0,.ref 6 0 0,.any,.any,.any,.any,.any],[(38,bW G),(39,I G.length),(40,I i)],[.con 0 20 (Xh (bC b)),.row 0 4 (Xh (qC f)),.row 0 4 (Xh (qC r)),.row 0 32 (Xh (zg true)),.row 0 4 (Xh (kZ true)),.row 0 32 (Xh (gC (Ky b G i).1)),.row 0 4 (Xh (qC (Ky b G i).2))]⟩) (fun i=>i≤G.length) (fun i=>G.length-i) 0 (by omega)
  (Xk rfl ⟨.inl rfl,.inl rfl,.inl rfl,.inl rfl,.inl rfl,.inr rfl,.inl rfl,.inl rfl,.inr rfl,.inr rfl,.inr rfl,.inr rfl,.inr rfl,.inl rfl,.inl rfl,.inl rfl,.inl rfl,.inl rfl,trivial⟩ (by simp[AS.put,Xw,XA,I]) rfl) ?_
 intro i hi next
 have w1:=wj i (by omega);by_cases hi2:i<G.length
 rotate_left
 ·obtain rfl:i=G.length:=by omega
  unfold ej at hR;have hz:qb (Ky b G G.length).2≤rm:=IV hG2 _ (Nat.le_refl _);have cs:=Qk (Ky b G G.length).2;have sg1:=Bv (Ky b G G.length).2;obtain⟨p,hp⟩:∃p,p=Ky b G G.length:=⟨_,rfl⟩
  rw[←hp]at cs sg1 hR hz;rw[←hp];obtain⟨g,m⟩:=p;simp only at cs sg1 hR hz;refine XK 19 ?_;simp(disch:=omega)only[XZ,↓Xd,wG,seval];refine X0 cs (X1 _) ?_;simp(disch:=omega)only[sg1,↓Xd,wG,seval];refine⟨fun hm=>?_,fun hm=>?_⟩
  ·rw[if_pos hm]at hR
   refine Xm ?_;simp(disch:=omega)only[zg,zC,kZ,List.cons_append,List.nil_append,↓Xd,wG,seval];exact bad _ 6 rfl rfl rfl rfl rfl hR
  ·rw[if_neg hm]at hR
   rw[hR];refine XK 2 ?_;simp(disch:=omega)only[↓Xd,wG,seval];show Run _ (_ :: _) _;refine AH (fun x=>x=6) ?_;obtain⟨A,hA⟩:∃A:AO,A=.con 0 20 (Xh (bC b)):=⟨_,rfl⟩
   obtain⟨B,hB⟩:∃B:AO,B=.row 0 4 (Xh (qC f)):=⟨_,rfl⟩
   obtain⟨C,hC⟩:∃C:AO,C=.row 0 4 (Xh (qC r)):=⟨_,rfl⟩
   have l0:=KF (P:=Tryz.prog) (T:=32) (id:=5) (Z:=gC g) (H:=[A,B,C,.row 0 32 (Xh (zg true)),.row 0 4 (Xh (kZ true)),.row 0 32 (Xh (gC g)),.row 0 4 (Xh (qC m))]) HO rfl rfl;have l1:=KF (P:=Tryz.prog) (T:=28) (id:=6) (Z:=qC m) (H:=[A,B,C,.row 0 32 (Xh (zg true)),.row 0 4 (Xh (kZ true)),.row 0 32 (Xh (gC g)),.row 0 4 (Xh (qC m))]) XS rfl rfl;have l2:=JU (P:=Tryz.prog) (T:=32) (id:=3) (Z:=zg true) (W:=gC g) (H:=[A,B,C,.row 0 32 (Xh (zg true)),.row 0 4 (Xh (kZ true)),.row 0 32 (Xh (gC g)),.row 0 4 (Xh (qC m))]) Ph rfl rfl rfl (by decide) rfl;have l3:=JU (P:=Tryz.prog) (T:=28) (id:=4) (Z:=kZ true) (W:=qC m) (H:=[A,B,C,.row 0 32 (Xh (gC g)),.row 0 4 (Xh (kZ true)),.row 0 32 (Xh (gC g)),.row 0 4 (Xh (qC m))]) Pg rfl rfl rfl (by decide) rfl;rw[hA,hB,hC]at l0 l1 l2 l3;show ∃s',AExecT _ _ _ _ _ _ _ _ _ _ s'∧_;refine⟨_,⟨Ib rfl,_,Qs rfl rfl rfl rfl (congrArg (Option.map fun w=>(w,_)) l0),tK rfl rfl (fun o' va off e=>by cases e;rfl),_,Qs rfl rfl rfl rfl (congrArg (Option.map fun w=>(w,_)) l1),
    uH rfl rfl (fun o' va off e=>by cases e;decide),_,Qs rfl rfl rfl rfl (congrArg (Option.map fun w=>(XJ,w)) l2),Ib rfl,_,Qs rfl rfl rfl rfl (congrArg (Option.map fun w=>(XJ,w)) l3),Ib rfl,_,Qs (v:=I 0) (h':=[.con 0 20 (Xh (bC b)),.row 0 4 (Xh (qC f)),.row 0 4 (Xh (qC r)),.row 0 32 (Xh (gC g)),.row 0 4 (Xh (qC m)),.row 0 32 (Xh (gC g)),.row 0 4 (Xh (qC m))]) rfl rfl rfl rfl rfl,rfl⟩,?fin⟩
   refine Run.sub (s':=⟨18,[38,39,40],[.any,.any,.any,.any,.any,.any,.any,.any,.ref 3 0 0,.ref 4 0 0,I 0,.any,.any,.any,.any,.any,.any,.any],[],[A,B,C,.row 0 32 (Xh (gC g)),.row 0 4 (Xh (qC m)),.row 0 32 (Xh (gC g)),.row 0 4 (Xh (qC m))]⟩) ?_ (Xk rfl ⟨.inl rfl,.inl rfl,.inl rfl,.inl rfl,.inl rfl,.inl rfl,.inl rfl,.inl rfl,.inr rfl,.inr rfl,.inr rfl,.inl rfl,.inl rfl,.inl rfl,.inl rfl,.inl rfl,.inl rfl,.inl rfl,trivial⟩ trivial (by rw[hA,hB,hC];rfl));refine Xm ?_;simp(disch:=omega)only[↓Xd,wG,seval];exact Dr (r1:=.cell 8 32) (r2:=.cell 9 28) (r3:=.tmp 10) rfl (Xt HO rfl rfl rfl) (Xt XS rfl rfl rfl) rfl (Q6 (Js _) rfl) (Q6 (Xc _) rfl) (Q6 (Xa _) rfl)
 have nx:=next (i+1)
 rw[show Ky b G (i+1)=if(Ky b G i).2<EY b (G.getD i gZ)then(G.getD i gZ,EY b (G.getD i gZ))else Ky b G i from rfl]at nx;obtain⟨p,q,hm⟩:=hG2 i hi2;have l0:=Ap gC 32 gZ G i (by omega);have l1:=ZU gC 32 gZ G i;have hz:qb (Ky b G i).2≤rm:=IV hG2 _ hi;generalize G.getD i gZ=g at *;have hz2:=hm.z.2.2.2.2;have cm:=hm.fn;have cc:=Qo (EY b g) (Ky b G i).2 (by unfold rm;omega) hz;have f1:(i<G.length)=True:=eq_true hi2;clear hm c1 c2 c3 c4 c5 hR hG hG2 fk next bad
 generalize EY b g=m at *;obtain⟨h0,hh0⟩:∃h0,h0=(Ky b G i).1:=⟨_,rfl⟩
 obtain⟨m0,hm0⟩:∃m0,m0=(Ky b G i).2:=⟨_,rfl⟩
 rw[←hm0]at cc nx hz;rw[←hh0,←hm0];refine XK 66 ?_;simp(disch:=omega)only[XZ,w1,f1,l0,l1,bP,Xz,Xy,↓Xd,wG,seval];refine X0 cm ⟨by rw[bA,Xz];exact Weak.rfl' _,by rw[gA,Xy];exact Weak.rfl' _,trivial⟩ ?_;simp(disch:=omega)only[qA,qC,↓Xd,wG,seval];refine X0 cc (X1 _) ?_;simp(disch:=omega)only[Zg,↓Xd,wG,seval];refine⟨fun hc=>?_,fun hc=>?_⟩
 rotate_left
 ·rw[if_neg hc]at nx
  refine Xm ?_;simp(disch:=omega)only[XZ,↓Xd,wG,seval];exact nx _ (by omega) (by omega) (XI (m:=7) (Nat.zero_le _) rfl ⟨.inl rfl,.inl rfl,.inl rfl,.inl rfl,.inl rfl,.inr rfl,.inl rfl,.inl rfl,.inr rfl,.inr rfl,.inr rfl,.inr rfl,.inr rfl,.inl rfl,.inl rfl,.inl rfl,.inl rfl,.inl rfl,trivial⟩ (by simp[Xw,XA,XZ,I]) (by rw[hh0,hm0,Xz];rfl) (by simp[XM,bV,bP0]) (by simp[XM,bV]) (by simp[bO,bR,bQ,bZ,bZ4]))
 ·rw[if_pos hc]at nx
  show Run _ (_ :: _) _;refine AH (fun x=>x=8) ?_;obtain⟨A,hA⟩:∃A:AO,A=.con 0 20 (Xh (bC b)):=⟨_,rfl⟩
  obtain⟨B,hB⟩:∃B:AO,B=.row 0 4 (Xh (qC f)):=⟨_,rfl⟩
  obtain⟨C,hC⟩:∃C:AO,C=.row 0 4 (Xh (qC r)):=⟨_,rfl⟩
  obtain⟨D,hD⟩:∃D:AO,D=.row 0 32 (Xh (zg true)):=⟨_,rfl⟩
  obtain⟨E,hE⟩:∃E:AO,E=.row 0 4 (Xh (kZ true)):=⟨_,rfl⟩
  have l0:=KF (P:=Tryz.prog) (T:=32) (id:=7) (Z:=gC g) (H:=[A,B,C,D,E,.row 0 32 (Xh (gC h0)),.row 0 4 (Xh (qC m0)),.row 0 32 (Xh (gC g)),.row 0 4 (Xh (qC m))]) HO rfl rfl;have l1:=KF (P:=Tryz.prog) (T:=28) (id:=8) (Z:=qC m) (H:=[A,B,C,D,E,.row 0 32 (Xh (gC h0)),.row 0 4 (Xh (qC m0)),.row 0 32 (Xh (gC g)),.row 0 4 (Xh (qC m))]) XS rfl rfl;have l2:=JU (P:=Tryz.prog) (T:=32) (id:=5) (Z:=gC h0) (W:=gC g) (H:=[A,B,C,D,E,.row 0 32 (Xh (gC h0)),.row 0 4 (Xh (qC m0)),.row 0 32 (Xh (gC g)),.row 0 4 (Xh (qC m))]) Ph rfl rfl rfl (by decide) rfl;have l3:=JU (P:=Tryz.prog) (T:=28) (id:=6) (Z:=qC m0) (W:=qC m) (H:=[A,B,C,D,E,.row 0 32 (Xh (gC g)),.row 0 4 (Xh (qC m0)),.row 0 32 (Xh (gC g)),.row 0 4 (Xh (qC m))]) Pg rfl rfl rfl (by decide) rfl;rw[hA,hB,hC,hD,hE]at l0 l1 l2 l3;show ∃s',AExecT _ _ _ _ _ _ _ _ _ _ s'∧_;refine⟨_,⟨Ib rfl,_,Qs rfl rfl rfl rfl (congrArg (Option.map fun w=>(w,_)) l0),tK rfl rfl (fun o' va off e=>by cases e;rfl),_,Qs rfl rfl rfl rfl (congrArg (Option.map fun w=>(w,_)) l1),
   uH rfl rfl (fun o' va off e=>by cases e;decide),_,Qs rfl rfl rfl rfl (congrArg (Option.map fun w=>(XJ,w)) l2),Ib rfl,_,Qs rfl rfl rfl rfl (congrArg (Option.map fun w=>(XJ,w)) l3),rfl⟩,?fin2⟩
  refine Run.sub (s':=⟨18,[38,39,40],[.any,.any,.any,.any,.any,bP b,.any,.any,.ref 3 0 0,.ref 4 0 0,I 0,.ref 5 0 0,.ref 6 0 0,.any,.any,.any,.any,.any],[(38,bW G),(39,I G.length),(40,I i)],[A,B,C,D,E,.row 0 32 (Xh (gC g)),.row 0 4 (Xh (qC m)),.row 0 32 (Xh (gC g)),.row 0 4 (Xh (qC m))]⟩) ?_ (Xk rfl ⟨.inl rfl,.inl rfl,.inl rfl,.inl rfl,.inl rfl,.inr rfl,.inl rfl,.inl rfl,.inr rfl,.inr rfl,.inr rfl,.inr rfl,.inr rfl,.inl rfl,.inl rfl,.inl rfl,.inl rfl,.inl rfl,trivial⟩ ⟨.inr rfl,.inr rfl,.inr rfl,trivial⟩ (by rw[hA,hB,hC,hD,hE];rfl));refine Xm ?_;simp(disch:=omega)only[XZ,↓Xd,wG,seval];exact nx _ (by omega) (by omega) (XI (m:=7) (Nat.zero_le _) rfl (by simp[XZ,Xo,I]) (by simp[Xw,XA,XZ,I]) (by rw[hA,hB,hC,hD,hE];rfl) (by simp[XM,bV,bP0]) (by simp[XM,bV]) (by simp[hA,hB,hC,hD,hE,bO,bR,bQ,bZ,bZ4]))
theorem Nk {α:Type}(d:α):∀ {A B:List α},A.length=B.length→(∀j,j<A.length→A.getD j d=B.getD j d)→A=B
 | [],[],_,_=>rfl
 |a :: A,b :: B,hl,h=>by
  have h0:=h 0 (by simp);rw[show a=b from h0,Nk d (A:=A) (B:=B) (by simpa using hl) fun j hj=>h (j+1) (by simpa using hj)]
theorem Sr (A B:List V2)(hA:∀i,vb (A.getD i v0)≤vm) (hB:∀i,vb (B.getD i v0)≤vm) (la:A.length<1000000) (lb:B.length<1000000):Fn Tryz.prog 115 [Qh A,Qh B] (.bool (decide (A=B))):=by
 obtain⟨V,hV⟩:∃V,V=decide (A=B):=⟨_,rfl⟩
 rw[←hV];refine Fn.intro (fn:=Tryz.f115) Tryz.call115 Tryz.func115 rfl mixed 6 [] [] [] (by kernel_rfl) (Nat.le_of_ble_eq_true rfl) (Kp (Xq A) (Xq B)) (Xm ?_);by_cases hl:A.length=B.length
 rotate_left
 ·have f1:((A.length:Int)=B.length)=False:=eq_false (by omega)
  have f2:(A.length=B.length)=False:=eq_false hl;simp(disch:=omega)only[AS.start,X7,f1,f2,↓Xd,wG,seval];exact Xp (v:=.bool false) rfl rfl (X5 _) (by rw[hV,decide_eq_false fun e=>hl (by rw[e])])
 have f1:(A.length=B.length)=True:=eq_true hl;simp(disch:=omega)only[AS.start,X7,f1,↓Xd,wG,seval];refine Xl (fun i:Nat=>⟨6,[],[Qh A,Qh B,.any,.any,.any,I i],[],[]⟩) (fun i=>i≤A.length∧∀j,j<i→A.getD j v0=B.getD j v0) (fun i=>A.length-i) 0 ⟨by omega,by omega⟩
  (Xk rfl (by simp[Xo,I,X7]) trivial rfl) ?_
 rintro i ⟨hi,hs⟩ next
 have w1:=wj i (by omega);by_cases hi2:i<A.length
 ·have v1:=vF A i
  have v2:=vF B i;have c1:=UC (A.getD i v0) (B.getD i v0) (hA i) (hB i);have f2:(i<A.length)=True:=eq_true hi2;have f3:(i<B.length)=True:=eq_true (by omega);obtain⟨x,hx⟩:∃x,x=A.getD i v0:=⟨_,rfl⟩
  obtain⟨y,hy⟩:∃y,y=B.getD i v0:=⟨_,rfl⟩
  rw[←hx]at v1 c1;rw[←hy]at v2 c1;refine Xm ?_;simp(disch:=omega)only[X7,w1,f2,f3,v1,v2,↓Xd,wG,seval];refine X0 c1 ⟨by rw[vA,vC];exact Weak.rfl' _,by rw[vA,vC];exact Weak.rfl' _,trivial⟩ ?_;simp(disch:=omega)only[X7,↓Xd,wG,seval];refine⟨fun h=>?_,fun h=>?_⟩
  ·exact Xp (v:=.bool false) rfl rfl (X5 _) (by rw[hV,decide_eq_false fun e=>h (by rw[hx,hy,e])])
  ·exact next (i+1) _ ⟨by omega,fun j hj=>by
    by_cases e:j=i
    ·rw[e,←hx,←hy];exact h
    ·exact hs j (by omega)⟩ (by omega) (C7 (by simp[Xo,I,X7]) rfl)
 ·obtain rfl:i=A.length:=by omega
  refine Xm ?_;simp(disch:=omega)only[X7,↓Xd,wG,seval];exact Xp (v:=.bool true) rfl rfl (X5 _) (by rw[hV,decide_eq_true (Nk v0 hl hs)])
theorem Rp (a b:GG)(ha:gS a)(hb:gS b):Fn Tryz.prog 44 [gA a,gA b] (.bool (decide (a=b))):=by
 obtain⟨a1,a2,a3,a4,a5⟩:=ha;obtain⟨b1,b2,b3,b4,b5⟩:=hb;have sm:∀p q n:V2,vb p≤1400→vb q≤1400→vb n≤1400→∀i,vb ([p,q,n].getD i v0)≤vm:=fun p q n h1 h2 h3 i=>by
  unfold vm
  match i with
  |0=>show vb p≤_;omega
  |1=>show vb q≤_;omega
  |2=>show vb n≤_;omega
  |_+3=>exact Nat.le_trans vn (by omega)
 have c1:=Sr [a.p,a.q,a.n] [b.p,b.q,b.n] (sm _ _ _ a1 a2 (by omega)) (sm _ _ _ b1 b2 (by omega)) (by simp) (by simp);have c2:=FF a.force b.force (by unfold rm;omega) (by unfold rm;omega);have c3:=FF a.rough b.rough (by unfold rm;omega) (by unfold rm;omega);have e1:decide ([a.p,a.q,a.n]=[b.p,b.q,b.n])=decide (a.p=b.p∧a.q=b.q∧a.n=b.n):=decide_eq_decide.2 (by simp);rw[e1]at c1;obtain⟨V,hV⟩:∃V,V=decide (a=b):=⟨_,rfl⟩
 have hV:V=(decide (a.p=b.p∧a.q=b.q∧a.n=b.n) && (decide (a.force=b.force) && decide (a.rough=b.rough))):=by
  rw[hV,←Bool.decide_and,←Bool.decide_and,decide_eq_decide];cases a;cases b;rw[GG.mk.injEq];constructor
  ·rintro⟨h1,h2,h3,h4,h5⟩;exact⟨⟨h1,h2,h3⟩,h4,h5⟩
  ·rintro⟨⟨h1,h2,h3⟩,h4,h5⟩;exact⟨h1,h2,h3,h4,h5⟩
 rename_i hV0;rw[←hV0];generalize decide (a.p=b.p∧a.q=b.q∧a.n=b.n)=x at *;generalize decide (a.force=b.force)=y at *;generalize decide (a.rough=b.rough)=z at *;refine Fn.intro (fn:=Tryz.f44) Tryz.call44 Tryz.func44 rfl mixed 5 [] [] [] (by kernel_rfl) (Nat.le_of_ble_eq_true rfl) (Kp (Js a) (Js b)) (Xm ?_);simp(disch:=omega)only[AS.start,gA,Xy,↓Xd,wG,seval];cases x
 ·refine X0 c1 ⟨KK vC 8 v0 (fun _=>rfl) [a.p,a.q,a.n] _ _ _ _ rfl rfl rfl,KK vC 8 v0 (fun _=>rfl) [b.p,b.q,b.n] _ _ _ _ rfl rfl rfl,trivial⟩ ?_
  simp(disch:=omega)only[↓Xd,wG,seval];exact Xp (v:=.bool false) rfl rfl (X5 _) (by rw[hV];rfl)
 ·refine X0 c1 ⟨KK vC 8 v0 (fun _=>rfl) [a.p,a.q,a.n] _ _ _ _ rfl rfl rfl,KK vC 8 v0 (fun _=>rfl) [b.p,b.q,b.n] _ _ _ _ rfl rfl rfl,trivial⟩ ?_
  cases y
  ·simp(disch:=omega)only[↓Xd,wG,seval]
   refine X0 c2 (X1 _) ?_;simp(disch:=omega)only[↓Xd,wG,seval];exact Xp (v:=.bool false) rfl rfl (X5 _) (by rw[hV];rfl)
  ·simp(disch:=omega)only[↓Xd,wG,seval]
   refine X0 c2 (X1 _) ?_;simp(disch:=omega)only[↓Xd,wG,seval];refine X0 c3 (X1 _) ?_;simp(disch:=omega)only[↓Xd,wG,seval];exact Xp (v:=.bool z) rfl rfl (X5 _) (by rw[hV];rfl)
theorem Uf (L:List V2)(f r k1 k2 k3 k4 n5:Rat)(u1 u2 u3 u4 u5 u6:V2)(B1 B6:BB)(x1 x2 y1 y2 z1 z2:Rat×Rat)
  (o1:Fn Tryz.prog 20 [I 8,I 1] (qA f)) (o2:Fn Tryz.prog 20 [I 1,I 2] (qA r))
  (o3:Fn Tryz.prog 20 [I 4,I 1] (qA k1)) (o4:Fn Tryz.prog 20 [I 3,I 2] (qA k3)) (o5:Fn Tryz.prog 20 [I 3,I 1] (qA k4)) (o6:Fn Tryz.prog 20 [I 5,I 1] (qA n5))
  (sq:Fn Tryz.prog 75 [] (Qh L))
  (c1:Fn Tryz.prog 45 [Qh L,qA f,qA r] (bW [⟨u1,u2,u3,f,r⟩,⟨u4,u5,u6,f,r⟩]))
  (p1:Fn Tryz.prog 53 [I 1,I 0] (vA u1)) (p2:Fn Tryz.prog 53 [I 1,I 2] (vA u2)) (p3:Fn Tryz.prog 53 [I 0,I 2] (vA u3))
  (p4:Fn Tryz.prog 53 [I 2,I 1] (vA u4)) (p5:Fn Tryz.prog 53 [I 0,I 1] (vA u5)) (p6:Fn Tryz.prog 53 [I (-2),I 0] (vA u6))
  (b1:Fn Tryz.prog 76 [I 100] (bA B1)) (b2:Fn Tryz.prog 76 [I 6] (bA B6))
  (m1:Fn Tryz.prog 22 [bA B1,gA ⟨u1,u2,u3,f,r⟩] (.tup [qA k1,FE [x1,x2],I 0]))
  (m2:Fn Tryz.prog 22 [bA B1,gA ⟨u4,u5,u6,f,r⟩] (.tup [qA k1,FE [y1,y2],I 0]))
  (m3:Fn Tryz.prog 22 [bA B6,gA ⟨u4,u5,u6,f,r⟩] (.tup [qA k3,FE [z1,z2],I 0]))
  (cb:Fn Tryz.prog 42 [Qh L,bA B6,qA f,qA r] (.tup [gA ⟨u1,u2,u3,f,r⟩,qA k4,I 0]))
  (s1:Fn Tryz.prog 44 [gA ⟨u1,u2,u3,f,r⟩,gA ⟨u1,u2,u3,f,r⟩] (.bool true))
  (s2:Fn Tryz.prog 44 [gA ⟨u4,u5,u6,f,r⟩,gA ⟨u4,u5,u6,f,r⟩] (.bool true))
  (q1:Fn Tryz.prog 26 [qA k1,qA k1] (.bool true)) (q3:Fn Tryz.prog 26 [qA k3,qA k3] (.bool true)) (q4:Fn Tryz.prog 26 [qA k4,qA k4] (.bool true))
  (d1:Fn Tryz.prog 29 [bA B1,gA ⟨u1,u2,u3,f,r⟩,qA k1,FE [x1,x2]] (I 0))
  (d2:Fn Tryz.prog 29 [bA B1,gA ⟨u1,u2,u3,f,r⟩,qA n5,FE [x1,x2]] (I 22))
  (v1:Fn Tryz.prog 15 [Qh L,gA ⟨u1,u2,u3,f,r⟩] (I 0)) (v2:Fn Tryz.prog 15 [Qh L,gA gZ] (I 1)) :
  Fn Tryz.prog 17 [] (.bool true):=by
 obtain⟨G,hG⟩:∃G:List GG,G=[⟨u1,u2,u3,f,r⟩,⟨u4,u5,u6,f,r⟩]:=⟨_,rfl⟩
 have l1:∀j,j<32→XO gC 32 gZ G j=(gC ⟨u1,u2,u3,f,r⟩).getD j .any:=fun j hj=>by
  have:=ZU gC 32 gZ G 0 j hj;rw[show G.getD 0 gZ=⟨u1,u2,u3,f,r⟩by rw[hG];rfl]at this;rw[←this];congr 1;omega
 have l3:∀j,32≤j→j<64→XO gC 32 gZ G j=(gC ⟨u4,u5,u6,f,r⟩).getD (j-32) .any:=fun j h1 h2=>by
  have:=ZU gC 32 gZ G 1 (j-32) (by omega);rw[show G.getD 1 gZ=⟨u4,u5,u6,f,r⟩by rw[hG];rfl]at this;rw[←this];congr 1;omega
 rw[←hG]at c1;have hl:G.length=2:=by rw[hG];rfl
 clear hG;refine Fn.intro (fn:=Tryz.f17) Tryz.call17 Tryz.func17 rfl mixed 19 [] [6,7003,7004,7,8003,8004,8,9003,9,10003,10,11003,11,12002,12003] [] (by kernel_rfl) (Nat.le_of_ble_eq_true rfl) (by simp) (Xm ?_);simp(disch:=omega)only[AS.start,↓Xd,wG,seval];refine X0 o1 (X1 _) ?_;simp(disch:=omega)only[qA,qC,↓Xd,wG,seval];refine X0 o2 (X1 _) ?_;simp(disch:=omega)only[qA,qC,↓Xd,wG,seval];refine X0 sq (X1 _) ?_;simp(disch:=omega)only[X7,↓Xd,wG,seval];refine X0 c1 ⟨by rw[X7];exact Weak.rfl' _,Weak.rfl' _,Weak.rfl' _,trivial⟩ ?_;simp(disch:=omega)only[XZ,hl,↓Xd,wG,seval];refine X0 p1 (X1 _) ?_;simp(disch:=omega)only[vA,vC,↓Xd,wG,seval];refine X0 p2 (X1 _) ?_;simp(disch:=omega)only[vA,vC,↓Xd,wG,seval];refine X0 p3 (X1 _) ?_;simp(disch:=omega)only[vA,vC,↓Xd,wG,seval];refine X0 p4 (X1 _) ?_;simp(disch:=omega)only[vA,vC,↓Xd,wG,seval];refine X0 p5 (X1 _) ?_;simp(disch:=omega)only[vA,vC,↓Xd,wG,seval];refine X0 p6 (X1 _) ?_;simp(disch:=omega)only[vA,vC,↓Xd,wG,seval];refine X0 b1 (X1 _) ?_;simp(disch:=omega)only[bA,Xz,l1,l3,Nat.reduceSub,Xy,↓Xd,wG,seval];refine X0 m1 ⟨by rw[bA,Xz];exact Weak.rfl' _,by rw[gA,Xy];exact Weak.rfl' _,trivial⟩ ?_;simp(disch:=omega)only[vA,vC,qA,qC,bA,Xz,gA,Xy,l1,l3,Nat.reduceSub,XZ,hl,X7,↓Xd,wG,seval];refine X0 b1 (X1 _) ?_;simp(disch:=omega)only[vA,vC,qA,qC,bA,Xz,gA,Xy,l1,l3,Nat.reduceSub,XZ,hl,X7,↓Xd,wG,seval];refine X0 m2 ⟨by rw[bA,Xz];exact Weak.rfl' _,by rw[gA,Xy];exact Weak.rfl' _,trivial⟩ ?_;simp(disch:=omega)only[vA,vC,qA,qC,bA,Xz,gA,Xy,l1,l3,Nat.reduceSub,XZ,hl,X7,↓Xd,wG,seval];refine X0 b2 (X1 _) ?_;simp(disch:=omega)only[vA,vC,qA,qC,bA,Xz,gA,Xy,l1,l3,Nat.reduceSub,XZ,hl,X7,↓Xd,wG,seval];refine X0 m3 ⟨by rw[bA,Xz];exact Weak.rfl' _,by rw[gA,Xy];exact Weak.rfl' _,trivial⟩ ?_;simp(disch:=omega)only[vA,vC,qA,qC,bA,Xz,gA,Xy,l1,l3,Nat.reduceSub,XZ,hl,X7,↓Xd,wG,seval];refine X0 sq (X1 _) ?_;simp(disch:=omega)only[vA,vC,qA,qC,bA,Xz,gA,Xy,l1,l3,Nat.reduceSub,XZ,hl,X7,↓Xd,wG,seval];refine X0 b2 (X1 _) ?_;simp(disch:=omega)only[vA,vC,qA,qC,bA,Xz,gA,Xy,l1,l3,Nat.reduceSub,XZ,hl,X7,↓Xd,wG,seval];refine X0 cb ⟨by rw[X7];exact Weak.rfl' _,by rw[bA,Xz];exact Weak.rfl' _,Weak.rfl' _,Weak.rfl' _,trivial⟩ ?_;simp(disch:=omega)only[vA,vC,qA,qC,bA,Xz,gA,Xy,l1,l3,Nat.reduceSub,XZ,hl,X7,↓Xd,wG,seval];refine X0 s1 ⟨by rw[gA,Xy];exact Weak.rfl' _,by rw[gA,Xy];exact Weak.rfl' _,trivial⟩ ?_;simp(disch:=omega)only[vA,vC,qA,qC,bA,Xz,gA,Xy,l1,l3,Nat.reduceSub,XZ,hl,X7,↓Xd,wG,seval];refine X0 s2 ⟨by rw[gA,Xy];exact Weak.rfl' _,by rw[gA,Xy];exact Weak.rfl' _,trivial⟩ ?_;simp(disch:=omega)only[vA,vC,qA,qC,bA,Xz,gA,Xy,l1,l3,Nat.reduceSub,XZ,hl,X7,↓Xd,wG,seval];refine X0 o3 (X1 _) ?_;simp(disch:=omega)only[vA,vC,qA,qC,bA,Xz,gA,Xy,l1,l3,Nat.reduceSub,XZ,hl,X7,↓Xd,wG,seval];refine X0 q1 (X1 _) ?_;simp(disch:=omega)only[vA,vC,qA,qC,bA,Xz,gA,Xy,l1,l3,Nat.reduceSub,XZ,hl,X7,↓Xd,wG,seval];refine X0 o3 (X1 _) ?_;simp(disch:=omega)only[vA,vC,qA,qC,bA,Xz,gA,Xy,l1,l3,Nat.reduceSub,XZ,hl,X7,↓Xd,wG,seval];refine X0 q1 (X1 _) ?_;simp(disch:=omega)only[vA,vC,qA,qC,bA,Xz,gA,Xy,l1,l3,Nat.reduceSub,XZ,hl,X7,↓Xd,wG,seval];refine X0 o4 (X1 _) ?_;simp(disch:=omega)only[vA,vC,qA,qC,bA,Xz,gA,Xy,l1,l3,Nat.reduceSub,XZ,hl,X7,↓Xd,wG,seval];refine X0 q3 (X1 _) ?_;simp(disch:=omega)only[vA,vC,qA,qC,bA,Xz,gA,Xy,l1,l3,Nat.reduceSub,XZ,hl,X7,↓Xd,wG,seval];refine X0 o5 (X1 _) ?_;simp(disch:=omega)only[vA,vC,qA,qC,bA,Xz,gA,Xy,l1,l3,Nat.reduceSub,XZ,hl,X7,↓Xd,wG,seval];refine X0 q4 (X1 _) ?_;simp(disch:=omega)only[vA,vC,qA,qC,bA,Xz,gA,Xy,l1,l3,Nat.reduceSub,XZ,hl,X7,↓Xd,wG,seval];refine X0 s1 ⟨by rw[gA,Xy];exact Weak.rfl' _,by rw[gA,Xy];exact Weak.rfl' _,trivial⟩ ?_;simp(disch:=omega)only[vA,vC,qA,qC,bA,Xz,gA,Xy,l1,l3,Nat.reduceSub,XZ,hl,X7,↓Xd,wG,seval];refine X0 b1 (X1 _) ?_;simp(disch:=omega)only[vA,vC,qA,qC,bA,Xz,gA,Xy,l1,l3,Nat.reduceSub,XZ,hl,X7,↓Xd,wG,seval];refine X0 d1 ⟨by rw[bA,Xz];exact Weak.rfl' _,by rw[gA,Xy];exact Weak.rfl' _,Weak.rfl' _,Weak.rfl' _,trivial⟩ ?_;simp(disch:=omega)only[vA,vC,qA,qC,bA,Xz,gA,Xy,l1,l3,Nat.reduceSub,XZ,hl,X7,↓Xd,wG,seval];refine X0 b1 (X1 _) ?_;simp(disch:=omega)only[vA,vC,qA,qC,bA,Xz,gA,Xy,l1,l3,Nat.reduceSub,XZ,hl,X7,↓Xd,wG,seval];refine X0 o6 (X1 _) ?_;simp(disch:=omega)only[vA,vC,qA,qC,bA,Xz,gA,Xy,l1,l3,Nat.reduceSub,XZ,hl,X7,↓Xd,wG,seval];refine X0 d2 ⟨by rw[bA,Xz];exact Weak.rfl' _,by rw[gA,Xy];exact Weak.rfl' _,Weak.rfl' _,Weak.rfl' _,trivial⟩ ?_;simp(disch:=omega)only[vA,vC,qA,qC,bA,Xz,gA,Xy,l1,l3,Nat.reduceSub,XZ,hl,X7,↓Xd,wG,seval];refine X0 sq (X1 _) ?_;simp(disch:=omega)only[vA,vC,qA,qC,bA,Xz,gA,Xy,l1,l3,Nat.reduceSub,XZ,hl,X7,↓Xd,wG,seval];refine X0 v1 ⟨by rw[X7];exact Weak.rfl' _,by rw[gA,Xy];exact Weak.rfl' _,trivial⟩ ?_;simp(disch:=omega)only[vA,vC,qA,qC,bA,Xz,gA,Xy,l1,l3,Nat.reduceSub,XZ,hl,X7,↓Xd,wG,seval];refine X0 sq (X1 _) ?_;simp(disch:=omega)only[vA,vC,qA,qC,bA,Xz,gA,Xy,l1,l3,Nat.reduceSub,XZ,hl,X7,zg,zC,List.cons_append,List.nil_append,↓Xd,wG,seval];refine X0 v2 ⟨by rw[X7];exact Weak.rfl' _,Bh (Pm _),trivial⟩ ?_;simp(disch:=omega)only[vA,vC,qA,qC,bA,Xz,gA,Xy,l1,l3,Nat.reduceSub,XZ,hl,X7,zg,zC,List.cons_append,List.nil_append,↓Xd,wG,seval];exact Xp (v:=.bool true) rfl rfl (X5 _) rfl
theorem kR (L:List V2):Lz L gZ=1:=by
 unfold Lz;rw[if_neg fun h=>by
  have:=h.2;rw[Ka]at this;exact absurd this.1.1 (by show ¬ (0:Rat)<0;decide)]
theorem wv {i:Nat}(hi:i<4):JD sqV i∈K1 sqV:=by
 unfold K1 AM;exact List.mem_map.2 ⟨i,List.mem_range.2 hi,rfl⟩
theorem mD:Lz sqV eg1=0:=by
 have h1:(K1 sqV).any (Dc eg1)=true:=List.any_eq_true.2 ⟨_,wv (i:=0) (by omega),by
  unfold Dc;rw[Bool.and_eq_true];refine⟨decide_eq_true (Lk (by decide +kernel)),?_⟩;rw[show JD sqV 0=⟨(JD sqV 0).a,(JD sqV 0).b,(JD sqV 0).i⟩from rfl,gW];unfold vD;exact decide_eq_true ⟨by decide +kernel,by decide +kernel⟩⟩
 have h2:(K1 sqV).any (Bu eg1)=true:=List.any_eq_true.2 ⟨_,wv (i:=2) (by omega),by
  unfold Bu;rw[Bool.and_eq_true];refine⟨decide_eq_true ⟨by decide +kernel,by decide +kernel⟩,?_⟩;rw[show JD sqV 2=⟨(JD sqV 2).a,(JD sqV 2).b,(JD sqV 2).i⟩from rfl,gW];unfold vD;exact decide_eq_true ⟨by decide +kernel,by decide +kernel⟩⟩
 unfold Lz;rw[if_pos ⟨(Gn _).1 GF,uz.1.2⟩,if_pos ⟨h1,h2⟩]
theorem oB:PS sqV (Ew 6) (Rat.divInt 8 1) (Rat.divInt 1 2)=(eg1,Rat.divInt 3 1,0):=by
 have e3:EY (Ew 6) eg2=Rat.divInt 3 2:=Dg (fI 6 _ (.inr ⟨rfl,rfl⟩));have e4:EY (Ew 6) eg1=Rat.divInt 3 1:=Dg (pC 6 _ (.inr ⟨by decide +kernel,rfl⟩));have hf:=Ws;unfold ZF at hf;rw[if_pos ⟨GF,Pd⟩]at hf;unfold PS;rw[if_pos ⟨(Gn _).1 GF,(ek 6 (by omega)).2,Pd⟩,hf];have b1:Ky (Ew 6) [eg1,eg2] 1=(eg1,Rat.divInt 3 1):=by
  show(if(-1:Rat)<EY (Ew 6) eg1 then(eg1,EY (Ew 6) eg1)else(gZ,-1))=_;rw[e4,if_pos (by decide +kernel)]
 have b2:Ky (Ew 6) [eg1,eg2] 2=(eg1,Rat.divInt 3 1):=by
  show(if(Ky (Ew 6) [eg1,eg2] 1).2<EY (Ew 6) eg2 then(eg2,EY (Ew 6) eg2)else Ky (Ew 6) [eg1,eg2] 1)=_;rw[b1,e3,if_neg (by decide +kernel)]
 unfold ej;rw[show [eg1,eg2].length=2 from rfl,b2,if_neg (by show ¬Rat.divInt 3 1<0;decide +kernel)]
theorem LN:Fn Tryz.prog 17 [] (.bool true):=by
 have q8:=CP 8 1 (by omega) (by omega);have qh:=CP 1 2 (by omega) (by omega);have q4:=CP 4 1 (by omega) (by omega);have q3:=CP 3 1 (by omega) (by omega);have q32:=CP 3 2 (by omega) (by omega);have q5:=CP 5 1 (by omega) (by omega);obtain⟨s1,s2⟩:=ek 100 (by omega);obtain⟨s3,s4⟩:=ek 6 (by omega);obtain⟨⟨t1,t2⟩,t3,t4⟩:=uz;have M4:=pC 100 (Rat.divInt 4 1) (.inl ⟨by decide +kernel,rfl⟩);have e1:EY (Ew 100) eg1=Rat.divInt 4 1:=Dg M4;have e2:EY (Ew 100) eg2=Rat.divInt 4 1:=Dg (fI 100 _ (.inl ⟨by decide +kernel,rfl⟩));have e3:EY (Ew 6) eg2=Rat.divInt 3 2:=Dg (fI 6 _ (.inr ⟨rfl,rfl⟩));obtain⟨x1,x2,m1⟩:=Cf (Ew 100) eg1 s1 t1 s2 t2;obtain⟨y1,y2,m2⟩:=Cf (Ew 100) eg2 s1 t3 s2 t4;obtain⟨z1,z2,m3⟩:=Cf (Ew 6) eg2 s3 t3 s4 t4;have n1:=m1.fn;have n2:=m2.fn;have n3:=m3.fn;have n4:=m1.ok;obtain⟨w1,w2,w3,w4,w5⟩:=m1.z;rw[e1]at n1 n4;rw[e2]at n2;rw[e3]at n3;have cb:=gN sqV (Ew 6) (Rat.divInt 8 1) (Rat.divInt 1 2) jI.2.1 (by decide) s3 (by omega) (by omega);rw[oB]at cb;have c1:=Rn sqV (Rat.divInt 8 1) (Rat.divInt 1 2) jI.2.1 (by decide) (by omega) (by omega);rw[Ws]at c1;have p:=fun(x y:Int) (hx:Ze x) (hy:Ze y)=>Kd x y hx hy
 have sm:QT sqV 1000:=fun i=>Nat.le_trans (jI.2.1 i) (by omega)
 have g1:=VJ sqV eg1 sm (by decide) t1;rw[mD]at g1;have gz:gS gZ:=⟨by show vb v0≤_;decide +kernel,by show vb v0≤_;decide +kernel,by show vb v0≤_;decide +kernel,by show qb 0≤_;decide +kernel,by show qb 0≤_;decide +kernel⟩
 have g2:=VJ sqV gZ sm (by decide) gz;rw[kR]at g2;have a1:=Rp eg1 eg1 t1 t1;have a2:=Rp eg2 eg2 t3 t3;rw[decide_eq_true rfl]at a1 a2;have sQ:∀x:Rat,qb x≤10→Fn Tryz.prog 26 [qA x,qA x] (.bool true):=fun x hx=>by
  have:=FF x x (by unfold rm;omega) (by unfold rm;omega);rwa[decide_eq_true rfl]at this
 have hp:∀x∈[x1,x2],qb x.1≤1500000∧qb x.2≤1500000:=by
  intro x hx;rcases List.mem_cons.1 hx with rfl |hx
  ·omega
  ·rw[List.mem_singleton.1 hx];omega
 have d1:=AA (Ew 100) eg1 (Rat.divInt 4 1) [x1,x2] s1 t1 (by omega) (by simp) hp;have d2:=AA (Ew 100) eg1 (Rat.divInt 5 1) [x1,x2] s1 t1 (by omega) (by simp) hp;rw[show JN (Ew 100) eg1 (Rat.divInt 4 1) [x1,x2]=0 by
  unfold JN;rw[if_pos (by rw[s2,t2];rfl),if_pos ⟨rfl,n4⟩]]at d1
 rw[show JN (Ew 100) eg1 (Rat.divInt 5 1) [x1,x2]=22 by
  unfold JN;rw[if_pos (by rw[s2,t2];rfl),if_neg fun h=>absurd (M4.2 _ _ _ _ _ h.2) (by decide +kernel)]]at d2
 exact Uf sqV (Rat.divInt 8 1) (Rat.divInt 1 2) (Rat.divInt 4 1) 0 (Rat.divInt 3 2) (Rat.divInt 3 1) (Rat.divInt 5 1) (pI 1 0) (pI 1 2) (pI 0 2) (pI 2 1) (pI 0 1) (pI (-2) 0) (Ew 100) (Ew 6) x1 x2 y1 y2 z1 z2
  (XB 8 1 ⟨by omega,by omega⟩ ⟨by omega,by omega⟩) (XB 1 2 ⟨by omega,by omega⟩ ⟨by omega,by omega⟩) (XB 4 1 ⟨by omega,by omega⟩ ⟨by omega,by omega⟩) (XB 3 2 ⟨by omega,by omega⟩ ⟨by omega,by omega⟩) (XB 3 1 ⟨by omega,by omega⟩ ⟨by omega,by omega⟩) (XB 5 1 ⟨by omega,by omega⟩ ⟨by omega,by omega⟩)
  Uj c1 (p 1 0 ⟨by omega,by omega⟩ ⟨by omega,by omega⟩) (p 1 2 ⟨by omega,by omega⟩ ⟨by omega,by omega⟩) (p 0 2 ⟨by omega,by omega⟩ ⟨by omega,by omega⟩) (p 2 1 ⟨by omega,by omega⟩ ⟨by omega,by omega⟩) (p 0 1 ⟨by omega,by omega⟩ ⟨by omega,by omega⟩) (p (-2) 0 ⟨by omega,by omega⟩ ⟨by omega,by omega⟩)
  (Nv 100 ⟨by omega,by omega⟩) (Nv 6 ⟨by omega,by omega⟩) n1 n2 n3 cb a1 a2 (sQ _ (by omega)) (sQ _ (by omega)) (sQ _ (by omega)) d1 d2 g1 g2
end
end Go.Ab.N
