/- Contracts of functions, for every argument that fits. -/
import Derived.Test.YtcmfnmceomhgcaaGreatC12
set_option linter.unusedSimpArgs false
set_option linter.unusedVariables false
open Bool renaming decide_and→ZEO
open Go.Ab.AS renaming start→O_
open Nat renaming reduceSub→ZAB
open Option renaming map→ZAF
open Rat renaming divInt→P'
namespace Go.Ab.N
open Go Go.RowKit Go.Proofs
noncomputable section
set_option maxRecDepth 10000
set_option maxHeartbeats 4000000
open Classical
def Zh (b:BB)(l:List GG):Nat→GG×Rat
 |0=>(gZ,-1)
 |k+1=>if(Zh b l k).2<Gm b (l.getD k gZ)then(l.getD k gZ,Gm b (l.getD k gZ))else Zh b l k
def jb (b:BB)(l:List GG):GG×Rat×Int:=if(Zh b l l.length).2<0 then(gZ,0,6)else((Zh b l l.length).1,(Zh b l l.length).2,0)
def Sz (L:List V2)(b:BB)(f r:Rat):GG×Rat×Int:=if C1 L∧K9 b=true∧BM f r=true then jb b (OB L f r)else(gZ,0,1)
def uZ (x:GG×Rat×Int):AV:=.tup [gA x.1,qA x.2.1,I x.2.2]
def zg (t:Bool):List AV:=zC t ++ zC t ++ zC t ++ [.bool false,.sl 0 0 (fun _=>.any) t,.bool false,.sl 0 0 (fun _=>.any) t] ++ [.bool false,.sl 0 0 (fun _=>.any) t,.bool false,.sl 0 0 (fun _=>.any) t]
def oA (t:Bool):List AV:=[.bool false,.sl 0 0 (fun _=>.any) t,.bool false,.sl 0 0 (fun _=>.any) t]
theorem RU (t:Bool):TAF (zg t) (gC gZ):=by
 obtain⟨q1,q2,q3,q4,_⟩:=QB t;exact⟨q1,q2,q3,q4,q1,q2,q3,q4,q1,q2,q3,q4,q1,q2,q3,q4,q1,q2,q3,q4,q1,q2,q3,q4,q1,q2,q3,q4,q1,q2,q3,q4,trivial⟩
theorem Mj {b:BB}{l:List GG}(h:∀i,i<l.length→∃p q,Mg b (l.getD i gZ) p q):∀k,k≤l.length→qb (Zh b l k).2≤rm
 |0,_=>by unfold rm;show qb (-1)≤_;exact m_ (by decide +kernel:qb (-1)≤10) (by omega)
 |k+1,hk=>by
  have ih:=Mj h k (by omega);obtain⟨p,q,hm⟩:=h k (by omega);have:=hm.z.2.2.2.2;unfold rm at *;show qb (if(Zh b l k).2<Gm b (l.getD k gZ)then(l.getD k gZ,Gm b (l.getD k gZ))else Zh b l k).2≤_
  split
  ·show qb (Gm b (l.getD k gZ))≤_;omega
  ·exact ih
theorem kS (L:List V2)(b:BB)(f r:Rat)(h:J3 L 10)(hl:L.length≤13)(hb:bS b)(hf:qb f≤40)(hr:qb r≤40):Fn Tryz.prog 42 [Qx L,bA b,qA f,qA r] (uZ (Sz L b f r)):=by
 have c1:=Iu L (fun i=>m_ (h i) (by omega)) (by omega);have c2:=Dp b hb.ok;have c3:=MH f r;have c4:=T2 L f r h (by omega) (by omega) hf hr;have c5:=D9 (-1) 1 ⟨by omega,by omega⟩ ⟨by omega,by omega⟩;obtain⟨R,hR⟩:∃R,R=Sz L b f r:=⟨_,rfl⟩
 rw[←hR];have fk:=YD L h f r;unfold Am at c4 fk;rw[Hr]at c4 fk;unfold Sz at hR;have bad:∀ (s:AS) (c:Int),s.get 8=.ref 3 0 0→s.get 9=.ref 4 0 0→s.get 10=I c→s.h[3]?=some (.row 0 32 (Xf (zg false)))→s.h[4]?=some (.row 0 4 (Xf [.bool false,.sl 0 0 (fun _=>.any) false,.bool false,.sl 0 0 (fun _=>.any) false]))→R=(gZ,0,c)→TAC (JK Tryz.prog Tryz.f42 [11000000000001,11000000000002,15000000000001,15000000000002] [] (uZ R)) s:=by
  intro s c e1 e2 e3 e4 e5 e6;unfold uZ;rw[e6];exact B0 (r1:=.cell 8 32) (r2:=.cell 9 28) (r3:=.tmp 10) rfl (Xt BN e1 e4 rfl) (Xt XT e2 e5 rfl) (y_ some e3) (Xp (QA _) (JR (RU _))) (Xp (Xb _) (JR (QB _))) (XY (X8 _) rfl)
 refine Fq Tryz.call42 Tryz.func42 18 [38,39,40] [11000000000001,11000000000002,15000000000001,15000000000002] [] (by simp[Xs,Xb,QU]) (Xk ?_);simp(disch:=omega)only[O_,X7,bA,Jc,qA,qC,↓Xc,wG,seval];refine X0 c1 ⟨by rw[X7];exact U_ _,trivial⟩ ?_;simp(disch:=omega)only[↓Xc,wG,seval];refine⟨fun hp=>bad _ 1 rfl rfl rfl rfl rfl (by rw[hR,M_ fun h=>hp h.1]),fun hp=>?_⟩;refine X0 c2 ⟨by rw[bA,Jc];exact U_ _,trivial⟩ ?_;simp(disch:=omega)only[↓Xc,wG,seval];refine⟨fun hp2=>bad _ 1 rfl rfl rfl rfl rfl (by rw[hR,M_ fun h=>by rw[h.2.1]at hp2;exact absurd hp2 (by simp)]),fun hp2=>?_⟩;have hp2:K9 b=true:=by simpa using hp2
 refine X0 c3 (X1 _) ?_;simp(disch:=omega)only[↓Xc,wG,seval];refine⟨fun hp3=>bad _ 1 rfl rfl rfl rfl rfl (by rw[hR,M_ fun h=>by rw[h.2.2]at hp3;exact absurd hp3 (by simp)]),fun hp3=>?_⟩;have hp3:BM f r=true:=by simpa using hp3
 rw[N_ ⟨hp,hp3⟩]at c4 fk;rw[N_ ⟨hp,hp2,hp3⟩]at hR;have hGl:(OB L f r).length≤1000:=by
  have:=EM L f r L.length;have g3:L.length*L.length≤13*13:=ZBQ hl hl;unfold OB;omega
 generalize OB L f r=G at *;have hG:∀g∈G,gS g∧Ka g=true:=fun g hg=>by
  obtain⟨k1,k2,k3,k4,k5,k6⟩:=fk g hg;refine⟨⟨by omega,by omega,by omega,by rw[k5];exact hf,by rw[k6];exact hr⟩,?_⟩;unfold Ka;rw[k5,k6,hp3,ZBt,decide_eq_true_eq];rw[MW];exact k4
 have bP0:∀q,Jl q (bP b)=True:=fun q=>L' (X4 (XR fun j _=>Xe (KI b) j))
 have bV:∀q,Jl q (VN G)=True:=fun q=>L' (X4 (Fd G))
 have bO:∀q i,Q0 q (.con i 20 (Xf (bC b)))=True:=fun q i=>L' fun j _=>X4 (Xe (KI b) j)
 have bQ:∀q i x,Q0 q (.row i 4 (Xf (qC x)))=True:=fun q i x=>L' fun j _=>X4 (Xe (XU x) j)
 have bR:∀q i g,Q0 q (.row i 32 (Xf (gC g)))=True:=fun q i g=>L' fun j _=>X4 (Xe (Kh _) _)
 have bZ:∀q i,Q0 q (.row i 32 (Xf (zg true)))=True:=fun q i=>L' fun j _=>X4 (Xe (by simp[zg,zC,X5,JQ]) j)
 have bZ4:∀q i,Q0 q (.row i 4 (Xf (oA true)))=True:=fun q i=>L' fun j _=>X4 (Xe (by simp[oA,X5,JQ]) j)
 refine X0 c5 (X1 _) ?_;simp(disch:=omega)only[qA,qC,↓Xc,wG,seval];refine X0 c4 ⟨by rw[X7];exact U_ _,U_ _,U_ _,trivial⟩ ?_;simp(disch:=omega)only[Q9,↓Xc,wG,seval];refine d_ ?_ (Xz 0 rfl);refine d_ ?_ (XK 5 rfl rfl);have hG2:∀i,i<G.length→∃p q,Mg b (G.getD i gZ) p q:=fun i hi=>by
  obtain⟨g1,g2⟩:=hG _ (Qp gZ hi);exact Tk b _ hb g1 hp2 g2
 refine d_ ?_ (Ut 5 (gC gZ) rfl rfl (RU true));have dG:AV.sl G.length (G.length*32) (Xw gC 32 gZ G) false=VN G:=(Q9 G).symm;rw[dG];refine Xj (fun i:Nat=>⟨18,[38,39,40],[.any,.any,.any,.any,.any,bP b,.any,.any,.ref 3 0 0,.ref 4 0 0,I 0,.ref 5 0 0,.ref 6 0 0,.any,.any,.any,.any,.any],[(38,VN G),(39,I G.length),(40,I i)],[.con 0 20 (Xf (bC b)),.row 0 4 (Xf (qC f)),.row 0 4 (Xf (qC r)),.row 0 32 (Xf (zg true)),.row 0 4 (Xf (oA true)),.row 0 32 (Xf (gC (Zh b G i).1)),.row 0 4 (Xf (qC (Zh b G i).2))]⟩) (fun i=>i≤G.length) (fun i=>G.length-i) 0 (by omega)
  (Xh rfl ⟨.inl rfl,.inl rfl,.inl rfl,.inl rfl,.inl rfl,.inr rfl,.inl rfl,.inl rfl,.inr rfl,.inr rfl,.inr rfl,.inr rfl,.inr rfl,.inl rfl,.inl rfl,.inl rfl,.inl rfl,.inl rfl,trivial⟩ (by simp[AS.put,Xx,XM,I]) rfl) ?_
 intro i hi next
 have w1:=wj i;by_cases hi2:i<G.length
 rotate_left
 ·obtain rfl:i=G.length:=by omega
  unfold jb at hR;have hz:qb (Zh b G G.length).2≤rm:=Mj hG2 _ (N' _);have cs:=Qv (Zh b G G.length).2;have sg1:=BG (Zh b G G.length).2;obtain⟨p,hp⟩:∃p,p=Zh b G G.length:=⟨_,rfl⟩
  rw[←hp]at cs sg1 hR hz;rw[←hp];obtain⟨g,m⟩:=p;simp only at cs sg1 hR hz;refine XI 19 ?_;simp(disch:=omega)only[Q9,↓Xc,wG,seval];refine X0 cs (X1 _) ?_;simp(disch:=omega)only[sg1,↓Xc,wG,seval];refine⟨fun hm=>?_,fun hm=>?_⟩
  ·rw[N_ hm]at hR
   refine Xk ?_;simp(disch:=omega)only[zg,zC,oA,e_,h_,↓Xc,wG,seval];exact bad _ 6 rfl rfl rfl rfl rfl hR
  ·rw[M_ hm]at hR
   rw[hR];refine XI 2 ?_;simp(disch:=omega)only[↓Xc,wG,seval];show Run _ (_ :: _) _;refine Bo (fun x=>x=6) ?_;obtain⟨A,hA⟩:∃A:AO,A=.con 0 20 (Xf (bC b)):=⟨_,rfl⟩
   obtain⟨B,hB⟩:∃B:AO,B=.row 0 4 (Xf (qC f)):=⟨_,rfl⟩
   obtain⟨C,hC⟩:∃C:AO,C=.row 0 4 (Xf (qC r)):=⟨_,rfl⟩
   have l0:=Zo (P:=Tryz.prog) (T:=32) (id:=5) (Z:=gC g) (H:=[A,B,C,.row 0 32 (Xf (zg true)),.row 0 4 (Xf (oA true)),.row 0 32 (Xf (gC g)),.row 0 4 (Xf (qC m))]) BN rfl rfl;have l1:=Zo (P:=Tryz.prog) (T:=28) (id:=6) (Z:=qC m) (H:=[A,B,C,.row 0 32 (Xf (zg true)),.row 0 4 (Xf (oA true)),.row 0 32 (Xf (gC g)),.row 0 4 (Xf (qC m))]) XT rfl rfl;have l2:=KB (P:=Tryz.prog) (T:=32) (id:=3) (Z:=zg true) (W:=gC g) (H:=[A,B,C,.row 0 32 (Xf (zg true)),.row 0 4 (Xf (oA true)),.row 0 32 (Xf (gC g)),.row 0 4 (Xf (qC m))]) RN rfl rfl rfl (by decide) rfl;have l3:=KB (P:=Tryz.prog) (T:=28) (id:=4) (Z:=oA true) (W:=qC m) (H:=[A,B,C,.row 0 32 (Xf (gC g)),.row 0 4 (Xf (oA true)),.row 0 32 (Xf (gC g)),.row 0 4 (Xf (qC m))]) RM rfl rfl rfl (by decide) rfl;rw[hA,hB,hC]at l0 l1 l2 l3;show ∃s',TAa _ _ _ _ _ _ _ _ _ _ s'∧_;refine⟨_,⟨Lt rfl,_,QH rfl rfl rfl rfl (y_ (ZAF fun w=>(w,_)) l0),xL rfl rfl (fun o' va off e=>by cases e;rfl),_,QH rfl rfl rfl rfl (y_ (ZAF fun w=>(w,_)) l1),
    yE rfl rfl (fun o' va off e=>by cases e;decide),_,QH rfl rfl rfl rfl (y_ (ZAF fun w=>(XZ,w)) l2),Lt rfl,_,QH rfl rfl rfl rfl (y_ (ZAF fun w=>(XZ,w)) l3),Lt rfl,_,QH (v:=I 0) (h':=[.con 0 20 (Xf (bC b)),.row 0 4 (Xf (qC f)),.row 0 4 (Xf (qC r)),.row 0 32 (Xf (gC g)),.row 0 4 (Xf (qC m)),.row 0 32 (Xf (gC g)),.row 0 4 (Xf (qC m))]) rfl rfl rfl rfl rfl,rfl⟩,?fin⟩
   refine d_ (s':=⟨18,[38,39,40],[.any,.any,.any,.any,.any,.any,.any,.any,.ref 3 0 0,.ref 4 0 0,I 0,.any,.any,.any,.any,.any,.any,.any],[],[A,B,C,.row 0 32 (Xf (gC g)),.row 0 4 (Xf (qC m)),.row 0 32 (Xf (gC g)),.row 0 4 (Xf (qC m))]⟩) ?_ (Xh rfl ⟨.inl rfl,.inl rfl,.inl rfl,.inl rfl,.inl rfl,.inl rfl,.inl rfl,.inl rfl,.inr rfl,.inr rfl,.inr rfl,.inl rfl,.inl rfl,.inl rfl,.inl rfl,.inl rfl,.inl rfl,.inl rfl,trivial⟩ trivial (by rw[hA,hB,hC];rfl));refine Xk ?_;simp(disch:=omega)only[↓Xc,wG,seval];exact B0 (r1:=.cell 8 32) (r2:=.cell 9 28) (r3:=.tmp 10) rfl (Xt BN rfl rfl rfl) (Xt XT rfl rfl rfl) rfl (XY (QA _) rfl) (XY (Xb _) rfl) (XY (X8 _) rfl)
 have nx:=next (i+1)
 rw[show Zh b G (i+1)=if(Zh b G i).2<Gm b (G.getD i gZ)then(G.getD i gZ,Gm b (G.getD i gZ))else Zh b G i from rfl]at nx;obtain⟨p,q,hm⟩:=hG2 i hi2;have l0:=ZO gC 32 gZ G i;have l1:=Ze gC 32 gZ G i;have hz:qb (Zh b G i).2≤rm:=Mj hG2 _ hi;generalize G.getD i gZ=g at *;have hz2:=hm.z.2.2.2.2;have cm:=hm.fn;have cc:=Ju (Gm b g) (Zh b G i).2 (by unfold rm;omega) hz;have f1:(i<G.length)=True:=L' hi2;clear hm c1 c2 c3 c4 c5 hR hG hG2 fk next bad
 generalize Gm b g=m at *;obtain⟨h0,hh0⟩:∃h0,h0=(Zh b G i).1:=⟨_,rfl⟩
 obtain⟨m0,hm0⟩:∃m0,m0=(Zh b G i).2:=⟨_,rfl⟩
 rw[←hm0]at cc nx hz;rw[←hh0,←hm0];refine XI 66 ?_;simp(disch:=omega)only[Q9,w1,f1,l0,l1,bP,Jc,Jd,↓Xc,wG,seval];refine X0 cm ⟨by rw[bA,Jc];exact U_ _,by rw[gA,Jd];exact U_ _,trivial⟩ ?_;simp(disch:=omega)only[qA,qC,↓Xc,wG,seval];refine X0 cc (X1 _) ?_;simp(disch:=omega)only[Zy,↓Xc,wG,seval];refine⟨fun hc=>?_,fun hc=>?_⟩
 rotate_left
 ·rw[M_ hc]at nx
  refine Xk ?_;simp(disch:=omega)only[Q9,↓Xc,wG,seval];exact nx _ (by omega) (by omega) (XG (m:=7) (p_ _) rfl ⟨.inl rfl,.inl rfl,.inl rfl,.inl rfl,.inl rfl,.inr rfl,.inl rfl,.inl rfl,.inr rfl,.inr rfl,.inr rfl,.inr rfl,.inr rfl,.inl rfl,.inl rfl,.inl rfl,.inl rfl,.inl rfl,trivial⟩ (by simp[Xx,XM,Q9,I]) (by rw[hh0,hm0,Jc];rfl) (by simp[XP,bV,bP0]) (by simp[XP,bV]) (by simp[bO,bR,bQ,bZ,bZ4]))
 ·rw[N_ hc]at nx
  show Run _ (_ :: _) _;refine Bo (fun x=>x=8) ?_;obtain⟨A,hA⟩:∃A:AO,A=.con 0 20 (Xf (bC b)):=⟨_,rfl⟩
  obtain⟨B,hB⟩:∃B:AO,B=.row 0 4 (Xf (qC f)):=⟨_,rfl⟩
  obtain⟨C,hC⟩:∃C:AO,C=.row 0 4 (Xf (qC r)):=⟨_,rfl⟩
  obtain⟨D,hD⟩:∃D:AO,D=.row 0 32 (Xf (zg true)):=⟨_,rfl⟩
  obtain⟨E,hE⟩:∃E:AO,E=.row 0 4 (Xf (oA true)):=⟨_,rfl⟩
  have l0:=Zo (P:=Tryz.prog) (T:=32) (id:=7) (Z:=gC g) (H:=[A,B,C,D,E,.row 0 32 (Xf (gC h0)),.row 0 4 (Xf (qC m0)),.row 0 32 (Xf (gC g)),.row 0 4 (Xf (qC m))]) BN rfl rfl;have l1:=Zo (P:=Tryz.prog) (T:=28) (id:=8) (Z:=qC m) (H:=[A,B,C,D,E,.row 0 32 (Xf (gC h0)),.row 0 4 (Xf (qC m0)),.row 0 32 (Xf (gC g)),.row 0 4 (Xf (qC m))]) XT rfl rfl;have l2:=KB (P:=Tryz.prog) (T:=32) (id:=5) (Z:=gC h0) (W:=gC g) (H:=[A,B,C,D,E,.row 0 32 (Xf (gC h0)),.row 0 4 (Xf (qC m0)),.row 0 32 (Xf (gC g)),.row 0 4 (Xf (qC m))]) RN rfl rfl rfl (by decide) rfl;have l3:=KB (P:=Tryz.prog) (T:=28) (id:=6) (Z:=qC m0) (W:=qC m) (H:=[A,B,C,D,E,.row 0 32 (Xf (gC g)),.row 0 4 (Xf (qC m0)),.row 0 32 (Xf (gC g)),.row 0 4 (Xf (qC m))]) RM rfl rfl rfl (by decide) rfl;rw[hA,hB,hC,hD,hE]at l0 l1 l2 l3;show ∃s',TAa _ _ _ _ _ _ _ _ _ _ s'∧_;refine⟨_,⟨Lt rfl,_,QH rfl rfl rfl rfl (y_ (ZAF fun w=>(w,_)) l0),xL rfl rfl (fun o' va off e=>by cases e;rfl),_,QH rfl rfl rfl rfl (y_ (ZAF fun w=>(w,_)) l1),
   yE rfl rfl (fun o' va off e=>by cases e;decide),_,QH rfl rfl rfl rfl (y_ (ZAF fun w=>(XZ,w)) l2),Lt rfl,_,QH rfl rfl rfl rfl (y_ (ZAF fun w=>(XZ,w)) l3),rfl⟩,?TFc⟩
  refine d_ (s':=⟨18,[38,39,40],[.any,.any,.any,.any,.any,bP b,.any,.any,.ref 3 0 0,.ref 4 0 0,I 0,.ref 5 0 0,.ref 6 0 0,.any,.any,.any,.any,.any],[(38,VN G),(39,I G.length),(40,I i)],[A,B,C,D,E,.row 0 32 (Xf (gC g)),.row 0 4 (Xf (qC m)),.row 0 32 (Xf (gC g)),.row 0 4 (Xf (qC m))]⟩) ?_ (Xh rfl ⟨.inl rfl,.inl rfl,.inl rfl,.inl rfl,.inl rfl,.inr rfl,.inl rfl,.inl rfl,.inr rfl,.inr rfl,.inr rfl,.inr rfl,.inr rfl,.inl rfl,.inl rfl,.inl rfl,.inl rfl,.inl rfl,trivial⟩ ⟨.inr rfl,.inr rfl,.inr rfl,trivial⟩ (by rw[hA,hB,hC,hD,hE];rfl));refine Xk ?_;simp(disch:=omega)only[Q9,↓Xc,wG,seval];exact nx _ (by omega) (by omega) (XG (m:=7) (p_ _) rfl (by simp[Q9,Xo,I]) (by simp[Xx,XM,Q9,I]) (by rw[hA,hB,hC,hD,hE];rfl) (by simp[XP,bV,bP0]) (by simp[XP,bV]) (by simp[hA,hB,hC,hD,hE,bO,bR,bQ,bZ,bZ4]))
theorem Oz {α:Type}(d:α):∀ {A B:List α},A.length=B.length→(∀j,j<A.length→A.getD j d=B.getD j d)→A=B
 | [],[],_,_=>rfl
 |a :: A,b :: B,hl,h=>by
  have h0:=h 0 (by simp);rw[show a=b from h0,Oz d (A:=A) (B:=B) (by simpa using hl) fun j hj=>h (j+1) (by simpa using hj)]
theorem U9 (A B:List V2)(hA:∀i,vb (A.getD i v0)≤vm) (hB:∀i,vb (B.getD i v0)≤vm) (la:A.length<1000000) (lb:B.length<1000000):Fn Tryz.prog 115 [Qx A,Qx B] (.bool (decide (A=B))):=by
 obtain⟨V,hV⟩:∃V,V=decide (A=B):=⟨_,rfl⟩
 rw[←hV];refine q_ (fn:=Tryz.f115) Tryz.call115 Tryz.func115 rfl mixed 6 [] [] [] (by kernel_rfl) (K_ rfl) (Kk (Xs A) (Xs B)) (Xk ?_);by_cases hl:A.length=B.length
 rotate_left
 ·have f1:((A.length:Int)=B.length)=False:=R_ (by omega)
  have f2:(A.length=B.length)=False:=R_ hl;simp(disch:=omega)only[O_,X7,f1,f2,↓Xc,wG,seval];exact Xn (v:=.bool false) rfl rfl (X5 _) (by rw[hV,Z_ fun e=>hl (by rw[e])])
 have f1:(A.length=B.length)=True:=L' hl;simp(disch:=omega)only[O_,X7,f1,↓Xc,wG,seval];refine Xj (fun i:Nat=>⟨6,[],[Qx A,Qx B,.any,.any,.any,I i],[],[]⟩) (fun i=>i≤A.length∧∀j,j<i→A.getD j v0=B.getD j v0) (fun i=>A.length-i) 0 ⟨by omega,by omega⟩
  (Xh rfl (by simp[Xo,I,X7]) trivial rfl) ?_
 rintro i ⟨hi,hs⟩ next
 have w1:=wj i;by_cases hi2:i<A.length
 ·have v1:=vF A i
  have v2:=vF B i;have c1:=Gu (A.getD i v0) (B.getD i v0) (hA i) (hB i);have f2:(i<A.length)=True:=L' hi2;have f3:(i<B.length)=True:=L' (by omega);obtain⟨x,hx⟩:∃x,x=A.getD i v0:=⟨_,rfl⟩
  obtain⟨y,hy⟩:∃y,y=B.getD i v0:=⟨_,rfl⟩
  rw[←hx]at v1 c1;rw[←hy]at v2 c1;refine Xk ?_;simp(disch:=omega)only[X7,w1,f2,f3,v1,v2,↓Xc,wG,seval];refine X0 c1 ⟨by rw[vA,vC];exact U_ _,by rw[vA,vC];exact U_ _,trivial⟩ ?_;simp(disch:=omega)only[X7,↓Xc,wG,seval];refine⟨fun h=>?_,fun h=>?_⟩
  ·exact Xn (v:=.bool false) rfl rfl (X5 _) (by rw[hV,Z_ fun e=>h (by rw[hx,hy,e])])
  ·exact next (i+1) _ ⟨by omega,fun j hj=>by
    by_cases e:j=i
    ·rw[e,←hx,←hy];exact h
    ·exact hs j (by omega)⟩ (by omega) (ZZ (by simp[Xo,I,X7]) rfl)
 ·obtain rfl:i=A.length:=by omega
  refine Xk ?_;simp(disch:=omega)only[X7,↓Xc,wG,seval];exact Xn (v:=.bool true) rfl rfl (X5 _) (by rw[hV,c_ (Oz v0 hl hs)])
def gW (g:GG):Prop:=vb g.p≤10000∧vb g.q≤10000∧vb g.n≤10000∧qb g.force≤10000∧qb g.E_≤10000
theorem gS.w {g:GG}(h:gS g):gW g:=by obtain⟨h1,h2,h3,h4,h5⟩:=h;unfold gW;omega
theorem dN (a b:GG)(ha:gW a)(hb:gW b):Fn Tryz.prog 44 [gA a,gA b] (.bool (decide (a=b))):=by
 obtain⟨a1,a2,a3,a4,a5⟩:=ha;obtain⟨b1,b2,b3,b4,b5⟩:=hb;have sm:∀p q n:V2,vb p≤10000→vb q≤10000→vb n≤10000→∀i,vb ([p,q,n].getD i v0)≤vm:=fun p q n h1 h2 h3 i=>by
  unfold vm
  match i with
  |0=>show vb p≤_;omega
  |1=>show vb q≤_;omega
  |2=>show vb n≤_;omega
  |_+3=>exact m_ aV (by omega)
 have c1:=U9 [a.p,a.q,a.n] [b.p,b.q,b.n] (sm _ _ _ a1 a2 (by omega)) (sm _ _ _ b1 b2 (by omega)) (by simp) (by simp);have c2:=Ee a.force b.force;have c3:=Ee a.E_ b.E_;have e1:decide ([a.p,a.q,a.n]=[b.p,b.q,b.n])=decide (a.p=b.p∧a.q=b.q∧a.n=b.n):=decide_eq_decide.2 (by simp);rw[e1]at c1;obtain⟨V,hV⟩:∃V,V=decide (a=b):=⟨_,rfl⟩
 have hV:V=(decide (a.p=b.p∧a.q=b.q∧a.n=b.n) && (decide (a.force=b.force) && decide (a.E_=b.E_))):=by
  rw[hV,←ZEO,←ZEO,decide_eq_decide];cases a;cases b;rw[GG.mk.injEq];constructor
  ·rintro⟨h1,h2,h3,h4,h5⟩;exact⟨⟨h1,h2,h3⟩,h4,h5⟩
  ·rintro⟨⟨h1,h2,h3⟩,h4,h5⟩;exact⟨h1,h2,h3,h4,h5⟩
 rename_i hV0;rw[←hV0];generalize decide (a.p=b.p∧a.q=b.q∧a.n=b.n)=x at *;generalize decide (a.force=b.force)=y at *;generalize decide (a.E_=b.E_)=z at *;refine q_ (fn:=Tryz.f44) Tryz.call44 Tryz.func44 rfl mixed 5 [] [] [] (by kernel_rfl) (K_ rfl) (Kk (QA a) (QA b)) (Xk ?_);simp(disch:=omega)only[O_,gA,Jd,↓Xc,wG,seval];cases x
 ·refine X0 c1 ⟨JH vC 8 v0 (fun _=>rfl) [a.p,a.q,a.n] _ _ _ _ rfl rfl rfl,JH vC 8 v0 (fun _=>rfl) [b.p,b.q,b.n] _ _ _ _ rfl rfl rfl,trivial⟩ ?_
  simp(disch:=omega)only[↓Xc,wG,seval];exact Xn (v:=.bool false) rfl rfl (X5 _) (by rw[hV];rfl)
 ·refine X0 c1 ⟨JH vC 8 v0 (fun _=>rfl) [a.p,a.q,a.n] _ _ _ _ rfl rfl rfl,JH vC 8 v0 (fun _=>rfl) [b.p,b.q,b.n] _ _ _ _ rfl rfl rfl,trivial⟩ ?_
  cases y
  ·simp(disch:=omega)only[↓Xc,wG,seval]
   refine X0 c2 (X1 _) ?_;simp(disch:=omega)only[↓Xc,wG,seval];exact Xn (v:=.bool false) rfl rfl (X5 _) (by rw[hV];rfl)
  ·simp(disch:=omega)only[↓Xc,wG,seval]
   refine X0 c2 (X1 _) ?_;simp(disch:=omega)only[↓Xc,wG,seval];refine X0 c3 (X1 _) ?_;simp(disch:=omega)only[↓Xc,wG,seval];exact Xn (v:=.bool z) rfl rfl (X5 _) (by rw[hV];rfl)
theorem T6 (a b:GG)(ha:gS a)(hb:gS b):Fn Tryz.prog 44 [gA a,gA b] (.bool (decide (a=b))):=dN a b ha.w hb.w
theorem VX (L:List V2)(f r k1 k2 k3 k4 n5:Rat)(u1 u2 u3 u4 u5 u6:V2)(B1 B6:BB)(x1 x2 y1 y2 z1 z2:Rat×Rat)
  (o1:Fn Tryz.prog 20 [I 8,I 1] (qA f)) (o2:Fn Tryz.prog 20 [I 1,I 2] (qA r))
  (o3:Fn Tryz.prog 20 [I 4,I 1] (qA k1)) (o4:Fn Tryz.prog 20 [I 3,I 2] (qA k3)) (o5:Fn Tryz.prog 20 [I 3,I 1] (qA k4)) (o6:Fn Tryz.prog 20 [I 5,I 1] (qA n5))
  (sq:Fn Tryz.prog 75 [] (Qx L))
  (c1:Fn Tryz.prog 45 [Qx L,qA f,qA r] (VN [⟨u1,u2,u3,f,r⟩,⟨u4,u5,u6,f,r⟩]))
  (p1:Fn Tryz.prog 53 [I 1,I 0] (vA u1)) (p2:Fn Tryz.prog 53 [I 1,I 2] (vA u2)) (p3:Fn Tryz.prog 53 [I 0,I 2] (vA u3))
  (p4:Fn Tryz.prog 53 [I 2,I 1] (vA u4)) (p5:Fn Tryz.prog 53 [I 0,I 1] (vA u5)) (p6:Fn Tryz.prog 53 [I (-2),I 0] (vA u6))
  (b1:Fn Tryz.prog 76 [I 100] (bA B1)) (b2:Fn Tryz.prog 76 [I 6] (bA B6))
  (m1:Fn Tryz.prog 22 [bA B1,gA ⟨u1,u2,u3,f,r⟩] (.tup [qA k1,C6 [x1,x2],I 0]))
  (m2:Fn Tryz.prog 22 [bA B1,gA ⟨u4,u5,u6,f,r⟩] (.tup [qA k1,C6 [y1,y2],I 0]))
  (m3:Fn Tryz.prog 22 [bA B6,gA ⟨u4,u5,u6,f,r⟩] (.tup [qA k3,C6 [z1,z2],I 0]))
  (cb:Fn Tryz.prog 42 [Qx L,bA B6,qA f,qA r] (.tup [gA ⟨u1,u2,u3,f,r⟩,qA k4,I 0]))
  (s1:Fn Tryz.prog 44 [gA ⟨u1,u2,u3,f,r⟩,gA ⟨u1,u2,u3,f,r⟩] (.bool true))
  (s2:Fn Tryz.prog 44 [gA ⟨u4,u5,u6,f,r⟩,gA ⟨u4,u5,u6,f,r⟩] (.bool true))
  (q1:Fn Tryz.prog 26 [qA k1,qA k1] (.bool true)) (q3:Fn Tryz.prog 26 [qA k3,qA k3] (.bool true)) (q4:Fn Tryz.prog 26 [qA k4,qA k4] (.bool true))
  (d1:Fn Tryz.prog 29 [bA B1,gA ⟨u1,u2,u3,f,r⟩,qA k1,C6 [x1,x2]] (I 0))
  (d2:Fn Tryz.prog 29 [bA B1,gA ⟨u1,u2,u3,f,r⟩,qA n5,C6 [x1,x2]] (I 22))
  (v1:Fn Tryz.prog 15 [Qx L,gA ⟨u1,u2,u3,f,r⟩] (I 0)) (v2:Fn Tryz.prog 15 [Qx L,gA gZ] (I 1)) :
  Fn Tryz.prog 17 [] (.bool true):=by
 obtain⟨G,hG⟩:∃G:List GG,G=[⟨u1,u2,u3,f,r⟩,⟨u4,u5,u6,f,r⟩]:=⟨_,rfl⟩
 have l1:∀j,j<32→Xw gC 32 gZ G j=(gC ⟨u1,u2,u3,f,r⟩).getD j .any:=fun j hj=>by
  have:=Ze gC 32 gZ G 0 j hj;rw[show G.getD 0 gZ=⟨u1,u2,u3,f,r⟩by rw[hG];rfl]at this;rw[←this];congr 1;omega
 have l3:∀j,32≤j→j<64→Xw gC 32 gZ G j=(gC ⟨u4,u5,u6,f,r⟩).getD (j-32) .any:=fun j h1 h2=>by
  have:=Ze gC 32 gZ G 1 (j-32) (by omega);rw[show G.getD 1 gZ=⟨u4,u5,u6,f,r⟩by rw[hG];rfl]at this;rw[←this];congr 1;omega
 rw[←hG]at c1;have hl:G.length=2:=by rw[hG];rfl
 clear hG;refine q_ (fn:=Tryz.f17) Tryz.call17 Tryz.func17 rfl mixed 19 [] [6,7003,7004,7,8003,8004,8,9003,9,10003,10,11003,11,12002,12003] [] (by kernel_rfl) (K_ rfl) (by simp) (Xk ?_);simp(disch:=omega)only[O_,↓Xc,wG,seval];refine X0 o1 (X1 _) ?_;simp(disch:=omega)only[qA,qC,↓Xc,wG,seval];refine X0 o2 (X1 _) ?_;simp(disch:=omega)only[qA,qC,↓Xc,wG,seval];refine X0 sq (X1 _) ?_;simp(disch:=omega)only[X7,↓Xc,wG,seval];refine X0 c1 ⟨by rw[X7];exact U_ _,U_ _,U_ _,trivial⟩ ?_;simp(disch:=omega)only[Q9,hl,↓Xc,wG,seval];refine X0 p1 (X1 _) ?_;simp(disch:=omega)only[vA,vC,↓Xc,wG,seval];refine X0 p2 (X1 _) ?_;simp(disch:=omega)only[vA,vC,↓Xc,wG,seval];refine X0 p3 (X1 _) ?_;simp(disch:=omega)only[vA,vC,↓Xc,wG,seval];refine X0 p4 (X1 _) ?_;simp(disch:=omega)only[vA,vC,↓Xc,wG,seval];refine X0 p5 (X1 _) ?_;simp(disch:=omega)only[vA,vC,↓Xc,wG,seval];refine X0 p6 (X1 _) ?_;simp(disch:=omega)only[vA,vC,↓Xc,wG,seval];refine X0 b1 (X1 _) ?_;simp(disch:=omega)only[bA,Jc,l1,l3,ZAB,Jd,↓Xc,wG,seval];refine X0 m1 ⟨by rw[bA,Jc];exact U_ _,by rw[gA,Jd];exact U_ _,trivial⟩ ?_;simp(disch:=omega)only[vA,vC,qA,qC,bA,Jc,gA,Jd,l1,l3,ZAB,Q9,hl,X7,↓Xc,wG,seval];refine X0 b1 (X1 _) ?_;simp(disch:=omega)only[vA,vC,qA,qC,bA,Jc,gA,Jd,l1,l3,ZAB,Q9,hl,X7,↓Xc,wG,seval];refine X0 m2 ⟨by rw[bA,Jc];exact U_ _,by rw[gA,Jd];exact U_ _,trivial⟩ ?_;simp(disch:=omega)only[vA,vC,qA,qC,bA,Jc,gA,Jd,l1,l3,ZAB,Q9,hl,X7,↓Xc,wG,seval];refine X0 b2 (X1 _) ?_;simp(disch:=omega)only[vA,vC,qA,qC,bA,Jc,gA,Jd,l1,l3,ZAB,Q9,hl,X7,↓Xc,wG,seval];refine X0 m3 ⟨by rw[bA,Jc];exact U_ _,by rw[gA,Jd];exact U_ _,trivial⟩ ?_;simp(disch:=omega)only[vA,vC,qA,qC,bA,Jc,gA,Jd,l1,l3,ZAB,Q9,hl,X7,↓Xc,wG,seval];refine X0 sq (X1 _) ?_;simp(disch:=omega)only[vA,vC,qA,qC,bA,Jc,gA,Jd,l1,l3,ZAB,Q9,hl,X7,↓Xc,wG,seval];refine X0 b2 (X1 _) ?_;simp(disch:=omega)only[vA,vC,qA,qC,bA,Jc,gA,Jd,l1,l3,ZAB,Q9,hl,X7,↓Xc,wG,seval];refine X0 cb ⟨by rw[X7];exact U_ _,by rw[bA,Jc];exact U_ _,U_ _,U_ _,trivial⟩ ?_;simp(disch:=omega)only[vA,vC,qA,qC,bA,Jc,gA,Jd,l1,l3,ZAB,Q9,hl,X7,↓Xc,wG,seval];refine X0 s1 ⟨by rw[gA,Jd];exact U_ _,by rw[gA,Jd];exact U_ _,trivial⟩ ?_;simp(disch:=omega)only[vA,vC,qA,qC,bA,Jc,gA,Jd,l1,l3,ZAB,Q9,hl,X7,↓Xc,wG,seval];refine X0 s2 ⟨by rw[gA,Jd];exact U_ _,by rw[gA,Jd];exact U_ _,trivial⟩ ?_;simp(disch:=omega)only[vA,vC,qA,qC,bA,Jc,gA,Jd,l1,l3,ZAB,Q9,hl,X7,↓Xc,wG,seval];refine X0 o3 (X1 _) ?_;simp(disch:=omega)only[vA,vC,qA,qC,bA,Jc,gA,Jd,l1,l3,ZAB,Q9,hl,X7,↓Xc,wG,seval];refine X0 q1 (X1 _) ?_;simp(disch:=omega)only[vA,vC,qA,qC,bA,Jc,gA,Jd,l1,l3,ZAB,Q9,hl,X7,↓Xc,wG,seval];refine X0 o3 (X1 _) ?_;simp(disch:=omega)only[vA,vC,qA,qC,bA,Jc,gA,Jd,l1,l3,ZAB,Q9,hl,X7,↓Xc,wG,seval];refine X0 q1 (X1 _) ?_;simp(disch:=omega)only[vA,vC,qA,qC,bA,Jc,gA,Jd,l1,l3,ZAB,Q9,hl,X7,↓Xc,wG,seval];refine X0 o4 (X1 _) ?_;simp(disch:=omega)only[vA,vC,qA,qC,bA,Jc,gA,Jd,l1,l3,ZAB,Q9,hl,X7,↓Xc,wG,seval];refine X0 q3 (X1 _) ?_;simp(disch:=omega)only[vA,vC,qA,qC,bA,Jc,gA,Jd,l1,l3,ZAB,Q9,hl,X7,↓Xc,wG,seval];refine X0 o5 (X1 _) ?_;simp(disch:=omega)only[vA,vC,qA,qC,bA,Jc,gA,Jd,l1,l3,ZAB,Q9,hl,X7,↓Xc,wG,seval];refine X0 q4 (X1 _) ?_;simp(disch:=omega)only[vA,vC,qA,qC,bA,Jc,gA,Jd,l1,l3,ZAB,Q9,hl,X7,↓Xc,wG,seval];refine X0 s1 ⟨by rw[gA,Jd];exact U_ _,by rw[gA,Jd];exact U_ _,trivial⟩ ?_;simp(disch:=omega)only[vA,vC,qA,qC,bA,Jc,gA,Jd,l1,l3,ZAB,Q9,hl,X7,↓Xc,wG,seval];refine X0 b1 (X1 _) ?_;simp(disch:=omega)only[vA,vC,qA,qC,bA,Jc,gA,Jd,l1,l3,ZAB,Q9,hl,X7,↓Xc,wG,seval];refine X0 d1 ⟨by rw[bA,Jc];exact U_ _,by rw[gA,Jd];exact U_ _,U_ _,U_ _,trivial⟩ ?_;simp(disch:=omega)only[vA,vC,qA,qC,bA,Jc,gA,Jd,l1,l3,ZAB,Q9,hl,X7,↓Xc,wG,seval];refine X0 b1 (X1 _) ?_;simp(disch:=omega)only[vA,vC,qA,qC,bA,Jc,gA,Jd,l1,l3,ZAB,Q9,hl,X7,↓Xc,wG,seval];refine X0 o6 (X1 _) ?_;simp(disch:=omega)only[vA,vC,qA,qC,bA,Jc,gA,Jd,l1,l3,ZAB,Q9,hl,X7,↓Xc,wG,seval];refine X0 d2 ⟨by rw[bA,Jc];exact U_ _,by rw[gA,Jd];exact U_ _,U_ _,U_ _,trivial⟩ ?_;simp(disch:=omega)only[vA,vC,qA,qC,bA,Jc,gA,Jd,l1,l3,ZAB,Q9,hl,X7,↓Xc,wG,seval];refine X0 sq (X1 _) ?_;simp(disch:=omega)only[vA,vC,qA,qC,bA,Jc,gA,Jd,l1,l3,ZAB,Q9,hl,X7,↓Xc,wG,seval];refine X0 v1 ⟨by rw[X7];exact U_ _,by rw[gA,Jd];exact U_ _,trivial⟩ ?_;simp(disch:=omega)only[vA,vC,qA,qC,bA,Jc,gA,Jd,l1,l3,ZAB,Q9,hl,X7,↓Xc,wG,seval];refine X0 sq (X1 _) ?_;simp(disch:=omega)only[vA,vC,qA,qC,bA,Jc,gA,Jd,l1,l3,ZAB,Q9,hl,X7,zg,zC,e_,h_,↓Xc,wG,seval];refine X0 v2 ⟨by rw[X7];exact U_ _,JR (RU _),trivial⟩ ?_;simp(disch:=omega)only[vA,vC,qA,qC,bA,Jc,gA,Jd,l1,l3,ZAB,Q9,hl,X7,zg,zC,e_,h_,↓Xc,wG,seval];exact Xn (v:=.bool true) rfl rfl (X5 _) rfl
theorem ot (L:List V2):IQ L gZ=1:=by
 unfold IQ;rw[M_ fun h=>by
  have:=h.2;rw[Cn]at this;exact absurd this.1.1 (by show ¬ (0:Rat)<0;decide)]
theorem sqi {i:Nat}(hi:i<4):Kf sqV i∈KJ sqV:=by
 unfold KJ Br;exact ZBj.2 ⟨i,ZDH.2 hi,rfl⟩
theorem qa:IQ sqV eg1=0:=by
 have h1:(KJ sqV).any (DY eg1)=true:=ZCA.2 ⟨_,sqi (i:=0) (by omega),by
  unfold DY;rw[x_];refine⟨c_ (MC (by decide +kernel)),?_⟩;rw[show Kf sqV 0=⟨(Kf sqV 0).a,(Kf sqV 0).b,(Kf sqV 0).i⟩from rfl,l6];unfold zu;exact c_ ⟨by decide +kernel,by decide +kernel⟩⟩
 have h2:(KJ sqV).any (Ci eg1)=true:=ZCA.2 ⟨_,sqi (i:=2) (by omega),by
  unfold Ci;rw[x_];refine⟨c_ ⟨by decide +kernel,by decide +kernel⟩,?_⟩;rw[show Kf sqV 2=⟨(Kf sqV 2).a,(Kf sqV 2).b,(Kf sqV 2).i⟩from rfl,l6];unfold zu;exact c_ ⟨by decide +kernel,by decide +kernel⟩⟩
 unfold IQ;rw[N_ ⟨(Hr _).1 HL,yt.1.2⟩,N_ ⟨h1,h2⟩]
theorem rZ:Sz sqV (Fr 6) (P' 8 1) (P' 1 2)=(eg1,P' 3 1,0):=by
 have e3:Gm (Fr 6) eg2=P' 3 2:=Gn (jO 6 _ (.inr ⟨rfl,rfl⟩));have e4:Gm (Fr 6) eg1=P' 3 1:=Gn (tE 6 _ (.inr ⟨by decide +kernel,rfl⟩));have hf:=aK;unfold Am at hf;rw[N_ ⟨HL,RK⟩]at hf;unfold Sz;rw[N_ ⟨(Hr _).1 HL,(jc 6 (by omega)).2,RK⟩,hf];have b1:Zh (Fr 6) [eg1,eg2] 1=(eg1,P' 3 1):=by
  show(if(-1:Rat)<Gm (Fr 6) eg1 then(eg1,Gm (Fr 6) eg1)else(gZ,-1))=_;rw[e4,N_ (by decide +kernel)]
 have b2:Zh (Fr 6) [eg1,eg2] 2=(eg1,P' 3 1):=by
  show(if(Zh (Fr 6) [eg1,eg2] 1).2<Gm (Fr 6) eg2 then(eg2,Gm (Fr 6) eg2)else Zh (Fr 6) [eg1,eg2] 1)=_;rw[b1,e3,M_ (by decide +kernel)]
 unfold jb;rw[show [eg1,eg2].length=2 from rfl,b2,M_ (by show ¬P' 3 1<0;decide +kernel)]
theorem lD:Fn Tryz.prog 17 [] (.bool true):=by
 have q8:=Ew 8 1;have qh:=Ew 1 2;have q4:=Ew 4 1;have q3:=Ew 3 1;have q32:=Ew 3 2;have q5:=Ew 5 1;obtain⟨s1,s2⟩:=jc 100 (by omega);obtain⟨s3,s4⟩:=jc 6 (by omega);obtain⟨⟨t1,t2⟩,t3,t4⟩:=yt;have M4:=tE 100 (P' 4 1) (.inl ⟨by decide +kernel,rfl⟩);have e1:Gm (Fr 100) eg1=P' 4 1:=Gn M4;have e2:Gm (Fr 100) eg2=P' 4 1:=Gn (jO 100 _ (.inl ⟨by decide +kernel,rfl⟩));have e3:Gm (Fr 6) eg2=P' 3 2:=Gn (jO 6 _ (.inr ⟨rfl,rfl⟩));obtain⟨x1,x2,m1⟩:=Tk (Fr 100) eg1 s1 t1 s2 t2;obtain⟨y1,y2,m2⟩:=Tk (Fr 100) eg2 s1 t3 s2 t4;obtain⟨z1,z2,m3⟩:=Tk (Fr 6) eg2 s3 t3 s4 t4;have n1:=m1.fn;have n2:=m2.fn;have n3:=m3.fn;have n4:=m1.ok;obtain⟨w1,w2,w3,w4,w5⟩:=m1.z;rw[e1]at n1 n4;rw[e2]at n2;rw[e3]at n3;have cb:=kS sqV (Fr 6) (P' 8 1) (P' 1 2) (fun i=>m_ (nl.2.1 i) (by omega)) (by decide) s3 (by omega) (by omega);rw[rZ]at cb;have c1:=T2 sqV (P' 8 1) (P' 1 2) nl.2.1 (by omega) (by decide) (by omega) (by omega);rw[aK]at c1;have p:=fun(x y:Int) (hx:Ap x) (hy:Ap y)=>KQ x y hx hy
 have sm:J3 sqV 1000:=fun i=>m_ (nl.2.1 i) (by omega)
 have g1:=YJ sqV eg1 sm (by decide) t1;rw[qa]at g1;have gz:gS gZ:=⟨by show vb v0≤_;decide +kernel,by show vb v0≤_;decide +kernel,by show vb v0≤_;decide +kernel,by show qb 0≤_;decide +kernel,by show qb 0≤_;decide +kernel⟩
 have g2:=YJ sqV gZ sm (by decide) gz;rw[ot]at g2;have a1:=T6 eg1 eg1 t1 t1;have a2:=T6 eg2 eg2 t3 t3;rw[c_ rfl]at a1 a2;have sQ:∀x:Rat,qb x≤10→Fn Tryz.prog 26 [qA x,qA x] (.bool true):=fun x hx=>by
  have:=Ee x x;rwa[c_ rfl]at this
 have hp:∀x∈[x1,x2],qb x.1≤1500000∧qb x.2≤1500000:=by
  intro x hx;rcases b_.1 hx with rfl |hx
  ·omega
  ·rw[Y_.1 hx];omega
 have d1:=Ij (Fr 100) eg1 (P' 4 1) [x1,x2] s1 t1 (by omega) (by simp) hp;have d2:=Ij (Fr 100) eg1 (P' 5 1) [x1,x2] s1 t1 (by omega) (by simp) hp;rw[show Kr (Fr 100) eg1 (P' 4 1) [x1,x2]=0 by
  unfold Kr;rw[N_ (by rw[s2,t2];rfl),N_ ⟨rfl,n4⟩]]at d1
 rw[show Kr (Fr 100) eg1 (P' 5 1) [x1,x2]=22 by
  unfold Kr;rw[N_ (by rw[s2,t2];rfl),M_ fun h=>absurd (M4.2 _ _ _ _ _ h.2) (by decide +kernel)]]at d2
 exact VX sqV (P' 8 1) (P' 1 2) (P' 4 1) 0 (P' 3 2) (P' 3 1) (P' 5 1) (pI 1 0) (pI 1 2) (pI 0 2) (pI 2 1) (pI 0 1) (pI (-2) 0) (Fr 100) (Fr 6) x1 x2 y1 y2 z1 z2
  (XL 8 1 ⟨by omega,by omega⟩ ⟨by omega,by omega⟩) (XL 1 2 ⟨by omega,by omega⟩ ⟨by omega,by omega⟩) (XL 4 1 ⟨by omega,by omega⟩ ⟨by omega,by omega⟩) (XL 3 2 ⟨by omega,by omega⟩ ⟨by omega,by omega⟩) (XL 3 1 ⟨by omega,by omega⟩ ⟨by omega,by omega⟩) (XL 5 1 ⟨by omega,by omega⟩ ⟨by omega,by omega⟩)
  W1 c1 (p 1 0 ⟨by omega,by omega⟩ ⟨by omega,by omega⟩) (p 1 2 ⟨by omega,by omega⟩ ⟨by omega,by omega⟩) (p 0 2 ⟨by omega,by omega⟩ ⟨by omega,by omega⟩) (p 2 1 ⟨by omega,by omega⟩ ⟨by omega,by omega⟩) (p 0 1 ⟨by omega,by omega⟩ ⟨by omega,by omega⟩) (p (-2) 0 ⟨by omega,by omega⟩ ⟨by omega,by omega⟩)
  (OL 100 ⟨by omega,by omega⟩) (OL 6 ⟨by omega,by omega⟩) n1 n2 n3 cb a1 a2 (sQ _ (by omega)) (sQ _ (by omega)) (sQ _ (by omega)) d1 d2 g1 g2
structure TC where
 p:V2
 n:V2
 r:Rat
structure RV where
 x:RQ
 y:RQ
def fT (v:RV):List AV:=v.x.L ++ v.y.L
def Lc:RV:=⟨RC,RC⟩
def aB (l:List RV):AV:=gE fT 8 Lc l
theorem Cp (l:List RV):aB l=.sl l.length (l.length*8) (Xw fT 8 Lc l) false:=C_ rfl
theorem Ug (v:RV):∀a∈fT v,A_ a:=by simp[fT,RQ.L,Xd,X5]
theorem Ob (l:List RV):A_ (aB l):=Z4 fun a x hx=>Ug a x hx
def RV.ok (v:RV):Prop:=v.x.ok∧v.y.ok
def RV.of (v:V2):RV:=⟨RQ.of v.x,RQ.of v.y⟩
theorem rvF (l:List RV)(i:Nat):Xw fT 8 Lc l (i*8)=.bool (l.getD i Lc).x.pn∧Xw fT 8 Lc l (i*8+1)=X9 (l.getD i Lc).x.pd∧Xw fT 8 Lc l (i*8+2)=.bool (l.getD i Lc).x.qn∧Xw fT 8 Lc l (i*8+3)=X9 (l.getD i Lc).x.qd ∧
  Xw fT 8 Lc l (i*8+4)=.bool (l.getD i Lc).y.pn∧Xw fT 8 Lc l (i*8+5)=X9 (l.getD i Lc).y.pd∧Xw fT 8 Lc l (i*8+6)=.bool (l.getD i Lc).y.qn∧Xw fT 8 Lc l (i*8+7)=X9 (l.getD i Lc).y.qd:=by
 refine⟨?_,?_,?_,?_,?_,?_,?_,?_⟩
 ·rw[ZO _ _ _ _ _];rfl
 all_goals rw[Ze _ _ _ _ _ _ (by omega)];rfl
def rvS (l:List RV):Prop:=∀i,(l.getD i Lc).x.sz<1000000000∧(l.getD i Lc).y.sz<1000000000
theorem Tr (l:List RV)(hs:rvS l)(hl:l.length<1000000)(k:Nat)(hk:k<l.length)(hb:¬ (l.getD k Lc).ok):Fn Tryz.prog 85 [aB l] (.bool false):=by
 refine q_ (fn:=Tryz.f85) Tryz.call85 Tryz.func85 rfl mixed 4 [] [] [] (by kernel_rfl) (K_ rfl) (fun a ha=>Y_.1 ha▸Ob l) (Xk ?_);simp(disch:=omega)only[O_,Cp,↓Xc,wG,seval];refine Xj (fun i:Nat=>⟨4,[],[aB l,.any,.bool false,I i],[],[]⟩) (fun i=>i≤k) (fun i=>k-i) 0 (by omega)
  (ZZ (by simp[Cp,Xo,I]) rfl) ?_
 intro i hi next
 have w1:=wj i;have f2:(i<l.length)=True:=L' (by omega);have v1:=rvF l i;obtain⟨h1,h2⟩:=hs i;have c1:=Cg (l.getD i Lc).x h1;have c2:=Cg (l.getD i Lc).y h2;have hb2:i=k→¬ (l.getD i Lc).ok:=fun e=>e▸hb
 generalize l.getD i Lc=v at *;unfold RV.ok at hb2;refine Xk ?_;simp(disch:=omega)only[Cp,w1,f2,v1,↓Xc,wG,seval];by_cases hx:v.x.ok
 ·rw[c_ hx]at c1
  refine X0 c1 (X1 _) ?_;simp(disch:=omega)only[Cp,w1,f2,v1,↓Xc,wG,seval];by_cases hy:v.y.ok
  ·rw[c_ hy]at c2
   have hik:i≠k:=fun e=>hb2 e ⟨hx,hy⟩
   refine X0 c2 (X1 _) ?_;simp(disch:=omega)only[Cp,w1,↓Xc,wG,seval];exact next (i+1) _ (by omega) (by omega) (ZZ (by simp[Cp,Xo,I]) rfl)
  ·rw[Z_ hy]at c2
   refine X0 c2 (X1 _) ?_;simp(disch:=omega)only[↓Xc,wG,seval];exact Xn (v:=.bool false) rfl rfl (X5 _) rfl
 ·rw[Z_ hx]at c1
  refine X0 c1 (X1 _) ?_;simp(disch:=omega)only[↓Xc,wG,seval];exact Xn (v:=.bool false) rfl rfl (X5 _) rfl
theorem mZ {α:Type}(e:α→List AV)(s:Nat)(d:α)(l:List α)(k j:Nat)(hs:0<s):Xw e s d l (k*s+j)=Xw e s d (l.drop k) j:=by
 have h:l.getD (k+j/s) d=(l.drop k).getD (j/s) d:=by
  rw[K',K',ZBi]
 show(e (l.getD ((k*s+j)/s) d)).getD ((k*s+j)%s) .any=(e ((l.drop k).getD (j/s) d)).getD (j%s) .any;rw[ZBH k s,Nat.mul_add_div hs,Nat.mul_add_mod,h]
theorem nc {α:Type}(e:α→List AV)(s:Nat)(d:α)(l m:List α)(j:Nat)(hs:0<s)(hj:j<l.length*s):Xw e s d (l ++ m) j=Xw e s d l j:=by
 have h:j/s<l.length:=Nat.div_lt_of_lt_mul (by rw[ZBH];exact hj);have g:(l ++ m).getD (j/s) d=l.getD (j/s) d:=by
  rw[K',T_ h,←K']
 show(e ((l ++ m).getD (j/s) d)).getD (j%s) .any=(e (l.getD (j/s) d)).getD (j%s) .any;rw[g]
theorem rU {α:Type}(e:α→List AV)(s:Nat)(d:α)(l m:List α)(f g:Nat→AV)(hs:0<s)(hf:∀ j,j<l.length*s→f j=Xw e s d l j)(hg:∀ j,j<m.length*s→g j=Xw e s d m j)(N K:Nat)(hN:N=l.length*s)(hK:K=m.length*s)(j:Nat)(hj:j<(l ++ m).length*s):XV N f K g j=Xw e s d (l ++ m) j:=by
 subst hN hK;rw[j_,Nat.add_mul]at hj;unfold XV;by_cases h:j<l.length*s
 ·rw[N_ h,hf j h,nc e s d l m j hs h]
 ·rw[M_ h,N_ (by omega),hg _ (by omega)]
  have:=mZ e s d (l ++ m) l.length (j-l.length*s) hs;rw[show l.length*s+(j-l.length*s)=j by omega,List.drop_left]at this;exact this.symm
theorem Ip {n:Int}(h:Ap n):IntKind.i64.wrap n=n:=by
 unfold Ap at h;rw[M'];omega
theorem pf (r:Rat):¬ (RQ.mk (RQ.of r).pn (RQ.of r).pd false [1]).ok:=by
 rw[RQ.TBP _ r.num 1 rfl rfl (by simp) (show [(1:Int)]=Xa 1 by decide +kernel)];rintro⟨_,h,_⟩;exact h rfl
structure TGB (X:AV)(f r:Rat)(G:List GG):Prop where
 fg:Fn Tryz.prog 45 [X,qA f,qA r] (VN G)
 fr:Fn Tryz.prog 47 [X,qA f,qA r] (VN G)
 v:∀x∈G,Fn Tryz.prog 15 [X,gA x] (I 0)
 s:∀x∈G,gW x∧x.E_=r
 l:G.length<1000000
end
end Go.Ab.N
