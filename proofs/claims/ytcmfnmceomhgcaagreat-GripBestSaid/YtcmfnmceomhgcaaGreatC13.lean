/- Contracts of functions, for every argument that fits. -/
import Derived.Test.YtcmfnmceomhgcaaGreatC12
set_option linter.unusedSimpArgs false
set_option linter.unusedVariables false
open Bool renaming decide_and→ZEL
open Go.Ab.AS renaming start→P'
open Int renaming eq_ofNat_of_zero_le→ZBB
open List renaming range→ZAD,length_drop→ZAH,set→ZAl,map_set→ZDY,take_append_drop→ZDg,mem_of_mem_take→ZDs,mem_of_mem_drop→ZDv
open Nat renaming reduceSub→zT
open Option renaming map→zV
open Option.some renaming inj→ZEB
open Rat renaming divInt→O_,mul_inv_cancel→ZCK
namespace Go.Ab.N
open Go Go.RowKit Go.Proofs
noncomputable section
set_option maxRecDepth 10000
set_option maxHeartbeats 4000000
open Classical
def QC (b:BB)(l:List GG):Nat→GG×Rat
 |0=>(gZ,-1)
 |k+1=>if(QC b l k).2<BP b (l.getD k gZ)then(l.getD k gZ,BP b (l.getD k gZ))else QC b l k
def M8 (b:BB)(l:List GG):GG×Rat×Int:=if(QC b l l.length).2<0 then(gZ,0,6)else((QC b l l.length).1,(QC b l l.length).2,0)
def BU (L:List V2)(b:BB)(f r:Rat):GG×Rat×Int:=if AW L∧Zb b=true∧AQ f r=true then M8 b (Eg L f r)else(gZ,0,1)
def Sk (x:GG×Rat×Int):AV:=.tup [gA x.1,qA x.2.1,I x.2.2]
def zg (t:Bool):List AV:=zC t ++ zC t ++ zC t ++ [.bool false,.sl 0 0 (fun _=>.any) t,.bool false,.sl 0 0 (fun _=>.any) t] ++ [.bool false,.sl 0 0 (fun _=>.any) t,.bool false,.sl 0 0 (fun _=>.any) t]
def Po (t:Bool):List AV:=[.bool false,.sl 0 0 (fun _=>.any) t,.bool false,.sl 0 0 (fun _=>.any) t]
theorem FK (t:Bool):TAR (zg t) (gC gZ):=by
 obtain⟨q1,q2,q3,q4,_⟩:=Jj t;exact⟨q1,q2,q3,q4,q1,q2,q3,q4,q1,q2,q3,q4,q1,q2,q3,q4,q1,q2,q3,q4,q1,q2,q3,q4,q1,q2,q3,q4,q1,q2,q3,q4,trivial⟩
theorem Et {b:BB}{l:List GG}(h:∀i,i<l.length→∃p q,Mg b (l.getD i gZ) p q):∀k,k≤l.length→qb (QC b l k).2≤rm
 |0,_=>by unfold rm;show qb (-1)≤_;exact k_ (by decide +kernel:qb (-1)≤10) (by omega)
 |k+1,hk=>by
  have ih:=Et h k (by omega);obtain⟨p,q,hm⟩:=h k (by omega);have:=hm.z.2.2.2.2;unfold rm at *;show qb (if(QC b l k).2<BP b (l.getD k gZ)then(l.getD k gZ,BP b (l.getD k gZ))else QC b l k).2≤_
  split
  ·show qb (BP b (l.getD k gZ))≤_;omega
  ·exact ih
theorem SN (L:List V2)(b:BB)(f r:Rat)(h:Qw L 10)(hl:L.length≤13)(hb:bS b)(hf:qb f≤40)(hr:qb r≤40):Fn Tryz.prog 42 [Qm L,bA b,qA f,qA r] (Sk (BU L b f r)):=by
 have c1:=Ij L (fun i=>k_ (h i) (by omega)) (by omega);have c2:=MA b hb.ok;have c3:=MD f r (by unfold rm;omega) (by unfold rm;omega);have c4:=MB L f r h (by omega) (by omega) hf hr;have c5:=D3 (-1) 1 ⟨by omega,by omega⟩ ⟨by omega,by omega⟩;obtain⟨R,hR⟩:∃R,R=BU L b f r:=⟨_,rfl⟩
 rw[←hR];have fk:=GU L h f r;unfold Zr at c4 fk;rw[BI]at c4 fk;unfold BU at hR;have bad:∀ (s:AS) (c:Int),s.get 8=.ref 3 0 0→s.get 9=.ref 4 0 0→s.get 10=I c→s.h[3]?=some (.row 0 32 (Xf (zg false)))→s.h[4]?=some (.row 0 4 (Xf [.bool false,.sl 0 0 (fun _=>.any) false,.bool false,.sl 0 0 (fun _=>.any) false]))→R=(gZ,0,c)→TAC (JK Tryz.prog Tryz.f42 [11000000000001,11000000000002,15000000000001,15000000000002] [] (Sk R)) s:=by
  intro s c e1 e2 e3 e4 e5 e6;unfold Sk;rw[e6];exact B0 (r1:=.cell 8 32) (r2:=.cell 9 28) (r3:=.tmp 10) rfl (Xs FZ e1 e4 rfl) (Xs XY e2 e5 rfl) (t_ some e3) (Xw (J2 _) (JX (FK _))) (Xw (Xa _) (JX (Jj _))) (XU (X9 _) rfl)
 refine Fq Tryz.call42 Tryz.func42 18 [38,39,40] [11000000000001,11000000000002,15000000000001,15000000000002] [] (by simp[Xq,Xa,Jz]) (Xk ?_);simp(disch:=omega)only[P',X7,bA,J4,qA,qC,↓Xd,wG,seval];refine X0 c1 ⟨by rw[X7];exact X' _,trivial⟩ ?_;simp(disch:=omega)only[↓Xd,wG,seval];refine⟨fun hp=>bad _ 1 rfl rfl rfl rfl rfl (by rw[hR,M_ fun h=>hp h.1]),fun hp=>?_⟩;refine X0 c2 ⟨by rw[bA,J4];exact X' _,trivial⟩ ?_;simp(disch:=omega)only[↓Xd,wG,seval];refine⟨fun hp2=>bad _ 1 rfl rfl rfl rfl rfl (by rw[hR,M_ fun h=>by rw[h.2.1]at hp2;exact absurd hp2 (by simp)]),fun hp2=>?_⟩;have hp2:Zb b=true:=by simpa using hp2
 refine X0 c3 (X1 _) ?_;simp(disch:=omega)only[↓Xd,wG,seval];refine⟨fun hp3=>bad _ 1 rfl rfl rfl rfl rfl (by rw[hR,M_ fun h=>by rw[h.2.2]at hp3;exact absurd hp3 (by simp)]),fun hp3=>?_⟩;have hp3:AQ f r=true:=by simpa using hp3
 rw[N_ ⟨hp,hp3⟩]at c4 fk;rw[N_ ⟨hp,hp2,hp3⟩]at hR;have hGl:(Eg L f r).length≤1000:=by
  have:=Di L f r L.length;have g3:L.length*L.length≤13*13:=ZAx hl hl;unfold Eg;omega
 generalize Eg L f r=G at *;have hG:∀g∈G,gS g∧Zc g=true:=fun g hg=>by
  obtain⟨k1,k2,k3,k4,k5,k6⟩:=fk g hg;refine⟨⟨by omega,by omega,by omega,by rw[k5];exact hf,by rw[k6];exact hr⟩,?_⟩;unfold Zc;rw[k5,k6,hp3,ZBF,decide_eq_true_eq];rw[H3];exact k4
 have bP0:∀q,J9 q (bP b)=True:=fun q=>K_ (X4 (XP fun j _=>Xe (KG b) j))
 have bV:∀q,J9 q (O0 G)=True:=fun q=>K_ (X4 (AF G))
 have bO:∀q i,XX q (.con i 20 (Xf (bC b)))=True:=fun q i=>K_ fun j _=>X4 (Xe (KG b) j)
 have bQ:∀q i x,XX q (.row i 4 (Xf (qC x)))=True:=fun q i x=>K_ fun j _=>X4 (Xe (XV x) j)
 have bR:∀q i g,XX q (.row i 32 (Xf (gC g)))=True:=fun q i g=>K_ fun j _=>X4 (Xe (Ke _) _)
 have bZ:∀q i,XX q (.row i 32 (Xf (zg true)))=True:=fun q i=>K_ fun j _=>X4 (Xe (by simp[zg,zC,X5,J7]) j)
 have bZ4:∀q i,XX q (.row i 4 (Xf (Po true)))=True:=fun q i=>K_ fun j _=>X4 (Xe (by simp[Po,X5,J7]) j)
 refine X0 c5 (X1 _) ?_;simp(disch:=omega)only[qA,qC,↓Xd,wG,seval];refine X0 c4 ⟨by rw[X7];exact X' _,X' _,X' _,trivial⟩ ?_;simp(disch:=omega)only[XR,↓Xd,wG,seval];refine e_ ?_ (XB 0 rfl);refine e_ ?_ (XH 5 rfl rfl (by omega));have hG2:∀i,i<G.length→∃p q,Mg b (G.getD i gZ) p q:=fun i hi=>by
  obtain⟨g1,g2⟩:=hG _ (Q9 gZ hi);exact OQ b _ hb g1 hp2 g2
 refine e_ ?_ (Uc 5 (gC gZ) rfl rfl (FK true));have dG:AV.sl G.length (G.length*32) (Xv gC 32 gZ G) false=O0 G:=(XR G).symm;rw[dG];refine Xi (fun i:Nat=>⟨18,[38,39,40],[.any,.any,.any,.any,.any,bP b,.any,.any,.ref 3 0 0,.ref 4 0 0,I 0,.ref 5 0 0,.ref 6 0 0,.any,.any,.any,.any,.any],[(38,O0 G),(39,I G.length),(40,I i)],[.con 0 20 (Xf (bC b)),.row 0 4 (Xf (qC f)),.row 0 4 (Xf (qC r)),.row 0 32 (Xf (zg true)),.row 0 4 (Xf (Po true)),.row 0 32 (Xf (gC (QC b G i).1)),.row 0 4 (Xf (qC (QC b G i).2))]⟩) (fun i=>i≤G.length) (fun i=>G.length-i) 0 (by omega)
  (Xh rfl ⟨.inl rfl,.inl rfl,.inl rfl,.inl rfl,.inl rfl,.inr rfl,.inl rfl,.inl rfl,.inr rfl,.inr rfl,.inr rfl,.inr rfl,.inr rfl,.inl rfl,.inl rfl,.inl rfl,.inl rfl,.inl rfl,trivial⟩ (by simp[AS.put,Xu,XJ,I]) rfl) ?_
 intro i hi next
 have w1:=wj i (by omega);by_cases hi2:i<G.length
 rotate_left
 ·obtain rfl:i=G.length:=by omega
  unfold M8 at hR;have hz:qb (QC b G G.length).2≤rm:=Et hG2 _ (N' _);have cs:=Qv (QC b G G.length).2;have sg1:=BC (QC b G G.length).2;obtain⟨p,hp⟩:∃p,p=QC b G G.length:=⟨_,rfl⟩
  rw[←hp]at cs sg1 hR hz;rw[←hp];obtain⟨g,m⟩:=p;simp only at cs sg1 hR hz;refine XF 19 ?_;simp(disch:=omega)only[XR,↓Xd,wG,seval];refine X0 cs (X1 _) ?_;simp(disch:=omega)only[sg1,↓Xd,wG,seval];refine⟨fun hm=>?_,fun hm=>?_⟩
  ·rw[N_ hm]at hR
   refine Xk ?_;simp(disch:=omega)only[zg,zC,Po,g_,h_,↓Xd,wG,seval];exact bad _ 6 rfl rfl rfl rfl rfl hR
  ·rw[M_ hm]at hR
   rw[hR];refine XF 2 ?_;simp(disch:=omega)only[↓Xd,wG,seval];show Run _ (_ :: _) _;refine AD (fun x=>x=6) ?_;obtain⟨A,hA⟩:∃A:AO,A=.con 0 20 (Xf (bC b)):=⟨_,rfl⟩
   obtain⟨B,hB⟩:∃B:AO,B=.row 0 4 (Xf (qC f)):=⟨_,rfl⟩
   obtain⟨C,hC⟩:∃C:AO,C=.row 0 4 (Xf (qC r)):=⟨_,rfl⟩
   have l0:=Kp (P:=Tryz.prog) (T:=32) (id:=5) (Z:=gC g) (H:=[A,B,C,.row 0 32 (Xf (zg true)),.row 0 4 (Xf (Po true)),.row 0 32 (Xf (gC g)),.row 0 4 (Xf (qC m))]) FZ rfl rfl;have l1:=Kp (P:=Tryz.prog) (T:=28) (id:=6) (Z:=qC m) (H:=[A,B,C,.row 0 32 (Xf (zg true)),.row 0 4 (Xf (Po true)),.row 0 32 (Xf (gC g)),.row 0 4 (Xf (qC m))]) XY rfl rfl;have l2:=JQ (P:=Tryz.prog) (T:=32) (id:=3) (Z:=zg true) (W:=gC g) (H:=[A,B,C,.row 0 32 (Xf (zg true)),.row 0 4 (Xf (Po true)),.row 0 32 (Xf (gC g)),.row 0 4 (Xf (qC m))]) LK rfl rfl rfl (by decide) rfl;have l3:=JQ (P:=Tryz.prog) (T:=28) (id:=4) (Z:=Po true) (W:=qC m) (H:=[A,B,C,.row 0 32 (Xf (gC g)),.row 0 4 (Xf (Po true)),.row 0 32 (Xf (gC g)),.row 0 4 (Xf (qC m))]) LJ rfl rfl rfl (by decide) rfl;rw[hA,hB,hC]at l0 l1 l2 l3;show ∃s',TAW _ _ _ _ _ _ _ _ _ _ s'∧_;refine⟨_,⟨HO rfl,_,Qr rfl rfl rfl rfl (t_ (zV fun w=>(w,_)) l0),vJ rfl rfl (fun o' va off e=>by cases e;rfl),_,Qr rfl rfl rfl rfl (t_ (zV fun w=>(w,_)) l1),
    xp rfl rfl (fun o' va off e=>by cases e;decide),_,Qr rfl rfl rfl rfl (t_ (zV fun w=>(XW,w)) l2),HO rfl,_,Qr rfl rfl rfl rfl (t_ (zV fun w=>(XW,w)) l3),HO rfl,_,Qr (v:=I 0) (h':=[.con 0 20 (Xf (bC b)),.row 0 4 (Xf (qC f)),.row 0 4 (Xf (qC r)),.row 0 32 (Xf (gC g)),.row 0 4 (Xf (qC m)),.row 0 32 (Xf (gC g)),.row 0 4 (Xf (qC m))]) rfl rfl rfl rfl rfl,rfl⟩,?fin⟩
   refine e_ (s':=⟨18,[38,39,40],[.any,.any,.any,.any,.any,.any,.any,.any,.ref 3 0 0,.ref 4 0 0,I 0,.any,.any,.any,.any,.any,.any,.any],[],[A,B,C,.row 0 32 (Xf (gC g)),.row 0 4 (Xf (qC m)),.row 0 32 (Xf (gC g)),.row 0 4 (Xf (qC m))]⟩) ?_ (Xh rfl ⟨.inl rfl,.inl rfl,.inl rfl,.inl rfl,.inl rfl,.inl rfl,.inl rfl,.inl rfl,.inr rfl,.inr rfl,.inr rfl,.inl rfl,.inl rfl,.inl rfl,.inl rfl,.inl rfl,.inl rfl,.inl rfl,trivial⟩ trivial (by rw[hA,hB,hC];rfl));refine Xk ?_;simp(disch:=omega)only[↓Xd,wG,seval];exact B0 (r1:=.cell 8 32) (r2:=.cell 9 28) (r3:=.tmp 10) rfl (Xs FZ rfl rfl rfl) (Xs XY rfl rfl rfl) rfl (XU (J2 _) rfl) (XU (Xa _) rfl) (XU (X9 _) rfl)
 have nx:=next (i+1)
 rw[show QC b G (i+1)=if(QC b G i).2<BP b (G.getD i gZ)then(G.getD i gZ,BP b (G.getD i gZ))else QC b G i from rfl]at nx;obtain⟨p,q,hm⟩:=hG2 i hi2;have l0:=Kg gC 32 gZ G i (by omega);have l1:=JE gC 32 gZ G i;have hz:qb (QC b G i).2≤rm:=Et hG2 _ hi;generalize G.getD i gZ=g at *;have hz2:=hm.z.2.2.2.2;have cm:=hm.fn;have cc:=J6 (BP b g) (QC b G i).2 (by unfold rm;omega) hz;have f1:(i<G.length)=True:=K_ hi2;clear hm c1 c2 c3 c4 c5 hR hG hG2 fk next bad
 generalize BP b g=m at *;obtain⟨h0,hh0⟩:∃h0,h0=(QC b G i).1:=⟨_,rfl⟩
 obtain⟨m0,hm0⟩:∃m0,m0=(QC b G i).2:=⟨_,rfl⟩
 rw[←hm0]at cc nx hz;rw[←hh0,←hm0];refine XF 66 ?_;simp(disch:=omega)only[XR,w1,f1,l0,l1,bP,J4,QZ,↓Xd,wG,seval];refine X0 cm ⟨by rw[bA,J4];exact X' _,by rw[gA,QZ];exact X' _,trivial⟩ ?_;simp(disch:=omega)only[qA,qC,↓Xd,wG,seval];refine X0 cc (X1 _) ?_;simp(disch:=omega)only[Ap,↓Xd,wG,seval];refine⟨fun hc=>?_,fun hc=>?_⟩
 rotate_left
 ·rw[M_ hc]at nx
  refine Xk ?_;simp(disch:=omega)only[XR,↓Xd,wG,seval];exact nx _ (by omega) (by omega) (XD (m:=7) (p_ _) rfl ⟨.inl rfl,.inl rfl,.inl rfl,.inl rfl,.inl rfl,.inr rfl,.inl rfl,.inl rfl,.inr rfl,.inr rfl,.inr rfl,.inr rfl,.inr rfl,.inl rfl,.inl rfl,.inl rfl,.inl rfl,.inl rfl,trivial⟩ (by simp[Xu,XJ,XR,I]) (by rw[hh0,hm0,J4];rfl) (by simp[XK,bV,bP0]) (by simp[XK,bV]) (by simp[bO,bR,bQ,bZ,bZ4]))
 ·rw[N_ hc]at nx
  show Run _ (_ :: _) _;refine AD (fun x=>x=8) ?_;obtain⟨A,hA⟩:∃A:AO,A=.con 0 20 (Xf (bC b)):=⟨_,rfl⟩
  obtain⟨B,hB⟩:∃B:AO,B=.row 0 4 (Xf (qC f)):=⟨_,rfl⟩
  obtain⟨C,hC⟩:∃C:AO,C=.row 0 4 (Xf (qC r)):=⟨_,rfl⟩
  obtain⟨D,hD⟩:∃D:AO,D=.row 0 32 (Xf (zg true)):=⟨_,rfl⟩
  obtain⟨E,hE⟩:∃E:AO,E=.row 0 4 (Xf (Po true)):=⟨_,rfl⟩
  have l0:=Kp (P:=Tryz.prog) (T:=32) (id:=7) (Z:=gC g) (H:=[A,B,C,D,E,.row 0 32 (Xf (gC h0)),.row 0 4 (Xf (qC m0)),.row 0 32 (Xf (gC g)),.row 0 4 (Xf (qC m))]) FZ rfl rfl;have l1:=Kp (P:=Tryz.prog) (T:=28) (id:=8) (Z:=qC m) (H:=[A,B,C,D,E,.row 0 32 (Xf (gC h0)),.row 0 4 (Xf (qC m0)),.row 0 32 (Xf (gC g)),.row 0 4 (Xf (qC m))]) XY rfl rfl;have l2:=JQ (P:=Tryz.prog) (T:=32) (id:=5) (Z:=gC h0) (W:=gC g) (H:=[A,B,C,D,E,.row 0 32 (Xf (gC h0)),.row 0 4 (Xf (qC m0)),.row 0 32 (Xf (gC g)),.row 0 4 (Xf (qC m))]) LK rfl rfl rfl (by decide) rfl;have l3:=JQ (P:=Tryz.prog) (T:=28) (id:=6) (Z:=qC m0) (W:=qC m) (H:=[A,B,C,D,E,.row 0 32 (Xf (gC g)),.row 0 4 (Xf (qC m0)),.row 0 32 (Xf (gC g)),.row 0 4 (Xf (qC m))]) LJ rfl rfl rfl (by decide) rfl;rw[hA,hB,hC,hD,hE]at l0 l1 l2 l3;show ∃s',TAW _ _ _ _ _ _ _ _ _ _ s'∧_;refine⟨_,⟨HO rfl,_,Qr rfl rfl rfl rfl (t_ (zV fun w=>(w,_)) l0),vJ rfl rfl (fun o' va off e=>by cases e;rfl),_,Qr rfl rfl rfl rfl (t_ (zV fun w=>(w,_)) l1),
   xp rfl rfl (fun o' va off e=>by cases e;decide),_,Qr rfl rfl rfl rfl (t_ (zV fun w=>(XW,w)) l2),HO rfl,_,Qr rfl rfl rfl rfl (t_ (zV fun w=>(XW,w)) l3),rfl⟩,?TFe⟩
  refine e_ (s':=⟨18,[38,39,40],[.any,.any,.any,.any,.any,bP b,.any,.any,.ref 3 0 0,.ref 4 0 0,I 0,.ref 5 0 0,.ref 6 0 0,.any,.any,.any,.any,.any],[(38,O0 G),(39,I G.length),(40,I i)],[A,B,C,D,E,.row 0 32 (Xf (gC g)),.row 0 4 (Xf (qC m)),.row 0 32 (Xf (gC g)),.row 0 4 (Xf (qC m))]⟩) ?_ (Xh rfl ⟨.inl rfl,.inl rfl,.inl rfl,.inl rfl,.inl rfl,.inr rfl,.inl rfl,.inl rfl,.inr rfl,.inr rfl,.inr rfl,.inr rfl,.inr rfl,.inl rfl,.inl rfl,.inl rfl,.inl rfl,.inl rfl,trivial⟩ ⟨.inr rfl,.inr rfl,.inr rfl,trivial⟩ (by rw[hA,hB,hC,hD,hE];rfl));refine Xk ?_;simp(disch:=omega)only[XR,↓Xd,wG,seval];exact nx _ (by omega) (by omega) (XD (m:=7) (p_ _) rfl (by simp[XR,Xm,I]) (by simp[Xu,XJ,XR,I]) (by rw[hA,hB,hC,hD,hE];rfl) (by simp[XK,bV,bP0]) (by simp[XK,bV]) (by simp[hA,hB,hC,hD,hE,bO,bR,bQ,bZ,bZ4]))
theorem Fl {α:Type}(d:α):∀ {A B:List α},A.length=B.length→(∀j,j<A.length→A.getD j d=B.getD j d)→A=B
 | [],[],_,_=>rfl
 |a :: A,b :: B,hl,h=>by
  have h0:=h 0 (by simp);rw[show a=b from h0,Fl d (A:=A) (B:=B) (by simpa using hl) fun j hj=>h (j+1) (by simpa using hj)]
theorem TS (A B:List V2)(hA:∀i,vb (A.getD i v0)≤vm) (hB:∀i,vb (B.getD i v0)≤vm) (la:A.length<1000000) (lb:B.length<1000000):Fn Tryz.prog 115 [Qm A,Qm B] (.bool (decide (A=B))):=by
 obtain⟨V,hV⟩:∃V,V=decide (A=B):=⟨_,rfl⟩
 rw[←hV];refine y_ (fn:=Tryz.f115) Tryz.call115 Tryz.func115 rfl mixed 6 [] [] [] (by kernel_rfl) (L' rfl) (KS (Xq A) (Xq B)) (Xk ?_);by_cases hl:A.length=B.length
 rotate_left
 ·have f1:((A.length:Int)=B.length)=False:=Q' (by omega)
  have f2:(A.length=B.length)=False:=Q' hl;simp(disch:=omega)only[P',X7,f1,f2,↓Xd,wG,seval];exact Xp (v:=.bool false) rfl rfl (X5 _) (by rw[hV,Y_ fun e=>hl (by rw[e])])
 have f1:(A.length=B.length)=True:=K_ hl;simp(disch:=omega)only[P',X7,f1,↓Xd,wG,seval];refine Xi (fun i:Nat=>⟨6,[],[Qm A,Qm B,.any,.any,.any,I i],[],[]⟩) (fun i=>i≤A.length∧∀j,j<i→A.getD j v0=B.getD j v0) (fun i=>A.length-i) 0 ⟨by omega,by omega⟩
  (Xh rfl (by simp[Xm,I,X7]) trivial rfl) ?_
 rintro i ⟨hi,hs⟩ next
 have w1:=wj i (by omega);by_cases hi2:i<A.length
 ·have v1:=vF A i
  have v2:=vF B i;have c1:=W2 (A.getD i v0) (B.getD i v0) (hA i) (hB i);have f2:(i<A.length)=True:=K_ hi2;have f3:(i<B.length)=True:=K_ (by omega);obtain⟨x,hx⟩:∃x,x=A.getD i v0:=⟨_,rfl⟩
  obtain⟨y,hy⟩:∃y,y=B.getD i v0:=⟨_,rfl⟩
  rw[←hx]at v1 c1;rw[←hy]at v2 c1;refine Xk ?_;simp(disch:=omega)only[X7,w1,f2,f3,v1,v2,↓Xd,wG,seval];refine X0 c1 ⟨by rw[vA,vC];exact X' _,by rw[vA,vC];exact X' _,trivial⟩ ?_;simp(disch:=omega)only[X7,↓Xd,wG,seval];refine⟨fun h=>?_,fun h=>?_⟩
  ·exact Xp (v:=.bool false) rfl rfl (X5 _) (by rw[hV,Y_ fun e=>h (by rw[hx,hy,e])])
  ·exact next (i+1) _ ⟨by omega,fun j hj=>by
    by_cases e:j=i
    ·rw[e,←hx,←hy];exact h
    ·exact hs j (by omega)⟩ (by omega) (ZS (by simp[Xm,I,X7]) rfl)
 ·obtain rfl:i=A.length:=by omega
  refine Xk ?_;simp(disch:=omega)only[X7,↓Xd,wG,seval];exact Xp (v:=.bool true) rfl rfl (X5 _) (by rw[hV,Y' (Fl v0 hl hs)])
def gW (g:GG):Prop:=vb g.p≤10000∧vb g.q≤10000∧vb g.n≤10000∧qb g.force≤10000∧qb g.E_≤10000
theorem gS.w {g:GG}(h:gS g):gW g:=by obtain⟨h1,h2,h3,h4,h5⟩:=h;unfold gW;omega
theorem OE (a b:GG)(ha:gW a)(hb:gW b):Fn Tryz.prog 44 [gA a,gA b] (.bool (decide (a=b))):=by
 obtain⟨a1,a2,a3,a4,a5⟩:=ha;obtain⟨b1,b2,b3,b4,b5⟩:=hb;have sm:∀p q n:V2,vb p≤10000→vb q≤10000→vb n≤10000→∀i,vb ([p,q,n].getD i v0)≤vm:=fun p q n h1 h2 h3 i=>by
  unfold vm
  match i with
  |0=>show vb p≤_;omega
  |1=>show vb q≤_;omega
  |2=>show vb n≤_;omega
  |_+3=>exact k_ tR (by omega)
 have c1:=TS [a.p,a.q,a.n] [b.p,b.q,b.n] (sm _ _ _ a1 a2 (by omega)) (sm _ _ _ b1 b2 (by omega)) (by simp) (by simp);have c2:=E1 a.force b.force (by unfold rm;omega) (by unfold rm;omega);have c3:=E1 a.E_ b.E_ (by unfold rm;omega) (by unfold rm;omega);have e1:decide ([a.p,a.q,a.n]=[b.p,b.q,b.n])=decide (a.p=b.p∧a.q=b.q∧a.n=b.n):=decide_eq_decide.2 (by simp);rw[e1]at c1;obtain⟨V,hV⟩:∃V,V=decide (a=b):=⟨_,rfl⟩
 have hV:V=(decide (a.p=b.p∧a.q=b.q∧a.n=b.n) && (decide (a.force=b.force) && decide (a.E_=b.E_))):=by
  rw[hV,←ZEL,←ZEL,decide_eq_decide];cases a;cases b;rw[GG.mk.injEq];constructor
  ·rintro⟨h1,h2,h3,h4,h5⟩;exact⟨⟨h1,h2,h3⟩,h4,h5⟩
  ·rintro⟨⟨h1,h2,h3⟩,h4,h5⟩;exact⟨h1,h2,h3,h4,h5⟩
 rename_i hV0;rw[←hV0];generalize decide (a.p=b.p∧a.q=b.q∧a.n=b.n)=x at *;generalize decide (a.force=b.force)=y at *;generalize decide (a.E_=b.E_)=z at *;refine y_ (fn:=Tryz.f44) Tryz.call44 Tryz.func44 rfl mixed 5 [] [] [] (by kernel_rfl) (L' rfl) (KS (J2 a) (J2 b)) (Xk ?_);simp(disch:=omega)only[P',gA,QZ,↓Xd,wG,seval];cases x
 ·refine X0 c1 ⟨Kt vC 8 v0 (fun _=>rfl) [a.p,a.q,a.n] _ _ _ _ rfl rfl rfl,Kt vC 8 v0 (fun _=>rfl) [b.p,b.q,b.n] _ _ _ _ rfl rfl rfl,trivial⟩ ?_
  simp(disch:=omega)only[↓Xd,wG,seval];exact Xp (v:=.bool false) rfl rfl (X5 _) (by rw[hV];rfl)
 ·refine X0 c1 ⟨Kt vC 8 v0 (fun _=>rfl) [a.p,a.q,a.n] _ _ _ _ rfl rfl rfl,Kt vC 8 v0 (fun _=>rfl) [b.p,b.q,b.n] _ _ _ _ rfl rfl rfl,trivial⟩ ?_
  cases y
  ·simp(disch:=omega)only[↓Xd,wG,seval]
   refine X0 c2 (X1 _) ?_;simp(disch:=omega)only[↓Xd,wG,seval];exact Xp (v:=.bool false) rfl rfl (X5 _) (by rw[hV];rfl)
  ·simp(disch:=omega)only[↓Xd,wG,seval]
   refine X0 c2 (X1 _) ?_;simp(disch:=omega)only[↓Xd,wG,seval];refine X0 c3 (X1 _) ?_;simp(disch:=omega)only[↓Xd,wG,seval];exact Xp (v:=.bool z) rfl rfl (X5 _) (by rw[hV];rfl)
theorem SP (a b:GG)(ha:gS a)(hb:gS b):Fn Tryz.prog 44 [gA a,gA b] (.bool (decide (a=b))):=OE a b ha.w hb.w
theorem VC (L:List V2)(f r k1 k2 k3 k4 n5:Rat)(u1 u2 u3 u4 u5 u6:V2)(B1 B6:BB)(x1 x2 y1 y2 z1 z2:Rat×Rat)
  (o1:Fn Tryz.prog 20 [I 8,I 1] (qA f)) (o2:Fn Tryz.prog 20 [I 1,I 2] (qA r))
  (o3:Fn Tryz.prog 20 [I 4,I 1] (qA k1)) (o4:Fn Tryz.prog 20 [I 3,I 2] (qA k3)) (o5:Fn Tryz.prog 20 [I 3,I 1] (qA k4)) (o6:Fn Tryz.prog 20 [I 5,I 1] (qA n5))
  (sq:Fn Tryz.prog 75 [] (Qm L))
  (c1:Fn Tryz.prog 45 [Qm L,qA f,qA r] (O0 [⟨u1,u2,u3,f,r⟩,⟨u4,u5,u6,f,r⟩]))
  (p1:Fn Tryz.prog 53 [I 1,I 0] (vA u1)) (p2:Fn Tryz.prog 53 [I 1,I 2] (vA u2)) (p3:Fn Tryz.prog 53 [I 0,I 2] (vA u3))
  (p4:Fn Tryz.prog 53 [I 2,I 1] (vA u4)) (p5:Fn Tryz.prog 53 [I 0,I 1] (vA u5)) (p6:Fn Tryz.prog 53 [I (-2),I 0] (vA u6))
  (b1:Fn Tryz.prog 76 [I 100] (bA B1)) (b2:Fn Tryz.prog 76 [I 6] (bA B6))
  (m1:Fn Tryz.prog 22 [bA B1,gA ⟨u1,u2,u3,f,r⟩] (.tup [qA k1,VU [x1,x2],I 0]))
  (m2:Fn Tryz.prog 22 [bA B1,gA ⟨u4,u5,u6,f,r⟩] (.tup [qA k1,VU [y1,y2],I 0]))
  (m3:Fn Tryz.prog 22 [bA B6,gA ⟨u4,u5,u6,f,r⟩] (.tup [qA k3,VU [z1,z2],I 0]))
  (cb:Fn Tryz.prog 42 [Qm L,bA B6,qA f,qA r] (.tup [gA ⟨u1,u2,u3,f,r⟩,qA k4,I 0]))
  (s1:Fn Tryz.prog 44 [gA ⟨u1,u2,u3,f,r⟩,gA ⟨u1,u2,u3,f,r⟩] (.bool true))
  (s2:Fn Tryz.prog 44 [gA ⟨u4,u5,u6,f,r⟩,gA ⟨u4,u5,u6,f,r⟩] (.bool true))
  (q1:Fn Tryz.prog 26 [qA k1,qA k1] (.bool true)) (q3:Fn Tryz.prog 26 [qA k3,qA k3] (.bool true)) (q4:Fn Tryz.prog 26 [qA k4,qA k4] (.bool true))
  (d1:Fn Tryz.prog 29 [bA B1,gA ⟨u1,u2,u3,f,r⟩,qA k1,VU [x1,x2]] (I 0))
  (d2:Fn Tryz.prog 29 [bA B1,gA ⟨u1,u2,u3,f,r⟩,qA n5,VU [x1,x2]] (I 22))
  (v1:Fn Tryz.prog 15 [Qm L,gA ⟨u1,u2,u3,f,r⟩] (I 0)) (v2:Fn Tryz.prog 15 [Qm L,gA gZ] (I 1)) :
  Fn Tryz.prog 17 [] (.bool true):=by
 obtain⟨G,hG⟩:∃G:List GG,G=[⟨u1,u2,u3,f,r⟩,⟨u4,u5,u6,f,r⟩]:=⟨_,rfl⟩
 have l1:∀j,j<32→Xv gC 32 gZ G j=(gC ⟨u1,u2,u3,f,r⟩).getD j .any:=fun j hj=>by
  have:=JE gC 32 gZ G 0 j hj;rw[show G.getD 0 gZ=⟨u1,u2,u3,f,r⟩by rw[hG];rfl]at this;rw[←this];congr 1;omega
 have l3:∀j,32≤j→j<64→Xv gC 32 gZ G j=(gC ⟨u4,u5,u6,f,r⟩).getD (j-32) .any:=fun j h1 h2=>by
  have:=JE gC 32 gZ G 1 (j-32) (by omega);rw[show G.getD 1 gZ=⟨u4,u5,u6,f,r⟩by rw[hG];rfl]at this;rw[←this];congr 1;omega
 rw[←hG]at c1;have hl:G.length=2:=by rw[hG];rfl
 clear hG;refine y_ (fn:=Tryz.f17) Tryz.call17 Tryz.func17 rfl mixed 19 [] [6,7003,7004,7,8003,8004,8,9003,9,10003,10,11003,11,12002,12003] [] (by kernel_rfl) (L' rfl) (by simp) (Xk ?_);simp(disch:=omega)only[P',↓Xd,wG,seval];refine X0 o1 (X1 _) ?_;simp(disch:=omega)only[qA,qC,↓Xd,wG,seval];refine X0 o2 (X1 _) ?_;simp(disch:=omega)only[qA,qC,↓Xd,wG,seval];refine X0 sq (X1 _) ?_;simp(disch:=omega)only[X7,↓Xd,wG,seval];refine X0 c1 ⟨by rw[X7];exact X' _,X' _,X' _,trivial⟩ ?_;simp(disch:=omega)only[XR,hl,↓Xd,wG,seval];refine X0 p1 (X1 _) ?_;simp(disch:=omega)only[vA,vC,↓Xd,wG,seval];refine X0 p2 (X1 _) ?_;simp(disch:=omega)only[vA,vC,↓Xd,wG,seval];refine X0 p3 (X1 _) ?_;simp(disch:=omega)only[vA,vC,↓Xd,wG,seval];refine X0 p4 (X1 _) ?_;simp(disch:=omega)only[vA,vC,↓Xd,wG,seval];refine X0 p5 (X1 _) ?_;simp(disch:=omega)only[vA,vC,↓Xd,wG,seval];refine X0 p6 (X1 _) ?_;simp(disch:=omega)only[vA,vC,↓Xd,wG,seval];refine X0 b1 (X1 _) ?_;simp(disch:=omega)only[bA,J4,l1,l3,zT,QZ,↓Xd,wG,seval];refine X0 m1 ⟨by rw[bA,J4];exact X' _,by rw[gA,QZ];exact X' _,trivial⟩ ?_;simp(disch:=omega)only[vA,vC,qA,qC,bA,J4,gA,QZ,l1,l3,zT,XR,hl,X7,↓Xd,wG,seval];refine X0 b1 (X1 _) ?_;simp(disch:=omega)only[vA,vC,qA,qC,bA,J4,gA,QZ,l1,l3,zT,XR,hl,X7,↓Xd,wG,seval];refine X0 m2 ⟨by rw[bA,J4];exact X' _,by rw[gA,QZ];exact X' _,trivial⟩ ?_;simp(disch:=omega)only[vA,vC,qA,qC,bA,J4,gA,QZ,l1,l3,zT,XR,hl,X7,↓Xd,wG,seval];refine X0 b2 (X1 _) ?_;simp(disch:=omega)only[vA,vC,qA,qC,bA,J4,gA,QZ,l1,l3,zT,XR,hl,X7,↓Xd,wG,seval];refine X0 m3 ⟨by rw[bA,J4];exact X' _,by rw[gA,QZ];exact X' _,trivial⟩ ?_;simp(disch:=omega)only[vA,vC,qA,qC,bA,J4,gA,QZ,l1,l3,zT,XR,hl,X7,↓Xd,wG,seval];refine X0 sq (X1 _) ?_;simp(disch:=omega)only[vA,vC,qA,qC,bA,J4,gA,QZ,l1,l3,zT,XR,hl,X7,↓Xd,wG,seval];refine X0 b2 (X1 _) ?_;simp(disch:=omega)only[vA,vC,qA,qC,bA,J4,gA,QZ,l1,l3,zT,XR,hl,X7,↓Xd,wG,seval];refine X0 cb ⟨by rw[X7];exact X' _,by rw[bA,J4];exact X' _,X' _,X' _,trivial⟩ ?_;simp(disch:=omega)only[vA,vC,qA,qC,bA,J4,gA,QZ,l1,l3,zT,XR,hl,X7,↓Xd,wG,seval];refine X0 s1 ⟨by rw[gA,QZ];exact X' _,by rw[gA,QZ];exact X' _,trivial⟩ ?_;simp(disch:=omega)only[vA,vC,qA,qC,bA,J4,gA,QZ,l1,l3,zT,XR,hl,X7,↓Xd,wG,seval];refine X0 s2 ⟨by rw[gA,QZ];exact X' _,by rw[gA,QZ];exact X' _,trivial⟩ ?_;simp(disch:=omega)only[vA,vC,qA,qC,bA,J4,gA,QZ,l1,l3,zT,XR,hl,X7,↓Xd,wG,seval];refine X0 o3 (X1 _) ?_;simp(disch:=omega)only[vA,vC,qA,qC,bA,J4,gA,QZ,l1,l3,zT,XR,hl,X7,↓Xd,wG,seval];refine X0 q1 (X1 _) ?_;simp(disch:=omega)only[vA,vC,qA,qC,bA,J4,gA,QZ,l1,l3,zT,XR,hl,X7,↓Xd,wG,seval];refine X0 o3 (X1 _) ?_;simp(disch:=omega)only[vA,vC,qA,qC,bA,J4,gA,QZ,l1,l3,zT,XR,hl,X7,↓Xd,wG,seval];refine X0 q1 (X1 _) ?_;simp(disch:=omega)only[vA,vC,qA,qC,bA,J4,gA,QZ,l1,l3,zT,XR,hl,X7,↓Xd,wG,seval];refine X0 o4 (X1 _) ?_;simp(disch:=omega)only[vA,vC,qA,qC,bA,J4,gA,QZ,l1,l3,zT,XR,hl,X7,↓Xd,wG,seval];refine X0 q3 (X1 _) ?_;simp(disch:=omega)only[vA,vC,qA,qC,bA,J4,gA,QZ,l1,l3,zT,XR,hl,X7,↓Xd,wG,seval];refine X0 o5 (X1 _) ?_;simp(disch:=omega)only[vA,vC,qA,qC,bA,J4,gA,QZ,l1,l3,zT,XR,hl,X7,↓Xd,wG,seval];refine X0 q4 (X1 _) ?_;simp(disch:=omega)only[vA,vC,qA,qC,bA,J4,gA,QZ,l1,l3,zT,XR,hl,X7,↓Xd,wG,seval];refine X0 s1 ⟨by rw[gA,QZ];exact X' _,by rw[gA,QZ];exact X' _,trivial⟩ ?_;simp(disch:=omega)only[vA,vC,qA,qC,bA,J4,gA,QZ,l1,l3,zT,XR,hl,X7,↓Xd,wG,seval];refine X0 b1 (X1 _) ?_;simp(disch:=omega)only[vA,vC,qA,qC,bA,J4,gA,QZ,l1,l3,zT,XR,hl,X7,↓Xd,wG,seval];refine X0 d1 ⟨by rw[bA,J4];exact X' _,by rw[gA,QZ];exact X' _,X' _,X' _,trivial⟩ ?_;simp(disch:=omega)only[vA,vC,qA,qC,bA,J4,gA,QZ,l1,l3,zT,XR,hl,X7,↓Xd,wG,seval];refine X0 b1 (X1 _) ?_;simp(disch:=omega)only[vA,vC,qA,qC,bA,J4,gA,QZ,l1,l3,zT,XR,hl,X7,↓Xd,wG,seval];refine X0 o6 (X1 _) ?_;simp(disch:=omega)only[vA,vC,qA,qC,bA,J4,gA,QZ,l1,l3,zT,XR,hl,X7,↓Xd,wG,seval];refine X0 d2 ⟨by rw[bA,J4];exact X' _,by rw[gA,QZ];exact X' _,X' _,X' _,trivial⟩ ?_;simp(disch:=omega)only[vA,vC,qA,qC,bA,J4,gA,QZ,l1,l3,zT,XR,hl,X7,↓Xd,wG,seval];refine X0 sq (X1 _) ?_;simp(disch:=omega)only[vA,vC,qA,qC,bA,J4,gA,QZ,l1,l3,zT,XR,hl,X7,↓Xd,wG,seval];refine X0 v1 ⟨by rw[X7];exact X' _,by rw[gA,QZ];exact X' _,trivial⟩ ?_;simp(disch:=omega)only[vA,vC,qA,qC,bA,J4,gA,QZ,l1,l3,zT,XR,hl,X7,↓Xd,wG,seval];refine X0 sq (X1 _) ?_;simp(disch:=omega)only[vA,vC,qA,qC,bA,J4,gA,QZ,l1,l3,zT,XR,hl,X7,zg,zC,g_,h_,↓Xd,wG,seval];refine X0 v2 ⟨by rw[X7];exact X' _,JX (FK _),trivial⟩ ?_;simp(disch:=omega)only[vA,vC,qA,qC,bA,J4,gA,QZ,l1,l3,zT,XR,hl,X7,zg,zC,g_,h_,↓Xd,wG,seval];exact Xp (v:=.bool true) rfl rfl (X5 _) rfl
theorem nT (L:List V2):FY L gZ=1:=by
 unfold FY;rw[M_ fun h=>by
  have:=h.2;rw[Dk]at this;exact absurd this.1.1 (by show ¬ (0:Rat)<0;decide)]
theorem zE {i:Nat}(hi:i<4):JL sqV i∈Kf sqV:=by
 unfold Kf B9;exact ZA3.2 ⟨i,ZBc.2 hi,rfl⟩
theorem pE:FY sqV eg1=0:=by
 have h1:(Kf sqV).any (CZ eg1)=true:=ZBJ.2 ⟨_,zE (i:=0) (by omega),by
  unfold CZ;rw[w_];refine⟨Y' (Mt (by decide +kernel)),?_⟩;rw[show JL sqV 0=⟨(JL sqV 0).a,(JL sqV 0).b,(JL sqV 0).i⟩from rfl,Rf];unfold lH;exact Y' ⟨by decide +kernel,by decide +kernel⟩⟩
 have h2:(Kf sqV).any (BA eg1)=true:=ZBJ.2 ⟨_,zE (i:=2) (by omega),by
  unfold BA;rw[w_];refine⟨Y' ⟨by decide +kernel,by decide +kernel⟩,?_⟩;rw[show JL sqV 2=⟨(JL sqV 2).a,(JL sqV 2).b,(JL sqV 2).i⟩from rfl,Rf];unfold lH;exact Y' ⟨by decide +kernel,by decide +kernel⟩⟩
 unfold FY;rw[N_ ⟨(BI _).1 HA,y9.1.2⟩,N_ ⟨h1,h2⟩]
theorem rG:BU sqV (Fc 6) (O_ 8 1) (O_ 1 2)=(eg1,O_ 3 1,0):=by
 have e3:BP (Fc 6) eg2=O_ 3 2:=Gk (jt 6 _ (.inr ⟨rfl,rfl⟩));have e4:BP (Fc 6) eg1=O_ 3 1:=Gk (sV 6 _ (.inr ⟨by decide +kernel,rfl⟩));have hf:=ah;unfold Zr at hf;rw[N_ ⟨HA,Rx⟩]at hf;unfold BU;rw[N_ ⟨(BI _).1 HA,(iK 6 (by omega)).2,Rx⟩,hf];have b1:QC (Fc 6) [eg1,eg2] 1=(eg1,O_ 3 1):=by
  show(if(-1:Rat)<BP (Fc 6) eg1 then(eg1,BP (Fc 6) eg1)else(gZ,-1))=_;rw[e4,N_ (by decide +kernel)]
 have b2:QC (Fc 6) [eg1,eg2] 2=(eg1,O_ 3 1):=by
  show(if(QC (Fc 6) [eg1,eg2] 1).2<BP (Fc 6) eg2 then(eg2,BP (Fc 6) eg2)else QC (Fc 6) [eg1,eg2] 1)=_;rw[b1,e3,M_ (by decide +kernel)]
 unfold M8;rw[show [eg1,eg2].length=2 from rfl,b2,M_ (by show ¬O_ 3 1<0;decide +kernel)]
theorem kW:Fn Tryz.prog 17 [] (.bool true):=by
 have q8:=Fz 8 1 (by omega) (by omega);have qh:=Fz 1 2 (by omega) (by omega);have q4:=Fz 4 1 (by omega) (by omega);have q3:=Fz 3 1 (by omega) (by omega);have q32:=Fz 3 2 (by omega) (by omega);have q5:=Fz 5 1 (by omega) (by omega);obtain⟨s1,s2⟩:=iK 100 (by omega);obtain⟨s3,s4⟩:=iK 6 (by omega);obtain⟨⟨t1,t2⟩,t3,t4⟩:=y9;have M4:=sV 100 (O_ 4 1) (.inl ⟨by decide +kernel,rfl⟩);have e1:BP (Fc 100) eg1=O_ 4 1:=Gk M4;have e2:BP (Fc 100) eg2=O_ 4 1:=Gk (jt 100 _ (.inl ⟨by decide +kernel,rfl⟩));have e3:BP (Fc 6) eg2=O_ 3 2:=Gk (jt 6 _ (.inr ⟨rfl,rfl⟩));obtain⟨x1,x2,m1⟩:=OQ (Fc 100) eg1 s1 t1 s2 t2;obtain⟨y1,y2,m2⟩:=OQ (Fc 100) eg2 s1 t3 s2 t4;obtain⟨z1,z2,m3⟩:=OQ (Fc 6) eg2 s3 t3 s4 t4;have n1:=m1.fn;have n2:=m2.fn;have n3:=m3.fn;have n4:=m1.ok;obtain⟨w1,w2,w3,w4,w5⟩:=m1.z;rw[e1]at n1 n4;rw[e2]at n2;rw[e3]at n3;have cb:=SN sqV (Fc 6) (O_ 8 1) (O_ 1 2) (fun i=>k_ (mO.2.1 i) (by omega)) (by decide) s3 (by omega) (by omega);rw[rG]at cb;have c1:=MB sqV (O_ 8 1) (O_ 1 2) mO.2.1 (by omega) (by decide) (by omega) (by omega);rw[ah]at c1;have p:=fun(x y:Int) (hx:ZO x) (hy:ZO y)=>Kq x y hx hy
 have sm:Qw sqV 1000:=fun i=>k_ (mO.2.1 i) (by omega)
 have g1:=Yi sqV eg1 sm (by decide) t1;rw[pE]at g1;have gz:gS gZ:=⟨by show vb v0≤_;decide +kernel,by show vb v0≤_;decide +kernel,by show vb v0≤_;decide +kernel,by show qb 0≤_;decide +kernel,by show qb 0≤_;decide +kernel⟩
 have g2:=Yi sqV gZ sm (by decide) gz;rw[nT]at g2;have a1:=SP eg1 eg1 t1 t1;have a2:=SP eg2 eg2 t3 t3;rw[Y' rfl]at a1 a2;have sQ:∀x:Rat,qb x≤10→Fn Tryz.prog 26 [qA x,qA x] (.bool true):=fun x hx=>by
  have:=E1 x x (by unfold rm;omega) (by unfold rm;omega);rwa[Y' rfl]at this
 have hp:∀x∈[x1,x2],qb x.1≤1500000∧qb x.2≤1500000:=by
  intro x hx;rcases b_.1 hx with rfl |hx
  ·omega
  ·rw[a_.1 hx];omega
 have d1:=OC (Fc 100) eg1 (O_ 4 1) [x1,x2] s1 t1 (by omega) (by simp) hp;have d2:=OC (Fc 100) eg1 (O_ 5 1) [x1,x2] s1 t1 (by omega) (by simp) hp;rw[show Ao (Fc 100) eg1 (O_ 4 1) [x1,x2]=0 by
  unfold Ao;rw[N_ (by rw[s2,t2];rfl),N_ ⟨rfl,n4⟩]]at d1
 rw[show Ao (Fc 100) eg1 (O_ 5 1) [x1,x2]=22 by
  unfold Ao;rw[N_ (by rw[s2,t2];rfl),M_ fun h=>absurd (M4.2 _ _ _ _ _ h.2) (by decide +kernel)]]at d2
 exact VC sqV (O_ 8 1) (O_ 1 2) (O_ 4 1) 0 (O_ 3 2) (O_ 3 1) (O_ 5 1) (pI 1 0) (pI 1 2) (pI 0 2) (pI 2 1) (pI 0 1) (pI (-2) 0) (Fc 100) (Fc 6) x1 x2 y1 y2 z1 z2
  (XS 8 1 ⟨by omega,by omega⟩ ⟨by omega,by omega⟩) (XS 1 2 ⟨by omega,by omega⟩ ⟨by omega,by omega⟩) (XS 4 1 ⟨by omega,by omega⟩ ⟨by omega,by omega⟩) (XS 3 2 ⟨by omega,by omega⟩ ⟨by omega,by omega⟩) (XS 3 1 ⟨by omega,by omega⟩ ⟨by omega,by omega⟩) (XS 5 1 ⟨by omega,by omega⟩ ⟨by omega,by omega⟩)
  VG c1 (p 1 0 ⟨by omega,by omega⟩ ⟨by omega,by omega⟩) (p 1 2 ⟨by omega,by omega⟩ ⟨by omega,by omega⟩) (p 0 2 ⟨by omega,by omega⟩ ⟨by omega,by omega⟩) (p 2 1 ⟨by omega,by omega⟩ ⟨by omega,by omega⟩) (p 0 1 ⟨by omega,by omega⟩ ⟨by omega,by omega⟩) (p (-2) 0 ⟨by omega,by omega⟩ ⟨by omega,by omega⟩)
  (OL 100 ⟨by omega,by omega⟩) (OL 6 ⟨by omega,by omega⟩) n1 n2 n3 cb a1 a2 (sQ _ (by omega)) (sQ _ (by omega)) (sQ _ (by omega)) d1 d2 g1 g2
structure TC where
 p:V2
 n:V2
 r:Rat
structure RV where
 x:RQ
 y:RQ
def D4 (v:RV):List AV:=v.x.L ++ v.y.L
def Kn:RV:=⟨RE,RE⟩
def AE (l:List RV):AV:=g8 D4 8 Kn l
theorem Q4 (l:List RV):AE l=.sl l.length (l.length*8) (Xv D4 8 Kn l) false:=C_ rfl
theorem IY (v:RV):∀a∈D4 v,A_ a:=by simp[D4,RQ.L,Xc,X5]
theorem JD (l:List RV):A_ (AE l):=KZ fun a x hx=>IY a x hx
def RV.ok (v:RV):Prop:=v.x.ok∧v.y.ok
def RV.of (v:V2):RV:=⟨RQ.of v.x,RQ.of v.y⟩
theorem yN (l:List RV)(i:Nat):Xv D4 8 Kn l (i*8)=.bool (l.getD i Kn).x.pn∧Xv D4 8 Kn l (i*8+1)=X8 (l.getD i Kn).x.pd∧Xv D4 8 Kn l (i*8+2)=.bool (l.getD i Kn).x.qn∧Xv D4 8 Kn l (i*8+3)=X8 (l.getD i Kn).x.qd ∧
  Xv D4 8 Kn l (i*8+4)=.bool (l.getD i Kn).y.pn∧Xv D4 8 Kn l (i*8+5)=X8 (l.getD i Kn).y.pd∧Xv D4 8 Kn l (i*8+6)=.bool (l.getD i Kn).y.qn∧Xv D4 8 Kn l (i*8+7)=X8 (l.getD i Kn).y.qd:=by
 refine⟨?_,?_,?_,?_,?_,?_,?_,?_⟩
 ·rw[Kg _ _ _ _ _ (by omega)];rfl
 all_goals rw[JE _ _ _ _ _ _ (by omega)];rfl
def tK (l:List RV):Prop:=∀i,(l.getD i Kn).x.sz<1000000000∧(l.getD i Kn).y.sz<1000000000
theorem Tc (l:List RV)(hs:tK l)(hl:l.length<1000000)(k:Nat)(hk:k<l.length)(hb:¬ (l.getD k Kn).ok):Fn Tryz.prog 85 [AE l] (.bool false):=by
 refine y_ (fn:=Tryz.f85) Tryz.call85 Tryz.func85 rfl mixed 4 [] [] [] (by kernel_rfl) (L' rfl) (fun a ha=>a_.1 ha▸JD l) (Xk ?_);simp(disch:=omega)only[P',Q4,↓Xd,wG,seval];refine Xi (fun i:Nat=>⟨4,[],[AE l,.any,.bool false,I i],[],[]⟩) (fun i=>i≤k) (fun i=>k-i) 0 (by omega)
  (ZS (by simp[Q4,Xm,I]) rfl) ?_
 intro i hi next
 have w1:=wj i (by omega);have f2:(i<l.length)=True:=K_ (by omega);have v1:=yN l i;obtain⟨h1,h2⟩:=hs i;have c1:=C6 (l.getD i Kn).x h1;have c2:=C6 (l.getD i Kn).y h2;have hb2:i=k→¬ (l.getD i Kn).ok:=fun e=>e▸hb
 generalize l.getD i Kn=v at *;unfold RV.ok at hb2;refine Xk ?_;simp(disch:=omega)only[Q4,w1,f2,v1,↓Xd,wG,seval];by_cases hx:v.x.ok
 ·rw[Y' hx]at c1
  refine X0 c1 (X1 _) ?_;simp(disch:=omega)only[Q4,w1,f2,v1,↓Xd,wG,seval];by_cases hy:v.y.ok
  ·rw[Y' hy]at c2
   have hik:i≠k:=fun e=>hb2 e ⟨hx,hy⟩
   refine X0 c2 (X1 _) ?_;simp(disch:=omega)only[Q4,w1,↓Xd,wG,seval];exact next (i+1) _ (by omega) (by omega) (ZS (by simp[Q4,Xm,I]) rfl)
  ·rw[Y_ hy]at c2
   refine X0 c2 (X1 _) ?_;simp(disch:=omega)only[↓Xd,wG,seval];exact Xp (v:=.bool false) rfl rfl (X5 _) rfl
 ·rw[Y_ hx]at c1
  refine X0 c1 (X1 _) ?_;simp(disch:=omega)only[↓Xd,wG,seval];exact Xp (v:=.bool false) rfl rfl (X5 _) rfl
theorem O5 (l:List RV)(hs:tK l)(hl:l.length<1000000)(k:Nat)(hk:k<l.length)(hb:¬ (l.getD k Kn).ok):Fn Tryz.prog 71 [AE l] (.bool false):=by
 have c:=Tc l hs hl k hk hb;refine y_ (fn:=Tryz.f71) Tryz.call71 Tryz.func71 rfl mixed 6 [] [] [] (by kernel_rfl) (L' rfl) (fun a ha=>a_.1 ha▸JD l) (Xk ?_);by_cases h1:l.length<3
 ·have f1:((l.length:Int)<3)=True:=K_ (by omega)
  simp(disch:=omega)only[P',Q4,f1,↓Xd,wG,seval];exact Xp (v:=.bool false) rfl rfl (X5 _) rfl
 have f1:((l.length:Int)<3)=False:=Q' (by omega);by_cases h2:12<l.length
 ·have f2:((12:Int)<l.length)=True:=K_ (by omega)
  simp(disch:=omega)only[P',Q4,f1,f2,↓Xd,wG,seval];exact Xp (v:=.bool false) rfl rfl (X5 _) rfl
 have f2:((12:Int)<l.length)=False:=Q' (by omega);simp(disch:=omega)only[P',Q4,f1,f2,↓Xd,wG,seval];refine X0 c ⟨by rw[Q4];exact X' _,trivial⟩ ?_;simp(disch:=omega)only[↓Xd,wG,seval];exact Xp (v:=.bool false) rfl rfl (X5 _) rfl
theorem N4 (l:List RV)(hs:tK l)(hl:l.length<1000000)(k:Nat)(hk:k<l.length)(hb:¬ (l.getD k Kn).ok):Fn Tryz.prog 62 [AE l] (.bool false):=by
 have hs0:A_ (.ptr 1 (Xf [AE l]) 0):=XP fun j hj=>by
   obtain rfl:j=0:=by omega
   exact JD l
 have hs1:A_ (.ptr 1 (Xf [I l.length]) 0):=XP fun j hj=>by
   obtain rfl:j=0:=by omega
   exact X9 _
 refine y_ (fn:=Tryz.f62) Tryz.call62 Tryz.func62 rfl mixed 9 [17,18,19,35,36] [] [] (by kernel_rfl) (L' rfl) (fun a ha=>a_.1 ha▸JD l) (Xk ?_);by_cases h1:l.length<3
 ·have f1:((l.length:Int)<3)=True:=K_ (by omega)
  simp(disch:=omega)only[P',Q4,f1,↓Xd,wG,seval];exact Xp (v:=.bool false) rfl rfl (X5 _) rfl
 have f1:((l.length:Int)<3)=False:=Q' (by omega);by_cases h2:12<l.length
 ·have f2:((12:Int)<l.length)=True:=K_ (by omega)
  simp(disch:=omega)only[P',Q4,f1,f2,↓Xd,wG,seval];exact Xp (v:=.bool false) rfl rfl (X5 _) rfl
 have f2:((12:Int)<l.length)=False:=Q' (by omega);simp(disch:=omega)only[P',Q4,f1,f2,↓Xd,wG,seval];have b0:J9 0 (.ptr 1 (Xf [AE l]) 0)=True:=K_ (X4 hs0);have b1:J9 0 (.ptr 1 (Xf [I l.length]) 0)=True:=K_ (X4 hs1);have b2:J9 0 (AE l)=True:=K_ (X4 (JD l));refine Xi (fun i:Nat=>⟨9,[17,18,19,35,36],[.any,.ptr 1 (Xf [AE l]) 0,.bool false,.ptr 1 (Xf [I l.length]) 0,.any,.any,.any,.any,.any],[(17,AE l),(18,I l.length),(19,I i)],[]⟩) (fun i=>i≤k) (fun i=>k-i) 0 (by omega)
  ((XB 0 rfl).trans ((XB 1 rfl).trans ((XH 1 rfl rfl (by omega)).trans ((XH 3 rfl rfl (by omega)).trans (XD (m:=0) (p_ _) rfl (by simp[AS.put,Q4,Xm,I]) (by simp[AS.put,Q4,Xu,XJ,I]) rfl (by simp[b0,b1,XK]) (by simp[b2,XK]) (by simp)))))) ?_
 intro i hi next
 have w1:=wj i (by omega);have f3:(i<l.length)=True:=K_ (by omega);have v1:=yN l i;obtain⟨h1,h2⟩:=hs i;have c1:=FE (l.getD i Kn).x h1;have c2:=FE (l.getD i Kn).y h2;have hb2:i=k→¬ (l.getD i Kn).ok:=fun e=>e▸hb
 generalize l.getD i Kn=v at *;unfold RV.ok at hb2;refine Xk ?_;simp(disch:=omega)only[Q4,w1,f3,v1,↓Xd,wG,seval];by_cases hx:v.x.ok
 ·rw[Y' hx]at c1
  refine X0 c1 (X1 _) ?_;simp(disch:=omega)only[Q4,w1,f3,v1,↓Xd,wG,seval];by_cases hy:v.y.ok
  ·rw[Y' hy]at c2
   have hik:i≠k:=fun e=>hb2 e ⟨hx,hy⟩
   refine X0 c2 (X1 _) ?_;simp(disch:=omega)only[Q4,w1,↓Xd,wG,seval];exact next (i+1) _ (by omega) (by omega) (XD (m:=0) (p_ _) rfl (by simp[Q4,Xm,I]) (by simp[Q4,Xu,XJ,I]) rfl (by simp[b0,b1,XK]) (by simp[b2,XK]) (by simp))
  ·rw[Y_ hy]at c2
   refine X0 c2 (X1 _) ?_;simp(disch:=omega)only[↓Xd,wG,seval];exact Xp (v:=.bool false) rfl rfl (X5 _) rfl
 ·rw[Y_ hx]at c1
  refine X0 c1 (X1 _) ?_;simp(disch:=omega)only[↓Xd,wG,seval];exact Xp (v:=.bool false) rfl rfl (X5 _) rfl
theorem cW (l:List RV)(f r:Rat)(hs:tK l)(hl:l.length<1000000)(k:Nat)(hk:k<l.length)(hb:¬ (l.getD k Kn).ok):Fn Tryz.prog 45 [AE l,qA f,qA r] (O0 []):=by
 have c:=N4 l hs hl k hk hb;refine Fq Tryz.call45 Tryz.func45 16 [27,28,29,37,38,39] [] [] (by simp[JD,Xa]) (Xk ?_);simp(disch:=omega)only[P',Q4,qA,qC,↓Xd,wG,seval];refine X0 c ⟨by rw[Q4];exact X' _,trivial⟩ ?_;simp(disch:=omega)only[↓Xd,wG,seval];exact A9 rfl (Xw (AF []) (NC gC 32 gZ _ _))
theorem Hz {α:Type}(e:α→List AV)(s:Nat)(d:α)(l:List α)(k:Nat)(x:α)(he:(e x).length=s) (hs:0<s) (hk:k<l.length):CE (Xv e s d l) (k*s) (e x)=Xv e s d (l.set k x):=funext fun j=>by
 rw[ZH];have hd:=Nat.div_add_mod j s;have hm:=z_ j hs;show(if k*s≤j∧j<k*s+(e x).length then(e x).getD (j-k*s) .any else(e (l.getD (j/s) d)).getD (j%s) .any)=(e ((l.set k x).getD (j/s) d)).getD (j%s) .any;rw[he];by_cases h:j/s=k
 ·have h1:j=k*s+j%s:=by rw[←h,ZA4];omega
  have e1:(l.set k x).getD (j/s) d=x:=by rw[h,K',U' hk];rfl
  rw[N_ ⟨by omega,by omega⟩,e1];congr 1;omega
 ·rw[M_,K' (l:=l.set k x),L_ (v_ h),←K']
  rintro⟨h1,h2⟩;refine h (Nat.div_eq_of_lt_le ?_ ?_)
  ·exact h1
  ·rw[Nat.succ_mul];exact h2
theorem tL (L:List V2):Xv D4 8 Kn (L.map RV.of)=Xv vC 8 v0 L:=funext fun j=>by
 have e:(L.map RV.of).getD (j/8) Kn=RV.of (L.getD (j/8) v0):=by
  rw[K',ZAi,K'];cases L[j/8]? <;> rfl
 show(D4 ((L.map RV.of).getD (j/8) Kn)).getD (j%8) .any=_;rw[e];rfl
theorem Cx {H:List AO}{id ver n N:Nat}{f:Nat→AV}(l:List RV)(ho:H[id]?=some (.row ver N f)) (hN:N=l.length*8) (hn:n=l.length) (hf:∀j,j<N→B_ (f j) (Xv D4 8 Kn l j)):Zs H (.osl id ver 8 0 n) (AE l):=by
 subst hn hN;rw[Q4];refine Kc (.inl ho) (by omega) (fun h=>by rw[h]) fun j hj=>?_
 rw[x_];exact Xw (Xe (IY _) _) (hf j (by omega))
theorem Np {α:Type}(e:α→List AV)(s:Nat)(d:α)(l:List α)(k j:Nat)(hs:0<s):Xv e s d l (k*s+j)=Xv e s d (l.drop k) j:=by
 have h:l.getD (k+j/s) d=(l.drop k).getD (j/s) d:=by
  rw[K',K',ZBi]
 show(e (l.getD ((k*s+j)/s) d)).getD ((k*s+j)%s) .any=(e ((l.drop k).getD (j/s) d)).getD (j%s) .any;rw[ZA4 k s,Nat.mul_add_div hs,Nat.mul_add_mod,h]
theorem Nq {α:Type}(e:α→List AV)(s:Nat)(d:α)(l m:List α)(j:Nat)(hs:0<s)(hj:j<l.length*s):Xv e s d (l ++ m) j=Xv e s d l j:=by
 have h:j/s<l.length:=Nat.div_lt_of_lt_mul (by rw[ZA4];exact hj);have g:(l ++ m).getD (j/s) d=l.getD (j/s) d:=by
  rw[K',S_ h,←K']
 show(e ((l ++ m).getD (j/s) d)).getD (j%s) .any=(e (l.getD (j/s) d)).getD (j%s) .any;rw[g]
theorem LD {α:Type}(e:α→List AV)(s:Nat)(d:α)(l m:List α)(f g:Nat→AV)(hs:0<s)(hf:∀ j,j<l.length*s→f j=Xv e s d l j)(hg:∀ j,j<m.length*s→g j=Xv e s d m j)(N K:Nat)(hN:N=l.length*s)(hK:K=m.length*s)(j:Nat)(hj:j<(l ++ m).length*s):Q1 N f K g j=Xv e s d (l ++ m) j:=by
 subst hN hK;rw[f_,Nat.add_mul]at hj;unfold Q1;by_cases h:j<l.length*s
 ·rw[N_ h,hf j h,Nq e s d l m j hs h]
 ·rw[M_ h,N_ (by omega),hg _ (by omega)]
  have:=Np e s d (l ++ m) l.length (j-l.length*s) hs;rw[show l.length*s+(j-l.length*s)=j by omega,List.drop_left]at this;exact this.symm
def Li (L:List V2)(how by':Int):List RV :=
 if L.length=0 then [RV.of (pI (by'.tmod 9) 1)]else
 if XA how 7=0 then(L.map RV.of).take (XA by' L.length).toNat ++ (L.map RV.of).drop ((XA by' L.length).toNat+1)
 else if XA how 7=1 then(L.map RV.of).set (XA by' L.length).toNat (RV.of (pI (XA by' 17-8) (XA (by'.tdiv 17) 17-8)))
 else if XA how 7=2 then(L.map RV.of).set (XA by' L.length).toNat ((L.map RV.of).getD (XA (by'.tdiv 16) L.length).toNat Kn)
 else if XA how 7=3 then(L.map RV.of).set (XA by' L.length).toNat (RV.of (Gl (L.getD (XA by' L.length).toNat v0) (Ze L (XA by' L.length).toNat)))
 else if XA how 7=4 then(ZAD L.length).map fun j=>(L.map RV.of).getD (L.length-1-j) Kn
 else if XA how 7=5 then(L.map RV.of).set (XA by' L.length).toNat ⟨⟨((L.map RV.of).getD (XA by' L.length).toNat Kn).x.pn,((L.map RV.of).getD (XA by' L.length).toNat Kn).x.pd,false,[1]⟩,((L.map RV.of).getD (XA by' L.length).toNat Kn).y⟩
 else(L.map RV.of).take (XA by' L.length).toNat ++ [RV.of (Gl (L.getD (XA by' L.length).toNat v0) (Ze L (XA by' L.length).toNat))] ++ (L.map RV.of).drop (XA by' L.length).toNat
theorem nl (v:V2):∀j,j<8→((vC v).getD j .any).one=true:=fun j hj=>by
 match j,hj with
 |0,_ |1,_ |2,_ |3,_ |4,_ |5,_ |6,_ |7,_=>rfl
 |j+8,h=>omega
theorem HM {a b:AV}(h:a=b):B_ a b:=h▸X' _
theorem rg (M:List RV)(k:Nat)(hk:k<M.length)(a b c d:AV)(w:RQ)(h0:B_ a (.bool w.pn)) (h1:B_ b (X8 w.pd)) (h2:B_ c (.bool w.qn)) (h3:B_ d (X8 w.qd)) (j:Nat):B_ (CE (Xv D4 8 Kn M) (k*8) [a,b,c,d] j) (Xv D4 8 Kn (M.set k ⟨w,(M.getD k Kn).y⟩) j):=by
 rw[←Hz D4 8 Kn M k ⟨w,(M.getD k Kn).y⟩ rfl (by omega) hk,ZH,ZH];show B_ (if k*8≤j∧j<k*8+4 then([a,b,c,d]:List AV).getD (j-k*8) .any else Xv D4 8 Kn M j) (if k*8≤j∧j<k*8+8 then(D4 ⟨w,(M.getD k Kn).y⟩).getD (j-k*8) .any else Xv D4 8 Kn M j);by_cases h:k*8≤j∧j<k*8+8
 ·rw[N_ h]
  obtain⟨i,rfl⟩:∃i,j=k*8+i:=⟨j-k*8,by omega⟩
  rw[ZAr,JE D4 8 Kn M k i (by omega)];have hi:i<8:=by omega
  match i,hi with
  |0,_=>rw[N_ ⟨by omega,by omega⟩];exact h0
  |1,_=>rw[N_ ⟨by omega,by omega⟩];exact h1
  |2,_=>rw[N_ ⟨by omega,by omega⟩];exact h2
  |3,_=>rw[N_ ⟨by omega,by omega⟩];exact h3
  |4,_ |5,_ |6,_ |7,_=>rw[M_ (by omega)];exact X' _
  |i+8,h=>omega
 ·rw[M_ h,M_ (by omega)];exact X' _
def EP (M:List RV)(i:Nat):List RV:=(ZAD M.length).map fun j=>if j<i then M.getD (M.length-1-j) Kn else M.getD j Kn
theorem Rr (M:List RV)(i:Nat){j:Nat}(hj:j<M.length):(EP M i).getD j Kn=if j<i then M.getD (M.length-1-j) Kn else M.getD j Kn:=by
 unfold EP;rw[K',ZAi,List.getElem?_range hj];rfl
theorem eX (M:List RV)(i:Nat)(hi:i<M.length):(EP M i).set i (M.getD (M.length-1-i) Kn)=EP M (i+1):=Fl Kn (by simp[EP]) fun j hj=>by
 have hj:j<M.length:=by simpa [EP]using hj
 rw[Rr M (i+1) hj,K'];by_cases h:i=j
 ·subst h
  rw[U' (by simpa [EP]using hj),N_ (by omega)];rfl
 ·rw[L_ h,←K',Rr M i hj]
  by_cases h2:j<i
  ·rw[N_ h2,N_ (by omega)]
  ·rw[M_ h2,M_ (by omega)]
theorem OI {n:Int}(h:ZO n):IntKind.i64.wrap n=n:=by
 unfold ZO at h;rw[M'];omega
theorem fJ (L:List V2)(how by':Int)(h:Qw L 7)(hl:L.length≤12)(hw:ZO how)(hb:ZO by')(h0:L.length≠0):Fn Tryz.prog 14 [Qm L,I how,I by'] (AE (Li L how by')):=by
 obtain⟨R,hR⟩:∃R,R=Li L how by':=⟨_,rfl⟩
 rw[←hR];unfold Li at hR;rw[M_ h0]at hR;have hlen:(L.length:Int)≠0:=by omega
 have c1:=K2 by' L.length hb hlen;have c2:=K2 how 7 hw (by omega);have TEk:=SW hb (m:=16) (by omega);have TEl:=SW hb (m:=17) (by omega);have x1:=OI TEk;have x2:=OI TEl;have c3:=K2 by' 17 hb (by omega);have c4:=K2 (by'.tdiv 17) 17 TEl (by omega);have c5:=K2 (by'.tdiv 16) L.length TEk hlen;obtain⟨k1,k2⟩:=Qf by' L.length (by omega);obtain⟨m1,m2⟩:=Qf how 7 (by omega);obtain⟨a1,a2⟩:=Qf by' 17 (by omega);obtain⟨b1,b2⟩:=Qf (by'.tdiv 17) 17 (by omega);obtain⟨d1,d2⟩:=Qf (by'.tdiv 16) L.length (by omega);have c6:=Kq (XA by' 17-8) (XA (by'.tdiv 17) 17-8) ⟨by omega,by omega⟩ ⟨by omega,by omega⟩;generalize XA by' L.length=kI at *;generalize XA how 7=m at *;generalize XA by' 17=p at *;generalize XA (by'.tdiv 17) 17=q at *;generalize XA (by'.tdiv 16) L.length=dI at *;obtain⟨k,rfl⟩:=ZBB k1;obtain⟨d,rfl⟩:=ZBB d1;rw[T_,T_]at hR;have hk:k<L.length:=by omega
 have hd:d<L.length:=by omega
 have wk:=wj k (by omega);have wd:=wj d (by omega);have hkt:(k<L.length)=True:=K_ hk;have hdt:(d<L.length)=True:=K_ hd;have g1:=Ft L k (by omega) hk;have h1:=h k;have h2:=h ((k+1)%L.length);have g2:=dN (L.getD k v0) (L.getD ((k+1)%L.length) v0) (by omega) (by omega);rw[show L.getD ((k+1)%L.length) v0=Ze L k from rfl]at g1 g2;have lk0:=Kg vC 8 v0 L k (by omega);have lk1:=JE vC 8 v0 L k;obtain⟨M,hM⟩:∃M,M=L.map RV.of:=⟨_,rfl⟩
 have hMl:M.length=L.length:=by rw[hM,ZBp]
 have dV:Xv vC 8 v0 L=Xv D4 8 Kn M:=by rw[hM,tL]
 rw[←hM]at hR;have one:∀j,(Xv vC 8 v0 L j).one=true:=fun j=>nl _ _ (z_ _ (by omega))
 have n1:((k:Int)-0).toNat=k:=by omega
 have n2:((L.length:Int)-((k+1:Nat):Int)).toNat=L.length-(k+1):=by omega
 have n3:((L.length:Int)-(k:Int)).toNat=L.length-k:=by omega
 refine Fq Tryz.call14 Tryz.func14 10 [27] [8,14,15005] [] (by simp[Xq,X9]) (XF 17 ?_);have f0:((L.length:Int)=0)=False:=Q' hlen;have f1:(L.length=0)=False:=Q' h0;have dF:∀j,j<L.length*8→Q1 0 (Xf []) (L.length*8) (Xv vC 8 v0 L) j=Xv D4 8 Kn M j:=fun j hj=>by
  unfold Q1;rw[M_ (by omega),N_ (by omega),ZC0,dV]
 have dM:∀j,(Xv D4 8 Kn M j).one=true:=fun j=>by rw[←dV];exact one j
 simp(disch:=omega)only[P',X7,f0,f1,↓Xd,wG,seval];refine⟨fun j hj=>one j,?_⟩;refine e_ ?_ (Qh 0 (Xv D4 8 Kn M) rfl fun j hj c' v' _ _ hv=>by rw[dF j hj]at hv;exact hv);refine Xk ?_;simp(disch:=omega)only[X7,f0,f1,ZAl,↓Xd,wG,seval];refine X0 c1 (X1 _) ?_;simp(disch:=omega)only[↓Xd,wG,seval];refine X0 c2 (X1 _) ?_;have hm:m=0∨m=1∨m=2∨m=3∨m=4∨m=5∨m=6:=by omega
 rcases hm with rfl |rfl |rfl |rfl |rfl |rfl |rfl
 ·rw[N_ rfl]at hR
  simp(disch:=omega)only[wk,hkt,n1,n2,ZAl,↓Xd,wG,seval];refine⟨fun j hj=>dM _,?_⟩;refine A9 rfl ?_;rw[hR];refine Cx _ rfl (by rw[f_,o_,ZAH,hMl];congr 1;omega) (by rw[f_,o_,ZAH,hMl];omega) fun j hj=>HM (LD D4 8 Kn _ _ _ _ (by omega) (fun j hj=>?_) (fun j hj=>Np D4 8 Kn M (k+1) j (by omega)) _ _ (by rw[o_,hMl];congr 1;omega) (by rw[ZAH,hMl]) j (by rw[f_,o_,ZAH,hMl];omega))
  have:=Nq D4 8 Kn (M.take k) (M.drop k) j (by omega) hj;rwa[ZDg]at this
 ·rw[M_ (by omega),N_ rfl]at hR
  simp(disch:=omega)only[wk,hkt,ZAl,↓Xd,wG,seval];refine X0 c3 (X1 _) ?_;simp(disch:=omega)only[x2,ZAl,↓Xd,wG,seval];refine X0 c4 (X1 _) ?_;simp(disch:=omega)only[hkt,ZAl,↓Xd,wG,seval];refine X0 c6 (X1 _) ?_;simp(disch:=omega)only[vA,vC,hkt,ZAl,↓Xd,wG,seval];exact A9 rfl (by rw[hR];exact Cx _ rfl (by rw[V_,hMl]) (by rw[V_,hMl]) fun j hj=>HM (congrFun (Hz D4 8 Kn M k (RV.of (pI (p-8) (q-8))) rfl (by omega) (by omega)) j))
 ·rw[M_ (by omega),M_ (by omega),N_ rfl]at hR
  simp(disch:=omega)only[wk,x1,hkt,ZAl,↓Xd,wG,seval];refine X0 c5 (X1 _) ?_;have rd:=yN M d;simp(disch:=omega)only[hkt,hdt,rd,ZAl,↓Xd,wG,seval];exact A9 rfl (by rw[hR];exact Cx _ rfl (by rw[V_,hMl]) (by rw[V_,hMl]) fun j hj=>HM (congrFun (Hz D4 8 Kn M k (M.getD d Kn) rfl (by omega) (by omega)) j))
 ·rw[M_ (by omega),M_ (by omega),M_ (by omega),N_ rfl]at hR
  simp(disch:=omega)only[wk,hkt,ZAl,↓Xd,wG,seval];refine X0 g1 ⟨by rw[X7];exact X' _,X' _,trivial⟩ ?_;simp(disch:=omega)only[vA,vC,lk0,lk1,hkt,ZAl,↓Xd,wG,seval];refine X0 g2 (X1 _) ?_;simp(disch:=omega)only[vA,vC,hkt,ZAl,↓Xd,wG,seval];exact A9 rfl (by rw[hR];exact Cx _ rfl (by rw[V_,hMl]) (by rw[V_,hMl]) fun j hj=>HM (congrFun (Hz D4 8 Kn M k (RV.of (Gl (L.getD k v0) (Ze L k))) rfl (by omega) (by omega)) j))
 ·rw[M_ (by omega),M_ (by omega),M_ (by omega),M_ (by omega),N_ rfl]at hR
  simp(disch:=omega)only[wk,ZAl,↓Xd,wG,seval];have hr0:EP M 0=M:=Fl Kn (by simp[EP]) fun j hj=>by
   rw[Rr M 0 (by simpa [EP]using hj),M_ (by omega)]
  refine Xi (fun i:Nat=>⟨10,[27],[Qm L,.any,.any,.any,.any,.any,.any,.osl 0 0 8 0 L.length,.any,I i],[],[.row 0 (L.length*8) (Xv D4 8 Kn (EP M i))]⟩) (fun i=>i≤L.length) (fun i=>L.length-i) 0 (by omega)
   (ZS (by simp[Xm,I,X7]) (by rw[hr0])) ?_
  intro i hi next
  have w1:=wj i (by omega);by_cases hi2:i<L.length
  rotate_left
  ·obtain rfl:i=L.length:=by omega
   refine Xk ?_;simp(disch:=omega)only[X7,↓Xd,wG,seval];have hrn:EP M L.length=(ZAD L.length).map fun j=>M.getD (L.length-1-j) Kn:=by
    unfold EP;rw[hMl];exact ZAL fun j hj=>by rw[N_ (ZBc.1 hj)]
   exact A9 rfl (by rw[hR,←hrn];exact Cx _ rfl (by simp[EP,hMl]) (by simp[EP,hMl]) fun j hj=>X' _)
  ·have nx:=next (i+1)
   have f2:(i<L.length)=True:=K_ hi2;obtain⟨x,hx⟩:∃x,x=L.length-1-i:=⟨_,rfl⟩
   have e1:(L.length:Int)-1-i=(x:Int):=by omega
   have f3:(x<L.length)=True:=K_ (by omega);have lq0:=Kg vC 8 v0 L x (by omega);have lq1:=JE vC 8 v0 L x;refine Xk ?_;simp(disch:=omega)only[X7,w1,f2,f3,e1,lq0,lq1,vC,↓Xd,wG,seval];refine nx _ (by omega) (by omega) (Xh rfl (by simp[Xm,I,X7]) (by simp[Xu]) ?_);have hv:M.getD x Kn=RV.of (L.getD x v0):=by
    rw[hM,K',ZAi,K'];cases L[x]? <;> rfl
   have hs:=Hz D4 8 Kn (EP M i) i (RV.of (L.getD x v0)) rfl (by omega) (by simp[EP,hMl];exact hi2);rw[←eX M i (by omega),hMl,←hx,hv,←hs];rfl
 ·rw[M_ (by omega),M_ (by omega),M_ (by omega),M_ (by omega),M_ (by omega),N_ rfl]at hR
  have rd:=yN M k;simp(disch:=omega)only[wk,hkt,rd,Bool.and_self,ZAl,↓Xd,wG,seval];refine A9 rfl ?_;rw[hR];have w3:B_ (.sl 1 1 (Xf [I 1]) false) (X8 [1]):=Us rfl (N' _) fun j hj=>by
   have h1:j<1:=hj;obtain rfl:j=0:=by omega
   rfl
  exact Cx _ rfl (by rw[V_,hMl]) (by rw[V_,hMl]) fun j hj=>rg M k (by omega) (.bool (M.getD k Kn).x.pn) (X8 (M.getD k Kn).x.pd) (.bool false) (.sl 1 1 (Xf [I 1]) false) ⟨(M.getD k Kn).x.pn,(M.getD k Kn).x.pd,false,[1]⟩ (X' _) (X' _) (X' _) w3 j
 ·rw[M_ (by omega),M_ (by omega),M_ (by omega),M_ (by omega),M_ (by omega),M_ (by omega)]at hR
  simp(disch:=omega)only[wk,hkt,n1,n3,ZAl,↓Xd,wG,seval];refine⟨fun j hj=>one _,?_⟩;refine X0 g1 ⟨by rw[X7];exact X' _,X' _,trivial⟩ ?_;simp(disch:=omega)only[vA,vC,lk0,lk1,hkt,n1,n3,ZAl,↓Xd,wG,seval];refine X0 g2 (X1 _) ?_;simp(disch:=omega)only[vA,vC,hkt,n1,n3,ZAl,↓Xd,wG,seval];refine⟨fun j hj=>nl (Gl (L.getD k v0) (Ze L k)) j hj,fun j hj=>one _,?_⟩;have tk:∀j,j<(M.take k).length*8→Xv D4 8 Kn M j=Xv D4 8 Kn (M.take k) j:=fun j hj=>by
   have:=Nq D4 8 Kn (M.take k) (M.drop k) j (by omega) hj;rwa[ZDg]at this
  have lt:(M.take k).length=k:=by rw[o_,hMl];omega
  have ld:(M.drop k).length=L.length-k:=by rw[ZAH,hMl]
  have l1:(M.take k ++ [RV.of (Gl (L.getD k v0) (Ze L k))]).length=k+1:=by rw[f_,lt];rfl
  have l2:(M.take k ++ [RV.of (Gl (L.getD k v0) (Ze L k))] ++ M.drop k).length=k+1+(L.length-k):=by rw[f_,l1,ld]
  have i0:∀j,j<(M.take k).length*8→Q1 0 (Xf []) (k*8) (fun j=>Xv vC 8 v0 L j) j=Xv D4 8 Kn (M.take k) j:=fun j hj=>by
   rw[←tk j hj,←dV];rw[lt]at hj;unfold Q1;rw[M_ (by omega),N_ (by omega),ZC0]
  refine A9 rfl ?_;rw[hR];refine Cx _ rfl (by rw[l2]) (by rw[l2]) fun j hj=>HM (LD D4 8 Kn _ _ _ _ (by omega) (fun j hj=>?_) (fun j hj=>by rw[dV];exact Np D4 8 Kn M k j (by omega)) _ _ (by rw[l1]) (by rw[ld]) j (by rw[l2];exact hj))
  exact LD D4 8 Kn (M.take k) [RV.of (Gl (L.getD k v0) (Ze L k))] _ _ (by omega) i0 (fun j hj=>by
   have h8:j<8:=by simpa using hj
   have:=JE D4 8 Kn [RV.of (Gl (L.getD k v0) (Ze L k))] 0 j h8;rw[ZAo,x_]at this;rw[this];rfl) _ _ (by rw[lt]) rfl j hj
theorem AG {W:List V2}{k:Nat}(h:∀ v∈W,vb v≤k)(hk:2≤k):Qw W k:=fun i=>by
 by_cases hi:i<W.length
 ·exact h _ (Q9 v0 hi)
 ·rw[K',j_ (by omega)]
  exact k_ (show vb v0≤2 by decide +kernel) (by omega)
theorem qH {a b:V2}{c:Nat}(ha:vb a≤c)(hb:vb b≤c):vb (Gl a b)≤2*c+4:=by
 have h1:=Z8 a b;have h3:=Fz 1 2 (by omega) (by omega);have h4:=F0 (a.add b) (O_ 1 2);unfold Gl;omega
theorem mM (L:List V2)(how by':Int)(c:Nat)(h:Qw L c)(h0:L.length≠0)(hm:XA how 7≠5):∃W:List V2,Li L how by'=W.map RV.of∧Qw W (2*c+4)∧W.length≤L.length+1:=by
 have hn:(0:Int)<L.length:=by omega
 have bk:=Qf by' L.length hn;have bd:=Qf (by'.tdiv 16) L.length hn;have a1:=Qf by' 17 (by omega);have a2:=Qf (by'.tdiv 17) 17 (by omega);have hg:∀i,i<L.length→(L.map RV.of).getD i Kn=RV.of (L.getD i v0):=fun i hi=>by
  rw[K',ZAi,K'];cases L[i]? <;> rfl
 have hL:∀v∈L,vb v≤2*c+4:=fun v hv=>by
  obtain⟨i,hi,rfl⟩:=ZAI hv;have:=h i;rw[K',U_ hi]at this;exact k_ this (by omega)
 have TAG:∀ (k:Nat) (x:V2),vb x≤2*c+4→∀v∈L.set k x,vb v≤2*c+4:=fun k x hx v hv=>by
  rcases ZAN hv with hv |hv
  ·exact hL v hv
  ·rw[hv];exact hx
 have TBO:=qH (h (XA by' L.length).toNat) (h (((XA by' L.length).toNat+1)%L.length));rw[show L.getD (((XA by' L.length).toNat+1)%L.length) v0=Ze L (XA by' L.length).toNat from rfl]at TBO;have hd:=hg (XA (by'.tdiv 16) L.length).toNat (by omega);have hdb:=h (XA (by'.tdiv 16) L.length).toNat;unfold Li;rw[M_ h0];have hlk:(XA by' L.length).toNat<L.length:=by omega
 generalize (XA by' L.length).toNat=k at *;generalize (XA (by'.tdiv 16) L.length).toNat=d at *
 split
 ·exact⟨L.take k ++ L.drop (k+1),by simp,AG (fun v hv=>by
   rcases m_.1 hv with hv |hv
   ·exact hL v (ZDs hv)
   ·exact hL v (ZDv hv)) (by omega),by simp;omega⟩
 split
 ·refine⟨L.set k (pI (XA by' 17-8) (XA (by'.tdiv 17) 17-8)),by rw[ZDY],AG (TAG k _ (k_ (Ea _ _ (by omega) (by omega)) (by omega))) (by omega),by simp⟩
 split
 ·exact⟨L.set k (L.getD d v0),by rw[ZDY,hd],AG (TAG k _ (by omega)) (by omega),by simp⟩
 split
 ·exact⟨L.set k (Gl (L.getD k v0) (Ze L k)),by rw[ZDY],AG (TAG k _ TBO) (by omega),by simp⟩
 split
 ·refine⟨(ZAD L.length).map fun j=>L.getD (L.length-1-j) v0,?_,AG (fun v hv=>?_) (by omega),by simp⟩
  ·rw[List.map_map]
   exact ZAL fun j hj=>hg _ (by have:=ZBc.1 hj;omega)
  ·obtain⟨j,hj,rfl⟩:=ZA3.1 hv
   exact k_ (h _) (by omega)
 exact⟨L.take k ++ [Gl (L.getD k v0) (Ze L k)] ++ L.drop k,by simp,AG (fun v hv=>by
  rcases m_.1 hv with hv |hv
  ·rcases m_.1 hv with hv |hv
   ·exact hL v (ZDs hv)
   ·rw[a_.1 hv];exact TBO
  ·exact hL v (ZDv hv)) (by omega),by simp;omega⟩
theorem WL (r:Rat):¬ (RQ.mk (RQ.of r).pn (RQ.of r).pd false [1]).ok:=by
 rw[RQ.TCB _ r.num 1 rfl rfl (by simp) (show [(1:Int)]=Xb 1 by decide +kernel)];rintro⟨_,h,_⟩;exact h rfl
theorem mN (L:List V2)(how by':Int)(h:Qw L 7)(h0:L.length≠0)(hm:XA how 7=5):(Li L how by').length=L.length∧tK (Li L how by')∧∃k,k<(Li L how by').length∧¬ ((Li L how by').getD k Kn).ok:=by
 have hn:(0:Int)<L.length:=by omega
 have bk:=Qf by' L.length hn;have hg:∀i,(L.map RV.of).getD i Kn=RV.of (L.getD i v0):=fun i=>by
  rw[K',ZAi,K'];cases L[i]? <;> rfl
 unfold Li;rw[M_ h0,M_ (by omega),M_ (by omega),M_ (by omega),M_ (by omega),M_ (by omega),N_ hm];have hlk:(XA by' L.length).toNat<L.length:=by omega
 generalize (XA by' L.length).toNat=k at *;rw[hg];have hs:∀v:V2,vb v≤7→(RV.of v).x.sz<1000000000∧(RV.of v).y.sz<1000000000:=fun v hv=>by
  have h1:=RQ.TBV v.x;have h2:=RQ.TBV v.y;have h3:=Jk v;have h4:=Jc v;exact⟨by show(RQ.of v.x).sz<_;omega,by show(RQ.of v.y).sz<_;omega⟩
 refine⟨by simp,fun i=>?_,k,by simpa using hlk,?_⟩
 ·rw[K']
  by_cases e:k=i
  ·subst e
   rw[U' (by simpa using hlk)];have:=hs _ (h k);refine⟨?_,this.2⟩;have h1:=this.1;unfold RQ.sz at h1 ⊢;show max (RQ.of (L.getD k v0).x).pd.length ([1]:List Int).length<_;have h2:max (RQ.of (L.getD k v0).x).pd.length (RQ.of (L.getD k v0).x).qd.length<1000000000:=h1;simp only[List.length_singleton];omega
  ·rw[L_ e,←K',hg]
   exact hs _ (h i)
 ·rw[K',U' (by simpa using hlk)]
  intro ho;exact WL _ ho.1
theorem ai (x:Rat):0≤x*x:=by
 rcases Rat.le_total (a:=0) (b:=x)with h |h
 ·exact zY h h
 ·have:=zY (show 0≤-x by grind) (show 0≤-x by grind)
  grind
theorem qQ (a d:V2)(t:Rat)(h0:0≤t)(h1:t≤1):lH a (a.add d) (a.add (d.scale t))=true:=by
 unfold lH;rw[decide_eq_true_eq];have h2:=zY h0 (show 0≤1-t by grind);have h3:=zY h2 (ai d.x);have h4:=zY h2 (ai d.y);unfold Xr Qb V2.sub V2.add V2.scale;simp only;constructor <;> grind
theorem yY (a D b n:V2)(hn:n=⟨-D.y,D.x⟩)(h0:Qb D D≠0)(m:Rat):Rb (a.add (D.scale m)) n b=b.add (D.scale (m-JP a D b)):=by
 have hN:Qb n n=Qb D D:=by rw[hn];unfold Qb;grind
 have hi:Qb D D*(Qb D D)⁻¹=1:=ZCK _ h0;unfold Rb JP;rw[hN,ZAS,ZAS];generalize (Qb D D)⁻¹=i at *;subst hn;unfold Qb at hi;unfold Qb V2.add V2.sub V2.scale;simp only[V2.mk.injEq];constructor <;> grind
theorem kK {x:Rat}(h:0<x):0≤x⁻¹:=ZAy (Rat.inv_pos.2 h)
theorem SZ {s t m:Rat}(h:t<s)(h1:t≤m)(h2:m≤s):∃l:Rat,0≤l∧l≤1∧m-s=(t-s)*l:=by
 have hp:0<s-t:=by grind
 have hi:=kK hp;have e:(s-t)*(s-t)⁻¹=1:=ZCK _ (by grind);have n1:=zY (show 0≤s-m by grind) hi;have n2:=zY (show 0≤m-t by grind) hi;generalize (s-t)⁻¹=i at *;exact⟨(s-m)*i,n1,by grind,by grind⟩
theorem OU (b E:V2)(l:Rat)(e:V2)(h0:0≤l)(h1:l≤1)(he:e=b.add E):lH b e (b.add (E.scale l))=true:=by
 subst he;exact qQ b E l h0 h1
theorem qV {a a' b b':V2}(h:Ig (FN b b') (FN a a')):Qb (a'.sub a) (a'.sub a)≠0∧b'.sub b=(a'.sub a).scale (JP a (a'.sub a) b'-JP a (a'.sub a) b)∧JP a (a'.sub a) b'<JP a (a'.sub a) b:=by
 obtain⟨h1,h2⟩:=h;obtain⟨D,hD⟩:∃D,D=a'.sub a:=⟨_,rfl⟩
 obtain⟨E,hE⟩:∃E,E=b'.sub b:=⟨_,rfl⟩
 have c1:E.x*D.y-E.y*D.x=0:=by
  rw[hD,hE];unfold Xr FN at h1;unfold V2.sub;simp only at *;grind
 have c2:E.x*D.x+E.y*D.y<0:=by
  rw[hD,hE];unfold Qb FN at h2;unfold V2.sub;simp only at *;grind
 rw[←hD];have n1:=ai D.x;have n2:=ai D.y;have h0:Qb D D≠0:=fun e=>by
  unfold Qb at e;obtain⟨e1,e2⟩:=yO e;rw[e1,e2]at c2;grind
 have hp:0<Qb D D:=by
  have:0≤Qb D D:=by unfold Qb;grind
  grind
 have hi:Qb D D*(Qb D D)⁻¹=1:=ZCK _ h0;have hip:0<(Qb D D)⁻¹:=Rat.inv_pos.2 hp;have hs:JP a D b'-JP a D b=(E.x*D.x+E.y*D.y)*(Qb D D)⁻¹:=by
  rw[hE];unfold JP;rw[ZAS,ZAS];generalize (Qb D D)⁻¹=i at *;unfold Qb V2.sub;simp only;grind
 have TA9:=ZBG (show 0 < -(E.x*D.x+E.y*D.y)by grind) hip;refine⟨h0,?_,by grind⟩;rw[hs,←hE];generalize (Qb D D)⁻¹=i at *;unfold Qb at hi;unfold V2.scale;cases E;simp only[V2.mk.injEq]at *;constructor <;> grind
theorem cQ {a b:Sd}(ha:a.i=FN a.a a.b)(hb:b.i=FN b.a b.b){p q:V2}(h:GQ a b=some (p,q)):Ig b.i a.i∧lH a.a a.b p=true∧lH b.a b.b q=true:=by
 unfold GQ at h
 split at h
 ·rename_i ho
  split at h
  ·rename_i hlt
   have h:=ZEB h;rw[Prod.mk.injEq]at h;obtain⟨h1,h2⟩:=h;refine⟨ho.1,?_⟩;have hop:=ho.1;rw[ha,hb]at hop;obtain⟨d0,hE,hts⟩:=qV hop;unfold Gf Gg Ra at hlt h1 h2;generalize hs:JP a.a (a.b.sub a.a) b.a=s at *;generalize ht:JP a.a (a.b.sub a.a) b.b=t at *;have b1:0≤OM s t∧t≤OM s t:=by unfold OM O2;grind
   have b2:OH s t≤1∧OH s t≤s:=by unfold OH NH;grind
   generalize OM s t=lo at *;generalize OH s t=hi at *;have hh:O_ 1 2=1/2:=by decide +kernel
   obtain⟨m,hm⟩:∃m,m=(lo+hi)*O_ 1 2:=⟨_,rfl⟩
   have m1:lo≤m∧m≤hi:=by rw[hm,hh];grind
   have hp:Mu a.a (a.b.sub a.a) lo hi=a.a.add ((a.b.sub a.a).scale m):=by rw[hm];rfl
   have hab:a.b=a.a.add (a.b.sub a.a):=by
    cases a.a;cases a.b;unfold V2.add V2.sub;simp only[V2.mk.injEq];constructor <;> grind
   have hbb:b.b=b.a.add (b.b.sub b.a):=by
    cases b.a;cases b.b;unfold V2.add V2.sub;simp only[V2.mk.injEq];constructor <;> grind
   have hn:a.i=⟨-(a.b.sub a.a).y,(a.b.sub a.a).x⟩:=by
    rw[ha];unfold FN V2.sub;simp only[V2.mk.injEq];constructor <;> grind
   have hq:=yY a.a (a.b.sub a.a) b.a a.i hn d0 m;rw[hs]at hq;rw[hp]at h1 h2;obtain⟨l,l1,l2,l3⟩:=SZ hts (show t≤m by grind) (show m≤s by grind);constructor
   ·rw[←h1]
    exact OU a.a (a.b.sub a.a) m a.b (by grind) (by grind) hab
   ·rw[←h2,hq]
    have e:((a.b.sub a.a).scale (m-s))=(b.b.sub b.a).scale l:=by
     rw[hE,l3];unfold V2.scale;simp only[V2.mk.injEq];constructor <;> grind
    rw[e];exact OU b.a (b.b.sub b.a) l b.b l1 l2 hbb
  ·cases h
 ·cases h
theorem TQ (L:List V2)(f r:Rat)(i:Nat):∀k,∀g∈Zg L f r i k,∃j,i<j∧j<i+1+k∧g∈Mz L f r i j
 |0,g,hg=>by simp[Zg]at hg
 |k+1,g,hg=>by
  rcases m_.1 (show g∈Zg L f r i k ++ Mz L f r i (i+1+k)from hg)with hg |hg
  ·obtain⟨j,h1,h2,h3⟩:=TQ L f r i k g hg
   exact⟨j,h1,by omega,h3⟩
  ·exact⟨i+1+k,by omega,by omega,hg⟩
theorem SJ (L:List V2)(f r:Rat):∀n,n≤L.length→∀g∈Bb L f r n,∃i j,i<L.length∧j<L.length∧g∈Mz L f r i j
 |0,_,g,hg=>by simp[Bb]at hg
 |i+1,hn,g,hg=>by
  rcases m_.1 (show g∈Bb L f r i ++ Zg L f r i (L.length-(i+1))from hg)with hg |hg
  ·exact SJ L f r i (by omega) g hg
  ·obtain⟨j,h1,h2,h3⟩:=TQ L f r i _ g hg
   exact⟨i,j,by omega,by omega,h3⟩
theorem jN (L:List V2)(f r:Rat)(c:Nat)(h:Qw L c):∀g∈Zr L f r,FY L g=0:=by
 intro g hg;have hk:=GU L h f r g hg;unfold Zr at hg
 split at hg
 ·rename_i hp
  obtain⟨i,j,hi,hj,hgP⟩:=SJ L f r _ (N' _) g hg;unfold Mz at hgP;obtain⟨⟨p,q⟩,hx,rfl⟩:=ZA3.1 hgP;rw[Option.mem_toList]at hx;obtain⟨o1,o2,o3⟩:=cQ (a:=JL L i) (b:=JL L j) rfl rfl hx;have mem:∀i,i<L.length→JL L i∈Kf L:=fun i hi=>by
   unfold Kf B9;exact ZA3.2 ⟨i,ZBc.2 hi,rfl⟩
  unfold FY;rw[N_,N_]
  ·refine⟨ZBJ.2 ⟨_,mem i hi,?_⟩,ZBJ.2 ⟨_,mem j hj,?_⟩⟩
   ·rw[cR,w_]
    exact⟨Y' rfl,o2⟩
   ·rw[W9,w_]
    exact⟨Y' o1,o3⟩
  ·refine⟨(BI L).1 hp.1,?_⟩
   unfold Zc;rw[hk.2.2.2.2.1,hk.2.2.2.2.2,hp.2,ZBF,decide_eq_true_eq,H3];exact hk.2.2.2.1
 ·simp at hg
structure TEm (X:AV)(f r:Rat)(G:List GG):Prop where
 fg:Fn Tryz.prog 45 [X,qA f,qA r] (O0 G)
 fr:Fn Tryz.prog 47 [X,qA f,qA r] (O0 G)
 v:∀x∈G,Fn Tryz.prog 15 [X,gA x] (I 0)
 s:∀x∈G,gW x∧x.E_=r
 l:G.length<1000000
theorem mq (W:List V2)(f r:Rat)(h:Qw W 18)(hl:W.length≤13)(hf:qb f≤40)(hr:qb r≤40):TEm (Qm W) f r (Zr W f r):=by
 have hk:=GU W h f r;have hs:∀x∈Zr W f r,gW x∧x.E_=r:=fun x hx=>by
  obtain⟨k1,k2,k3,k4,k5,k6⟩:=hk x hx;exact⟨⟨by omega,by omega,by omega,by rw[k5];omega,by rw[k6];omega⟩,k6⟩
 have hln:(Zr W f r).length<1000000:=by
  unfold Zr
  split
  ·have:=Di W f r W.length
   have g3:W.length*W.length≤13*13:=ZAx (by omega) (by omega);unfold Eg;omega
  ·simp
 refine⟨MB W f r h (by omega) hl hf hr,TE W f r h (by omega) hl hf hr,fun x hx=>?_,hs,hln⟩;obtain⟨⟨a1,a2,a3,a4,a5⟩,_⟩:=hs x hx;have:=ST W x (fun i=>k_ (h i) (by omega)) (by omega) ⟨by unfold rm;omega,by unfold rm;omega,by unfold rm;omega,by unfold rm;omega,by unfold rm;omega⟩ ⟨by omega,by omega,by omega⟩;rw[jN W f r 18 h x hx]at this;exact this
end
end Go.Ab.N
