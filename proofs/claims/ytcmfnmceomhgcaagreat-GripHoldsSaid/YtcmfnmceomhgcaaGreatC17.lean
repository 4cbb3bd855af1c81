/- Contracts of functions, for every argument that fits. -/
import Derived.Test.YtcmfnmceomhgcaaGreatC16
import Derived.Test.YtcmfnmceomhgcaaGreatC14
set_option linter.unusedSimpArgs false
set_option linter.unusedVariables false
open Int renaming reduceEq→ZAC
open Rat renaming divInt→P'
namespace Go.Ab.N
open Go Go.RowKit Go.Proofs
noncomputable section
set_option maxRecDepth 10000
set_option maxHeartbeats 4000000
open Classical
theorem yR {p q P1 P2:Rat×Rat}{x:Rat}(h0:qb 0≤1500000)(hx:qb x≤1500000)(z1:qb p.1≤1356773)(z2:qb p.2≤1356773)(z3:qb q.1≤1356773)(z4:qb q.2≤1356773)(y1:qb P1.1≤1500000)(y2:qb P1.2≤1500000)(y3:qb P2.1≤1500000)(y4:qb P2.2≤1500000) :
  ∀P∈[[p,q],[P1,P2],[p],[p,q,(0,0)],[(x,x),(x,0)],[]],P.length<1000000∧∀y∈P,qb y.1≤1500000∧qb y.2≤1500000:=by
 intro P hP;simp only[b_,V_,or_false]at hP;rcases hP with rfl |rfl |rfl |rfl |rfl |rfl
 ·exact⟨by simp,by simp;omega⟩
 ·exact⟨by simp,by simp;omega⟩
 ·exact⟨by simp,by simp;omega⟩
 ·exact⟨by simp,by simp;omega⟩
 ·exact⟨by simp,by simp;omega⟩
 ·exact⟨by simp,by simp⟩
theorem Tc (l m n:List Int)(how by':Int)(h1:Eo l)(h2:Eo m)(h3:Eo n)(h4:Ap how)(h5:Ap by') :
  Fn Tryz.prog 4 [X9 l,X9 m,X9 n,I how,I by'] (.bool true):=by
 have hr:=wY l;have c1:=rF l h1;have c2:=cQ n (O8 l) h3 hr;have c3:=rW m (O8 l) h2 hr;obtain⟨sb,gb⟩:=v6 n (O8 l) hr;obtain⟨sg,gg⟩:=rX m (O8 l) hr;generalize O8 l=L at *;generalize cP n L=b at *;generalize DB m L=g0 at *;have tb:=sb.s;obtain⟨sb1,sb2,sb3,sb4⟩:=sb;obtain⟨t1,t2,t3,t4,t5⟩:=sg;have:=Ja g0.n;have:=J7 g0.n;have b0:(RG.of g0).T 1000 16:=⟨t1,t2,by show qb g0.n.x≤_;omega,by show qb g0.n.y≤_;omega,by show qb g0.force≤_;omega,by show qb g0.E_≤_;omega⟩
 have b1:=xk _ how by' _ _ b0;have c4:=WE (RG.of g0) how by' (by obtain⟨u1,u2,u3,u4,u5,u6⟩:=b0;exact⟨by omega,by omega,by omega,by omega,by omega,by omega⟩) h4 h5;rw[ud]at c4;have e0:=ud g0;generalize RG.of g0=r0 at *;generalize ga r0 how by'=g1 at *;have up:∀ {g:RG} {c d:Nat},g.T c d→c≤1400→d≤40→g.T 1400 40:=fun h h1 h2=>by obtain⟨u1,u2,u3,u4,u5,u6⟩:=h;exact⟨by omega,by omega,by omega,by omega,by omega,by omega⟩
 have hd2:=MS h5 (m:=2) (by omega);have x2:=Ip hd2;have d9:=Kq how 9 h4 (by omega);have d2:=Kq by' 2 h5 (by omega);have d3:=Kq (by'.tdiv 2) 2 hd2 (by omega);have k9:=QE how 9 (by omega);have k2:=QE by' 2 (by omega);have k3:=QE (by'.tdiv 2) 2 (by omega);generalize Qk how 9=u at *;generalize Qk by' 2=v at *;generalize Qk (by'.tdiv 2) 2=w at *;have f9:=XL (u-2) 2 ⟨by omega,by omega⟩ ⟨by omega,by omega⟩;have f3:=XL w 1 ⟨by omega,by omega⟩ ⟨by omega,by omega⟩;have q9:=Ew (u-2) 2;have q3:=Ew w 1;generalize P' (u-2) 2=x at *;generalize P' w 1=y at *;have f4:=QT b.TAD y;have qh:=KE b.TAD y;obtain⟨TCg,hb1⟩:∃bad:BB,bad={ b with TAS:=b.TAD+y }:=⟨_,rfl⟩
 obtain⟨TCh,hb2⟩:∃bad:BB,bad={ b with TAB:=0 }:=⟨_,rfl⟩
 have sb1:bS TCg:=by
  obtain⟨u1,u2,u3,u4⟩:=tb;rw[hb1];exact⟨u1,by show qb (b.TAD+y)≤40;omega,u3,u4⟩
 have sb2:bS TCh:=by
  obtain⟨u1,u2,u3,u4⟩:=tb;rw[hb2];exact⟨u1,u2,u3,by show qb 0≤40;decide +kernel⟩
 have cl:=lD;refine Fq Tryz.call4 Tryz.func4 26 [] [7,80000012,14,19,200000019,23,240000022,250000023,28] [] (by simp[Xd,X8]) (Xk ?_);apply Tj (X:=JK Tryz.prog Tryz.f4 [7,80000012,14,19,200000019,23,240000022,250000023,28] [] (.bool true)) (fun bad:BB=>bS bad) (fun bad=>⟨26,[],[.any,.any,.any,I how,I by',.any,.any,.any,.any,.any,.any,.any,.any,.any,.any,.any,.sl 4 80 (GM b bad) false,.sl 4 128 (Rm r0 g1) true,I 0,.any,.any,.any,.any,.any,.any,.any],[],[]⟩)
 case h1 =>
  intro key;simp(disch:=omega)only[AS.start,↓Xc,wG,seval];refine X0 c1 (X1 _) ?_;simp(disch:=omega)only[↓Xc,wG,seval];refine X0 c2 (X1 _) ?_;simp(disch:=omega)only[bA,Jc,↓Xc,wG,seval];refine X0 c3 (X1 _) ?_;simp(disch:=omega)only[gA,←e0,KR,Jc,↓Xc,wG,seval];rw[←e0]at c4;refine X0 c4 (X1 _) ?_;by_cases hp:by'.tmod 2=0
  ·simp(disch:=omega)only[KR,Jc,hp,x2,↓Xc,wG,seval]
   refine X0 d3 (X1 _) ?_;simp(disch:=omega)only[↓Xc,wG,seval];refine X0 f3 (X1 _) ?_;simp(disch:=omega)only[qA,qC,↓Xc,wG,seval];refine X0 f4 (X1 _) ?_;simp(disch:=omega)only[qA,qC,↓Xc,wG,seval];exact(key TCg sb1).sub (ZAZ (DC 16 (.sl 4 80 (GM b TCg) false) (by show 16<26;omega) (by rw[hb1];exact WN b { b with TAS:=b.TAD+y } true)) (XG (m:=0) (p_ _) rfl ⟨.inl rfl,.inl rfl,.inl rfl,.inr rfl,.inr rfl,.inl rfl,.inl rfl,.inl rfl,.inl rfl,.inl rfl,.inl rfl,.inl rfl,.inl rfl,.inl rfl,.inl rfl,.inl rfl,.inr rfl,.inr rfl,.inr rfl,.inl rfl,.inl rfl,.inl rfl,.inl rfl,.inl rfl,.inl rfl,.inl rfl,trivial⟩ (by simp[Xx]) rfl (by simp[XP,Mi,I5,I]) (by simp[XP])))
  ·simp(disch:=omega)only[KR,Jc,hp,x2,↓Xc,wG,seval]
   exact(key TCh sb2).sub (ZAZ (DC 16 (.sl 4 80 (GM b TCh) false) (by show 16<26;omega) (by rw[hb2];exact WO b true)) (XG (m:=0) (p_ _) rfl ⟨.inl rfl,.inl rfl,.inl rfl,.inr rfl,.inr rfl,.inl rfl,.inl rfl,.inl rfl,.inl rfl,.inl rfl,.inl rfl,.inl rfl,.inl rfl,.inl rfl,.inl rfl,.inl rfl,.inr rfl,.inr rfl,.inr rfl,.inl rfl,.inl rfl,.inl rfl,.inl rfl,.inl rfl,.inl rfl,.inl rfl,trivial⟩ (by simp[Xx]) rfl (by simp[XP,Mi,I5,I]) (by simp[XP])))
 case h2 =>
  intro bad TFn;obtain⟨K,hK⟩:∃K,K=GM b bad:=⟨_,rfl⟩
  obtain⟨M,hM⟩:∃M,M=Rm r0 g1:=⟨_,rfl⟩
  rw[←hK,←hM];have key:∀i,i<4→∃ (c:List AV) (B:BB) (G:RG),(∀j,j<20→K (i*20+j)=c.getD j .any)∧B' (.agg ((List.range 20).map fun j=>c.getD j .any)) (.agg (bC B))∧(∀j,j<32→M (i*32+j)=(Dd G).getD j .any)∧∃k l e o1 o2,TC8 B G k l e o1 o2:=fun i hi=>by
   subst hK hM;unfold GM Rm;have u0:=up b0 (by omega) (by omega);have u1:=up b1 (by omega) (by omega)
   match i,hi with
   |0,_=>exact⟨bC b,b,r0,fun j hj=>by rw[P_,P_,ZA8,z_];exact cL (A:=bC b) _ (n:=20) rfl hj,U_ _,fun j hj=>by rw[P_,P_,ZA8,z_];exact cL (A:=Dd r0) _ (n:=32) rfl hj,LD b r0 tb u0⟩
   |1,_=>exact⟨bC b,b,g1,fun j hj=>by rw[P_ (bC b ++ bC b),cL _ (show(bC b ++ bC b).length=40 from rfl)];exact cM (A:=bC b) (bC b) (n:=20) rfl,U_ _,fun j hj=>by rw[P_ (Dd r0 ++ Dd g1),cL _ (show(Dd r0 ++ Dd g1).length=64 from rfl)];exact cM (A:=Dd r0) (Dd g1) (n:=32) rfl,LD b g1 tb u1⟩
   |2,_=>exact⟨bC bad,bad,r0,fun j hj=>by rw[cL _ (show _=60 from rfl)];exact cM (A:=bC b ++ bC b) (bC bad) (n:=40) rfl,U_ _,fun j hj=>by rw[cL _ (show _=96 from rfl)];exact cM (A:=Dd r0 ++ Dd g1) (Dd r0) (n:=64) rfl,LD bad r0 TFn u0⟩
   |3,_=>exact⟨zb false,zn,r0,fun j hj=>cM (A:=bC b ++ bC b ++ bC bad) _ (n:=60) rfl,JR (sU _),fun j hj=>cM (A:=Dd r0 ++ Dd g1 ++ Dd r0) (Dd r0) (n:=96) rfl,LD zn r0 xY u0⟩
   |i+4,h=>omega
  have bK:=Mi b bad false;rw[←hK]at bK;have bM:=I5 r0 g1 true;rw[←hM]at bM;clear hK hM;refine Xj (fun i:Nat=>⟨26,[],[.any,.any,.any,I how,I by',.any,.any,.any,.any,.any,.any,.any,.any,.any,.any,.any,.sl 4 80 K false,.sl 4 128 M true,I i,.any,.any,.any,.any,.any,.any,.any],[],[]⟩) (fun i=>i≤4) (fun i=>4-i) 0 (by omega) (Sub.B_ _ _) ?_;intro i hi next
  have w1:=wj i;by_cases hi2:i<4
  rotate_left
  ·obtain rfl:i=4:=by omega
   refine Xk ?_;simp(disch:=omega)only[↓Xc,wG,seval];refine X0 cl (X1 _) ?_;simp(disch:=omega)only[↓Xc,wG,seval];exact Xn (v:=.bool true) rfl rfl (X5 _) rfl
  have nx:=next (i+1)
  clear next
  obtain⟨cB,B,G,y1,y2,y3,k,lp,e,o1,o2,⟨a1,a2,a3,a4,a5,a6,a7⟩⟩:=key i hi2;clear key;have y0:=y1 0 (by omega);rw[ZAm]at y0;have y4:=y3 0 (by omega);rw[ZAm]at y4;have f3:(i<4)=True:=L' hi2;have f3':((i:Int)<4)=True:=L' (by omega);apply Tj (X:=JK Tryz.prog Tryz.f4 [7,80000012,14,19,200000019,23,240000022,250000023,28] [] (.bool true)) (fun t:(Rat×Rat)×(Rat×Rat)=>qb t.1.1≤1356773∧qb t.1.2≤1356773∧qb t.2.1≤1356773∧qb t.2.2≤1356773) (fun t=>⟨26,[],[.any,.any,.any,I how,I by',.any,.any,.any,.any,.any,.any,.any,.any,.any,.any,.any,.sl 4 80 K false,.sl 4 128 M true,I i,.ref 0 0 0,C6 [t.1,t.2],.any,.any,.any,.any,.any],[],[.con 0 4 (Xf (qC k))]⟩)
  case h1 =>
   intro fin;have z00:qb 0≤1356773:=by decide +kernel
   have sg0:=Q8 0 (by decide +kernel);have hz:((Rat.num 0).sign=0)=True:=L' (by decide);cases ho:(o1 && o2)
   ·obtain⟨rfl,rfl,rfl⟩:=a5 ho
    cases o1
    ·refine XI 116 ?_
     simp(disch:=omega)only[w1,f3,f3',y0,y1,y4,y3,KR,↓Xc,wG,seval];refine X0 a1 ⟨y2,U_ _,trivial⟩ ?_;simp(disch:=omega)only[w1,f3,f3',y0,y1,y4,y3,KR,Jr,qA,qC,↓Xc,wG,seval];refine X0 a2 ⟨y2,trivial⟩ ?_;simp(disch:=omega)only[w1,f3,f3',y0,y1,y4,y3,KR,Jr,qA,qC,↓Xc,wG,seval];refine X0 sg0 (X1 _) ?_;simp(disch:=omega)only[w1,f3,f3',hz,ZAC,↓Xc,wG,seval];exact(fin ((0,0),(0,0)) ⟨z00,z00,z00,z00⟩).sub (ZAZ (Xz 0 rfl) (ZAZ (DC 20 (C6 [(0,0),(0,0)]) (by show 20<26;omega) (Pw false true)) (Xh rfl ⟨.inl rfl,.inl rfl,.inl rfl,.inr rfl,.inr rfl,.inl rfl,.inl rfl,.inl rfl,.inl rfl,.inl rfl,.inl rfl,.inl rfl,.inl rfl,.inl rfl,.inl rfl,.inl rfl,.inr rfl,.inr rfl,.inr rfl,.inr rfl,.inr rfl,.inl rfl,.inl rfl,.inl rfl,.inl rfl,.inl rfl,trivial⟩ (by simp[Xx]) rfl)))
    ·have ho2:o2=false:=ho
     subst ho2;refine XI 122 ?_;simp(disch:=omega)only[w1,f3,f3',y0,y1,y4,y3,KR,↓Xc,wG,seval];refine X0 a1 ⟨y2,U_ _,trivial⟩ ?_;simp(disch:=omega)only[w1,f3,f3',y0,y1,y4,y3,KR,Jr,qA,qC,↓Xc,wG,seval];refine X0 a2 ⟨y2,trivial⟩ ?_;simp(disch:=omega)only[w1,f3,f3',y0,y1,y4,y3,KR,Jr,qA,qC,↓Xc,wG,seval];refine X0 a3 (X1 _) ?_;simp(disch:=omega)only[w1,f3,f3',y0,y1,y4,y3,KR,Jr,qA,qC,↓Xc,wG,seval];refine X0 sg0 (X1 _) ?_;simp(disch:=omega)only[w1,f3,f3',hz,ZAC,↓Xc,wG,seval];exact(fin ((0,0),(0,0)) ⟨z00,z00,z00,z00⟩).sub (ZAZ (Xz 0 rfl) (ZAZ (DC 20 (C6 [(0,0),(0,0)]) (by show 20<26;omega) (Pw false true)) (Xh rfl ⟨.inl rfl,.inl rfl,.inl rfl,.inr rfl,.inr rfl,.inl rfl,.inl rfl,.inl rfl,.inl rfl,.inl rfl,.inl rfl,.inl rfl,.inl rfl,.inl rfl,.inl rfl,.inl rfl,.inr rfl,.inr rfl,.inr rfl,.inr rfl,.inr rfl,.inl rfl,.inl rfl,.inl rfl,.inl rfl,.inl rfl,trivial⟩ (by simp[Xx]) rfl)))
   ·obtain⟨rfl,⟨p,q,rfl,z1,z2,z3,z4⟩,j1,j2⟩:=a6 ho
    obtain⟨rfl,rfl⟩:o1=true∧o2=true:=x_ ..▸ho;have sk:=Ee k k;rw[c_ rfl]at sk;refine XI 147 ?_;simp(disch:=omega)only[w1,f3,f3',y0,y1,y4,y3,KR,↓Xc,wG,seval];refine X0 a1 ⟨y2,U_ _,trivial⟩ ?_;simp(disch:=omega)only[w1,f3,f3',y0,y1,y4,y3,KR,Jr,qA,qC,↓Xc,wG,seval];refine X0 a2 ⟨y2,trivial⟩ ?_;simp(disch:=omega)only[w1,f3,f3',y0,y1,y4,y3,KR,Jr,qA,qC,↓Xc,wG,seval];refine X0 a3 (X1 _) ?_;simp(disch:=omega)only[w1,f3,f3',y0,y1,y4,y3,KR,Jr,qA,qC,↓Xc,wG,seval];refine X0 j1 ⟨y2,U_ _,trivial⟩ ?_;simp(disch:=omega)only[w1,f3,f3',y0,y1,y4,y3,KR,Jr,qA,qC,↓Xc,wG,seval];refine X0 sk (X1 _) ?_;simp(disch:=omega)only[w1,f3,f3',y0,y1,y4,y3,KR,Jr,qA,qC,↓Xc,wG,seval];refine X0 j2 ⟨y2,U_ _,U_ _,U_ _,trivial⟩ ?_;simp(disch:=omega)only[w1,f3,f3',↓Xc,wG,seval];exact(fin (p,q) ⟨z1,z2,z3,z4⟩).sub (Xh rfl ⟨.inl rfl,.inl rfl,.inl rfl,.inr rfl,.inr rfl,.inl rfl,.inl rfl,.inl rfl,.inl rfl,.inl rfl,.inl rfl,.inl rfl,.inl rfl,.inl rfl,.inl rfl,.inl rfl,.inr rfl,.inr rfl,.inr rfl,.inr rfl,.inr (Jr [p,q]).symm,.inl rfl,.inl rfl,.inl rfl,.inl rfl,.inl rfl,trivial⟩ (by simp[Xx]) rfl)
  case h2 =>
   rintro⟨p,q⟩ ⟨z1,z2,z3,z4⟩;have z1:qb p.1≤1356773:=z1;have z2:qb p.2≤1356773:=z2;have z3:qb q.1≤1356773:=z3;have z4:qb q.2≤1356773:=z4;have hz0:qb 0≤1500000:=by decide +kernel
   have bO:∀q x,Q0 q (.con 0 4 (Xf (qC x)))=True:=fun q x=>L' fun j _=>X4 (Xe (XU x) j)
   have f5:=QT p.2 x;have q5:=KE p.2 x;apply Tj (X:=JK Tryz.prog Tryz.f4 [7,80000012,14,19,200000019,23,240000022,250000023,28] [] (.bool true)) (fun Ps:List (List (Rat×Rat))=>Ps.length=6∧∀P∈Ps,P.length<1000000∧∀y∈P,qb y.1≤1500000∧qb y.2≤1500000) (fun Ps=>⟨26,[],[.any,.any,.any,I how,I by',.any,.any,.any,.any,.any,.any,.any,.any,.any,.any,.any,.sl 4 80 K false,.sl 4 128 M true,I i,.ref 0 0 0,.any,.any,.ref 1 0 0,.any,.sl 6 6 (MY Ps) false,I 0],[],[.con 0 4 (Xf (qC k)),.con 0 4 (Xf (qC x))]⟩)
   case h1 =>
    intro fin;refine Xk ?_;simp(disch:=omega)only[Jr,ZAA,ZAN,qC,↓Xc,wG,seval];refine X0 d9 (X1 _) ?_;simp(disch:=omega)only[↓Xc,wG,seval];refine X0 f9 (X1 _) ?_;simp(disch:=omega)only[qA,qC,Jr,ZAA,ZAN,↓Xc,wG,seval];refine⟨fun j hj=>Nv Ai 8 (0,0) [p,q] j (by omega) Rv,?_⟩;refine X0 d2 (X1 _) ?_;obtain hv |hv:v=0∨v=1:=by omega
    ·subst hv
     simp(disch:=omega)only[qA,qC,Jr,ZAA,ZAN,↓Xc,wG,seval];refine X0 f5 (X1 _) ?_;simp(disch:=omega)only[qA,qC,Jr,ZAA,ZAN,↓Xc,wG,seval];refine⟨fun j hj=>Nv Ai 8 (0,0) [p,q] j (by omega) Rv,o9 false,?_⟩;exact(fin [[p,q],[(p.1,p.2+x),q],[p],[p,q,(0,0)],[(x,x),(x,0)],[]] ⟨rfl,yR hz0 (by omega) z1 z2 z3 z4 (by show qb p.1≤_;omega) (by show qb (p.2+x)≤_;omega) (by omega) (by omega)⟩).sub (ZAZ (Xz 3 rfl) (ZAZ (Zf 24 _ (by show 24<26;omega) (MZ p q x [(p.1,p.2+x),q] rfl rfl (zf p q (p.2+x)) rfl true)) (XG (m:=2) (p_ _) rfl ⟨.inl rfl,.inl rfl,.inl rfl,.inr rfl,.inr rfl,.inl rfl,.inl rfl,.inl rfl,.inl rfl,.inl rfl,.inl rfl,.inl rfl,.inl rfl,.inl rfl,.inl rfl,.inl rfl,.inr rfl,.inr rfl,.inr rfl,.inr rfl,.inl rfl,.inl rfl,.inr rfl,.inl rfl,.inr rfl,.inr rfl,trivial⟩ (by simp[Xx]) rfl (by simp[XP,bK,bM,Om,I]) (by simp[XP]) (by simp[bO]))))
    ·subst hv
     simp(disch:=omega)only[qA,qC,Jr,ZAA,ZAN,↓Xc,wG,seval];refine X0 f5 (X1 _) ?_;simp(disch:=omega)only[qA,qC,Jr,ZAA,ZAN,↓Xc,wG,seval];refine⟨fun j hj=>Nv Ai 8 (0,0) [p,q] j (by omega) Rv,o9 false,?_⟩;exact(fin [[p,q],[p,(q.1,p.2+x)],[p],[p,q,(0,0)],[(x,x),(x,0)],[]] ⟨rfl,yR hz0 (by omega) z1 z2 z3 z4 (by omega) (by omega) (by show qb q.1≤_;omega) (by show qb (p.2+x)≤_;omega)⟩).sub (ZAZ (Xz 3 rfl) (ZAZ (Zf 24 _ (by show 24<26;omega) (MZ p q x [p,(q.1,p.2+x)] rfl rfl (zh p q (p.2+x)) rfl true)) (XG (m:=2) (p_ _) rfl ⟨.inl rfl,.inl rfl,.inl rfl,.inr rfl,.inr rfl,.inl rfl,.inl rfl,.inl rfl,.inl rfl,.inl rfl,.inl rfl,.inl rfl,.inl rfl,.inl rfl,.inl rfl,.inl rfl,.inr rfl,.inr rfl,.inr rfl,.inr rfl,.inl rfl,.inl rfl,.inr rfl,.inl rfl,.inr rfl,.inr rfl,trivial⟩ (by simp[Xx]) rfl (by simp[XP,bK,bM,Om,I]) (by simp[XP]) (by simp[bO]))))
   case h2 =>
    rintro Ps ⟨hl,hP⟩;refine Xj (fun j:Nat=>⟨26,[],[.any,.any,.any,I how,I by',.any,.any,.any,.any,.any,.any,.any,.any,.any,.any,.any,.sl 4 80 K false,.sl 4 128 M true,I i,.ref 0 0 0,.any,.any,.ref 1 0 0,.any,.sl 6 6 (MY Ps) false,I j],[],[.con 0 4 (Xf (qC k)),.con 0 4 (Xf (qC x))]⟩) (fun j=>j≤6) (fun j=>6-j) 0 (by omega) (Sub.B_ _ _) ?_;intro j hj nxt;have w2:=wj j;by_cases hj2:j<6
    rotate_left
    ·obtain rfl:j=6:=by omega
     refine Xk ?_;simp(disch:=omega)only[w1,↓Xc,wG,seval];exact nx _ (by omega) (by omega) (rM (m:=0) (by simp[Xo,I]) rfl (by simp[XP,bK,bM,I]) (by simp))
    have nx2:=nxt (j+1);clear nxt;have l0:=eu Ps j (by omega);have hP':=hP _ (Qp [] (show j<Ps.length by omega));generalize Ps.getD j []=P at *;obtain⟨v1,s1,s2⟩:=a7 k P (by omega) hP'.1 hP'.2;obtain⟨v2,s3,s4⟩:=a7 x P (by omega) hP'.1 hP'.2;have f6:(j<6)=True:=L' hj2;have f6':((j:Int)<6)=True:=L' (by omega);refine Xk ?_;simp(disch:=omega)only[w1,w2,f3,f3',f6,f6',y0,y1,y4,y3,KR,l0,qC,↓Xc,wG,seval];refine X0 s1 ⟨y2,U_ _,U_ _,U_ _,trivial⟩ ?_;simp(disch:=omega)only[w1,w2,f3,f3',f6,f6',y0,y1,y4,y3,KR,l0,qC,↓Xc,wG,seval];refine X0 s2 ⟨y2,U_ _,U_ _,U_ _,trivial⟩ ?_;simp(disch:=omega)only[w1,w2,f3,f3',f6,f6',y0,y1,y4,y3,KR,l0,qC,↓Xc,wG,seval];refine X0 s3 ⟨y2,U_ _,U_ _,U_ _,trivial⟩ ?_;simp(disch:=omega)only[w1,w2,f3,f3',f6,f6',y0,y1,y4,y3,KR,l0,qC,↓Xc,wG,seval];refine X0 s4 ⟨y2,U_ _,U_ _,U_ _,trivial⟩ ?_;simp(disch:=omega)only[w1,w2,↓Xc,wG,seval];exact nx2 _ (by omega) (by omega) (ZZ (by simp[Xo,I]) rfl)
end
end Go.Ab.N
