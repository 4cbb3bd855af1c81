/- Contracts of functions, for every argument that fits. -/
import Derived.Test.YtcmfnmceomhgcaaGreatC15
import Derived.Test.YtcmfnmceomhgcaaGreatC13
import Derived.Test.YtcmfnmceomhgcaaGreatC11
import Derived.Test.YtcmfnmceomhgcaaGreatC14
set_option linter.unusedSimpArgs false
set_option linter.unusedVariables false
open Go.Ab.AS renaming start→P'
open List renaming range→ZAD
open Nat renaming lt_succ_self→ZEP
open Option renaming map→zV
open Rat renaming divInt→O_,divInt_eq_div→ZBQ
namespace Go.Ab.N
open Go Go.RowKit Go.Proofs
noncomputable section
set_option maxRecDepth 10000
set_option maxHeartbeats 4000000
open Classical
theorem Rt (H:List AO)(l:List Rat)(t:Rat)(hl:l.length<1000000)(ht:qb t≤rm)(h:∀ x∈l,qb x≤rm)(hH:KH H)(hU:QY H):G' Tryz.prog 197 [Q0 l,qA t] H (.osl (H.length+1) l.length 4 0 l.length) (H ++ [.row 0 4 (Xf (qC t)),.row l.length (l.length*4) (Xv qC 4 0 (l.map (·*t)))]):=by
  obtain⟨n0,hn0⟩:∃n0,n0=H.length:=⟨_,rfl⟩
  have e0:=BG hn0.symm;have e1:=FM hn0.symm;have el:=Zz hn0.symm;have es0:=CK hn0.symm;have es1:=GX hn0.symm;refine G'.intro (fn:=Tryz.f197) Tryz.call197 Tryz.func197 rfl mixed 7 [] [] [] (by kernel_rfl) (L' rfl) (Xk ?_);simp(disch:=omega)only[P',Xt,qA,qC,e0,e1,el,es0,es1,←hn0,↓Xd,wG,seval];have bV:∀q,J9 q (Q0 l)=True:=fun q=>K_ (X4 (Xn l))
  have hk:∀i,XX (n0+2) (.row 0 4 (Xf (qC t)))∧XX (n0+2) (.row i (i*4) (Xv qC 4 0 ((l.take i).map (·*t)))):=fun i=>⟨QN (XV t),fun j _=>X4 (Xe (XV _) _)⟩
  have hb:∀i,∀o∈H ++ [.row 0 4 (Xf (qC t)),.row i (i*4) (Xv qC 4 0 ((l.take i).map (·*t)))],XX (n0+2) o:=fun i o ho=>by
    rcases m_.1 ho with h |h
    · exact hH o h _ (by omega)
    · simp only[b_,V',or_false]at h;rcases h with rfl |rfl
      · exact(hk i).1
      · exact(hk i).2
  refine Xi (fun i:Nat=>⟨7,[],[Q0 l,.any,.any,.ref n0 0 0,.any,.osl (n0+1) i 4 0 i,I i],[],H ++ [.row 0 4 (Xf (qC t)),.row i (i*4) (Xv qC 4 0 ((l.take i).map (·*t)))]⟩) (fun i=>i≤l.length) (fun i=>l.length-i) 0 (by omega)
    (ZA8 (JM 5 4 (Xv qC 4 0 []) rfl) (Xh rfl ⟨.inr (Xt l).symm,.inl rfl,.inl rfl,.inr rfl,.inl rfl,.inr (by show AV.osl _ _ _ _ _=_;rw[f_,←hn0];rfl),.inr rfl,trivial⟩ trivial (by show(H ++ _) ++ _=_;rw[P_];rfl))) ?_
  intro i hi next
  have w1:=wj i (by omega);have hlk:∀i,i≤l.length→((l.take i).map (·*t)).length=i:=fun i hi=>by simp;omega
  by_cases hi2:i<l.length
  · have f1:(i<l.length)=True:=K_ hi2;have v0:Xl (fun i=>l.getD i 0) (i*4)=(qC (l.getD i 0)).getD 0 .any:=Kg qC 4 0 l i (by omega);have v1:∀j,j<4→Xl (fun i=>l.getD i 0) (i*4+j)=(qC (l.getD i 0)).getD j .any:=fun j hj=>JE qC 4 0 l i j hj
    have s1:=h _ (Q9 0 hi2);have hk:=hlk i hi;have ht2:(l.take i).map (·*t) ++ [l.getD i 0*t]=(l.take (i+1)).map (·*t):=by
      rw[Gv l 0 hi2,List.map_append];rfl
    have nx:=next (i+1)
    have hb2:=hb (i+1);rw[←ht2]at nx hb2;generalize l.getD i 0=p at *;have c1:=QR p t s1 ht;have hap:=Zj qC 4 0 ((l.take i).map (·*t)) (p*t) (by omega);rw[hk]at hap;refine Xk ?_;simp(disch:=omega)only[Xt,w1,f1,v0,v1,qC,e0,e1,el,es0,es1,↓Xd,wG,seval];refine X0 c1 (X1 _) ?_;simp(disch:=omega)only[qA,qC,e0,e1,el,es0,es1,↓Xd,wG,seval];refine⟨fun j hj=>Cr (p*t) j hj,nx _ (by omega) (by omega) (XD (m:=n0+2) (by show H.length≤n0+2;omega) rfl (by simp[Xm,I,Xt]) (by simp[Xu]) ?_ (by simp[XK,bV]) (by simp[XK]) hb2)⟩;rw[←hap];show List.take (n0+2) (H ++ _)=_;rw[hn0,List.take_append,ZCW (by omega),show H.length+2-H.length=2 by omega];rfl
  · obtain rfl:i=l.length:=by omega
    refine Xk ?_;simp(disch:=omega)only[Xt,↓Xd,wG,seval];exact Pd rfl (by rw[hn0];rfl) (by rw[ZAQ];rfl)
theorem Mi (H:List AO)(v n v' n':Nat)(f f':Nat→AV):K1 H (H ++ [.row v n f,.row v' n' f']):=fun a ver k g=>by
 by_cases ha:a<H.length
 ·rw[S_ ha]
 ·rw[j_ (by omega),d_ (by omega)]
  obtain⟨k,hk⟩:∃k,k=a-H.length:=⟨_,rfl⟩
  rw[←hk]
  match k with
  |0=>exact⟨fun h=>(by cases h),fun h=>(by cases h)⟩
  |1=>exact⟨fun h=>(by cases h),fun h=>(by cases h)⟩
  |k+2=>exact⟨fun h=>(by cases h),fun h=>(by cases h)⟩
theorem O3 (H:List AO)(l:List Rat)(hl:l.length<1000000)(h:∀ x∈l,qb x≤rm)(hH:KH H)(hU:QY H):G' Tryz.prog 124 [Q0 l] H (.osl (H.length+1) l.length 4 0 l.length) (H ++ [.row 0 4 (Xf (qC (-1))),.row l.length (l.length*4) (Xv qC 4 0 (C1 l))]):=by
  have c0:=XS (-1) 1 ⟨by omega,by omega⟩ ⟨by omega,by omega⟩;rw[show O_ (-1) 1 = -1 by decide +kernel]at c0;have c1:=Rt H l (-1) hl (by decide +kernel) h hH hU;rw[show l.map (· * -1)=C1 l from ZAL fun x _=>by grind]at c1;refine G'.intro (fn:=Tryz.f124) Tryz.call124 Tryz.func124 rfl mixed 2 [] [] [1] (by kernel_rfl) (L' rfl) (Xk ?_);simp(disch:=omega)only[P',↓Xd,wG,seval];refine X0 c0 (X1 _) ?_;simp(disch:=omega)only[↓Xd,wG,seval];refine Xz rfl c1 (Mi H _ _ _ _ _ _) (Qg hU) (X1 _) ?_;simp(disch:=omega)only[↓Xd,wG,seval];exact Pd rfl rfl rfl
theorem eQ (a b:List Rat)(E:Nat)(ha:a.length<49)(hb:b.length=a.length)(hE:∀i,i<a.length→qb (a.getD i 0)+qb (b.getD i 0)≤E) (hE2:E≤2000000) :
  Fn Tryz.prog 175 [Q0 a,Q0 b] (qA (XN (fun i=>a.getD i 0*b.getD i 0) a.length)):=by
 obtain⟨N,hN⟩:∃N,N=a.length:=⟨_,rfl⟩
 obtain⟨f,hf⟩:∃f:Nat→Rat,f=fun i=>a.getD i 0*b.getD i 0:=⟨_,rfl⟩
 have hs:XN (fun i=>a.getD i 0*b.getD i 0) a.length=XN f N:=by rw[hf,hN]
 rw[hs];obtain⟨R,hR⟩:∃R,R=qA (XN f N):=⟨_,rfl⟩
 have sR:A_ R:=hR▸Xa _;have eA:Q0 a=.sl N (N*4) (Xl fun i=>a.getD i 0) false:=by rw[Xt,hN]
 have eB:Q0 b=.sl N (N*4) (Xl fun i=>b.getD i 0) false:=by rw[Xt,hN,hb]
 have bA:∀q,J9 q (.sl N (N*4) (Xl fun i=>a.getD i 0) false)=True:=fun q=>K_ (X4 (eA▸Xn a))
 have bB:∀q,J9 q (.sl N (N*4) (Xl fun i=>b.getD i 0) false)=True:=fun q=>K_ (X4 (eB▸Xn b))
 rw[←hR];refine y_ (fn:=Tryz.f175) Tryz.call175 Tryz.func175 rfl mixed 7 [] [] [] (by kernel_rfl) (L' rfl) (KS (Xn a) (Xn b)) (Xk ?_);simp(disch:=omega)only[P',eA,eB,↓Xd,wG,seval];have w0:=Jj true;have wz:∀ (H:List AO) (j:Nat),j<4→Ko H (Xf [.bool false,.sl 0 0 (fun _=>.any) true,.bool false,.sl 0 0 (fun _=>.any) true] j) (Xf (qC 0) j):=fun H j hj=>by
  match j,hj with
  |0,_=>exact XI w0.1
  |1,_=>exact XI w0.2.1
  |2,_=>exact XI w0.2.2.1
  |3,_=>exact XI w0.2.2.2.1
  |j+4,h=>omega
 refine Xi (fun i:Nat=>⟨7,[],[.sl N (N*4) (Xl fun i=>a.getD i 0) false,.sl N (N*4) (Xl fun i=>b.getD i 0) false,.any,.any,.ref 0 0 0,.ref 1 0 0,I i],[],[.row 0 4 (Xf TAD),.row 0 4 (Xf (qC (XN f i)))]⟩) (fun i=>i≤N) (fun i=>N-i) 0 (by omega)
  (ZA8 (Qh 1 (Xf (qC 0)) rfl (wz _)) (ZS (by simp[Xm,I]) (by simp[TAD,XN]))) ?_
 intro i hi next
 have w1:=wj i (by omega);by_cases hi2:i<N
 ·have f1:(i<N)=True:=K_ hi2
  have q0:=hE i (by omega);have p1:qb (XN f i)≤i*(E+1)+1:=Hj fun j hj=>by
   have:=Qo (a.getD j 0) (b.getD j 0);have:=hE j (by omega);rw[hf];show qb (a.getD j 0*b.getD j 0)≤E;omega
  have p2:i*(E+1)≤48*(2000000+1):=ZAx (by omega) (by omega);have p3:=Qo (a.getD i 0) (b.getD i 0);have c1:=QR (a.getD i 0) (b.getD i 0) (by unfold rm;omega) (by unfold rm;omega);have fk:f i=a.getD i 0*b.getD i 0:=by rw[hf]
  rw[←fk]at c1 p3;have c2:=JU (XN f i) (f i) (by unfold rm;omega) (by unfold rm;omega);have nx:=next (i+1)
  rw[show XN f (i+1)=XN f i+f i from rfl]at nx;have a0:=Jt (fun i=>a.getD i 0) i;have a1:=QA (fun i=>a.getD i 0) i;have b0:=Jt (fun i=>b.getD i 0) i;have b1:=QA (fun i=>b.getD i 0) i;refine Xk ?_;simp(disch:=omega)only[f1,w1,a0,a1,b0,b1,TAD,qC,↓Xd,wG,seval];refine X0 c1 (X1 _) ?_;simp(disch:=omega)only[f1,w1,TAD,qA,qC,↓Xd,wG,seval];refine X0 c2 (X1 _) ?_;simp(disch:=omega)only[f1,w1,TAD,qA,qC,↓Xd,wG,seval];exact nx _ (by omega) (by omega) (ZS (by simp[Xm,I]) (by simp[TAD];rfl))
 ·obtain rfl:i=N:=by omega
  refine Xk ?_;simp(disch:=omega)only[TAD,qC,↓Xd,wG,seval];exact Jh rfl XY rfl rfl rfl sR (hR.trans rfl)
theorem jg (v n:Nat)(G:List Rat)(hG:G.length=v)(Z:List AV)(hZ:∀j,B_ (KT Z j) (Xl (fun _=>0) j)) (j:Nat) (hj:j<(v+v+n)*4) :
  B_ (Q1 ((v+v)*4) (Q1 (v*4) (Xv qC 4 0 (C1 G)) (v*4) (Xl fun i=>G.getD i 0)) (n*4) (KT Z) j) (Xl (Kl v G) j):=by
 obtain⟨k,r,hr,rfl⟩:∃k r,r<4∧j=k*4+r:=⟨j/4,j%4,z_ _ (by omega),by omega⟩
 rw[QA _ _ _ hr];by_cases h3:k<v
 ·unfold Q1
  rw[N_ (by omega),N_ (by omega),JE qC 4 0 _ k r hr,Yt G (by omega)];unfold Kl;rw[N_ h3];exact X' _
 ·by_cases h4:k<2*v
  ·unfold Q1
   rw[N_ (by omega),M_ (by omega),N_ (by omega),show k*4+r-v*4=(k-v)*4+r by omega,QA _ _ _ hr];unfold Kl;rw[M_ h3,N_ h4];exact X' _
  ·unfold Q1
   rw[M_ (by omega),N_ (by omega)];have:=hZ (k*4+r-(v+v)*4);rw[show k*4+r-(v+v)*4=(k-(v+v))*4+r by omega,QA _ _ _ hr]at this;rw[show k*4+r-(v+v)*4=(k-(v+v))*4+r by omega];unfold Kl;rw[M_ h3,M_ h4];exact this
theorem Wi (v:Nat)(L:List Ln)(G:List Rat)(c E:Nat)(hv:v<49)(hv0:0<v)(hm:L.length≤128)(hG:G.length=v)(ha:∀ x∈L,x.a.length=v)(hB:∀ i,i<L.length→0≤lB L i)(i0:Nat)(hi0:i0<L.length)(hA:∀k,k<v→lA L i0 k=lG G k)
  (hcA:∀i k,qb (lA L i k)≤c) (hcB:∀i,qb (lB L i)≤c) (hcG:∀k,qb (lG G k)≤c) (hc0:qb 0≤c) (hc1:qb 1≤c) (hE:L.length*((v+2)*c+5)+1≤E) (hcE:c≤E) (hQ:c+1+(L.length*(c+1+E+1)+1)+1≤15000000) (hE2:2*E+c+10≤2000000) (hc:c≤10000) :
  ∃x y val,Fn Tryz.prog 91 [P6 v L G] (PH 0 x y val)∧x.length=v∧(∀i,qb (x.getD i 0)≤2*E+1)∧TAw v L.length (lA L) (lB L) (lG G) (fun k=>x.getD k 0) (fun i=>y.getD i 0) val:=by
 obtain⟨m,hm0⟩:∃m,m=L.length:=⟨_,rfl⟩
 obtain⟨N,hN⟩:∃N,N=2*v+2*m:=⟨_,rfl⟩
 obtain⟨K,S,hS0,hok,hst,TAn,TCC⟩:=Nr (v:=v) (m:=L.length) (A:=lA L) (B:=lB L) (G:=lG G) hB hi0 hA;rw[←hm0,←hN]at hok hst TCC;rw[←hm0]at TAn;have hEk:∀k,k≤K→∀i p,i<m→p≤N→qb ((S k).t i p)≤E:=fun k hk i p hi hp=>by
  obtain⟨g1,g2⟩:=hok k hk;rw[hm0]at g1 g2 hi;rw[hN,hm0]at g1 g2 hp;exact k_ (Mr g2 g1 (by omega) hcA hcB hi hp) hE
 have hCk:∀k,k≤K→∀p,p≤N→qb ((S k).c p)≤15000000:=fun k hk p hp=>by
  obtain⟨g1,g2⟩:=hok k hk;have h3:=hEk k hk;rw[hm0]at g1 g2;rw[hN,hm0]at g1 g2 hp h3;exact k_ (PX g2 g1 hcG h3 hp) hQ
 obtain⟨T,hT⟩:∃T,T=S K:=⟨_,rfl⟩
 rw[←hT]at TCC;have okT:=(hok K (N' _)).1;rw[←hT]at okT;have bN:∀k,qb (Jg m N T k)≤E:=Rj okT (fun i hi=>by rw[hT];exact hEk K (N' _) i N hi (N' _)) (by omega);refine⟨JT v m N T,(ZAD m).map fun i=>T.c (2*v+i),T.c N,?_,by simp[JT],fun i=>?_,?_⟩
 rotate_left
 ·by_cases hi:i<v
  ·unfold JT
   rw[QP _ hi];have h1:=bN i;have h2:=bN (v+i);have h3:=BS (Jg m N T i) (Jg m N T (v+i));show qb (Jg m N T i-Jg m N T (v+i))≤_;omega
  ·rw[K',j_ (by simp[JT];omega)]
   show qb 0≤_;omega
 ·rw[←hm0]
  exact TCC.congr (fun k hk=>(QP (fun k=>Jg m N T k-Jg m N T (v+k)) hk).symm) (fun i hi=>(QP (fun i=>T.c (2*v+i)) hi).symm)
 obtain⟨X,hX⟩:∃X,X=JT v m N T:=⟨_,rfl⟩
 have lx:X.length=v:=by rw[hX];simp[JT]
 obtain⟨Yl,hYl⟩:∃Yl,Yl=(ZAD m).map fun i=>T.c (2*v+i):=⟨_,rfl⟩
 rw[←hX,←hYl];obtain⟨R,hR⟩:∃R,R=PH 0 X Yl (T.c N):=⟨_,rfl⟩
 have sR:A_ R:=hR▸E3 _ _ _ _;rw[←hR];obtain⟨T0,hT0⟩:∃T0:Tb,T0=JV v L.length (lA L) (lB L) (lG G):=⟨_,rfl⟩
 have hbT:∀i,T0.b i=2*v+i:=fun i=>by rw[hT0];rfl
 refine y_ (fn:=Tryz.f91) Tryz.call91 Tryz.func91 rfl mixed 12 [] [21] [3,9,10,20,21,22,23] (by kernel_rfl) (L' rfl) (fun a ha=>a_.1 ha▸BM v L G) (XF 8 ?_);simp(disch:=omega)only[P',P6,XE,Xt,←hm0,↓Xd,wG,seval];have eP:P6 v L G=.agg [I v,.sl m (m*5) (Xv KR 5 KK L) false,Q0 G]:=by unfold P6;rw[XE,hm0]
 obtain⟨x0,hx0⟩:∃x0:AO,x0=.con 0 3 (Xf (Zt v L G)):=⟨_,rfl⟩
 obtain⟨y0,hy0⟩:∃y0:AO,y0=.row 0 7 (Xf ([I 0,.sl 0 0 (fun _=>.any) true,.sl 0 0 (fun _=>.any) true] ++ TAD)):=⟨_,rfl⟩
 have bx:∀q,XX q x0:=fun q=>by rw[hx0];exact fun j _=>X4 (Xe (l:=Zt v L G) (by simp[Zt,X9,QS,Xn]) j)
 have by0:∀q,XX q y0:=fun q=>by rw[hy0];exact QN (by simp[TAD,X5,J7,X9])
 have ux:x0≠.D_:=by rw[hx0];simp
 have uy:y0≠.D_:=by rw[hy0];simp
 have bd:∀q,XX q AO.dead:=fun q=>trivial
 have hU:QY [x0,y0]:=fun o ho=>by
  simp only[b_,V',or_false]at ho;rcases ho with rfl |rfl
  ·exact ux
  ·exact uy
 have c1:=iH x0 y0 v L G T0.t T0.b N (fun q _=>bx q) (fun q _=>by0 q) (by rw[hN,hm0]) (by omega) (by omega) hv0 (fun i hi=>ha _ (Q9 KK hi)) hB (fun i k hi=>by rw[hT0];rfl) hbT (fun i k=>by have:=hcA i k;omega) (fun i=>by have:=hcB i;omega);rw[eP,←hm0]at c1;have ce1:K1 [x0,y0] (TH x0 y0 .dead (.sl 0 0 (fun _=>.any) true) (Kx T0.t (N+1) m) T0.b m):=fun a ver n g=>by
  match a with
  |0=>exact ZCj
  |1=>exact ZCj
  |2=>exact⟨fun h=>(by cases h),fun h=>(by cases h)⟩
  |3=>exact⟨fun h=>(by cases h),fun h=>(by cases h)⟩
  |4=>exact⟨fun h=>(by cases h),fun h=>(by cases h)⟩
  |5=>exact⟨fun h=>(by cases h),fun h=>(by cases h)⟩
  |a+6=>exact⟨fun h=>(by cases h),fun h=>(by cases h)⟩
 have h2v:2*(v:Int)+(m:Int)=((2*v+m:Nat):Int):=by omega
 have h2N:((2*v+m:Nat):Int)+(m:Int)=(N:Int):=by omega
 have tN:((N:Int)).toNat=N:=by omega
 refine e_ (s':=⟨12,[],[.any,.ref 0 0 0,.ref 1 0 0,.any,.any,.any,.any,.any,.any,.any,.any,.any],[],[.row 0 3 (Xf (Zt v L G)),y0]⟩) ?_ (Xh rfl ⟨.inl rfl,.inr rfl,.inr rfl,.inl rfl,.inl rfl,.inl rfl,.inl rfl,.inl rfl,.inl rfl,.inl rfl,.inl rfl,.inl rfl,trivial⟩ trivial (by rw[hy0];unfold Zt;rw[XE,Xt,hm0];rfl));refine e_ ?_ (XB 0 rfl);refine e_ ?_ (XH 1 rfl rfl (by omega));refine Xk ?_;simp(disch:=omega)only[AS.put,List.set,Zt,XE,←hm0,h2v,↓Xd,wG,seval];refine Xz rfl (by rw[hx0,hy0]at c1;unfold Zt at c1;rw[XE,←hm0]at c1;rw[hy0];exact c1) (by rw[hx0,hy0]at ce1;unfold Zt at ce1;rw[XE,←hm0]at ce1;rw[hy0];exact ce1) (by rw[hx0,hy0]at hU;unfold Zt at hU;rw[XE,←hm0]at hU;rw[hy0];exact Qg hU) (X1 _) ?_;simp(disch:=omega)only[h2v,h2N,tN,↓Xd,wG,seval];obtain⟨P,hP⟩:∃P:AV,P=.ptr 3 (Xf (Zt v L G)) 0:=⟨_,rfl⟩
 have eP2:P=.ptr 3 (Xf [I v,.sl m (m*5) (Xv KR 5 KK L) false,Q0 G]) 0:=by rw[hP];unfold Zt;rw[XE,hm0]
 have bP:∀q,J9 q P=True:=fun q=>K_ (by rw[hP];exact X4 (XP fun j _=>Xe (l:=Zt v L G) (by simp[Zt,X9,QS,Xn]) j))
 obtain⟨C0,hC0⟩:∃C0:AV,C0=.sl 0 0 (fun _=>.any) true:=⟨_,rfl⟩
 have bC0:∀q,J9 q C0:=fun q=>by rw[hC0];exact X4 (J7 _ _)
 obtain⟨Ou,TD8⟩:∃Ou:Nat→Nat→Rat,Ou=fun k j=>if 2*v+m≤j∧j<k then 1 else 0:=⟨_,rfl⟩
 have JZ:Ou (2*v+m)=fun _=>0:=by rw[TD8];funext j;exact M_ (by omega)
 have TFj:∀k,2*v+m≤k→(fun j=>if j=k then(1:Rat)else Ou k j)=Ou (k+1):=fun k hk=>by
  rw[TD8];funext j;show(if j=k then(1:Rat)else if 2*v+m≤j∧j<k then 1 else 0)=if 2*v+m≤j∧j<k+1 then 1 else 0
  by_cases e:j=k
  ·rw[N_ e,N_ (by omega)]
  ·rw[M_ e]
   by_cases e2:2*v+m≤j∧j<k
   ·rw[N_ e2,N_ (by omega)]
   ·rw[M_ e2,M_ (by omega)]
 have of1:=XS 1 1 ⟨by omega,by omega⟩ ⟨by omega,by omega⟩;rw[show O_ 1 1=1 by decide +kernel]at of1;refine Xi (fun k:Nat=>⟨12,[],[.any,P,.ref 1 0 0,I m,I ((2*v+m:Nat):Int),.ref 3 0 0,.osl 6 0 4 0 N,I k,.any,.any,.any,.any],[],TH x0 y0 .dead C0 (Kx T0.t (N+1) m) T0.b m ++ [.row 0 (N*4) (Xl (Ou k))]⟩) (fun k=>2*v+m≤k∧k≤N) (fun k=>N-k) (2*v+m) ⟨by omega,by omega⟩
  ((Qh 6 (Xl (fun _=>0)) rfl (fun j _=>fun c' v' _ _ h=>CX 0 j c' v' h)).trans (Xh rfl ⟨.inl rfl,.inr eP2.symm,.inr rfl,.inr rfl,.inr rfl,.inr rfl,.inr rfl,.inr rfl,.inl rfl,.inl rfl,.inl rfl,.inl rfl,trivial⟩ (by simp[Xu]) (by rw[JZ,hx0,hy0,hC0];unfold Zt;rw[XE,←hm0];rfl))) ?_
 rintro k ⟨hk1,hk2⟩ next
 have w1:=wj k (by omega);by_cases hk3:k<N
 ·have nx:=next (k+1)
  clear next
  have hst:=Dq (Ou k) k 1;rw[TFj k hk1]at hst;have f1:(k<N)=True:=K_ hk3;have f1':((k:Int)<N)=True:=K_ (by omega);refine Xk ?_;simp(disch:=omega)only[h2N,f1,f1',w1,TH,HG,L4,IZ,g_,h_,↓Xd,wG,seval];refine X0 of1 (X1 _) ?_;simp(disch:=omega)only[h2N,f1,f1',w1,qA,qC,↓Xd,wG,seval];exact nx _ (by omega) (by omega) (ZS (by simp[Xm,I]) (by rw[←hst];rfl))
 obtain rfl:k=N:=by omega
 clear next
 have ec1:∀j,j<k→Ou k j=KU v m j:=fun j hj=>by rw[TD8];unfold KU;rw[hN]
 refine e_ ?_ (ZA8 (XB 6 rfl) (HE (M:=k*4) 6 rfl rfl (by omega) (by omega)));refine e_ ?_ (Au 6 (Q0 (Qc (KU v m) k)) (show 6<12 by omega) (XI (by rw[Qi];exact JJ rfl (N' _) (fun j hj=>by rw[x_,Ka (N:=k) (g:=fun i=>(Qc (KU v m) k).getD i 0) (fun i hi=>by show _=(Qc (KU v m) k).getD i 0;rw[Kj _ hi,ec1 i hi]) j hj];exact X' _))));have bC1:∀q,J9 q (Q0 (Qc (KU v m) k))=True:=fun q=>K_ (X4 (Xn _))
 refine e_ (s':=⟨12,[],[.any,P,.ref 1 0 0,I m,I ((2*v+m:Nat):Int),.ref 3 0 0,Q0 (Qc (KU v m) k),I k,.any,.any,.any,.any],[],TH x0 y0 .dead C0 (Kx T0.t (k+1) m) T0.b m⟩) ?_ (XD (m:=6) (p_ _) rfl ⟨.inl rfl,.inr rfl,.inr rfl,.inr rfl,.inr rfl,.inr rfl,.inr rfl,.inr rfl,.inl rfl,.inl rfl,.inl rfl,.inl rfl,trivial⟩ (by simp[Xu]) rfl (by simp[XK,bP,bC1]) (by simp[XK]) (PN x0 y0 .dead _ _ _ (N' _) (bx _) (by0 _) (bd _) (bC0 _) fun i=>Fb _ _ _ _ _));refine Xk ?_;have z1:qb 0≤5000000:=by omega
 have z2:qb 1≤5000000:=by omega
 have hq1:∀j,qb (KU v m j)≤5000000:=fun j=>by unfold KU;split <;> assumption
 have hqT:∀i j,qb (T0.t i j)≤5000000:=fun i j=>by
  rw[hT0];show qb (if j<v then lA L i j else if j<2*v then -lA L i (j-v)else if j=2*v+i then 1 else if j=2*v+2*L.length then lB L i else 0)≤_;have:=hcA i j;have:=hcA i (j-v);have:=hcB i
  split
  ·omega
  split
  ·rw[Cs];omega
  split
  ·omega
  split
  ·omega
  ·omega
 have c2:=N1 x0 y0 .dead T0 C0 (KU v m) k m (fun q _=>bx q) (fun q _=>by0 q) (fun q _=>bd q) (by omega) (by omega) (fun i j _ _=>hqT i j) (fun j _=>hq1 j) (fun i hi=>⟨by rw[hbT];omega,by rw[hbT];exact M_ (by omega)⟩) (M_ (by omega));obtain⟨T1,hT1⟩:∃T1:Tb,T1={ T0 with c:=KU v m }:=⟨_,rfl⟩
 rw[←hT1]at c2;have c3:=TN x0 y0 .dead k m k 0 (fun _=>T1) (fun q _=>bx q) (fun q _=>by0 q) (fun q _=>bd q) ux uy (by simp) (N' _) (by omega) (by omega) (fun _ _ i j _ _=>by rw[hT1];exact hqT i j) (fun _ _ j _=>by rw[hT1];show qb (KU v m j)≤_;have:=hq1 j;omega) (fun q hq=>absurd hq (ZAG _)) (fun j _=>by rw[hT1];show 0≤KU v m j;unfold KU;split <;> decide);have kk:((k:Int)<k)=False:=Q' (by omega);have sg0:=Qz (T1.c k) (by rw[hT1];show qb (KU v m k)≤_;have:=hq1 k;unfold rm;omega);have e1k:T1.c k=0:=by rw[hT1];exact M_ (by omega)
 rw[e1k,ZB6,Int.sign_zero]at sg0;have at0:∀ (h:Nat→Rat),Xl (fun i=>(Qc h (k+1)).getD i 0) (k*4)=(qC (h k)).getD 0 .any:=fun h=>by rw[Jt];simp only[Kj h (ZEP k)]
 have at1:∀ (h:Nat→Rat) j,j<4→Xl (fun i=>(Qc h (k+1)).getD i 0) (k*4+j)=(qC (h k)).getD j .any:=fun h j hj=>by rw[QA _ _ _ hj];simp only[Kj h (ZEP k)]
 have a0:=at0 T1.c;have a1:=at1 T1.c;rw[e1k]at a0;simp only[e1k]at a1;have fk:(k<k+1)=True:=K_ (by omega);have rl:=Qi T1.c (k+1);have wk:=wj k (by omega);simp(disch:=omega)only[h2N,kk,↓Xd,wG,seval];refine Xz rfl c2 (Dg x0 y0 .dead _ _ _ _ _ _ m) (Qg (CI ux uy (by simp) _ _ _ m)) (X1 _) ?_;simp(disch:=omega)only[h2N,kk,↓Xd,wG,seval];refine Xz rfl c3 (Dg x0 y0 .dead _ _ _ _ _ _ m) (Qg (CI ux uy (by simp) _ _ _ m)) (X1 _) ?_;simp(disch:=omega)only[h2N,kk,TT,TH,HG,L4,IZ,rl,fk,wk,a0,a1,qC,↓Xd,wG,seval];refine X0 sg0 (X1 _) ?_;simp(disch:=omega)only[h2N,kk,↓Xd,wG,seval];have hb1:∀i,T1.b i=2*v+i:=fun i=>by rw[hT1];exact hbT i
 refine Xi (fun i:Nat=>⟨12,[],[.any,P,.ref 1 0 0,I m,I ((2*v+m:Nat):Int),.ref 3 0 0,.any,.any,I i,.any,.any,.any],[],TT x0 y0 .dead (k+1) m T1⟩) (fun i=>i≤m) (fun i=>m-i) 0 (by omega)
  (Xh rfl ⟨.inl rfl,.inr rfl,.inr rfl,.inr rfl,.inr rfl,.inr rfl,.inl rfl,.inl rfl,.inr rfl,.inl rfl,.inl rfl,.inl rfl,trivial⟩ (by simp[Xu]) (by unfold TT TH HG;rw[rl];rfl)) ?_
 intro i hi next
 have w1i:=wj i (by omega);by_cases hi2:i<m
 ·have nx:=next (i+1)
  clear next
  have f1:(i<m)=True:=K_ hi2;refine Xk ?_;simp(disch:=omega)only[f1,↓Xd,wG,seval];refine Xi (fun _:Nat=>⟨12,[],[.any,P,.ref 1 0 0,I m,I ((2*v+m:Nat):Int),.ref 3 0 0,.any,.any,I i,I 0,.any,.any],[],TT x0 y0 .dead (k+1) m T1⟩) (fun _=>True) (fun _=>0) 0 trivial
   (ZS (by simp[Xm,I]) rfl) ?_
  intro j _ _;have g1:(0<2*v+m)=True:=K_ (by omega);have g1':((0:Int)<((2*v+m:Nat):Int))=True:=K_ (by omega);have g2:(2*v+m≤T1.b i)=False:=Q' (by rw[hb1];omega);have g2':(((2*v+m:Nat):Int)≤(T1.b i:Int))=False:=Q' (by rw[hb1];omega);refine Xk ?_;simp(disch:=omega)only[TT,TH,HG,L4,IZ,f1,w1i,g1,g1',g2,g2',↓Xd,wG,seval];exact nx _ (by omega) (by omega) (ZS (by simp[Xm,I]) rfl)
 obtain rfl:i=m:=by omega
 clear next
 have hgq:∀r∈G,qb r≤rm:=fun r hr=>by
  obtain⟨j,hj,rfl⟩:=ZAI hr;have:=hcG j;unfold lG at this;rw[K',U_ hj]at this;have h2:qb G[j]≤c:=this;unfold rm;omega
 have hTH:KH (TT x0 y0 .dead (k+1) i T1):=fun o ho q hq=>DF x0 y0 .dead _ _ _ (show 6≤q from hq) (bx q) (by0 q) (bd q) o ho
 have c4:=O3 (TT x0 y0 .dead (k+1) i T1) G (by omega) hgq hTH (CI ux uy (by simp) _ _ _ i);have ce4:=Mi (TT x0 y0 .dead (k+1) i T1) 0 4 G.length (G.length*4) (Xf (qC (-1))) (Xv qC 4 0 (C1 G));rw[hG]at c4 ce4;have TFk:∀j,(Xl (fun i=>G.getD i 0) j).one=true:=fun j=>Cr _ _ (z_ _ (by omega))
 have eG:Q0 G=.sl v (v*4) (Xl fun i=>G.getD i 0) false:=by rw[Xt,hG]
 refine XF 36 ?_;simp(disch:=omega)only[h2N,eP2,eG,↓Xd,wG,seval];refine Xz rfl (eG▸c4) ce4 (Qg (CI ux uy (by simp) _ _ _ i)) (X1 _) ?_;have m2:2*(i:Int)=((2*i:Nat):Int):=by omega
 simp(disch:=omega)only[TT,TH,HG,L4,IZ,g_,h_,m2,↓Xd,wG,seval];refine⟨fun j _=>TFk j,?_⟩;rw[En (hne:=by decide)];refine Ns FV Vy Ec rfl rfl rfl (by omega) (by omega) (N' _) rfl (by omega) (by omega) ?_;simp(disch:=omega)only[h2N,↓Xd,wG,seval];refine e_ ?_ (ZA8 (XB 7 rfl) (HE (M:=(v+v+2*i)*4) 6 rfl rfl (by omega) (by omega)));refine e_ ?_ (Au 6 (Q0 (Qc (Kl v G) k)) (show 6<12 by omega) (XI (by
  have eR:Q0 (Qc (Kl v G) k)=.sl k (k*4) (Xl fun q=>(Qc (Kl v G) k).getD q 0) false:=Qi _ _;have hw:∀j,j<k*4→B_ (Q1 ((v+v)*4) (Q1 (v*4) (Xv qC 4 0 (C1 G)) (v*4) (Xl fun i=>G.getD i 0)) (2*i*4) (KT [.bool false,.sl 0 0 (fun _=>.any) true,.bool false,.sl 0 0 (fun _=>.any) true]) (0+j)) (Xl (fun q=>(Qc (Kl v G) k).getD q 0) j):=fun j hj=>by
   rw[x_];have h:=jg v (2*i) G hG [.bool false,.sl 0 0 (fun _=>.any) true,.bool false,.sl 0 0 (fun _=>.any) true] (fun j c' v' h=>CX 0 j c' v' h) j (by omega);rwa[Ka (N:=k) (g:=fun q=>(Qc (Kl v G) k).getD q 0) (fun q hq=>by show _=(Qc (Kl v G) k).getD q 0;rw[Kj _ hq]) j hj]at h
  rw[eR];exact JJ (by omega) (by omega) hw)))
 have bC2:∀q,J9 q (Q0 (Qc (Kl v G) k))=True:=fun q=>K_ (X4 (Xn _))
 refine e_ (s':=⟨12,[],[.any,P,.ref 1 0 0,I i,I ((2*v+i:Nat):Int),.ref 3 0 0,Q0 (Qc (Kl v G) k),.any,.any,.any,.any,.any],[],TT x0 y0 .dead (k+1) i T1⟩) ?_ (XD (m:=6) (p_ _) rfl ⟨.inl rfl,.inr (by rw[eP2,eG];rfl),.inr rfl,.inr rfl,.inr rfl,.inr rfl,.inr rfl,.inl rfl,.inl rfl,.inl rfl,.inl rfl,.inl rfl,trivial⟩ (by simp[Xu]) rfl (by simp[XK,bP,bC2]) (by simp[XK]) (DF x0 y0 .dead _ _ _ (N' _) (bx _) (by0 _) (bd _)));have hqF:∀j,qb (Kl v G j)≤5000000:=fun j=>by
  unfold Kl;have:=hcG j;have:=hcG (j-v)
  split
  ·rw[Cs];omega
  split
  ·omega
  ·omega
 have TFl:∀p q,qb (T1.t p q)≤5000000:=fun p q=>by rw[hT1];exact hqT p q
 have c5:=N1 x0 y0 .dead T1 (Q0 (Qc T1.c (k+1))) (Kl v G) k i (fun q _=>bx q) (fun q _=>by0 q) (fun q _=>bd q) (by omega) (by omega) (fun p q _ _=>TFl p q) (fun j _=>hqF j) (fun p hp=>⟨by rw[hb1];omega,by rw[hb1];unfold Kl;rw[M_ (by omega),M_ (by omega)]⟩) (by unfold Kl;rw[M_ (by omega),M_ (by omega)]);have eS:({ T1 with c:=Kl v G }:Tb)=S 0:=by
  rw[hS0,hT1,hT0];exact t_ (fun c=>(⟨(JV v L.length (lA L) (lB L) (lG G)).t,c,(JV v L.length (lA L) (lB L) (lG G)).b⟩:Tb)) (funext fun k=>rfl)
 rw[eS]at c5;have c6:=TN x0 y0 .dead k i (2*v+i) K S (fun q _=>bx q) (fun q _=>by0 q) (fun q _=>bd q) ux uy (by simp) (by omega) (by omega) (by omega) (fun q hq p j hp hj=>by have:=hEk q hq p j hp (by omega);omega) (fun q hq j hj=>by have:=hCk q hq j (by omega);omega) hst TAn;rw[←hT]at c6;refine XF 30 ?_;simp(disch:=omega)only[↓Xd,wG,seval];refine Xz rfl c5 (Dg x0 y0 .dead _ _ _ _ _ _ i) (Qg (CI ux uy (by simp) _ _ _ i)) (X1 _) ?_;simp(disch:=omega)only[↓Xd,wG,seval];refine Xz rfl c6 (Dg x0 y0 .dead _ _ _ _ _ _ i) (Qg (CI ux uy (by simp) _ _ _ i)) (X1 _) ?_;simp(disch:=omega)only[↓Xd,wG,seval];have rT:=Qi T.c (k+1);refine e_ ?_ ((XB 4 rfl).trans ((XB 5 rfl).trans ((Qh 3 (Xf (nH i k T)) rfl (fun j hj=>by
  match j,hj with
  |0,_=>exact Kh (M:=i) rfl (N' _) (fun h=>h) fun _ _=>XC _ _
  |1,_=>exact XC _ _
  |2,_=>exact Kh (M:=i) rfl (N' _) (fun h=>h) fun _ _=>XC _ _
  |j+3,h=>omega)).trans ((XB 3 rfl).trans (XH 5 rfl rfl (by omega))))))
 have bX:∀q,J9 q (xT i k T)=True:=fun q=>K_ (X4 (E5 i k T))
 refine e_ (s':=⟨12,[],[.any,P,.ref 1 0 0,I i,I ((2*v+i:Nat):Int),xT i k T,.any,.any,.any,.any,.any,.any],[],[x0,y0]⟩) ?_ (XD (m:=2) (p_ _) rfl ⟨.inl rfl,.inr rfl,.inr rfl,.inr rfl,.inr rfl,.inr rfl,.inl rfl,.inl rfl,.inl rfl,.inl rfl,.inl rfl,.inl rfl,trivial⟩ (by simp[Xu]) rfl (by simp[XK,bP,bX]) (by simp[XK]) (fun o ho=>by
  simp only[b_,V',or_false]at ho;rcases ho with rfl |rfl
  ·exact bx 2
  ·exact by0 2))
 have cp:=VS v okT (by omega) (by omega) (by omega) (fun q=>by have:=bN q;omega);rw[←hX]at cp;have hxq:∀j,qb (X.getD j 0)≤2*E+1:=fun j=>by
  by_cases hj:j<v
  ·rw[hX]
   unfold JT;rw[QP _ hj];have h1:=bN j;have h2:=bN (v+j);have h3:=BS (Jg i k T j) (Jg i k T (v+j));show qb (Jg i k T j-Jg i k T (v+j))≤_;omega
  ·rw[K',j_ (by omega)]
   show qb 0≤_;omega
 have cd:=eQ G X (c+(2*E+1)) (by omega) (by omega) (fun j _=>by have:=hcG j;unfold lG at this;have:=hxq j;omega) (by omega);have ed:XN (fun j=>G.getD j 0*X.getD j 0) G.length=T.c k:=by
  rw[hG,←TCC.TCg];exact XQ fun j hj=>by
   rw[hX];unfold JT;rw[QP _ hj];rfl
 rw[ed]at cd;have TFm:2*(v:Int)=((2*v:Nat):Int):=by omega
 refine Xk ?_;simp(disch:=omega)only[eP2,↓Xd,wG,seval];refine X0 cp (X1 _) ?_;have ts:(((2*v+i:Nat):Int)-((2*v:Nat):Int)).toNat=i:=by omega
 have tm':min (i*4) ((k+1)*4-2*v*4)=i*4:=by omega
 simp(disch:=omega)only[xT,nH,rT,eP2,TFm,eG,ts,tm',↓Xd,wG,seval];refine⟨fun j _=>Cr _ _ (z_ _ (by omega)),?_⟩;refine X0 (eG▸cd) (X1 _) ?_;simp(disch:=omega)only[hy0,Q7,XL,KE,qA,qC,TAD,g_,h_,ZBV,List.map_nil,ZAF,ZAc,List.all_cons,List.all_nil,Bool.and_true,ts,tm',↓Xd,wG,seval];refine Cv (L:=[I 0,Q0 X,.osl 2 0 4 0 i] ++ qC (T.c k)) rfl kU rfl rfl rfl ?_;rw[hR];have ly:Yl.length=i:=by rw[hYl];simp
 refine Du ⟨XU (X9 _) rfl,XU (Xn _) rfl,?_,XU (X5 _) rfl,XU (Xc _) rfl,XU (X5 _) rfl,XU (Xc _) rfl,trivial⟩;have eY:Q0 Yl=.sl i (i*4) (Xl fun z=>Yl.getD z 0) false:=by rw[Xt,ly]
 rw[eY];refine Kc (.inl rfl) (by omega) (fun h=>by rw[h]) fun j hj=>?_
 obtain⟨q,r,hr,rfl⟩:∃q r,r<4∧j=q*4+r:=⟨j/4,j%4,z_ _ (by omega),by omega⟩
 have ej:Q1 0 (Xf []) (i*4) (fun j=>Xl (fun i=>(Qc T.c (k+1)).getD i 0) (2*v*4+j)) (0+(q*4+r))=Xl (fun z=>Yl.getD z 0) (q*4+r):=by
  unfold Q1;rw[M_ (by omega),N_ (by omega),x_,ZC0];show Xl (fun i=>(Qc T.c (k+1)).getD i 0) (2*v*4+(q*4+r))=_;rw[show 2*v*4+(q*4+r)=(2*v+q)*4+r by omega,QA _ _ _ hr,QA _ _ _ hr];rw[show(Qc T.c (k+1)).getD (2*v+q) 0=T.c (2*v+q)from Kj T.c (by omega),hYl,QP (fun i=>T.c (2*v+i)) (show q<i by omega)]
 rw[ej];exact(Xe (XV _) _).TBH _
theorem TI {b:BB}{g:GG}(hb:bS b)(hg:gS g)(h1:Zb b=true)(h2:Zc g=true):Fn Tryz.prog 27 [bA b,gA g] (qA (BP b g)):=by
 obtain⟨q1,q2,q3⟩:=Fd.1 h1;obtain⟨⟨q4,q5,q6⟩,q7⟩:=Dk.1 h2;obtain⟨u1,u2,u3,u4⟩:=id hb;obtain⟨w1,w2,w3,w4,w5⟩:=id hg;have k2:=YH (b:=b) (g:=g) (ZAy q4) (ZAy q3);obtain⟨k3,k4⟩:=wx hb hg;have e0:qb 0≤5700:=by decide +kernel
 have e1:qb 1≤5700:=by decide +kernel
 obtain⟨x,y,val,cs,lx,bx,ho⟩:=Wi 5 (EM b g) TAN 5700 678386 (by omega) (by omega) (by rw[Ho];omega) rfl (fun x hx=>Rm b g x (Hp b g x hx)) (fun i hi=>k2 _ (Hp b g _ (Q9 KK hi))) 9 (by rw[Ho];omega) (fun k hk=>by
  match k,hk with
  |0,_=>rfl
  |1,_=>rfl
  |2,_=>rfl
  |3,_=>rfl
  |4,_=>rfl
  |k+5,h=>omega) k3 k4 ky e0 e1 (by rw[Ho];omega) (by omega) (by rw[Ho];omega) (by omega) (by omega)
 obtain⟨im,_,_⟩:=rh ho;rw[Gk im];have cp:=TL b g (by omega) (by omega) (by omega) (by omega) (by omega) (by omega);obtain⟨R,hR⟩:∃R,R=qA val:=⟨_,rfl⟩
 have sR:A_ R:=hR▸Xa _;rw[←hR];refine y_ (fn:=Tryz.f27) Tryz.call27 Tryz.func27 rfl mixed 5 [] [] [] (by kernel_rfl) (L' rfl) (KS (Jz b) (J2 g)) (Xk ?_);simp(disch:=omega)only[P',bA,J4,gA,QZ,↓Xd,wG,seval];refine X0 cp (X1 _) ?_;simp(disch:=omega)only[↓Xd,wG,seval];refine X0 cs (X1 _) ?_;simp(disch:=omega)only[PH,aU,qC,g_,h_,↓Xd,wG,seval];exact Jh rfl XY rfl rfl rfl sR (hR.trans rfl)
theorem Tt (p q d a b z w:Int)(hd:0<d)(hw:0<w):O_ p d*(a:Rat)+O_ q d*(b:Rat)+O_ z w=O_ ((p*a+q*b)*w+z*d) (d*w):=by
  have h1:(d:Rat)≠0:=fun e=>by have:d=0:=(by exact_mod_cast e);omega
  have h2:(w:Rat)≠0:=fun e=>by have:w=0:=(by exact_mod_cast e);omega
  rw[ZBQ,ZBQ,ZBQ,ZBQ]
  push_cast
  grind
theorem lm {x y:Int}{B C:Nat}(hx:x.natAbs≤B)(hy:y.natAbs≤C):(x*y).natAbs≤B*C:=by
 rw[ZBg];exact ZAx hx hy
theorem eH (t1 t2 d a b:Int)(c:V2)(z1 z2 w:Int)(hc:c=⟨O_ z1 w,O_ z2 w⟩)(hd:1≤d∧d≤13)(h1:-13≤t1∧t1≤13)(h2:-13≤t2∧t2≤13)(ha:-30≤a∧a≤30)(hb:-30≤b∧b≤30)(hw:1≤w∧w≤2)(hz1:-32≤z1∧z1≤32)(hz2:-32≤z2∧z2≤32) :
  vb (put ⟨O_ t1 d,O_ t2 d⟩ c (pI a b))≤1:=by
 subst hc;have e:∀ (p q z:Int),-13≤p∧p≤13→-13≤q∧q≤13→-32≤z∧z≤32→qb (O_ ((p*a+q*b)*w+z*d) (d*w))≤1:=fun p q z hp hq hz=>by
  have m1:=lm (x:=p) (y:=a) (B:=13) (C:=30) (by omega) (by omega);have m2:=lm (x:=q) (y:=b) (B:=13) (C:=30) (by omega) (by omega);have m3:=lm (x:=p*a+q*b) (y:=w) (B:=780) (C:=2) (by omega) (by omega);have m4:=lm (x:=z) (y:=d) (B:=32) (C:=13) (by omega) (by omega);have m5:=lm (x:=d) (y:=w) (B:=13) (C:=2) (by omega) (by omega);exact Fz _ _ (by omega) (by omega)
 refine Nat.max_le.2 ⟨?_,?_⟩
 ·have h:=Tt t1 (-t2) d a b z1 w (by omega) (by omega)
  rw[←Rat.neg_divInt]at h;show qb (O_ t1 d*(a:Rat)-O_ t2 d*(b:Rat)+O_ z1 w)≤1;rw[show O_ t1 d*(a:Rat)-O_ t2 d*(b:Rat)+O_ z1 w=O_ t1 d*(a:Rat) + -O_ t2 d*(b:Rat)+O_ z1 w by grind,h];exact e t1 (-t2) z1 h1 (by omega) hz1
 ·show qb (O_ t2 d*(a:Rat)+O_ t1 d*(b:Rat)+O_ z2 w)≤1
  rw[Tt t2 t1 d a b z2 w (by omega) (by omega)];exact e t2 t1 z2 h2 h1 hz2
theorem mL (n:Int):∃p q d:Int,CA n=⟨O_ p d,O_ q d⟩∧(1≤d∧d≤13)∧(-13≤p∧p≤13)∧-13≤q∧q≤13:=by
 have b:=Qf n 8 (by omega);have h:∀x∈TCT,(1≤x.2.2∧x.2.2≤13)∧(-13≤x.1∧x.1≤13)∧-13≤x.2.1∧x.2.1≤13:=by decide
 have hm:=h (TCT.getD (XA n 8).toNat (1,0,1)) (Q9 _ (show(XA n 8).toNat<8 by omega));exact⟨_,_,_,rfl,hm⟩
theorem mo {k w h s:Int}(hw:1≤w∧w≤6)(hh:1≤h∧h≤6)(hs:-2≤s∧s≤2):∀x∈Lg k w h s,∃a b:Int,x=pI a b∧(-30≤a∧a≤30)∧-30≤b∧b≤30:=fun x hx=>by
 unfold Lg at hx;rw[NA]at hx
 split at hx
 ·simp only[b_,V',or_false]at hx
  rcases hx with rfl |rfl |rfl |rfl |rfl |rfl <;> exact⟨_,_,rfl,by omega,by omega⟩
 split at hx
 ·simp only[b_,V',or_false]at hx
  rcases hx with rfl |rfl |rfl |rfl |rfl |rfl <;> exact⟨_,_,rfl,by omega,by omega⟩
 ·simp only[b_,V',or_false]at hx
  rcases hx with rfl |rfl |rfl |rfl <;> exact⟨_,_,rfl,by omega,by omega⟩
theorem eZ (l:List Int):Qw (O6 l) 3:=by
 unfold O6
 split
 ·unfold MZ
  have hb:=WO l;have b0:=XO l 0 2 (by omega)
  split
  ·exact Z7 (fun x hx=>EK l 16 x hx) (by omega)
  ·have a1:=Z8 (PR l) (pI 4 0)
   have a2:=Z8 (PR l) (pI (1+Ab.atF l 0 2) 3);have a3:=Z8 (PR l) (pI 1 1);have v1:=Ea 4 0 (by omega) (by omega);have v2:=Ea (1+Ab.atF l 0 2) 3 (by omega) (by omega);have v3:=Ea 1 1 (by omega) (by omega);refine Z7 ?_ (by omega);simp only[b_,V',or_false];rintro x (rfl |rfl |rfl |rfl) <;> omega
 ·have b1:=XO l 0 6 (by omega)
  have b2:=XO l 1 6 (by omega);have b3:=XO l 2 5 (by omega);have hC:=mo (k:=Ab.atF l 3 5) (w:=O9 l) (h:=O7 l) (s:=O8 l) (by unfold O9;omega) (by unfold O7;omega) (by unfold O8;omega);obtain⟨p,q,d,hs,hd,hp,hq⟩:=mL (Ab.atF l 4 64);have w1:=XO l (5+2) 2 (by omega);refine Z7 (fun x hx=>?_) (by omega);unfold DP at hx;obtain⟨y,hy,rfl⟩:=ZA3.1 hx;obtain⟨a,b,rfl,ha,hb⟩:=hC y hy;rw[hs];unfold BN;generalize Ab.atF l (5+2) 2=e at *;have z1:=XO l 5 (16*(1+e)+1) (by omega);have z2:=XO l (5+1) (16*(1+e)+1) (by omega);exact k_ (eH p q d a b _ _ _ (1+e) rfl hd hp hq ha hb (by omega) (by omega) (by omega)) (by omega)
theorem Sl {b:BB}{l:List GG}(h:∀i,i<l.length→∃p q,Mg b (l.getD i gZ) p q):∀k,k<l.length→0≤(QC b l (k+1)).2
 |0,hk=>by
  obtain⟨p,q,M⟩:=h 0 hk;have h0:0≤BP b (l.getD 0 gZ):=M.ok.k0;show 0≤(if(-1:Rat)<BP b (l.getD 0 gZ)then(l.getD 0 gZ,BP b (l.getD 0 gZ))else(gZ,-1)).2;rw[N_ (by grind)];exact h0
 |k+1,hk=>by
  have ih:=Sl h k (by omega);obtain⟨p,q,M⟩:=h (k+1) hk;have h0:0≤BP b (l.getD (k+1) gZ):=M.ok.k0;show 0≤(if(QC b l (k+1)).2<BP b (l.getD (k+1) gZ)then(l.getD (k+1) gZ,BP b (l.getD (k+1) gZ))else QC b l (k+1)).2
  split
  ·exact h0
  ·exact ih
theorem ma (L:List V2)(b:BB)(f r:Rat)(h:Qw L 10)(hl:L.length≤13)(hb:bS b)(hf:qb f≤40)(hr:qb r≤40):Fn Tryz.prog 43 [Qm L,bA b,qA f,qA r] (Sk (BU L b f r)):=by
 have c1:=DV L (fun i=>k_ (h i) (by omega)) (by omega);rw[show decide (ZQ L)=decide (AW L)from decide_eq_decide.2 (BI L)]at c1;have c2:=mb b hb;have c3:=TG f r (by unfold rm;omega) (by unfold rm;omega);have c4:=TE L f r h (by omega) (by omega) hf hr;obtain⟨R,hR⟩:∃R,R=BU L b f r:=⟨_,rfl⟩
 rw[←hR];have fk:=GU L h f r;unfold Zr at c4 fk;rw[BI]at c4 fk;unfold BU at hR;have bad:∀ (s:AS) (c:Int),s.get 8=.ref 3 0 0→s.get 9=.ref 4 0 0→s.get 10=I c→s.h[3]?=some (.row 0 32 (Xf (zg false)))→s.h[4]?=some (.row 0 4 (Xf [.bool false,.sl 0 0 (fun _=>.any) false,.bool false,.sl 0 0 (fun _=>.any) false]))→R=(gZ,0,c)→TAC (JK Tryz.prog Tryz.f43 [7,11,16000000000001,16000000000002] [] (Sk R)) s:=by
  intro s c e1 e2 e3 e4 e5 e6;unfold Sk;rw[e6];exact B0 (r1:=.cell 8 32) (r2:=.cell 9 28) (r3:=.tmp 10) rfl (Xs FZ e1 e4 rfl) (Xs XY e2 e5 rfl) (t_ some e3) (Xw (J2 _) (JX (FK _))) (Xw (Xa _) (JX (Jj _))) (XU (X9 _) rfl)
 refine Fq Tryz.call43 Tryz.func43 16 [] [7,11,16000000000001,16000000000002] [] (by simp[Xq,Xa,Jz]) (XF 16 ?_);have bf:=bF b;simp(disch:=omega)only[P',X7,bA,J4,qA,qC,↓Xd,wG,seval];refine e_ ?_ (XB 0 rfl);refine e_ ?_ (XH 5 rfl rfl (by omega));refine Xk ?_;simp(disch:=omega)only[AS.put,List.set,↓Xd,wG,seval];refine X0 c1 ⟨by rw[X7];exact X' _,trivial⟩ ?_;simp(disch:=omega)only[↓Xd,wG,seval];refine⟨fun hp=>bad _ 1 rfl rfl rfl rfl rfl (by rw[hR,M_ fun h=>hp h.1]),fun hp=>?_⟩;refine X0 c2 ⟨by rw[bA,J4];exact X' _,trivial⟩ ?_;simp(disch:=omega)only[↓Xd,wG,seval];refine⟨fun hp2=>bad _ 1 rfl rfl rfl rfl rfl (by rw[hR,M_ fun h=>by rw[h.2.1]at hp2;exact absurd hp2 (by simp)]),fun hp2=>?_⟩;have hp2:Zb b=true:=by simpa using hp2
 refine X0 c3 (X1 _) ?_;simp(disch:=omega)only[↓Xd,wG,seval];refine⟨fun hp3=>bad _ 1 rfl rfl rfl rfl rfl (by rw[hR,M_ fun h=>by rw[h.2.2]at hp3;exact absurd hp3 (by simp)]),fun hp3=>?_⟩;have hp3:AQ f r=true:=by simpa using hp3
 rw[N_ ⟨hp,hp3⟩]at c4 fk;rw[N_ ⟨hp,hp2,hp3⟩]at hR;have hGl:(Eg L f r).length≤1000:=by
  have:=Di L f r L.length;have g3:L.length*L.length≤13*13:=ZAx hl hl;unfold Eg;omega
 generalize Eg L f r=G at *;have hG:∀g∈G,gS g∧Zc g=true:=fun g hg=>by
  obtain⟨k1,k2,k3,k4,k5,k6⟩:=fk g hg;refine⟨⟨by omega,by omega,by omega,by rw[k5];exact hf,by rw[k6];exact hr⟩,?_⟩;unfold Zc;rw[k5,k6,hp3,ZBF,decide_eq_true_eq];rw[H3];exact k4
 have hG2:∀i,i<G.length→∃p q,Mg b (G.getD i gZ) p q:=fun i hi=>by
  obtain⟨g1,g2⟩:=hG _ (Q9 gZ hi);exact OQ b _ hb g1 hp2 g2
 have hm:∀i,i<G.length→Fn Tryz.prog 27 [bA b,gA (G.getD i gZ)] (qA (BP b (G.getD i gZ))):=fun i hi=>by
  obtain⟨g1,g2⟩:=hG _ (Q9 gZ hi);exact TI hb g1 hp2 g2
 have dG:AV.sl G.length (G.length*32) (Xv gC 32 gZ G) false=O0 G:=(XR G).symm;refine X0 c4 ⟨by rw[X7];exact X' _,X' _,X' _,trivial⟩ ?_;by_cases hn:G.length=0
 ·have f0:(G.length=0)=True:=K_ hn
  have f0':((G.length:Int)=0)=True:=K_ (by omega);simp(disch:=omega)only[XR,f0,f0',↓Xd,wG,seval];refine bad _ 6 rfl rfl rfl rfl rfl ?_;unfold M8 at hR;rw[hR,hn];exact N_ (by show(-1:Rat)<0;decide +kernel)
 have f0:(G.length=0)=False:=Q' hn;have f0':((G.length:Int)=0)=False:=Q' (by omega);have f1:(0<G.length)=True:=K_ (by omega);have l0:=Kg gC 32 gZ G 0 (by omega);have l1:=JE gC 32 gZ G 0;rw[ZAo]at l0;simp only[ZAo,x_]at l1;have m0:=hm 0 (by omega);obtain⟨p00,q00,M0⟩:=hG2 0 (by omega);have z00:=M0.z.2.2.2.2;have b1:QC b G 1=(G.getD 0 gZ,BP b (G.getD 0 gZ)):=by
  show(if(-1:Rat)<BP b (G.getD 0 gZ)then(G.getD 0 gZ,BP b (G.getD 0 gZ))else(gZ,-1))=_;rw[N_ (by have:=M0.ok.k0;grind)]
 clear M0;generalize G.getD 0 gZ=g0 at *;simp(disch:=omega)only[XR,f0,f0',f1,l0,l1,QZ,bf,↓Xd,wG,seval];refine X0 m0 (X1 _) ?_;simp(disch:=omega)only[qA,qC,bf,↓Xd,wG,seval];have bV:∀q,J9 q (O0 G)=True:=fun q=>K_ (X4 (AF G))
 have bP0:∀q,J9 q (bP b)=True:=fun q=>K_ (X4 (XP fun j _=>Xe (KG b) j))
 have bO:∀q i,XX q (.con i 20 (Xf (bC b)))=True:=fun q i=>K_ fun j _=>X4 (Xe (KG b) j)
 have bQ:∀q i x,XX q (.row i 4 (Xf (qC x)))=True:=fun q i x=>K_ fun j _=>X4 (Xe (XV x) j)
 have bR:∀q i g,XX q (.row i 32 (Xf (gC g)))=True:=fun q i g=>K_ fun j _=>X4 (Xe (Ke g) _)
 have bZ:∀q i,XX q (.row i 32 (Xf (zg true)))=True:=fun q i=>K_ fun j _=>X4 (Xe (by simp[zg,zC,X5,J7]) j)
 have bZ4:∀q i,XX q (.row i 4 (Xf (Po true)))=True:=fun q i=>K_ fun j _=>X4 (Xe (by simp[Po,X5,J7]) j)
 refine Xi (fun i:Nat=>⟨16,[],[.any,.any,.any,.any,.any,bP b,.any,.any,.ref 3 0 0,.ref 4 0 0,I 0,O0 G,.ref 5 0 0,.ref 6 0 0,I i,.any],[],[.con 0 20 (Xf (bC b)),.row 0 4 (Xf (qC f)),.row 0 4 (Xf (qC r)),.row 0 32 (Xf (zg true)),.row 0 4 (Xf (Po true)),.row 0 32 (Xf (gC (QC b G i).1)),.row 0 4 (Xf (qC (QC b G i).2))]⟩) (fun i=>1≤i∧i≤G.length) (fun i=>G.length-i) 1 ⟨by omega,by omega⟩
  (Xh rfl ⟨.inl rfl,.inl rfl,.inl rfl,.inl rfl,.inl rfl,.inr rfl,.inl rfl,.inl rfl,.inr rfl,.inr rfl,.inr rfl,.inr dG,.inr rfl,.inr rfl,.inr rfl,.inl rfl,trivial⟩ (by simp[Xu]) (by rw[b1];rfl)) ?_
 rintro i ⟨hi0,hi⟩ next
 have w1:=wj i (by omega);by_cases hi2:i<G.length
 rotate_left
 ·obtain rfl:i=G.length:=by omega
  have hnn:0≤(QC b G G.length).2:=by
   obtain⟨j,hj⟩:∃j,G.length=j+1:=⟨G.length-1,by omega⟩
   have:=Sl hG2 j (by omega);rw[hj];exact this
  unfold M8 at hR;rw[M_ (ZAW.2 hnn)]at hR;rw[hR];refine XF 14 ?_;simp(disch:=omega)only[XR,↓Xd,wG,seval];generalize (QC b G G.length).1=g at *;generalize (QC b G G.length).2=m at *;refine XF 1 ?_;simp(disch:=omega)only[↓Xd,wG,seval];show Run _ (_ :: _) _;refine AD (fun x=>x=6) ?_;obtain⟨A,hA⟩:∃A:AO,A=.con 0 20 (Xf (bC b)):=⟨_,rfl⟩
  obtain⟨B,hB⟩:∃B:AO,B=.row 0 4 (Xf (qC f)):=⟨_,rfl⟩
  obtain⟨C,hC⟩:∃C:AO,C=.row 0 4 (Xf (qC r)):=⟨_,rfl⟩
  have l0:=Kp (P:=Tryz.prog) (T:=32) (id:=5) (Z:=gC g) (H:=[A,B,C,.row 0 32 (Xf (zg true)),.row 0 4 (Xf (Po true)),.row 0 32 (Xf (gC g)),.row 0 4 (Xf (qC m))]) FZ rfl rfl;have l1:=Kp (P:=Tryz.prog) (T:=28) (id:=6) (Z:=qC m) (H:=[A,B,C,.row 0 32 (Xf (zg true)),.row 0 4 (Xf (Po true)),.row 0 32 (Xf (gC g)),.row 0 4 (Xf (qC m))]) XY rfl rfl;have l2:=JQ (P:=Tryz.prog) (T:=32) (id:=3) (Z:=zg true) (W:=gC g) (H:=[A,B,C,.row 0 32 (Xf (zg true)),.row 0 4 (Xf (Po true)),.row 0 32 (Xf (gC g)),.row 0 4 (Xf (qC m))]) LK rfl rfl rfl (by decide) rfl;have l3:=JQ (P:=Tryz.prog) (T:=28) (id:=4) (Z:=Po true) (W:=qC m) (H:=[A,B,C,.row 0 32 (Xf (gC g)),.row 0 4 (Xf (Po true)),.row 0 32 (Xf (gC g)),.row 0 4 (Xf (qC m))]) LJ rfl rfl rfl (by decide) rfl;rw[hA,hB,hC]at l0 l1 l2 l3;show ∃s',TAW _ _ _ _ _ _ _ _ _ _ s'∧_;refine⟨_,⟨HO rfl,_,Qr rfl rfl rfl rfl (t_ (zV fun w=>(w,_)) l0),vJ rfl rfl (fun o' va off e=>by cases e;rfl),_,Qr rfl rfl rfl rfl (t_ (zV fun w=>(w,_)) l1),
   xp rfl rfl (fun o' va off e=>by cases e;decide),_,Qr rfl rfl rfl rfl (t_ (zV fun w=>(XW,w)) l2),HO rfl,_,Qr rfl rfl rfl rfl (t_ (zV fun w=>(XW,w)) l3),HO rfl,_,Qr (v:=I 0) (h':=[.con 0 20 (Xf (bC b)),.row 0 4 (Xf (qC f)),.row 0 4 (Xf (qC r)),.row 0 32 (Xf (gC g)),.row 0 4 (Xf (qC m)),.row 0 32 (Xf (gC g)),.row 0 4 (Xf (qC m))]) rfl rfl rfl rfl rfl,rfl⟩,?fin⟩
  refine e_ (s':=⟨16,[],[.any,.any,.any,.any,.any,.any,.any,.any,.ref 3 0 0,.ref 4 0 0,I 0,.any,.any,.any,.any,.any],[],[A,B,C,.row 0 32 (Xf (gC g)),.row 0 4 (Xf (qC m)),.row 0 32 (Xf (gC g)),.row 0 4 (Xf (qC m))]⟩) ?_ (Xh rfl ⟨.inl rfl,.inl rfl,.inl rfl,.inl rfl,.inl rfl,.inl rfl,.inl rfl,.inl rfl,.inr rfl,.inr rfl,.inr rfl,.inl rfl,.inl rfl,.inl rfl,.inl rfl,.inl rfl,trivial⟩ trivial (by rw[hA,hB,hC];rfl));refine Xk ?_;simp(disch:=omega)only[↓Xd,wG,seval];exact B0 (r1:=.cell 8 32) (r2:=.cell 9 28) (r3:=.tmp 10) rfl (Xs FZ rfl rfl rfl) (Xs XY rfl rfl rfl) rfl (XU (J2 _) rfl) (XU (Xa _) rfl) (XU (X9 _) rfl)
 have nx:=next (i+1)
 clear next
 rw[show QC b G (i+1)=if(QC b G i).2<BP b (G.getD i gZ)then(G.getD i gZ,BP b (G.getD i gZ))else QC b G i from rfl]at nx;have l0:=Kg gC 32 gZ G i (by omega);have l1:=JE gC 32 gZ G i;have hz:qb (QC b G i).2≤rm:=Et hG2 _ hi;have mi:=hm i hi2;obtain⟨p01,q01,M1⟩:=hG2 i hi2;have z01:=M1.z.2.2.2.2;clear M1;generalize G.getD i gZ=g at *;generalize BP b g=m at *;obtain⟨h0,hh0⟩:∃h0,h0=(QC b G i).1:=⟨_,rfl⟩
 obtain⟨m0',hm0⟩:∃m0,m0=(QC b G i).2:=⟨_,rfl⟩
 rw[←hm0]at nx hz;rw[←hh0,←hm0];have cc:=K9 m m0' (by unfold rm;omega) hz;have fi:(i<G.length)=True:=K_ hi2;refine Xk ?_;simp(disch:=omega)only[XR,fi,w1,l0,l1,QZ,bP,bf,↓Xd,wG,seval];refine X0 mi (X1 _) ?_;simp(disch:=omega)only[fi,w1,qA,qC,↓Xd,wG,seval];refine X0 cc (X1 _) ?_;by_cases hlt:m0'<m
 ·have fc:(0<AJ m m0')=True:=K_ ((Ap _ _).2 hlt)
  rw[N_ hlt]at nx;simp(disch:=omega)only[fc,XR,fi,w1,l0,l1,QZ,↓Xd,wG,seval];exact nx _ (by omega) (by omega) (XD (m:=7) (p_ _) rfl ⟨.inl rfl,.inl rfl,.inl rfl,.inl rfl,.inl rfl,.inr rfl,.inl rfl,.inl rfl,.inr rfl,.inr rfl,.inr rfl,.inr dG,.inr rfl,.inr rfl,.inr rfl,.inl rfl,trivial⟩ (by simp[Xu]) rfl (by simp[XK,bV,bP0]) (by simp[XK]) (by simp[bO,bQ,bR,bZ,bZ4]))
 ·have fc:(0<AJ m m0')=False:=Q' fun h=>hlt ((Ap _ _).1 h)
  rw[M_ hlt]at nx;simp(disch:=omega)only[fc,XR,fi,w1,l0,l1,QZ,↓Xd,wG,seval];exact nx _ (by omega) (by omega) (XD (m:=7) (p_ _) rfl ⟨.inl rfl,.inl rfl,.inl rfl,.inl rfl,.inl rfl,.inr rfl,.inl rfl,.inl rfl,.inr rfl,.inr rfl,.inr rfl,.inr dG,.inr rfl,.inr rfl,.inr rfl,.inl rfl,trivial⟩ (by simp[Xu]) (by rw[←hh0,←hm0];rfl) (by simp[XK,bV,bP0]) (by simp[XK]) (by simp[bO,bQ,bR,bZ,bZ4]))
theorem Ol (b:BB)(l:List GG):∀k i,i<k→BP b (l.getD i gZ)≤(QC b l k).2
 |k+1,i,hi=>by
  show _≤(if(QC b l k).2<BP b (l.getD k gZ)then(l.getD k gZ,BP b (l.getD k gZ))else QC b l k).2;by_cases e:i=k
  ·subst e
   split
   ·exact ZCR
   ·rename_i h;exact ZAW.1 h
  ·have ih:=Ol b l k i (by omega)
   split
   ·rename_i h;exact Rat.le_trans ih (ZAy h)
   ·exact ih
theorem Om (b:BB)(l:List GG):∀k,k≤l.length→(QC b l k).1=gZ∨(QC b l k).1∈l
 |0,_=>.inl rfl
 |k+1,hk=>by
  show(if(QC b l k).2<BP b (l.getD k gZ)then(l.getD k gZ,BP b (l.getD k gZ))else QC b l k).1=gZ∨(if(QC b l k).2<BP b (l.getD k gZ)then(l.getD k gZ,BP b (l.getD k gZ))else QC b l k).1∈l
  split
  ·exact .inr (Q9 gZ (by omega))
  ·exact Om b l k (by omega)
structure TCD (X:AV)(B:BB)(f r:Rat)(g:GG)(k:Rat)(e:Int)(G:List GG):Prop where
 fb:Fn Tryz.prog 42 [X,bA B,qA f,qA r] (.tup [gA g,qA k,I e])
 rb:Fn Tryz.prog 43 [X,bA B,qA f,qA r] (.tup [gA g,qA k,I e])
 ff:Fn Tryz.prog 45 [X,qA f,qA r] (O0 G)
 gw:gW g
 qk:qb k≤rm
 l:G.length<1000000
 mm:e=0→∀x∈G,∃p q,Fn Tryz.prog 22 [bA B,gA x] (.tup [qA (BP B x),VU [p,q],I 0])∧BP B x≤k∧qb (BP B x)≤rm
theorem qw:gW gZ:=by
 have z:qb 0≤10000:=by decide +kernel
 have v:vb v0≤10000:=by decide +kernel
 exact⟨v,v,v,z,z⟩
theorem HW (W:List V2)(B:BB)(f r:Rat)(h:Qw W 10)(hl:W.length≤13)(hb:bS B)(hf:qb f≤40)(hr:qb r≤40):∃g k e,TCD (Qm W) B f r g k e (Zr W f r):=by
 have c1:=SN W B f r h hl hb hf hr;have c2:=ma W B f r h hl hb hf hr;have k0:=mq W f r (fun i=>k_ (h i) (by omega)) hl hf hr;have fk:=GU W h f r;have z0:qb 0≤rm:=by decide +kernel
 suffices main:gW (BU W B f r).1∧qb (BU W B f r).2.1≤rm∧(Zr W f r).length<1000000∧((BU W B f r).2.2=0→∀x∈Zr W f r,∃p q,Fn Tryz.prog 22 [bA B,gA x] (.tup [qA (BP B x),VU [p,q],I 0])∧BP B x≤(BU W B f r).2.1∧qb (BP B x)≤rm)by
  obtain⟨m1,m2,m3,m4⟩:=main;exact⟨_,_,_,c1,c2,k0.fg,m1,m2,m3,m4⟩
 have kl:=k0.l;clear k0 c1 c2;by_cases hp:AW W∧Zb B=true∧AQ f r=true
 ·have eF:Zr W f r=Eg W f r:=by unfold Zr;rw[N_ ⟨(BI W).2 hp.1,hp.2.2⟩]
  have eR:BU W B f r=M8 B (Eg W f r):=by unfold BU;rw[N_ hp]
  have hll:=kl;rw[eF]at fk hll ⊢;rw[eR];generalize Eg W f r=G at *;have hG2:∀x∈G,∃p q,Mg B x p q:=fun x hx=>by
   obtain⟨k1,k2,k3,k4,k5,k6⟩:=fk x hx;refine OQ B x hb ⟨by omega,by omega,by omega,by rw[k5];exact hf,by rw[k6];exact hr⟩ hp.2.1 ?_;unfold Zc;rw[k5,k6,hp.2.2,ZBF,decide_eq_true_eq,H3];exact k4
  have hG3:∀i,i<G.length→∃p q,Mg B (G.getD i gZ) p q:=fun i hi=>hG2 _ (Q9 gZ hi)
  have hw:gW (QC B G G.length).1:=by
   rcases Om B G G.length (N' _)with e |e
   ·rw[e];exact qw
   ·obtain⟨k1,k2,k3,k4,k5,k6⟩:=fk _ e
    exact⟨by omega,by omega,by omega,by rw[k5];omega,by rw[k6];omega⟩
  have hq:=Et hG3 _ (N' _);unfold M8
  split
  ·exact⟨qw,z0,hll,fun e=>by cases e⟩
  ·refine⟨hw,hq,hll,fun _ x hx=>?_⟩
   obtain⟨p,q,M⟩:=hG2 x hx;obtain⟨i,hi,rfl⟩:=ZAI hx;have:=Ol B G G.length i hi;rw[K',U_ hi]at this;exact⟨p,q,M.fn,this,by have:=M.z.2.2.2.2;unfold rm;omega⟩
 ·have eR:BU W B f r=(gZ,0,1):=by unfold BU;rw[M_ hp]
  rw[eR];exact⟨qw,z0,kl,fun e=>by cases e⟩
theorem cV (l:List RV)(B:BB)(f r:Rat)(hs:tK l)(hl:l.length<1000000)(k:Nat)(hk:k<l.length)(hb:¬ (l.getD k Kn).ok):Fn Tryz.prog 42 [AE l,bA B,qA f,qA r] (Sk (gZ,0,1)):=by
 have c:=N4 l hs hl k hk hb;refine Fq Tryz.call42 Tryz.func42 18 [38,39,40] [11000000000001,11000000000002,15000000000001,15000000000002] [] (by simp[JD,Xa,Jz]) (Xk ?_);simp(disch:=omega)only[P',Q4,bA,J4,qA,qC,↓Xd,wG,seval];refine X0 c ⟨by rw[Q4];exact X' _,trivial⟩ ?_;simp(disch:=omega)only[↓Xd,wG,seval];exact B0 (r1:=.cell 8 32) (r2:=.cell 9 28) (r3:=.tmp 10) rfl (Xs (L:=zg false) FZ rfl rfl rfl) (Xs (L:=Po false) XY rfl rfl rfl) rfl (Xw (J2 _) (JX (FK _))) (Xw (Xa _) (JX (Jj _))) (XU (X9 _) rfl)
theorem eI (l:List RV)(B:BB)(f r:Rat)(hs:tK l)(hl:l.length<1000000)(k:Nat)(hk:k<l.length)(hb:¬ (l.getD k Kn).ok):Fn Tryz.prog 43 [AE l,bA B,qA f,qA r] (Sk (gZ,0,1)):=by
 have c:=O5 l hs hl k hk hb;refine Fq Tryz.call43 Tryz.func43 16 [] [7,11,16000000000001,16000000000002] [] (by simp[JD,Xa,Jz]) (Xk ?_);simp(disch:=omega)only[P',Q4,bA,J4,qA,qC,↓Xd,wG,seval];refine X0 c ⟨by rw[Q4];exact X' _,trivial⟩ ?_;simp(disch:=omega)only[↓Xd,wG,seval];exact B0 (r1:=.cell 8 32) (r2:=.cell 9 28) (r3:=.tmp 10) rfl (Xs (L:=zg false) FZ rfl rfl rfl) (Xs (L:=Po false) XY rfl rfl rfl) rfl (Xw (J2 _) (JX (FK _))) (Xw (Xa _) (JX (Jj _))) (XU (X9 _) rfl)
theorem V4 (l:List RV)(B:BB)(f r:Rat)(hs:tK l)(hl:l.length<1000000)(k:Nat)(hk:k<l.length)(hb:¬ (l.getD k Kn).ok):TCD (AE l) B f r gZ 0 1 [] :=
 ⟨cV l B f r hs hl k hk hb,eI l B f r hs hl k hk hb,cW l f r hs hl k hk hb,qw,by decide +kernel,by simp,fun e=>by cases e⟩
theorem V5 (l n:List Int)(how by' force E_:Int)(h1:FR l)(h2:FR n)(h3:ZO how)(h4:ZO by')(h5:ZO force)(h6:ZO E_) :
  Fn Tryz.prog 8 [X8 l,X8 n,I how,I by',I force,I E_] (.bool true):=by
 have hr:=wC l;have hs:=eZ l;have c1:=rk l h1;have c2:=bg n (O6 l) h2 hr;obtain⟨sb,gb⟩:=uK n (O6 l) hr;generalize O6 l=L at *;generalize be n L=b at *;obtain⟨⟨n1,n2⟩,n3,n4⟩:=hr;have c3:=fJ L how by' n3 (by omega) h3 h4 (by omega);have tb:=sb.s;have d1:=K2 force 12 h5 (by omega);have d2:=K2 E_ 12 h6 (by omega);have d3:=K2 by' 20 h4 (by omega);have b1:=Qf force 12 (by omega);have b2:=Qf E_ 12 (by omega);have b3:=Qf by' 20 (by omega);generalize XA force 12=x at *;generalize XA E_ 12=y at *;generalize XA by' 20=z at *;have e1:=XS (x-1) 1 ⟨by omega,by omega⟩ ⟨by omega,by omega⟩;have e2:=XS (y-1) 2 ⟨by omega,by omega⟩ ⟨by omega,by omega⟩;have e3:=XS (z-2) 1 ⟨by omega,by omega⟩ ⟨by omega,by omega⟩;have q1:=Fz (x-1) 1 (by omega) (by omega);have q2:=Fz (y-1) 2 (by omega) (by omega);have q3:=Fz (z-2) 1 (by omega) (by omega);generalize O_ (x-1) 1=f at *;generalize O_ (y-1) 2=r at *;generalize O_ (z-2) 1=t at *;obtain⟨bad,TEo⟩:∃bad:BB,bad={ b with TAX:=t }:=⟨_,rfl⟩
 have TFn:bS bad:=by
  obtain⟨u1,u2,u3,u4⟩:=tb;rw[TEo];exact⟨u1,by show qb t≤40;omega,u3,u4⟩
 have k0:=HW L b f r (fun i=>k_ (hs i) (by omega)) (by omega) tb (by omega) (by omega);have k2:=HW L bad f r (fun i=>k_ (hs i) (by omega)) (by omega) TFn (by omega) (by omega);have k1:∃g k e G,TCD (AE (Li L how by')) b f r g k e G:=by
  by_cases hm:XA how 7=5
  ·obtain⟨e1,e2,k,e3,e4⟩:=mN L how by' n3 (by omega) hm
   exact⟨_,_,_,_,V4 _ b f r e2 (by omega) k e3 e4⟩
  ·obtain⟨W,e1,e2,e3⟩:=mM L how by' 3 hs (by omega) hm
   obtain⟨g,k,e,hh⟩:=HW W b f r e2 (by omega) tb (by omega) (by omega);rw[e1,show AE (W.map RV.of)=Qm W by rw[Q4,X7,tL,ZBp]];exact⟨g,k,e,_,hh⟩
 generalize Li L how by'=W at *;have cl:=kW;refine Fq Tryz.call8 Tryz.func8 32 [] [12,13,20] [] (by simp[Xc,X9]) (Xk ?_);simp(disch:=omega)only[P',↓Xd,wG,seval];refine X0 c1 (X1 _) ?_;simp(disch:=omega)only[↓Xd,wG,seval];refine X0 c2 (X1 _) ?_;simp(disch:=omega)only[bA,J4,↓Xd,wG,seval];refine X0 d1 (X1 _) ?_;simp(disch:=omega)only[↓Xd,wG,seval];refine X0 e1 (X1 _) ?_;simp(disch:=omega)only[qA,qC,↓Xd,wG,seval];refine X0 d2 (X1 _) ?_;simp(disch:=omega)only[↓Xd,wG,seval];refine X0 e2 (X1 _) ?_;simp(disch:=omega)only[qA,qC,↓Xd,wG,seval];refine X0 d3 (X1 _) ?_;simp(disch:=omega)only[↓Xd,wG,seval];refine X0 e3 (X1 _) ?_;simp(disch:=omega)only[qA,qC,X7,↓Xd,wG,seval];refine X0 c3 ⟨by rw[X7];exact X' _,X' _,X' _,trivial⟩ ?_;simp(disch:=omega)only[X7,Q4,↓Xd,wG,seval];obtain⟨F,hF⟩:∃F,F=Xf [.sl L.length (L.length*8) (Xv vC 8 v0 L) false,.sl W.length (W.length*8) (Xv D4 8 Kn W) false,.sl L.length (L.length*8) (Xv vC 8 v0 L) false]:=⟨_,rfl⟩
 obtain⟨K,hK⟩:∃K,K=Xf (bC b ++ bC b ++ bC bad):=⟨_,rfl⟩
 have key:∀i,i<3→∃n m g X B,F i=.sl n m g false∧B_ (.sl n m g false) X∧(∀j,j<20→K (i*20+j)=(bC B).getD j .any)∧∃g k e G,TCD X B f r g k e G:=fun i hi=>by
  subst hF hK
  match i,hi with
  |0,_ =>
   obtain⟨g,k,e,hh⟩:=k0;exact⟨_,_,_,Qm L,b,rfl,by rw[X7];exact X' _,fun j hj=>by rw[P_,ZAo,x_];exact xD (A:=bC b) _ (n:=20) rfl hj,g,k,e,_,hh⟩
  |1,_ =>
   obtain⟨g,k,e,G,hh⟩:=k1;exact⟨_,_,_,AE W,b,rfl,by rw[Q4];exact X' _,fun j hj=>by rw[xD (A:=bC b ++ bC b) _ (n:=40) rfl (by omega)];exact xE (A:=bC b) (bC b) (n:=20) rfl (by omega),g,k,e,G,hh⟩
  |2,_ =>
   obtain⟨g,k,e,hh⟩:=k2;exact⟨_,_,_,Qm L,bad,rfl,by rw[X7];exact X' _,fun j hj=>xE (A:=bC b ++ bC b) (bC bad) (n:=40) rfl (by omega),g,k,e,_,hh⟩
  |i+3,h=>omega
 have bK:∀q,J9 q (.sl 3 60 K true)=True:=fun q=>K_ (X4 (QF fun j _=>by
  rw[hK];exact Xe (by
   intro a ha;simp only[m_]at ha;rcases ha with(ha |ha) |ha
   ·exact KG _ a ha
   ·exact KG _ a ha
   ·exact KG _ a ha) j))
 have bF:∀q,J9 q (.sl 3 3 F true)=True:=fun q=>K_ (X4 (QF fun j hj=>by
  have hj:j<3:=hj;rw[hF]
  match j,hj with
  |0,_=>exact X7 L▸Xq L
  |1,_=>exact Q4 W▸JD W
  |2,_=>exact X7 L▸Xq L
  |j+3,h=>omega))
 have bZ:∀q u,J9 q (Jo u)=True:=fun q u=>K_ (X4 (XP fun j _=>Xe (XV u) j))
 refine Xi (fun i:Nat=>⟨32,[],[.any,.any,.any,.any,.any,.any,.any,.any,.any,.any,.any,.any,.any,.any,.any,Jo f,Jo r,.any,.sl 3 3 F true,.sl 3 60 K true,I i,.any,.any,.any,.any,.any,.any,.any,.any,.any,.any,.any],[],[]⟩) (fun i=>i≤3) (fun i=>3-i) 0 (by omega)
  ((XB 1 rfl).trans ((XB 2 rfl).trans ((XH 15 rfl rfl (by omega)).trans ((XH 16 rfl rfl (by omega)).trans (XD (m:=0) (p_ _) rfl ⟨.inl rfl,.inl rfl,.inl rfl,.inl rfl,.inl rfl,.inl rfl,.inl rfl,.inl rfl,.inl rfl,.inl rfl,.inl rfl,.inl rfl,.inl rfl,.inl rfl,.inl rfl,.inr rfl,.inr rfl,.inl rfl,.inr (by rw[hF]),.inr (by rw[hK,TEo];rfl),.inr rfl,.inl rfl,.inl rfl,.inl rfl,.inl rfl,.inl rfl,.inl rfl,.inl rfl,.inl rfl,.inl rfl,.inl rfl,.inl rfl,trivial⟩ (by simp[Xu]) rfl (by simp[XK,bK,bF,bZ,I]) (by simp[XK]) (by simp)))))) ?_
 clear hF hK k0 k1 k2 c1 c2 c3;intro i hi next
 have w1:=wj i (by omega);by_cases hi2:i<3
 rotate_left
 ·obtain rfl:i=3:=by omega
  refine Xk ?_;simp(disch:=omega)only[↓Xd,wG,seval];refine X0 cl (X1 _) ?_;simp(disch:=omega)only[↓Xd,wG,seval];exact Xp (v:=.bool true) rfl rfl (X5 _) rfl
 have nx:=next (i+1)
 clear next
 obtain⟨n,m',gf,X,B,y1,y2,y3,g,k,e,G,⟨a1,a2,a3,a4,a5,a6,a7⟩⟩:=key i hi2;have y0:=y3 0 (by omega);rw[ZAn]at y0;have f3:(i<3)=True:=K_ hi2;have f3':((i:Int)<3)=True:=K_ (by omega);have sg1:=OE g g a4 a4;rw[Y' rfl]at sg1;have sk:=E1 k k a5 a5;rw[Y' rfl]at sk;refine Xk ?_;simp(disch:=omega)only[w1,f3,f3',y1,y0,y3,J4,Jo,qC,↓Xd,wG,seval];refine X0 a1 ⟨y2,X' _,X' _,X' _,trivial⟩ ?_;simp(disch:=omega)only[w1,f3,f3',y1,y0,y3,J4,Jo,gA,QZ,qA,qC,↓Xd,wG,seval];refine X0 a2 ⟨y2,X' _,X' _,X' _,trivial⟩ ?_;simp(disch:=omega)only[w1,f3,f3',y1,y0,y3,J4,Jo,gA,QZ,qA,qC,↓Xd,wG,seval];refine X0 sg1 (X1 _) ?_;simp(disch:=omega)only[w1,f3,f3',y1,y0,y3,J4,Jo,gA,QZ,qA,qC,↓Xd,wG,seval];refine X0 sk (X1 _) ?_;simp(disch:=omega)only[w1,f3,f3',y1,y0,y3,J4,Jo,gA,QZ,qA,qC,↓Xd,wG,seval];refine X0 a3 ⟨y2,X' _,X' _,trivial⟩ ?_;simp(disch:=omega)only[XR,↓Xd,wG,seval];have bG:∀q,J9 q (O0 G)=True:=fun q=>K_ (X4 (AF G))
 have bO1:∀q,XX q (.row 0 32 (Xf (gC g)))=True:=fun q=>K_ fun j _=>X4 (Xe (Ke g) j)
 have bO2:∀q,XX q (.row 0 4 (Xf (qC k)))=True:=fun q=>K_ (QN (XV k))
 refine Xi (fun j:Nat=>⟨32,[],[.any,.any,.any,.any,.any,.any,.any,.any,.any,.any,.any,.any,.any,.any,.any,Jo f,Jo r,.any,.sl 3 3 F true,.sl 3 60 K true,I i,.any,.ref 1 0 0,I e,.any,.any,.any,O0 G,I j,.any,.any,.any],[],[.row 0 32 (Xf (gC g)),.row 0 4 (Xf (qC k))]⟩) (fun j=>j≤G.length) (fun j=>G.length-j) 0 (by omega)
  (XD (m:=2) (p_ _) rfl ⟨.inl rfl,.inl rfl,.inl rfl,.inl rfl,.inl rfl,.inl rfl,.inl rfl,.inl rfl,.inl rfl,.inl rfl,.inl rfl,.inl rfl,.inl rfl,.inl rfl,.inl rfl,.inr rfl,.inr rfl,.inl rfl,.inr rfl,.inr rfl,.inr rfl,.inl rfl,.inr rfl,.inr rfl,.inl rfl,.inl rfl,.inl rfl,.inr (XR G).symm,.inr rfl,.inl rfl,.inl rfl,.inl rfl,trivial⟩ (by simp[Xu]) rfl (by simp[XK,bK,bF,bZ,bG]) (by simp[XK]) (by simp[bO1,bO2])) ?_
 intro j hj nxt;have w2:=wj j (by omega);by_cases hj2:j<G.length
 rotate_left
 ·obtain rfl:j=G.length:=by omega
  refine Xk ?_;simp(disch:=omega)only[w1,XR,↓Xd,wG,seval];exact nx _ (by omega) (by omega) (mD (m:=0) (by simp[Xm,I,Jo]) rfl (by simp[XK,bK,bF,bZ]) (by simp))
 have fj:(j<G.length)=True:=K_ hj2;by_cases he:e=0
 rotate_left
 ·have fe:(e=0)=False:=Q' he
  refine Xk ?_;simp(disch:=omega)only[w1,XR,fj,fe,↓Xd,wG,seval];exact nx _ (by omega) (by omega) (mD (m:=0) (by simp[Xm,I,Jo]) rfl (by simp[XK,bK,bF,bZ]) (by simp))
 have nx2:=nxt (j+1);clear nxt;have fe:(e=0)=True:=K_ he;obtain⟨p,q,t1,t2,t3⟩:=a7 he _ (Q9 gZ hj2);have l0:=Kg gC 32 gZ G j (by omega);have l1:=JE gC 32 gZ G j;generalize G.getD j gZ=x' at *;generalize BP B x'=mm at *;have cc:=J6 mm k t3 a5;have fc:(0<AJ mm k)=False:=Q' (by rw[Ap];exact ZAW.2 t2);refine Xk ?_;simp(disch:=omega)only[w1,w2,f3,f3',XR,fj,fe,y0,y3,J4,l0,l1,QZ,↓Xd,wG,seval];refine X0 t1 (X1 _) ?_;simp(disch:=omega)only[w1,w2,f3,f3',XR,fj,fe,y0,y3,J4,l0,l1,QZ,YJ,qA,qC,↓Xd,wG,seval];refine X0 cc (X1 _) ?_;simp(disch:=omega)only[w1,w2,fc,↓Xd,wG,seval];exact nx2 _ (by omega) (by omega) (mD (m:=2) (by simp[Xm,I,Jo,XR]) rfl (by simp[XK,bK,bF,bZ,bG]) (by simp[bO1,bO2]))
end
end Go.Ab.N
