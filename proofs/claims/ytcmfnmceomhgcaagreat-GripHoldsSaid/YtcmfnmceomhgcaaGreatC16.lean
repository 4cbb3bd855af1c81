/- Contracts of functions, for every argument that fits. -/
import Derived.Test.YtcmfnmceomhgcaaGreatC15
import Derived.Test.YtcmfnmceomhgcaaGreatC13
import Derived.Test.YtcmfnmceomhgcaaGreatC11
import Derived.Test.YtcmfnmceomhgcaaGreatC14
set_option linter.unusedSimpArgs false
set_option linter.unusedVariables false
open Bool renaming and_true→ZCR
open Go.Ab.AS renaming start→O_
open Go.Ab.TAF renaming spec→ZD7
open List renaming range→ZAO
open Nat renaming lt_succ_self→ZER
open Rat renaming divInt→P'
namespace Go.Ab.N
open Go Go.RowKit Go.Proofs
noncomputable section
set_option maxRecDepth 10000
set_option maxHeartbeats 4000000
open Classical
theorem RE (H:List AO)(l:List Rat)(t:Rat)(hl:l.length<1000000)(ht:qb t≤rm)(h:∀ x∈l,qb x≤rm)(hH:KK H)(hU:J6 H):G' Tryz.prog 197 [XX l,qA t] H (.osl (H.length+1) l.length 4 0 l.length) (H ++ [.row 0 4 (Xf (qC t)),.row l.length (l.length*4) (Xw qC 4 0 (l.map (·*t)))]):=by
  obtain⟨n0,hn0⟩:∃n0,n0=H.length:=⟨_,rfl⟩
  have e0:=BL hn0.symm;have e1:=FU hn0.symm;have el:=ZH hn0.symm;have es0:=CQ hn0.symm;have es1:=H9 hn0.symm;refine G'.intro (fn:=Tryz.f197) Tryz.call197 Tryz.func197 rfl mixed 7 [] [] [] (by kernel_rfl) (K_ rfl) (Xk ?_);simp(disch:=omega)only[O_,Xu,qA,qC,e0,e1,el,es0,es1,←hn0,↓Xc,wG,seval];have bV:∀q,Jl q (XX l)=True:=fun q=>L' (X4 (Xr l))
  have hk:∀i,Q0 (n0+2) (.row 0 4 (Xf (qC t)))∧Q0 (n0+2) (.row i (i*4) (Xw qC 4 0 ((l.take i).map (·*t)))):=fun i=>⟨QZ (XU t),fun j _=>X4 (Xe (XU _) _)⟩
  have hb:∀i,∀o∈H ++ [.row 0 4 (Xf (qC t)),.row i (i*4) (Xw qC 4 0 ((l.take i).map (·*t)))],Q0 (n0+2) o:=fun i o ho=>by
    rcases n_.1 ho with h |h
    · exact hH o h _ (by omega)
    · simp only[b_,V_,or_false]at h;rcases h with rfl |rfl
      · exact(hk i).1
      · exact(hk i).2
  refine Xj (fun i:Nat=>⟨7,[],[XX l,.any,.any,.ref n0 0 0,.any,.osl (n0+1) i 4 0 i,I i],[],H ++ [.row 0 4 (Xf (qC t)),.row i (i*4) (Xw qC 4 0 ((l.take i).map (·*t)))]⟩) (fun i=>i≤l.length) (fun i=>l.length-i) 0 (by omega)
    (ZAZ (JS 5 4 (Xw qC 4 0 []) rfl) (Xh rfl ⟨.inr (Xu l).symm,.inl rfl,.inl rfl,.inr rfl,.inl rfl,.inr (by show AV.osl _ _ _ _ _=_;rw[j_,←hn0];rfl),.inr rfl,trivial⟩ trivial (by show(H ++ _) ++ _=_;rw[P_];rfl))) ?_
  intro i hi next
  have w1:=wj i;have hlk:∀i,i≤l.length→((l.take i).map (·*t)).length=i:=fun i hi=>by simp;omega
  by_cases hi2:i<l.length
  · have f1:(i<l.length)=True:=L' hi2;have v0:Xm (fun i=>l.getD i 0) (i*4)=(qC (l.getD i 0)).getD 0 .any:=ZO qC 4 0 l i;have v1:∀j,j<4→Xm (fun i=>l.getD i 0) (i*4+j)=(qC (l.getD i 0)).getD j .any:=fun j hj=>Ze qC 4 0 l i j hj
    have s1:=h _ (Qp 0 hi2);have hk:=hlk i hi;have ht2:(l.take i).map (·*t) ++ [l.getD i 0*t]=(l.take (i+1)).map (·*t):=by
      rw[GA l 0 hi2,List.map_append];rfl
    have nx:=next (i+1)
    have hb2:=hb (i+1);rw[←ht2]at nx hb2;generalize l.getD i 0=p at *;have c1:=Qm p t s1 ht;have hap:=Zp qC 4 0 ((l.take i).map (·*t)) (p*t);rw[hk]at hap;refine Xk ?_;simp(disch:=omega)only[Xu,w1,f1,v0,v1,qC,e0,e1,el,es0,es1,↓Xc,wG,seval];refine X0 c1 (X1 _) ?_;simp(disch:=omega)only[qA,qC,e0,e1,el,es0,es1,↓Xc,wG,seval];refine⟨fun j hj=>CF (p*t) j hj,nx _ (by omega) (by omega) (XG (m:=n0+2) (by show H.length≤n0+2;omega) rfl (by simp[Xo,I,Xu]) (by simp[Xx]) ?_ (by simp[XP,bV]) (by simp[XP]) hb2)⟩;rw[←hap];show List.take (n0+2) (H ++ _)=_;rw[hn0,List.take_append,ZCb (by omega),show H.length+2-H.length=2 by omega];rfl
  · obtain rfl:i=l.length:=by omega
    refine Xk ?_;simp(disch:=omega)only[Xu,↓Xc,wG,seval];exact Pe rfl (by rw[hn0];rfl) (by rw[ZAW];rfl)
theorem Ms (H:List AO)(v n v' n':Nat)(f f':Nat→AV):K5 H (H ++ [.row v n f,.row v' n' f']):=fun a ver k g=>by
 by_cases ha:a<H.length
 ·rw[T_ ha]
 ·rw[k_ (by omega),g_ (by omega)]
  obtain⟨k,hk⟩:∃k,k=a-H.length:=⟨_,rfl⟩
  rw[←hk]
  match k with
  |0=>exact⟨fun h=>(by cases h),fun h=>(by cases h)⟩
  |1=>exact⟨fun h=>(by cases h),fun h=>(by cases h)⟩
  |k+2=>exact⟨fun h=>(by cases h),fun h=>(by cases h)⟩
theorem O4 (H:List AO)(l:List Rat)(hl:l.length<1000000)(h:∀ x∈l,qb x≤rm)(hH:KK H)(hU:J6 H):G' Tryz.prog 124 [XX l] H (.osl (H.length+1) l.length 4 0 l.length) (H ++ [.row 0 4 (Xf (qC (-1))),.row l.length (l.length*4) (Xw qC 4 0 (Cb l))]):=by
  have c0:=XL (-1) 1 ⟨by omega,by omega⟩ ⟨by omega,by omega⟩;rw[show P' (-1) 1 = -1 by decide +kernel]at c0;have c1:=RE H l (-1) hl (by decide +kernel) h hH hU;rw[show l.map (· * -1)=Cb l from ZAh fun x _=>by grind]at c1;refine G'.intro (fn:=Tryz.f124) Tryz.call124 Tryz.func124 rfl mixed 2 [] [] [1] (by kernel_rfl) (K_ rfl) (Xk ?_);simp(disch:=omega)only[O_,↓Xc,wG,seval];refine X0 c0 (X1 _) ?_;simp(disch:=omega)only[↓Xc,wG,seval];refine XC rfl c1 (Ms H _ _ _ _ _ _) (Qd hU) (X1 _) ?_;simp(disch:=omega)only[↓Xc,wG,seval];exact Pe rfl rfl rfl
theorem fH (a b:List Rat)(E:Nat)(ha:a.length<49)(hb:b.length=a.length)(hE:∀i,i<a.length→qb (a.getD i 0)+qb (b.getD i 0)≤E) (hE2:E≤2000000) :
  Fn Tryz.prog 175 [XX a,XX b] (qA (XO (fun i=>a.getD i 0*b.getD i 0) a.length)):=by
 obtain⟨N,hN⟩:∃N,N=a.length:=⟨_,rfl⟩
 obtain⟨f,hf⟩:∃f:Nat→Rat,f=fun i=>a.getD i 0*b.getD i 0:=⟨_,rfl⟩
 have hs:XO (fun i=>a.getD i 0*b.getD i 0) a.length=XO f N:=by rw[hf,hN]
 rw[hs];obtain⟨R,hR⟩:∃R,R=qA (XO f N):=⟨_,rfl⟩
 have sR:A_ R:=hR▸Xb _;have eA:XX a=.sl N (N*4) (Xm fun i=>a.getD i 0) false:=by rw[Xu,hN]
 have eB:XX b=.sl N (N*4) (Xm fun i=>b.getD i 0) false:=by rw[Xu,hN,hb]
 have bA:∀q,Jl q (.sl N (N*4) (Xm fun i=>a.getD i 0) false)=True:=fun q=>L' (X4 (eA▸Xr a))
 have bB:∀q,Jl q (.sl N (N*4) (Xm fun i=>b.getD i 0) false)=True:=fun q=>L' (X4 (eB▸Xr b))
 rw[←hR];refine q_ (fn:=Tryz.f175) Tryz.call175 Tryz.func175 rfl mixed 7 [] [] [] (by kernel_rfl) (K_ rfl) (Kk (Xr a) (Xr b)) (Xk ?_);simp(disch:=omega)only[O_,eA,eB,↓Xc,wG,seval];have w0:=QB true;have wz:∀ (H:List AO) (j:Nat),j<4→Jj H (Xf [.bool false,.sl 0 0 (fun _=>.any) true,.bool false,.sl 0 0 (fun _=>.any) true] j) (Xf (qC 0) j):=fun H j hj=>by
  match j,hj with
  |0,_=>exact Xy w0.1
  |1,_=>exact Xy w0.2.1
  |2,_=>exact Xy w0.2.2.1
  |3,_=>exact Xy w0.2.2.2.1
  |j+4,h=>omega
 refine Xj (fun i:Nat=>⟨7,[],[.sl N (N*4) (Xm fun i=>a.getD i 0) false,.sl N (N*4) (Xm fun i=>b.getD i 0) false,.any,.any,.ref 0 0 0,.ref 1 0 0,I i],[],[.row 0 4 (Xf TAE),.row 0 4 (Xf (qC (XO f i)))]⟩) (fun i=>i≤N) (fun i=>N-i) 0 (by omega)
  (ZAZ (Qe 1 (Xf (qC 0)) rfl (wz _)) (ZZ (by simp[Xo,I]) (by simp[TAE,XO]))) ?_
 intro i hi next
 have w1:=wj i;by_cases hi2:i<N
 ·have f1:(i<N)=True:=L' hi2
  have q0:=hE i (by omega);have p1:qb (XO f i)≤i*(E+1)+1:=Hu fun j hj=>by
   have:=Qa (a.getD j 0) (b.getD j 0);have:=hE j (by omega);rw[hf];show qb (a.getD j 0*b.getD j 0)≤E;omega
  have p2:i*(E+1)≤48*(2000000+1):=ZBQ (by omega) (by omega);have p3:=Qa (a.getD i 0) (b.getD i 0);have c1:=Qm (a.getD i 0) (b.getD i 0);have fk:f i=a.getD i 0*b.getD i 0:=by rw[hf]
  rw[←fk]at c1 p3;have c2:=QT (XO f i) (f i);have nx:=next (i+1)
  rw[show XO f (i+1)=XO f i+f i from rfl]at nx;have a0:=JC (fun i=>a.getD i 0) i;have a1:=QD (fun i=>a.getD i 0) i;have b0:=JC (fun i=>b.getD i 0) i;have b1:=QD (fun i=>b.getD i 0) i;refine Xk ?_;simp(disch:=omega)only[f1,w1,a0,a1,b0,b1,TAE,qC,↓Xc,wG,seval];refine X0 c1 (X1 _) ?_;simp(disch:=omega)only[f1,w1,TAE,qA,qC,↓Xc,wG,seval];refine X0 c2 (X1 _) ?_;simp(disch:=omega)only[f1,w1,TAE,qA,qC,↓Xc,wG,seval];exact nx _ (by omega) (by omega) (ZZ (by simp[Xo,I]) (by simp[TAE];rfl))
 ·obtain rfl:i=N:=by omega
  refine Xk ?_;simp(disch:=omega)only[TAE,qC,↓Xc,wG,seval];exact Jf rfl XT rfl rfl rfl sR (hR.trans rfl)
theorem jB (v n:Nat)(G:List Rat)(hG:G.length=v)(Z:List AV)(hZ:∀j,B' (KY Z j) (Xm (fun _=>0) j)) (j:Nat) (hj:j<(v+v+n)*4) :
  B' (XV ((v+v)*4) (XV (v*4) (Xw qC 4 0 (Cb G)) (v*4) (Xm fun i=>G.getD i 0)) (n*4) (KY Z) j) (Xm (Km v G) j):=by
 obtain⟨k,r,hr,rfl⟩:∃k r,r<4∧j=k*4+r:=⟨j/4,j%4,ZAI _ (by omega),by omega⟩
 rw[QD _ _ _ hr];by_cases h3:k<v
 ·unfold XV
  rw[N_ (by omega),N_ (by omega),Ze qC 4 0 _ k r hr,YS G (by omega)];unfold Km;rw[N_ h3];exact U_ _
 ·by_cases h4:k<2*v
  ·unfold XV
   rw[N_ (by omega),M_ (by omega),N_ (by omega),show k*4+r-v*4=(k-v)*4+r by omega,QD _ _ _ hr];unfold Km;rw[M_ h3,N_ h4];exact U_ _
  ·unfold XV
   rw[M_ (by omega),N_ (by omega)];have:=hZ (k*4+r-(v+v)*4);rw[show k*4+r-(v+v)*4=(k-(v+v))*4+r by omega,QD _ _ _ hr]at this;rw[show k*4+r-(v+v)*4=(k-(v+v))*4+r by omega];unfold Km;rw[M_ h3,M_ h4];exact this
theorem WD (v:Nat)(L:List Ln)(G:List Rat)(c E:Nat)(hv:v<49)(hv0:0<v)(hm:L.length≤128)(hG:G.length=v)(ha:∀ x∈L,x.a.length=v)(hB:∀ i,i<L.length→0≤lB L i)(i0:Nat)(hi0:i0<L.length)(hA:∀k,k<v→lA L i0 k=lG G k)
  (hcA:∀i k,qb (lA L i k)≤c) (hcB:∀i,qb (lB L i)≤c) (hcG:∀k,qb (lG G k)≤c) (hc0:qb 0≤c) (hc1:qb 1≤c) (hE:L.length*((v+2)*c+5)+1≤E) (hcE:c≤E) (hQ:c+1+(L.length*(c+1+E+1)+1)+1≤15000000) (hE2:2*E+c+10≤2000000) (hc:c≤10000) :
  ∃x y val,Fn Tryz.prog 91 [P7 v L G] (PP 0 x y val)∧x.length=v∧(∀i,qb (x.getD i 0)≤2*E+1)∧TAx v L.length (lA L) (lB L) (lG G) (fun k=>x.getD k 0) (fun i=>y.getD i 0) val:=by
 obtain⟨m,hm0⟩:∃m,m=L.length:=⟨_,rfl⟩
 obtain⟨N,hN⟩:∃N,N=2*v+2*m:=⟨_,rfl⟩
 obtain⟨K,S,hS0,hok,hst,TAo,TCD⟩:=Nw (v:=v) (m:=L.length) (A:=lA L) (B:=lB L) (G:=lG G) hB hi0 hA;rw[←hm0,←hN]at hok hst TCD;rw[←hm0]at TAo;have hEk:∀k,k≤K→∀i p,i<m→p≤N→qb ((S k).t i p)≤E:=fun k hk i p hi hp=>by
  obtain⟨g1,g2⟩:=hok k hk;rw[hm0]at g1 g2 hi;rw[hN,hm0]at g1 g2 hp;exact m_ (MA g2 g1 (by omega) hcA hcB hi hp) hE
 have hCk:∀k,k≤K→∀p,p≤N→qb ((S k).c p)≤15000000:=fun k hk p hp=>by
  obtain⟨g1,g2⟩:=hok k hk;have h3:=hEk k hk;rw[hm0]at g1 g2;rw[hN,hm0]at g1 g2 hp h3;exact m_ (R6 g2 g1 hcG h3 hp) hQ
 obtain⟨T,hT⟩:∃T,T=S K:=⟨_,rfl⟩
 rw[←hT]at TCD;have okT:=(hok K (N' _)).1;rw[←hT]at okT;have bN:∀k,qb (Jq m N T k)≤E:=Rr okT (fun i hi=>by rw[hT];exact hEk K (N' _) i N hi (N' _)) (by omega);refine⟨JY v m N T,(ZAO m).map fun i=>T.c (2*v+i),T.c N,?_,by simp[JY],fun i=>?_,?_⟩
 rotate_left
 ·by_cases hi:i<v
  ·unfold JY
   rw[QP _ hi];have h1:=bN i;have h2:=bN (v+i);have h3:=C3 (Jq m N T i) (Jq m N T (v+i));show qb (Jq m N T i-Jq m N T (v+i))≤_;omega
  ·rw[K',k_ (by simp[JY];omega)]
   show qb 0≤_;omega
 ·rw[←hm0]
  exact TCD.congr (fun k hk=>(QP (fun k=>Jq m N T k-Jq m N T (v+k)) hk).symm) (fun i hi=>(QP (fun i=>T.c (2*v+i)) hi).symm)
 obtain⟨X,hX⟩:∃X,X=JY v m N T:=⟨_,rfl⟩
 have lx:X.length=v:=by rw[hX];simp[JY]
 obtain⟨Yl,hYl⟩:∃Yl,Yl=(ZAO m).map fun i=>T.c (2*v+i):=⟨_,rfl⟩
 rw[←hX,←hYl];obtain⟨R,hR⟩:∃R,R=PP 0 X Yl (T.c N):=⟨_,rfl⟩
 have sR:A_ R:=hR▸Eg _ _ _ _;rw[←hR];obtain⟨T0,hT0⟩:∃T0:Tb,T0=K0 v L.length (lA L) (lB L) (lG G):=⟨_,rfl⟩
 have hbT:∀i,T0.b i=2*v+i:=fun i=>by rw[hT0];rfl
 refine q_ (fn:=Tryz.f91) Tryz.call91 Tryz.func91 rfl mixed 12 [] [21] [3,9,10,20,21,22,23] (by kernel_rfl) (K_ rfl) (fun a ha=>Y_.1 ha▸BT v L G) (XI 8 ?_);simp(disch:=omega)only[O_,P7,XH,Xu,←hm0,↓Xc,wG,seval];have eP:P7 v L G=.agg [I v,.sl m (m*5) (Xw KX 5 KN L) false,XX G]:=by unfold P7;rw[XH,hm0]
 obtain⟨x0,hx0⟩:∃x0:AO,x0=.con 0 3 (Xf (Zz v L G)):=⟨_,rfl⟩
 obtain⟨y0,hy0⟩:∃y0:AO,y0=.row 0 7 (Xf ([I 0,.sl 0 0 (fun _=>.any) true,.sl 0 0 (fun _=>.any) true] ++ TAE)):=⟨_,rfl⟩
 have bx:∀q,Q0 q x0:=fun q=>by rw[hx0];exact fun j _=>X4 (Xe (l:=Zz v L G) (by simp[Zz,X8,QV,Xr]) j)
 have by0:∀q,Q0 q y0:=fun q=>by rw[hy0];exact QZ (by simp[TAE,X5,JQ,X8])
 have ux:x0≠.D_:=by rw[hx0];simp
 have uy:y0≠.D_:=by rw[hy0];simp
 have bd:∀q,Q0 q AO.dead:=fun q=>trivial
 have hU:J6 [x0,y0]:=fun o ho=>by
  simp only[b_,V_,or_false]at ho;rcases ho with rfl |rfl
  ·exact ux
  ·exact uy
 have c1:=j8 x0 y0 v L G T0.t T0.b N (fun q _=>bx q) (fun q _=>by0 q) (by rw[hN,hm0]) (by omega) (by omega) hv0 (fun i hi=>ha _ (Qp KN hi)) hB (fun i k hi=>by rw[hT0];rfl) hbT (fun i k=>by have:=hcA i k;omega) (fun i=>by have:=hcB i;omega);rw[eP,←hm0]at c1;have ce1:K5 [x0,y0] (TH x0 y0 .dead (.sl 0 0 (fun _=>.any) true) (Kv T0.t (N+1) m) T0.b m):=fun a ver n g=>by
  match a with
  |0=>exact ZCo
  |1=>exact ZCo
  |2=>exact⟨fun h=>(by cases h),fun h=>(by cases h)⟩
  |3=>exact⟨fun h=>(by cases h),fun h=>(by cases h)⟩
  |4=>exact⟨fun h=>(by cases h),fun h=>(by cases h)⟩
  |5=>exact⟨fun h=>(by cases h),fun h=>(by cases h)⟩
  |a+6=>exact⟨fun h=>(by cases h),fun h=>(by cases h)⟩
 have h2v:2*(v:Int)+(m:Int)=((2*v+m:Nat):Int):=by omega
 have h2N:((2*v+m:Nat):Int)+(m:Int)=(N:Int):=by omega
 have tN:((N:Int)).toNat=N:=by omega
 refine d_ (s':=⟨12,[],[.any,.ref 0 0 0,.ref 1 0 0,.any,.any,.any,.any,.any,.any,.any,.any,.any],[],[.row 0 3 (Xf (Zz v L G)),y0]⟩) ?_ (Xh rfl ⟨.inl rfl,.inr rfl,.inr rfl,.inl rfl,.inl rfl,.inl rfl,.inl rfl,.inl rfl,.inl rfl,.inl rfl,.inl rfl,.inl rfl,trivial⟩ trivial (by rw[hy0];unfold Zz;rw[XH,Xu,hm0];rfl));refine d_ ?_ (Xz 0 rfl);refine d_ ?_ (XK 1 rfl rfl);refine Xk ?_;simp(disch:=omega)only[AS.put,List.set,Zz,XH,←hm0,h2v,↓Xc,wG,seval];refine XC rfl (by rw[hx0,hy0]at c1;unfold Zz at c1;rw[XH,←hm0]at c1;rw[hy0];exact c1) (by rw[hx0,hy0]at ce1;unfold Zz at ce1;rw[XH,←hm0]at ce1;rw[hy0];exact ce1) (by rw[hx0,hy0]at hU;unfold Zz at hU;rw[XH,←hm0]at hU;rw[hy0];exact Qd hU) (X1 _) ?_;simp(disch:=omega)only[h2v,h2N,tN,↓Xc,wG,seval];obtain⟨P,hP⟩:∃P:AV,P=.ptr 3 (Xf (Zz v L G)) 0:=⟨_,rfl⟩
 have eP2:P=.ptr 3 (Xf [I v,.sl m (m*5) (Xw KX 5 KN L) false,XX G]) 0:=by rw[hP];unfold Zz;rw[XH,hm0]
 have bP:∀q,Jl q P=True:=fun q=>L' (by rw[hP];exact X4 (XR fun j _=>Xe (l:=Zz v L G) (by simp[Zz,X8,QV,Xr]) j))
 obtain⟨C0,hC0⟩:∃C0:AV,C0=.sl 0 0 (fun _=>.any) true:=⟨_,rfl⟩
 have bC0:∀q,Jl q C0:=fun q=>by rw[hC0];exact X4 (JQ _ _)
 obtain⟨Ou,TEB⟩:∃Ou:Nat→Nat→Rat,Ou=fun k j=>if 2*v+m≤j∧j<k then 1 else 0:=⟨_,rfl⟩
 have K3:Ou (2*v+m)=fun _=>0:=by rw[TEB];funext j;exact M_ (by omega)
 have TFi:∀k,2*v+m≤k→(fun j=>if j=k then(1:Rat)else Ou k j)=Ou (k+1):=fun k hk=>by
  rw[TEB];funext j;show(if j=k then(1:Rat)else if 2*v+m≤j∧j<k then 1 else 0)=if 2*v+m≤j∧j<k+1 then 1 else 0
  by_cases e:j=k
  ·rw[N_ e,N_ (by omega)]
  ·rw[M_ e]
   by_cases e2:2*v+m≤j∧j<k
   ·rw[N_ e2,N_ (by omega)]
   ·rw[M_ e2,M_ (by omega)]
 have of1:=XL 1 1 ⟨by omega,by omega⟩ ⟨by omega,by omega⟩;rw[show P' 1 1=1 by decide +kernel]at of1;refine Xj (fun k:Nat=>⟨12,[],[.any,P,.ref 1 0 0,I m,I ((2*v+m:Nat):Int),.ref 3 0 0,.osl 6 0 4 0 N,I k,.any,.any,.any,.any],[],TH x0 y0 .dead C0 (Kv T0.t (N+1) m) T0.b m ++ [.row 0 (N*4) (Xm (Ou k))]⟩) (fun k=>2*v+m≤k∧k≤N) (fun k=>N-k) (2*v+m) ⟨by omega,by omega⟩
  ((Qe 6 (Xm (fun _=>0)) rfl (fun j _=>fun c' v' _ _ h=>D4 0 j c' v' h)).trans (Xh rfl ⟨.inl rfl,.inr eP2.symm,.inr rfl,.inr rfl,.inr rfl,.inr rfl,.inr rfl,.inr rfl,.inl rfl,.inl rfl,.inl rfl,.inl rfl,trivial⟩ (by simp[Xx]) (by rw[K3,hx0,hy0,hC0];unfold Zz;rw[XH,←hm0];rfl))) ?_
 rintro k ⟨hk1,hk2⟩ next
 have w1:=wj k;by_cases hk3:k<N
 ·have nx:=next (k+1)
  clear next
  have hst:=Dv (Ou k) k 1;rw[TFi k hk1]at hst;have f1:(k<N)=True:=L' hk3;have f1':((k:Int)<N)=True:=L' (by omega);refine Xk ?_;simp(disch:=omega)only[h2N,f1,f1',w1,TH,HS,Lj,Li,e_,h_,↓Xc,wG,seval];refine X0 of1 (X1 _) ?_;simp(disch:=omega)only[h2N,f1,f1',w1,qA,qC,↓Xc,wG,seval];exact nx _ (by omega) (by omega) (ZZ (by simp[Xo,I]) (by rw[←hst];rfl))
 obtain rfl:k=N:=by omega
 clear next
 have ec1:∀j,j<k→Ou k j=KZ v m j:=fun j hj=>by rw[TEB];unfold KZ;rw[hN]
 refine d_ ?_ (ZAZ (Xz 6 rfl) (HP (M:=k*4) 6 rfl rfl));refine d_ ?_ (Zf 6 (XX (Qb (KZ v m) k)) (show 6<12 by omega) (Xy (by rw[Qg];exact QC rfl (N' _) (fun j hj=>by rw[z_,Kd (N:=k) (g:=fun i=>(Qb (KZ v m) k).getD i 0) (fun i hi=>by show _=(Qb (KZ v m) k).getD i 0;rw[Kj _ hi,ec1 i hi]) j hj];exact U_ _))));have bC1:∀q,Jl q (XX (Qb (KZ v m) k))=True:=fun q=>L' (X4 (Xr _))
 refine d_ (s':=⟨12,[],[.any,P,.ref 1 0 0,I m,I ((2*v+m:Nat):Int),.ref 3 0 0,XX (Qb (KZ v m) k),I k,.any,.any,.any,.any],[],TH x0 y0 .dead C0 (Kv T0.t (k+1) m) T0.b m⟩) ?_ (XG (m:=6) (p_ _) rfl ⟨.inl rfl,.inr rfl,.inr rfl,.inr rfl,.inr rfl,.inr rfl,.inr rfl,.inr rfl,.inl rfl,.inl rfl,.inl rfl,.inl rfl,trivial⟩ (by simp[Xx]) rfl (by simp[XP,bP,bC1]) (by simp[XP]) (PV x0 y0 .dead _ _ _ (N' _) (bx _) (by0 _) (bd _) (bC0 _) fun i=>Fp _ _ _ _ _));refine Xk ?_;have z1:qb 0≤5000000:=by omega
 have z2:qb 1≤5000000:=by omega
 have hq1:∀j,qb (KZ v m j)≤5000000:=fun j=>by unfold KZ;split <;> assumption
 have hqT:∀i j,qb (T0.t i j)≤5000000:=fun i j=>by
  rw[hT0];show qb (if j<v then lA L i j else if j<2*v then -lA L i (j-v)else if j=2*v+i then 1 else if j=2*v+2*L.length then lB L i else 0)≤_;have:=hcA i j;have:=hcA i (j-v);have:=hcB i
  split
  ·omega
  split
  ·rw[Bj];omega
  split
  ·omega
  split
  ·omega
  ·omega
 have c2:=N7 x0 y0 .dead T0 C0 (KZ v m) k m (fun q _=>bx q) (fun q _=>by0 q) (fun q _=>bd q) (by omega) (by omega) (fun i j _ _=>hqT i j) (fun j _=>hq1 j) (fun i hi=>⟨by rw[hbT];omega,by rw[hbT];exact M_ (by omega)⟩) (M_ (by omega));obtain⟨T1,hT1⟩:∃T1:Tb,T1={ T0 with c:=KZ v m }:=⟨_,rfl⟩
 rw[←hT1]at c2;have c3:=U5 x0 y0 .dead k m k 0 (fun _=>T1) (fun q _=>bx q) (fun q _=>by0 q) (fun q _=>bd q) ux uy (by simp) (N' _) (by omega) (by omega) (fun _ _ i j _ _=>by rw[hT1];exact hqT i j) (fun _ _ j _=>by rw[hT1];show qb (KZ v m j)≤_;have:=hq1 j;omega) (fun q hq=>absurd hq (ZAL _)) (fun j _=>by rw[hT1];show 0≤KZ v m j;unfold KZ;split <;> decide);have kk:((k:Int)<k)=False:=R_ (by omega);have sg0:=Q8 (T1.c k) (by rw[hT1];show qb (KZ v m k)≤_;have:=hq1 k;unfold rm;omega);have e1k:T1.c k=0:=by rw[hT1];exact M_ (by omega)
 rw[e1k,ZB9,Int.sign_zero]at sg0;have at0:∀ (h:Nat→Rat),Xm (fun i=>(Qb h (k+1)).getD i 0) (k*4)=(qC (h k)).getD 0 .any:=fun h=>by rw[JC];simp only[Kj h (ZER k)]
 have at1:∀ (h:Nat→Rat) j,j<4→Xm (fun i=>(Qb h (k+1)).getD i 0) (k*4+j)=(qC (h k)).getD j .any:=fun h j hj=>by rw[QD _ _ _ hj];simp only[Kj h (ZER k)]
 have a0:=at0 T1.c;have a1:=at1 T1.c;rw[e1k]at a0;simp only[e1k]at a1;have fk:(k<k+1)=True:=L' (by omega);have rl:=Qg T1.c (k+1);have wk:=wj k;simp(disch:=omega)only[h2N,kk,↓Xc,wG,seval];refine XC rfl c2 (Dm x0 y0 .dead _ _ _ _ _ _ m) (Qd (CO ux uy (by simp) _ _ _ m)) (X1 _) ?_;simp(disch:=omega)only[h2N,kk,↓Xc,wG,seval];refine XC rfl c3 (Dm x0 y0 .dead _ _ _ _ _ _ m) (Qd (CO ux uy (by simp) _ _ _ m)) (X1 _) ?_;simp(disch:=omega)only[h2N,kk,TT,TH,HS,Lj,Li,rl,fk,wk,a0,a1,qC,↓Xc,wG,seval];refine X0 sg0 (X1 _) ?_;simp(disch:=omega)only[h2N,kk,↓Xc,wG,seval];have hb1:∀i,T1.b i=2*v+i:=fun i=>by rw[hT1];exact hbT i
 refine Xj (fun i:Nat=>⟨12,[],[.any,P,.ref 1 0 0,I m,I ((2*v+m:Nat):Int),.ref 3 0 0,.any,.any,I i,.any,.any,.any],[],TT x0 y0 .dead (k+1) m T1⟩) (fun i=>i≤m) (fun i=>m-i) 0 (by omega)
  (Xh rfl ⟨.inl rfl,.inr rfl,.inr rfl,.inr rfl,.inr rfl,.inr rfl,.inl rfl,.inl rfl,.inr rfl,.inl rfl,.inl rfl,.inl rfl,trivial⟩ (by simp[Xx]) (by unfold TT TH HS;rw[rl];rfl)) ?_
 intro i hi next
 have w1i:=wj i;by_cases hi2:i<m
 ·have nx:=next (i+1)
  clear next
  have f1:(i<m)=True:=L' hi2;refine Xk ?_;simp(disch:=omega)only[f1,↓Xc,wG,seval];refine Xj (fun _:Nat=>⟨12,[],[.any,P,.ref 1 0 0,I m,I ((2*v+m:Nat):Int),.ref 3 0 0,.any,.any,I i,I 0,.any,.any],[],TT x0 y0 .dead (k+1) m T1⟩) (fun _=>True) (fun _=>0) 0 trivial
   (ZZ (by simp[Xo,I]) rfl) ?_
  intro j _ _;have g1:(0<2*v+m)=True:=L' (by omega);have g1':((0:Int)<((2*v+m:Nat):Int))=True:=L' (by omega);have g2:(2*v+m≤T1.b i)=False:=R_ (by rw[hb1];omega);have g2':(((2*v+m:Nat):Int)≤(T1.b i:Int))=False:=R_ (by rw[hb1];omega);refine Xk ?_;simp(disch:=omega)only[TT,TH,HS,Lj,Li,f1,w1i,g1,g1',g2,g2',↓Xc,wG,seval];exact nx _ (by omega) (by omega) (ZZ (by simp[Xo,I]) rfl)
 obtain rfl:i=m:=by omega
 clear next
 have hgq:∀r∈G,qb r≤rm:=fun r hr=>by
  obtain⟨j,hj,rfl⟩:=ZAT hr;have:=hcG j;unfold lG at this;rw[K',V' hj]at this;have h2:qb G[j]≤c:=this;unfold rm;omega
 have hTH:KK (TT x0 y0 .dead (k+1) i T1):=fun o ho q hq=>DQ x0 y0 .dead _ _ _ (show 6≤q from hq) (bx q) (by0 q) (bd q) o ho
 have c4:=O4 (TT x0 y0 .dead (k+1) i T1) G (by omega) hgq hTH (CO ux uy (by simp) _ _ _ i);have ce4:=Ms (TT x0 y0 .dead (k+1) i T1) 0 4 G.length (G.length*4) (Xf (qC (-1))) (Xw qC 4 0 (Cb G));rw[hG]at c4 ce4;have TFj:∀j,(Xm (fun i=>G.getD i 0) j).one=true:=fun j=>CF _ _ (ZAI _ (by omega))
 have eG:XX G=.sl v (v*4) (Xm fun i=>G.getD i 0) false:=by rw[Xu,hG]
 refine XI 36 ?_;simp(disch:=omega)only[h2N,eP2,eG,↓Xc,wG,seval];refine XC rfl (eG▸c4) ce4 (Qd (CO ux uy (by simp) _ _ _ i)) (X1 _) ?_;have m2:2*(i:Int)=((2*i:Nat):Int):=by omega
 simp(disch:=omega)only[TT,TH,HS,Lj,Li,e_,h_,m2,↓Xc,wG,seval];refine⟨fun j _=>TFj j,?_⟩;rw[EB (hne:=by decide)];refine Nx G1 VT En rfl rfl rfl (by omega) (by omega) (N' _) rfl (by omega) (by omega) ?_;simp(disch:=omega)only[h2N,↓Xc,wG,seval];refine d_ ?_ (ZAZ (Xz 7 rfl) (HP (M:=(v+v+2*i)*4) 6 rfl rfl));refine d_ ?_ (Zf 6 (XX (Qb (Km v G) k)) (show 6<12 by omega) (Xy (by
  have eR:XX (Qb (Km v G) k)=.sl k (k*4) (Xm fun q=>(Qb (Km v G) k).getD q 0) false:=Qg _ _;have hw:∀j,j<k*4→B' (XV ((v+v)*4) (XV (v*4) (Xw qC 4 0 (Cb G)) (v*4) (Xm fun i=>G.getD i 0)) (2*i*4) (KY [.bool false,.sl 0 0 (fun _=>.any) true,.bool false,.sl 0 0 (fun _=>.any) true]) (0+j)) (Xm (fun q=>(Qb (Km v G) k).getD q 0) j):=fun j hj=>by
   rw[z_];have h:=jB v (2*i) G hG [.bool false,.sl 0 0 (fun _=>.any) true,.bool false,.sl 0 0 (fun _=>.any) true] (fun j c' v' h=>D4 0 j c' v' h) j (by omega);rwa[Kd (N:=k) (g:=fun q=>(Qb (Km v G) k).getD q 0) (fun q hq=>by show _=(Qb (Km v G) k).getD q 0;rw[Kj _ hq]) j hj]at h
  rw[eR];exact QC (by omega) (by omega) hw)))
 have bC2:∀q,Jl q (XX (Qb (Km v G) k))=True:=fun q=>L' (X4 (Xr _))
 refine d_ (s':=⟨12,[],[.any,P,.ref 1 0 0,I i,I ((2*v+i:Nat):Int),.ref 3 0 0,XX (Qb (Km v G) k),.any,.any,.any,.any,.any],[],TT x0 y0 .dead (k+1) i T1⟩) ?_ (XG (m:=6) (p_ _) rfl ⟨.inl rfl,.inr (by rw[eP2,eG];rfl),.inr rfl,.inr rfl,.inr rfl,.inr rfl,.inr rfl,.inl rfl,.inl rfl,.inl rfl,.inl rfl,.inl rfl,trivial⟩ (by simp[Xx]) rfl (by simp[XP,bP,bC2]) (by simp[XP]) (DQ x0 y0 .dead _ _ _ (N' _) (bx _) (by0 _) (bd _)));have hqF:∀j,qb (Km v G j)≤5000000:=fun j=>by
  unfold Km;have:=hcG j;have:=hcG (j-v)
  split
  ·rw[Bj];omega
  split
  ·omega
  ·omega
 have TFk:∀p q,qb (T1.t p q)≤5000000:=fun p q=>by rw[hT1];exact hqT p q
 have c5:=N7 x0 y0 .dead T1 (XX (Qb T1.c (k+1))) (Km v G) k i (fun q _=>bx q) (fun q _=>by0 q) (fun q _=>bd q) (by omega) (by omega) (fun p q _ _=>TFk p q) (fun j _=>hqF j) (fun p hp=>⟨by rw[hb1];omega,by rw[hb1];unfold Km;rw[M_ (by omega),M_ (by omega)]⟩) (by unfold Km;rw[M_ (by omega),M_ (by omega)]);have eS:({ T1 with c:=Km v G }:Tb)=S 0:=by
  rw[hS0,hT1,hT0];exact y_ (fun c=>(⟨(K0 v L.length (lA L) (lB L) (lG G)).t,c,(K0 v L.length (lA L) (lB L) (lG G)).b⟩:Tb)) (funext fun k=>rfl)
 rw[eS]at c5;have c6:=U5 x0 y0 .dead k i (2*v+i) K S (fun q _=>bx q) (fun q _=>by0 q) (fun q _=>bd q) ux uy (by simp) (by omega) (by omega) (by omega) (fun q hq p j hp hj=>by have:=hEk q hq p j hp (by omega);omega) (fun q hq j hj=>by have:=hCk q hq j (by omega);omega) hst TAo;rw[←hT]at c6;refine XI 30 ?_;simp(disch:=omega)only[↓Xc,wG,seval];refine XC rfl c5 (Dm x0 y0 .dead _ _ _ _ _ _ i) (Qd (CO ux uy (by simp) _ _ _ i)) (X1 _) ?_;simp(disch:=omega)only[↓Xc,wG,seval];refine XC rfl c6 (Dm x0 y0 .dead _ _ _ _ _ _ i) (Qd (CO ux uy (by simp) _ _ _ i)) (X1 _) ?_;simp(disch:=omega)only[↓Xc,wG,seval];have rT:=Qg T.c (k+1);refine d_ ?_ ((Xz 4 rfl).trans ((Xz 5 rfl).trans ((Qe 3 (Xf (nY i k T)) rfl (fun j hj=>by
  match j,hj with
  |0,_=>exact JG (M:=i) rfl (N' _) (fun h=>h) fun _ _=>XD _ _
  |1,_=>exact XD _ _
  |2,_=>exact JG (M:=i) rfl (N' _) (fun h=>h) fun _ _=>XD _ _
  |j+3,h=>omega)).trans ((Xz 3 rfl).trans (XK 5 rfl rfl)))))
 have bX:∀q,Jl q (xT i k T)=True:=fun q=>L' (X4 (Ei i k T))
 refine d_ (s':=⟨12,[],[.any,P,.ref 1 0 0,I i,I ((2*v+i:Nat):Int),xT i k T,.any,.any,.any,.any,.any,.any],[],[x0,y0]⟩) ?_ (XG (m:=2) (p_ _) rfl ⟨.inl rfl,.inr rfl,.inr rfl,.inr rfl,.inr rfl,.inr rfl,.inl rfl,.inl rfl,.inl rfl,.inl rfl,.inl rfl,.inl rfl,trivial⟩ (by simp[Xx]) rfl (by simp[XP,bP,bX]) (by simp[XP]) (fun o ho=>by
  simp only[b_,V_,or_false]at ho;rcases ho with rfl |rfl
  ·exact bx 2
  ·exact by0 2))
 have cp:=Wd v okT (by omega) (by omega) (by omega) (fun q=>by have:=bN q;omega);rw[←hX]at cp;have hxq:∀j,qb (X.getD j 0)≤2*E+1:=fun j=>by
  by_cases hj:j<v
  ·rw[hX]
   unfold JY;rw[QP _ hj];have h1:=bN j;have h2:=bN (v+j);have h3:=C3 (Jq i k T j) (Jq i k T (v+j));show qb (Jq i k T j-Jq i k T (v+j))≤_;omega
  ·rw[K',k_ (by omega)]
   show qb 0≤_;omega
 have cd:=fH G X (c+(2*E+1)) (by omega) (by omega) (fun j _=>by have:=hcG j;unfold lG at this;have:=hxq j;omega) (by omega);have ed:XO (fun j=>G.getD j 0*X.getD j 0) G.length=T.c k:=by
  rw[hG,←TCD.TCf];exact XQ fun j hj=>by
   rw[hX];unfold JY;rw[QP _ hj];rfl
 rw[ed]at cd;have TFl:2*(v:Int)=((2*v:Nat):Int):=by omega
 refine Xk ?_;simp(disch:=omega)only[eP2,↓Xc,wG,seval];refine X0 cp (X1 _) ?_;have ts:(((2*v+i:Nat):Int)-((2*v:Nat):Int)).toNat=i:=by omega
 have tm':min (i*4) ((k+1)*4-2*v*4)=i*4:=by omega
 simp(disch:=omega)only[xT,nY,rT,eP2,TFl,eG,ts,tm',↓Xc,wG,seval];refine⟨fun j _=>CF _ _ (ZAI _ (by omega)),?_⟩;refine X0 (eG▸cd) (X1 _) ?_;simp(disch:=omega)only[hy0,Q6,XN,KF,qA,qC,TAE,e_,h_,ZBW,List.map_nil,ZAA,ZAN,List.all_cons,List.all_nil,ZCR,ts,tm',↓Xc,wG,seval];refine Kc (L:=[I 0,XX X,.osl 2 0 4 0 i] ++ qC (T.c k)) rfl lz rfl rfl rfl ?_;rw[hR];have ly:Yl.length=i:=by rw[hYl];simp
 refine Dz ⟨XY (X8 _) rfl,XY (Xr _) rfl,?_,XY (X5 _) rfl,XY (Xd _) rfl,XY (X5 _) rfl,XY (Xd _) rfl,trivial⟩;have eY:XX Yl=.sl i (i*4) (Xm fun z=>Yl.getD z 0) false:=by rw[Xu,ly]
 rw[eY];refine Kw (.inl rfl) (by omega) (fun h=>by rw[h]) fun j hj=>?_
 obtain⟨q,r,hr,rfl⟩:∃q r,r<4∧j=q*4+r:=⟨j/4,j%4,ZAI _ (by omega),by omega⟩
 have ej:XV 0 (Xf []) (i*4) (fun j=>Xm (fun i=>(Qb T.c (k+1)).getD i 0) (2*v*4+j)) (0+(q*4+r))=Xm (fun z=>Yl.getD z 0) (q*4+r):=by
  unfold XV;rw[M_ (by omega),N_ (by omega),z_,Nat.sub_zero];show Xm (fun i=>(Qb T.c (k+1)).getD i 0) (2*v*4+(q*4+r))=_;rw[show 2*v*4+(q*4+r)=(2*v+q)*4+r by omega,QD _ _ _ hr,QD _ _ _ hr];rw[show(Qb T.c (k+1)).getD (2*v+q) 0=T.c (2*v+q)from Kj T.c (by omega),hYl,QP (fun i=>T.c (2*v+i)) (show q<i by omega)]
 rw[ej];exact(Xe (XU _) _).TBI _
theorem U0 {b:BB}{g:GG}(hb:bS b)(hg:gS g)(h1:K9 b=true)(h2:Ka g=true):Fn Tryz.prog 27 [bA b,gA g] (qA (Gm b g)):=by
 obtain⟨q1,q2,q3⟩:=Fs.1 h1;obtain⟨⟨q4,q5,q6⟩,q7⟩:=Cn.1 h2;obtain⟨u1,u2,u3,u4⟩:=id hb;obtain⟨w1,w2,w3,w4,w5⟩:=id hg;have k2:=ai (b:=b) (g:=g) (ZBI q4) (ZBI q3);obtain⟨k3,k4⟩:=wV hb hg;have e0:qb 0≤5700:=by decide +kernel
 have e1:qb 1≤5700:=by decide +kernel
 obtain⟨x,y,val,cs,lx,bx,ho⟩:=WD 5 (F0 b g) TAO 5700 678386 (by omega) (by omega) (by rw[Hx];omega) rfl (fun x hx=>Ru b g x (Hy b g x hx)) (fun i hi=>k2 _ (Hy b g _ (Qp KN hi))) 9 (by rw[Hx];omega) (fun k hk=>by
  match k,hk with
  |0,_=>rfl
  |1,_=>rfl
  |2,_=>rfl
  |3,_=>rfl
  |4,_=>rfl
  |k+5,h=>omega) k3 k4 kU e0 e1 (by rw[Hx];omega) (by omega) (by rw[Hx];omega) (by omega) (by omega)
 obtain⟨im,_,_⟩:=rC ho;rw[Gn im];have cp:=U4 b g (by omega) (by omega) (by omega) (by omega) (by omega) (by omega);obtain⟨R,hR⟩:∃R,R=qA val:=⟨_,rfl⟩
 have sR:A_ R:=hR▸Xb _;rw[←hR];refine q_ (fn:=Tryz.f27) Tryz.call27 Tryz.func27 rfl mixed 5 [] [] [] (by kernel_rfl) (K_ rfl) (Kk (QU b) (QA g)) (Xk ?_);simp(disch:=omega)only[O_,bA,Jc,gA,Jd,↓Xc,wG,seval];refine X0 cp (X1 _) ?_;simp(disch:=omega)only[↓Xc,wG,seval];refine X0 cs (X1 _) ?_;simp(disch:=omega)only[PP,cF,qC,e_,h_,↓Xc,wG,seval];exact Jf rfl XT rfl rfl rfl sR (hR.trans rfl)
structure TFm (X:AV)(B:BB)(f r:Rat)(g:GG)(k:Rat)(e:Int)(G:List GG):Prop where
 fb:Fn Tryz.prog 42 [X,bA B,qA f,qA r] (.tup [gA g,qA k,I e])
 rb:Fn Tryz.prog 43 [X,bA B,qA f,qA r] (.tup [gA g,qA k,I e])
 ff:Fn Tryz.prog 45 [X,qA f,qA r] (VN G)
 gw:gW g
 qk:qb k≤rm
 l:G.length<1000000
 mm:e=0→∀x∈G,∃p q,Fn Tryz.prog 22 [bA B,gA x] (.tup [qA (Gm B x),C6 [p,q],I 0])∧Gm B x≤k∧qb (Gm B x)≤rm
theorem Wo (b:BB)(g:GG)(k:Rat)(l:List (Rat×Rat)) (hl:l.length<1000000) (h2:l.length≠2) :
  Fn Tryz.prog 28 [bA b,gA g,qA k,C6 l] (.bool false):=by
 have hS:∀a∈[bA b,gA g,qA k,C6 l],A_ a:=by simp[QU,QA,Xb,Jh]
 have h3:¬ (l.length:Int)=2:=by omega
 refine q_ (fn:=Tryz.f28) Tryz.call28 Tryz.func28 rfl mixed 16 [] [9,13,14,15] [] (by kernel_rfl) (K_ rfl) hS (Xk ?_);simp(disch:=omega)only[O_,bA,gA,Jc,Jd,Xl,qA,qC,Jr,h3,↓Xc,wG,seval];exact Xn (v:=.bool false) rfl rfl (X5 _) rfl
theorem Pi (b:BB)(g:GG)(k:Rat)(l:List (Rat×Rat)) (hb:bS b) (hg:gS g) (hk:qb k≤1500000) (hl:l.length<1000000) (hp:∀x∈l,qb x.1≤1500000∧qb x.2≤1500000) :
  Fn Tryz.prog 28 [bA b,gA g,qA k,C6 l] (.bool (decide (l.length=2∧H8 b g k l))):=by
 by_cases h2:l.length=2
 ·obtain⟨p,q,rfl⟩:∃p q,l=[p,q]:=by
   match l,h2 with
   | [p,q],_=>exact⟨p,q,rfl⟩
  have e:decide ([p,q].length=2∧H8 b g k [p,q])=decide (Il b g k p q):=by
   simp[VR,H8]
  rw[e];exact Wn b g k p q hb hg hk (hp p (by simp)).1 (hp p (by simp)).2 (hp q (by simp)).1 (hp q (by simp)).2
 ·rw[show decide (l.length=2∧H8 b g k l)=false from Z_ fun h=>h2 h.1]
  exact Wo b g k l hl h2
theorem fE (b:BB)(g:GG)(k:Rat)(l:List (Rat×Rat)) (hb:bS b) (hg:gS g) (hk:qb k≤1500000) (hl:l.length<1000000) (hp:∀x∈l,qb x.1≤1500000∧qb x.2≤1500000) :
    Fn Tryz.prog 30 [bA b,gA g,qA k,C6 l] (I (Kr b g k l)):=by
  have c1:=EZ b hb;have c2:=Nm g hg;have c3:=Pi b g k l hb hg hk hl hp;have hS:∀a∈[bA b,gA g,qA k,C6 l],A_ a:=by simp[QU,QA,Xb,Jh]
  refine q_ (fn:=Tryz.f30) Tryz.call30 Tryz.func30 rfl mixed 8 [] [] [] (by kernel_rfl) (K_ rfl) hS (Xk ?_);simp(disch:=omega)only[O_,bA,gA,Jc,Jd,Xl,qA,qC,↓Xc,wG,seval];refine X0 c1 (X1 _) ?_;simp(disch:=omega)only[↓Xc,wG,seval];refine⟨fun h1=>?_,fun h1=>?_⟩
  · exact Xn (v:=I 1) rfl rfl (X8 _) (by simp at h1;simp[Kr,h1])
  have h1:K9 b=true:=by cases e:K9 b <;> simp_all
  refine X0 c2 (X1 _) ?_;simp(disch:=omega)only[↓Xc,wG,seval];refine⟨fun h2=>?_,fun h2=>?_⟩
  · exact Xn (v:=I 1) rfl rfl (X8 _) (by simp at h2;simp[Kr,h1,h2])
  have h2:Ka g=true:=by cases e:Ka g <;> simp_all
  refine X0 c3 (X1 _) ?_;simp(disch:=omega)only[↓Xc,wG,seval];refine⟨fun h3=>?_,fun h3=>?_⟩
  · exact Xn (v:=I 22) rfl rfl (X8 _) (by simp at h3;simp only[Kr,h1,h2,ZCR];rw[N_ trivial,M_ fun h=>h3 h.1 h.2])
  · exact Xn (v:=I 0) rfl rfl (X8 _) (by have h3:l.length=2∧H8 b g k l:=(by simpa using h3);simp only[Kr,h1,h2,ZCR];rw[N_ trivial,N_ h3])
theorem T4 (b:BB)(g:RG)(hb:xI b)(h:g.S 10000)(hr:g.raw) :
  Fn Tryz.prog 22 [bA b,.agg (Dd g)] (.tup [qA 0,C6 [],I 1]):=by
 have c1:=Dp b hb;have c2:=OG g h hr;refine q_ (fn:=Tryz.f22) Tryz.call22 Tryz.func22 rfl mixed 9 [] [6,7020] [] (by kernel_rfl) (K_ rfl) (Kk (QU b) (BR g)) (Xk ?_);simp(disch:=omega)only[O_,bA,KR,Jc,Xl,↓Xc,wG,seval];refine X0 c1 (X1 _) ?_;simp(disch:=omega)only[↓Xc,wG,seval];refine⟨fun h1=>?_,fun h1=>?_⟩
 ·exact B0 (r1:=.cell 4 28) (r2:=.tmp 5) (r3:=.tmp 6) rfl (Xt XT rfl rfl rfl) rfl rfl (Xp (Xb 0) (JR (QB _))) (Xp (Jh []) (DG _ _)) (XY (X8 1) rfl)
 ·refine X0 c2 (X1 _) ?_
  simp(disch:=omega)only[↓Xc,wG,seval];exact B0 (r1:=.cell 4 28) (r2:=.tmp 5) (r3:=.tmp 6) rfl (Xt XT rfl rfl rfl) rfl rfl (Xp (Xb 0) (JR (QB _))) (Xp (Jh []) (DG _ _)) (XY (X8 1) rfl)
theorem VL (b:BB)(g:RG)(k:Rat)(l:List (Rat×Rat)) (hb:xI b) (h:g.S 10000) (hr:g.raw) :
  Fn Tryz.prog 29 [bA b,.agg (Dd g),qA k,C6 l] (I 1):=by
 have c1:=Dp b hb;have c2:=OG g h hr;have hS:∀a∈[bA b,.agg (Dd g),qA k,C6 l],A_ a:=by simp[QU,BR,Xb,Jh]
 refine q_ (fn:=Tryz.f29) Tryz.call29 Tryz.func29 rfl mixed 11 [] [] [] (by kernel_rfl) (K_ rfl) hS (Xk ?_);simp(disch:=omega)only[O_,bA,KR,Jc,Xl,qA,qC,↓Xc,wG,seval];refine X0 c1 (X1 _) ?_;simp(disch:=omega)only[↓Xc,wG,seval];refine⟨fun h1=>?_,fun h1=>?_⟩
 ·exact Xn (v:=I 1) rfl rfl (X8 _) rfl
 ·refine X0 c2 (X1 _) ?_
  simp(disch:=omega)only[↓Xc,wG,seval];exact Xn (v:=I 1) rfl rfl (X8 _) rfl
theorem Wk (b:BB)(g:RG)(k:Rat)(l:List (Rat×Rat)) (hb:bS b) (h:g.S 10000) (hr:g.raw) :
  Fn Tryz.prog 30 [bA b,.agg (Dd g),qA k,C6 l] (I 1):=by
 have c1:=EZ b hb;have c2:=Pg g h hr;have hS:∀a∈[bA b,.agg (Dd g),qA k,C6 l],A_ a:=by simp[QU,BR,Xb,Jh]
 refine q_ (fn:=Tryz.f30) Tryz.call30 Tryz.func30 rfl mixed 8 [] [] [] (by kernel_rfl) (K_ rfl) hS (Xk ?_);simp(disch:=omega)only[O_,bA,KR,Jc,Xl,qA,qC,↓Xc,wG,seval];refine X0 c1 (X1 _) ?_;simp(disch:=omega)only[↓Xc,wG,seval];refine⟨fun h1=>?_,fun h1=>?_⟩
 ·exact Xn (v:=I 1) rfl rfl (X8 _) rfl
 ·refine X0 c2 (X1 _) ?_
  simp(disch:=omega)only[↓Xc,wG,seval];exact Xn (v:=I 1) rfl rfl (X8 _) rfl
def RG.T (g:RG)(c d:Nat):Prop:=vb g.p≤c∧vb g.q≤c∧qb g.a.x≤d∧qb g.b.x≤d∧qb g.force≤d∧qb g.E_≤d
theorem xk (g:RG)(how by':Int)(c d:Nat)(h:g.T c d):(ga g how by').T (c+2) (d+2):=by
 obtain⟨h1,h2,h3,h4,h5,h6⟩:=h;have b3:=QE by' 3 (by omega);have b5:=QE by' 5 (by omega);have b7:=QE by' 7 (by omega);have q3:=Ew (Qk by' 3-1) 1;have q5:=Ew (Qk by' 5-2) 2;have q7:=Ew (Qk by' 7-1) 1;have s1:=FO [by',by'.tdiv 7,by'.tdiv 49] 0;have m1:=wT g.a;have m2:=wT g.b;have v1:=KW g.p (Av [by',by'.tdiv 7,by'.tdiv 49] 0);have v2:=KW g.q (Av [by',by'.tdiv 7,by'.tdiv 49] 0);have w1:=Qa g.a.m (P' (Qk by' 5-2) 2);have w2:=Qa g.b.m (P' (Qk by' 5-2) 2);have n1:qb g.b.neg.x=qb g.b.x:=BF g.b.x;unfold ga;unfold RG.T
 split
 ·refine⟨?_,?_,?_,?_,?_,?_⟩ <;> simp only <;> omega
 split
 ·refine⟨?_,?_,?_,?_,?_,?_⟩ <;> simp only <;> omega
 split
 ·refine⟨?_,?_,?_,?_,?_,?_⟩ <;> simp only <;> omega
 split
 ·refine⟨?_,?_,?_,?_,?_,?_⟩ <;> simp only <;> omega
 split
 ·refine⟨?_,?_,?_,?_,?_,?_⟩ <;> simp only <;> omega
 split
 ·refine⟨?_,?_,?_,?_,?_,?_⟩ <;> simp only <;> omega
 split
 ·refine⟨?_,?_,?_,?_,?_,?_⟩ <;> simp only <;> omega
 split
 ·refine⟨?_,?_,?_,?_,?_,?_⟩ <;> simp only <;> omega
 ·refine⟨?_,?_,?_,?_,?_,?_⟩ <;> omega
structure TC8 (B:BB)(g:RG)(k:Rat)(l:List (Rat×Rat)) (e:Int) (o1 o2:Bool):Prop where
 f1:Fn Tryz.prog 22 [bA B,.agg (Dd g)] (.tup [qA k,C6 l,I e])
 f2:Fn Tryz.prog 23 [bA B] (.bool o1)
 f3:Fn Tryz.prog 24 [.agg (Dd g)] (.bool o2)
 z:qb k≤1356773
 bad:(o1 && o2)=false→e=1∧l=[]∧k=0
 ok:(o1 && o2)=true→e=0∧(∃p q,l=[p,q]∧qb p.1≤1356773∧qb p.2≤1356773∧qb q.1≤1356773∧qb q.2≤1356773)∧Fn Tryz.prog 27 [bA B,.agg (Dd g)] (qA k)∧Fn Tryz.prog 28 [bA B,.agg (Dd g),qA k,C6 l] (.bool true)
 ck:∀κ P,qb κ≤1500000→P.length<1000000→(∀x∈P,qb x.1≤1500000∧qb x.2≤1500000)→∃v:Int,Fn Tryz.prog 29 [bA B,.agg (Dd g),qA κ,C6 P] (I v)∧Fn Tryz.prog 30 [bA B,.agg (Dd g),qA κ,C6 P] (I v)
theorem LD (B:BB)(g:RG)(hb:bS B)(hg:g.T 1400 40):∃k l e o1 o2,TC8 B g k l e o1 o2:=by
 obtain⟨h1,h2,h3,h4,h5,h6⟩:=hg;have hS:g.S 10000:=⟨by omega,by omega,by omega,by omega,by omega,by omega⟩
 have z0:qb 0≤1356773:=by decide +kernel
 by_cases hr:g.raw
 ·exact⟨0,[],1,K9 B,false,T4 B g hb.ok hS hr,EZ B hb,Pg g hS hr,z0,fun _=>⟨rfl,rfl,rfl⟩,fun h=>(by simp at h),fun κ P _ _ _=>⟨1,VL B g κ P hb.ok hS hr,Wk B g κ P hb hS hr⟩⟩
 ·have e1:g.a.r=false:=by cases h:g.a.r;rfl;exact absurd (.inl h) hr
  have e2:g.b.r=false:=by cases h:g.b.r;rfl;exact absurd (.inr h) hr
  have e:=yZ g e1 e2;have hn:gS g.to:=⟨h1,h2,Nat.max_le.2 ⟨h3,h4⟩,h5,h6⟩
  have eA:AV.agg (Dd g)=gA g.to:=by rw[←e];rfl
  have ck:∀κ P,qb κ≤1500000→P.length<1000000→(∀x∈P,qb x.1≤1500000∧qb x.2≤1500000)→∃v:Int,Fn Tryz.prog 29 [bA B,.agg (Dd g),qA κ,C6 P] (I v)∧Fn Tryz.prog 30 [bA B,.agg (Dd g),qA κ,C6 P] (I v):=fun κ P k1 k2 k3=>by
   rw[eA];exact⟨_,Ij B g.to κ P hb hn k1 k2 k3,fE B g.to κ P hb hn k1 k2 k3⟩
  cases hh:K9 B && Ka g.to
  ·exact⟨0,[],1,K9 B,Ka g.to,by rw[eA];exact T3 B g.to hb.ok hn.ok hh,EZ B hb,by rw[eA];exact Nm g.to hn,z0,fun _=>⟨rfl,rfl,rfl⟩,fun h=>(by rw[hh]at h;cases h),ck⟩
  ·rw[x_]at hh
   obtain⟨p,q,M⟩:=Tk B g.to hb hn hh.1 hh.2;obtain⟨z1,z2,z3,z4,z5⟩:=M.z;have hd:Fn Tryz.prog 28 [bA B,gA g.to,qA (Gm B g.to),C6 [p,q]] (.bool true):=by
    have h:=Pi B g.to (Gm B g.to) [p,q] hb hn (by omega) (by simp) (by simp;omega);rwa[c_ ⟨rfl,M.ok⟩]at h
   exact⟨Gm B g.to,[p,q],0,K9 B,Ka g.to,by rw[eA];exact M.fn,EZ B hb,by rw[eA];exact Nm g.to hn,z5,fun h=>(by rw[hh.1,hh.2]at h;cases h),fun _=>⟨rfl,⟨p,q,rfl,z1,z2,z3,z4⟩,by rw[eA];exact U0 hb hn hh.1 hh.2,by rw[eA];exact hd⟩,ck⟩
def zn:BB:=⟨v0,0,0,0⟩
def zb (t:Bool):List AV:=zC t ++ zC t ++ [.bool false,.sl 0 0 (fun _=>.any) t,.bool false,.sl 0 0 (fun _=>.any) t]
theorem sU (t:Bool):TAF (zb t) (bC zn):=by
 obtain⟨q1,q2,q3,q4,_⟩:=QB t;exact⟨q1,q2,q3,q4,q1,q2,q3,q4,q1,q2,q3,q4,q1,q2,q3,q4,q1,q2,q3,q4,trivial⟩
theorem WA (t:Bool):∀a∈zb t,A_ a:=by
 have h:A_ (.sl 0 0 (fun _=>.any) t):=Qw fun j hj=>absurd hj (by omega)
 simp[zb,zC,X5,h]
theorem xY:bS zn:=by
 have z:qb 0≤40:=by decide +kernel
 exact⟨m_ aV (by omega),z,z,z⟩
theorem Bz:∀ {l m:List AV} {r s:List AV},TAF l m→TAF r s→TAF (l ++ r) (m ++ s)
 | [],[],_,_,_,h=>h
 |_ :: _,_ :: _,_,_,h,h'=>⟨h.1,Bz h.2 h'⟩
def GM (b bad:BB):Nat→AV:=Xf (bC b ++ bC b ++ bC bad ++ zb false)
def Rm (g h:RG):Nat→AV:=Xf (Dd g ++ Dd h ++ Dd g ++ Dd g)
theorem WN (b bad:BB)(t:Bool):B' (.sl 4 80 (GM b bad) t) (.sl 4 80 (GM b bad) false):=QC rfl (N' _) fun _ _=>U_ _
theorem WO (b:BB)(t:Bool):B' (.sl 4 80 (Xf (bC b ++ bC b ++ (vC b.c ++ qC b.TAS ++ qC b.TAD ++ [.bool false,.sl 0 0 (fun _=>.any) false,.bool false,.sl 0 0 (fun _=>.any) false]) ++ zb false)) t) (.sl 4 80 (GM b { b with TAB:=0 }) false) :=
 have hL:TAF (bC b ++ bC b ++ (vC b.c ++ qC b.TAS ++ qC b.TAD ++ [.bool false,.sl 0 0 (fun _=>.any) false,.bool false,.sl 0 0 (fun _=>.any) false]) ++ zb false) (bC b ++ bC b ++ bC { b with TAB:=0 } ++ zb false):=Bz (Bz (X1 _) (Bz (X1 _) (QB _))) (X1 _)
 QC rfl (N' _) fun j hj=>fun c v hv=>(ZD7 (c:=c) hL).2 j hj v hv
theorem Mi (b bad:BB)(t:Bool)(q:Nat):Jl q (.sl 4 80 (GM b bad) t)=True:=L' (X4 (Qw fun j _=>Xe (by
 intro a ha;simp only[n_]at ha;rcases ha with((ha |ha) |ha) |ha
 ·exact KI _ a ha
 ·exact KI _ a ha
 ·exact KI _ a ha
 ·exact WA _ a ha) j))
theorem I5 (g h:RG)(t:Bool)(q:Nat):Jl q (.sl 4 128 (Rm g h) t)=True:=L' (X4 (Qw fun j _=>Xe (by
 intro a ha;simp only[n_]at ha;rcases ha with((ha |ha) |ha) |ha <;> exact Jw _ a ha) j))
theorem Pw (t t':Bool):B' (.sl 2 16 (Xf (zC t ++ zC t)) t') (C6 [(0,0),(0,0)]):=by
 obtain⟨q1,q2,q3,q4,_⟩:=QB t;have hL:TAF (zC t ++ zC t) ([((0:Rat),(0:Rat)),(0,0)].flatMap Ai):=⟨q1,q2,q3,q4,q1,q2,q3,q4,q1,q2,q3,q4,q1,q2,q3,q4,trivial⟩
 exact QC rfl (N' _) fun j hj=>fun c v hv=>Cl Ai 8 (0,0) (fun _=>rfl) [((0:Rat),(0:Rat)),(0,0)] j hj▸(ZD7 (c:=c) hL).2 j hj v hv
theorem Rv (a:Rat×Rat):(Ai a).length=8∧∀x∈Ai a,x.one=true:=⟨rfl,fun x hx=>by
 simp only[Ai,qC,n_,b_,V_,or_false]at hx;rcases hx with(rfl |rfl |rfl |rfl) | (rfl |rfl |rfl |rfl) <;> rfl⟩
theorem o9 (t:Bool):∀j,j<8→((zC t).getD j .any).one=true:=fun j hj=>by
 match j,hj with
 |0,_=>rfl
 |1,_=>rfl
 |2,_=>rfl
 |3,_=>rfl
 |4,_=>rfl
 |5,_=>rfl
 |6,_=>rfl
 |7,_=>rfl
 |j+8,h=>omega
def ze (f:Nat→AV)(i:Nat)(a:Rat):Nat→AV:=De (De (De (De f i (.bool (sg a))) (i+1) (X9 (Xa a.num.natAbs))) (i+2) (.bool false)) (i+3) (X9 (Xa (qd a)))
theorem zf (p q:Rat×Rat)(a:Rat):∀j,j<16→ze (XV 0 (Xf []) 16 (Xw Ai 8 (0,0) [p,q])) 4 a j=Xw Ai 8 (0,0) [(p.1,a),q] j:=fun j hj=>by
 match j,hj with
 |0,_=>rfl
 |1,_=>rfl
 |2,_=>rfl
 |3,_=>rfl
 |4,_=>rfl
 |5,_=>rfl
 |6,_=>rfl
 |7,_=>rfl
 |8,_=>rfl
 |9,_=>rfl
 |10,_=>rfl
 |11,_=>rfl
 |12,_=>rfl
 |13,_=>rfl
 |14,_=>rfl
 |15,_=>rfl
 |j+16,h=>omega
theorem zh (p q:Rat×Rat)(a:Rat):∀j,j<16→ze (XV 0 (Xf []) 16 (Xw Ai 8 (0,0) [p,q])) 12 a j=Xw Ai 8 (0,0) [p,(q.1,a)] j:=fun j hj=>by
 match j,hj with
 |0,_=>rfl
 |1,_=>rfl
 |2,_=>rfl
 |3,_=>rfl
 |4,_=>rfl
 |5,_=>rfl
 |6,_=>rfl
 |7,_=>rfl
 |8,_=>rfl
 |9,_=>rfl
 |10,_=>rfl
 |11,_=>rfl
 |12,_=>rfl
 |13,_=>rfl
 |14,_=>rfl
 |15,_=>rfl
 |j+16,h=>omega
theorem fy {l:List AV}(P:List (Rat×Rat)) (h:TAF l (P.flatMap Ai)) (n m:Nat) (hn:n=P.length) (hm:m=P.length*8) (hl:m≤l.length) (t:Bool):B' (.sl n m (Xf l) t) (C6 P):=by
 subst hn hm;exact QC rfl (N' _) fun j hj=>fun c v hv=>Cl Ai 8 (0,0) (fun _=>rfl) P j hj▸(ZD7 (c:=c) h).2 j (by omega) v hv
def MY (Ps:List (List (Rat×Rat))):Nat→AV:=Xf (Ps.map C6)
theorem eu (Ps:List (List (Rat×Rat))) (j:Nat) (hj:j<Ps.length):MY Ps j=.sl (Ps.getD j []).length ((Ps.getD j []).length*8) (Xw Ai 8 (0,0) (Ps.getD j [])) false:=by
 rw[←Jr];show(Ps.map C6).getD j .any=_;rw[K',ZBy,K',V' hj];rfl
theorem Om (Ps:List (List (Rat×Rat))) (q:Nat):Jl q (.sl 6 6 (MY Ps) false)=True:=L' (X4 (Qw fun j _=>Xe (fun a ha=>by obtain⟨P,_,rfl⟩:=ZBj.1 ha;exact Jh P) j))
theorem MZ {H:List AO}{f2:Nat→AV}(p q:Rat×Rat)(x:Rat)(P1:List (Rat×Rat)) (h2:H[2]?=some (.con 0 16 f2)) (hl:P1.length=2) (e2:∀j,j<16→f2 j=Xw Ai 8 (0,0) P1 j)
  (h3:H[3]?=some (.con 1 24 (XV 16 (XV 0 (Xf []) 16 (Xw Ai 8 (0,0) [p,q])) 8 (Xf (zC false))))) (t:Bool) :
  Jj H (.sl 6 6 (Xf [.sl 2 16 (Xw Ai 8 (0,0) [p,q]) false,.osl 2 0 8 0 2,.sl 1 (min 8 16) (fun j=>Xw Ai 8 (0,0) [p,q] j) false,.osl 3 1 8 0 3,.sl 2 16 (Xf (qC x ++ qC x ++ (qC x ++ [.bool false,.sl 0 0 (fun _=>.any) false,.bool false,.sl 0 0 (fun _=>.any) false]))) false,.sl 0 0 (fun _=>.any) false]) t) (.sl 6 6 (MY [[p,q],P1,[p],[p,q,(0,0)],[(x,x),(x,0)],[]]) false):=by
 refine WM rfl (N' _) fun j hj=>?_
 match j,hj with
 |0,_=>exact XD _ (C6 [p,q])
 |1,_ =>
  show Jj H _ (C6 P1);rw[Jr,hl];exact JG h2 (N' _) (fun h=>by cases h) fun j hj=>by rw[e2 j hj];exact XD _ _
 |2,_ =>
  show Jj H _ (C6 [p]);rw[Jr];exact Xy (QC rfl (show 8≤min 8 16 by decide) fun j hj=>by
   match j,hj with
   |0,_=>exact U_ _
   |1,_=>exact U_ _
   |2,_=>exact U_ _
   |3,_=>exact U_ _
   |4,_=>exact U_ _
   |5,_=>exact U_ _
   |6,_=>exact U_ _
   |7,_=>exact U_ _
   |j+8,h=>exact absurd h (by simp))
 |3,_ =>
  show Jj H _ (C6 [p,q,(0,0)]);rw[Jr];refine JG h3 (N' _) (fun h=>by cases h) fun j hj=>?_
  have hL:TAF ([p,q].flatMap Ai ++ zC false) ([p,q,(0,0)].flatMap Ai):=by
   obtain⟨q1,q2,q3,q4,_⟩:=QB false;exact⟨U_ _,U_ _,U_ _,U_ _,U_ _,U_ _,U_ _,U_ _,U_ _,U_ _,U_ _,U_ _,U_ _,U_ _,U_ _,U_ _,q1,q2,q3,q4,q1,q2,q3,q4,trivial⟩
  have e:XV 16 (XV 0 (Xf []) 16 (Xw Ai 8 (0,0) [p,q])) 8 (Xf (zC false)) j=Xf ([p,q].flatMap Ai ++ zC false) j:=by
   have hj:j<24:=hj
   match j,hj with
   |0,_=>rfl
   |1,_=>rfl
   |2,_=>rfl
   |3,_=>rfl
   |4,_=>rfl
   |5,_=>rfl
   |6,_=>rfl
   |7,_=>rfl
   |8,_=>rfl
   |9,_=>rfl
   |10,_=>rfl
   |11,_=>rfl
   |12,_=>rfl
   |13,_=>rfl
   |14,_=>rfl
   |15,_=>rfl
   |16,_=>rfl
   |17,_=>rfl
   |18,_=>rfl
   |19,_=>rfl
   |20,_=>rfl
   |21,_=>rfl
   |22,_=>rfl
   |23,_=>rfl
   |j+24,h=>omega
  rw[e];exact Xy fun c v hv=>Cl Ai 8 (0,0) (fun _=>rfl) [p,q,(0,0)] j hj▸(ZD7 (c:=c) hL).2 j hj v hv
 |4,_ =>
  show Jj H _ (C6 [(x,x),(x,0)]);have hL:TAF (qC x ++ qC x ++ (qC x ++ [.bool false,.sl 0 0 (fun _=>.any) false,.bool false,.sl 0 0 (fun _=>.any) false])) ([(x,x),(x,0)].flatMap Ai):=by
   have h0:=Bz (X1 (qC x ++ qC x)) (Bz (X1 (qC x)) (QB false));exact h0
  exact Xy (fy [(x,x),(x,0)] hL 2 16 rfl rfl (N' _) false)
 |5,_=>exact Xy (DG _ _)
 |j+6,h=>omega
end
end Go.Ab.N
