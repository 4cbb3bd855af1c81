/- Contracts of functions, for every argument that fits. -/
import Derived.Test.YtcmfnmceomhgcaaGreatC8
set_option linter.unusedSimpArgs false
set_option linter.unusedVariables false
open Nat renaming reducePow → Y1, reduceLT → Y2, reduceLeDiff → Y3, reduceEqDiff → Y4, reduceAdd → Y5, reduceMul → Y6, reduceSub → Y7, reduceBEq → Y8, reduceDiv → Y9, reduceMod → YA
open Go.Ab.AO renaming row→ZAu
open Go.Ab.AS renaming start→O_,put→ZAt
open Go.Ab.AV renaming osl→ZDT
open List renaming range→ZAO,set_comm→ZA2,set→ZDJ
open Nat renaming add_mul→ZAc
open Option renaming map→ZAF
namespace Go.Ab.N
open Go Go.RowKit Go.Proofs
noncomputable section
set_option maxRecDepth 10000
set_option maxHeartbeats 4000000
open Classical
def cF (k:Int)(x y:List Rat)(val:Rat):List AV:=[I k,XX x,XX y] ++ qC val
def PP (k:Int)(x y:List Rat)(val:Rat):AV:=.agg (cF k x y val)
theorem RF (k:Int)(x y:List Rat)(val:Rat):∀a∈cF k x y val,A_ a:=by simp[cF,qC,X8,Xr,Xd,X5]
theorem Eg (k:Int)(x y:List Rat)(val:Rat):A_ (PP k x y val):=XE (RF k x y val)
theorem Rr {m n e:Nat}{T:Tb}(h:T.Ok m n e){E:Nat}(hE:∀i,i<m→qb (T.t i n)≤E) (h0:qb 0≤E) (k:Nat):qb (Jq m n T k)≤E:=by
 by_cases hex:∃i,i<m∧T.b i=k
 ·obtain⟨i,hi,rfl⟩:=hex
  rw[(LH h hi).1];exact hE i hi
 ·rw[show Jq m n T k=0 from Kp fun i hi=>M_ fun g=>hex ⟨i,hi,g⟩];exact h0
def KZ (v m:Nat)(k:Nat):Rat:=if 2*v+m≤k∧k<2*v+2*m then 1 else 0
def lJ (n0 m:Nat):Lay:=⟨n0+1,0,n0+2,m,n0+3,m,0,0,fun j=>n0+4+4*j+1,fun _=>0⟩
theorem lP (L:List Ln)(T:Tb)(N n0:Nat){j:Nat}:∀ {i:Nat},j<i→(r5 L T N n0 i)[4*j+1]?=some (.row 0 ((N+1)*4) (Xm (AB N (T.t j))))
 |i+1,h=>by
  unfold r5;by_cases e:j=i
  ·subst e
   rw[g_ (by rw[Hd];omega),Hd,show 4*j+1-4*j=1 by omega];rfl
  ·rw[T_ (by rw[Hd];omega)]
   exact lP L T N n0 (by omega)
theorem eQ (H:List AO)(v:Nat)(L:List Ln)(G:List Rat)(T:Tb)(N n0:Nat)(hn:H.length=n0)(hb:∀ i,i<L.length→T.b i=2*v+i)(hH:KK H)(hB:J6 H) :
  Laid ((RW H v L G T N).set (n0+3) (DO (lJ n0 L.length) L.length T.b)) (lJ n0 L.length) v L.length N T (.sl 0 0 (fun _=>.any) true):=by
 have len:(IW H v L G T N L.length).length=n0+4+4*L.length:=by rw[He,hn]
 have TF0:(RW H v L G T N).length=n0+4+4*L.length:=by unfold RW;rw[X_,len]
 have ne:∀a,a≠n0→(RW H v L G T N)[a]?=(IW H v L G T N L.length)[a]?:=fun a ha=>by unfold RW;rw[L_ (by omega)]
 refine⟨?_,?_,W_ (by rw[TF0];omega),fun i hi=>?_,?_,?_,?_,?_,?_,?_,?_,?_,?_⟩
 ·show _[n0+1]?=_
  rw[L_ (by omega),ne _ (by omega)];unfold IW;rw[hn];exact FU hn _ _ _
 ·show _[n0+2]?=_
  rw[L_ (by omega),ne _ (by omega)];unfold IW;rw[hn];exact dO hn _ _ _ _
 ·show _[n0+4+4*i+1]?=_
  rw[L_ (by omega),ne _ (by omega)];unfold IW;rw[hn,g_ (by omega),hn,show n0+4+4*i+1-n0=(4*i+1)+4 by omega];exact lP L T N n0 hi
 ·show n0+1≠n0+2;omega
 ·show n0+1≠n0+3;omega
 ·intro i _;show n0+1≠n0+4+4*i+1;omega
 ·show n0+2≠n0+3;omega
 ·intro i _;show n0+2≠n0+4+4*i+1;omega
 ·intro i _;show n0+3≠n0+4+4*i+1;omega
 ·intro i j _ _ h
  have h:n0+4+4*i+1=n0+4+4*j+1:=h;omega
 ·exact Dj (Dj (Sv v L G T N _ hH) fun k _=>trivial) fun k _=>fun j _=>X4 (X8 _)
 ·exact ZT (ZT (Oo v L G T N _ hB) (by simp)) (by simp[DO])
theorem YO (L:List Ln)(T:Tb)(N n0:Nat):∀i,∀o∈r5 L T N n0 i,∀ver n f,o≠.con ver n f
 |0,o,ho=>absurd ho (V_)
 |i+1,o,ho=>by
  rcases n_.1 ho with h |h
  ·exact YO L T N n0 i o h
  ·simp only[yS,b_,V_,or_false]at h
   rcases h with rfl |rfl |rfl |rfl <;> simp[Q3]
theorem dt (H:List AO)(v:Nat)(L:List Ln)(G:List Rat)(T:Tb)(N:Nat):K5 H (RW H v L G T N):=by
 intro a ver n f;unfold RW;by_cases ha:a<H.length
 ·rw[L_ (by omega)]
  unfold IW;rw[T_ ha]
 ·rw[k_ (by omega)]
  constructor
  ·intro h;cases h
  ·intro h
   exfalso;by_cases e:H.length=a
   ·subst e
    rw[W_ (by rw[He];omega)]at h;cases h
   ·rw[L_ e]at h
    unfold IW at h;rw[g_ (by omega)]at h;obtain⟨k,hk⟩:∃k,a-H.length=k+1:=⟨a-H.length-1,by omega⟩
    rw[hk,List.getElem?_cons_succ]at h;have:=ZAK h;simp only[b_]at this;rcases this with h |h |h |h
    ·simp[wy]at h
    ·simp[wx]at h
    ·simp[ox]at h
    ·exact YO _ _ _ _ _ _ h _ _ _ rfl
theorem TAx.congr {v m:Nat}{A:Nat→Nat→Rat}{B G x y x' y':Nat→Rat}{val:Rat}(h:TAx v m A B G x y val)(hx:∀ k,k<v→x k=x' k)(hy:∀i,i<m→y i=y' i):TAx v m A B G x' y' val:=by
 have e1:∀f:Nat→Rat,XO (fun k=>f k*x' k) v=XO (fun k=>f k*x k) v:=fun f=>XQ fun k hk=>by rw[hx k hk]
 have e2:∀f:Nat→Rat,XO (fun i=>f i*y' i) m=XO (fun i=>f i*y i) m:=fun f=>XQ fun i hi=>by rw[hy i hi]
 exact⟨fun i hi=>by rw[e1];exact h.TC7 i hi,fun i hi=>by rw[←hy i hi];exact h.TEw i hi,fun k hk=>by rw[e2 fun i=>A i k];exact h.TEx k hk,by rw[e1];exact h.TCf,by rw[e2];exact h.TEy⟩
theorem YT {m n e p κ:Nat}{T:Tb}(h:T.Ok m n e){E:Nat}(hE:∀i,i<m→qb (T.t i p)≤E) (h0:qb 0≤E):qb (XO (fun i=>if T.b i=κ then T.t i p else 0) m)≤E:=by
 by_cases hex:∃i,i<m∧T.b i=κ
 ·obtain⟨i,hi,rfl⟩:=hex
  rw[Aw hi fun i' hi' hn=>M_ ((LH h hi).2 i' hi' hn),N_ rfl];exact hE i hi
 ·rw[Kp fun i hi=>M_ fun g=>hex ⟨i,hi,g⟩];exact h0
theorem jA {v m c E κ:Nat}{A:Nat→Nat→Rat}{B G:Nat→Rat}{T:Tb}(hs:(K0 v m A B G).Sim m (2*v+2*m) T) (hT:T.Ok m (2*v+2*m) (2*v+m)) (hG:∀k,qb (G k)≤c) (hκ:∀k,k≠κ→G k=0) (hE:∀i p,i<m→p≤2*v+2*m→qb (T.t i p)≤E) (h0:qb 0≤E) {p:Nat} (hp:p≤2*v+2*m) :
  qb (T.c p)≤2*E+3*c+6:=by
 have h1:∀j,(K0 v m A B G).c j=if j<v then -G j else if j<2*v then G (j-v)else 0:=fun j=>rfl
 have hc:qb ((K0 v m A B G).c p)≤c+1:=by
  rw[h1];have:=AX
  split
  ·rw[Bj];have:=hG p;omega
  ·split
   ·have:=hG (p-v);omega
   ·omega
 rw[←GR hs hT (by omega) hp];have e:XO (fun i=>(K0 v m A B G).c (T.b i)*T.t i p) m=(if κ<v then -G κ else 0)*XO (fun i=>if T.b i=κ then T.t i p else 0) m+(if κ<v then G κ else 0)*XO (fun i=>if T.b i=v+κ then T.t i p else 0) m:=by
  rw[←Ji,←Ji,←HQ];refine XQ fun i hi=>?_
  rw[h1];by_cases e1:T.b i<v
  ·rw[N_ e1,M_ (show ¬T.b i=v+κ by omega)]
   by_cases e2:T.b i=κ
   ·rw[N_ e2,e2,N_ (by omega)];grind
   ·rw[M_ e2,hκ _ e2];grind
  ·rw[M_ e1]
   by_cases e2:T.b i<2*v
   ·rw[N_ e2]
    by_cases e3:T.b i=v+κ
    ·rw[N_ e3,e3,show v+κ-v=κ by omega,N_ (show κ<v by omega),N_ (show κ<v by omega),M_ (show ¬v+κ=κ by omega)];grind
    ·rw[M_ e3,hκ (T.b i-v) (by omega)]
     by_cases e4:T.b i=κ
     ·rw[M_ (show ¬κ<v by omega)];grind
     ·rw[M_ e4];grind
   ·rw[M_ e2]
    by_cases e3:T.b i=v+κ
    ·rw[M_ (show ¬κ<v by omega),M_ (show ¬κ<v by omega)];grind
    ·rw[M_ e3]
     by_cases e4:T.b i=κ
     ·rw[M_ (show ¬κ<v by omega)];grind
     ·rw[M_ e4];grind
 rw[e];have g1:qb (if κ<v then -G κ else 0)≤c+1:=by
  have:=AX
  split
  ·rw[Bj];have:=hG κ;omega
  ·omega
 have g2:qb (if κ<v then G κ else 0)≤c+1:=by
  have:=AX
  split
  ·have:=hG κ;omega
  ·omega
 have n1:=YT (κ:=κ) hT (p:=p) (fun i hi=>hE i p hi hp) h0;have n2:=YT (κ:=v+κ) hT (p:=p) (fun i hi=>hE i p hi hp) h0;generalize XO (fun i=>if T.b i=κ then T.t i p else 0) m=s1 at *;generalize XO (fun i=>if T.b i=v+κ then T.t i p else 0) m=s2 at *;generalize (if κ<v then -G κ else 0)=a1 at *;generalize (if κ<v then G κ else 0)=a2 at *;have m1:=Qa a1 s1;have m2:=Qa a2 s2;have m3:=KE (a1*s1) (a2*s2);have m4:=C3 ((K0 v m A B G).c p) (a1*s1+a2*s2);omega
theorem nd (v:Nat)(L:List Ln)(G:List Rat)(c E:Nat)(hv:v≤48)(hm:L.length≤128)(hG:G.length=v)(ha:∀ x∈L,x.a.length=v)(hB:∀ i,i<L.length→0≤lB L i)(i0:Nat)(hi0:i0<L.length)(hA:∀k,k<v→lA L i0 k=lG G k)
  (hcA:∀i k,qb (lA L i k)≤c) (hcB:∀i,qb (lB L i)≤c) (hcG:∀k,qb (lG G k)≤c) (hc0:qb 0≤c) (hc1:qb 1≤c) (hE:L.length*((v+2)*c+5)+1≤E) (hcE:c≤E) (hQ:c+1+(L.length*(c+1+E+1)+1)+1≤15000000) (hE2:3*E+c+10≤2083000) (hc:c≤10000) (κ:Nat) (hκ:∀k,k≠κ→lG G k=0) :
  ∃x y val,Fn Tryz.prog 51 [P7 v L G] (.tup [PP 0 x y val,I 0])∧x.length=v∧y.length=L.length∧(∀i,qb (x.getD i 0)≤2*E+1)∧(∀i,qb (y.getD i 0)≤2*E+3*c+6)∧TAx v L.length (lA L) (lB L) (lG G) (fun k=>x.getD k 0) (fun i=>y.getD i 0) val:=by
 obtain⟨m,hm0⟩:∃m,m=L.length:=⟨_,rfl⟩
 obtain⟨N,hN⟩:∃N,N=2*v+2*m:=⟨_,rfl⟩
 obtain⟨K,S,hS0,hok,hst,TAo,TCD⟩:=Nw (v:=v) (m:=L.length) (A:=lA L) (B:=lB L) (G:=lG G) hB hi0 hA;rw[←hm0,←hN]at hok hst TCD;rw[←hm0]at TAo;obtain⟨T,hT⟩:∃T,T=S K:=⟨_,rfl⟩
 rw[←hT]at TCD;have bE:∀i p,i<m→p≤N→qb (T.t i p)≤E:=fun i p hi hp=>by
  obtain⟨g1,g2⟩:=hok K (N' _);rw[hm0]at g1 g2 hi;rw[hN,hm0]at g1 g2 hp;rw[hT];exact m_ (MA g2 g1 (by omega) hcA hcB hi hp) hE
 have bC:∀p,p≤N→qb (T.c p)≤15000000:=fun p hp=>by
  obtain⟨g1,g2⟩:=hok K (N' _);have h3:=bE;rw[hT]at h3;rw[hm0]at g1 g2;rw[hN,hm0]at g1 g2 hp h3;rw[hT];exact m_ (R6 g2 g1 hcG h3 hp) hQ
 have bC2:∀p,p≤N→qb (T.c p)≤2*E+3*c+6:=fun p hp=>by
  obtain⟨g1,g2⟩:=hok K (N' _);have h3:=bE;rw[hT]at h3;rw[hm0]at g1 g2;rw[hN,hm0]at g1 g2 hp h3;rw[hT];exact jA g2 g1 hcG hκ h3 (by omega) hp
 have bN:∀k,qb (Jq m N T k)≤E:=Rr (by rw[hT];exact(hok K (N' _)).1) (fun i hi=>bE i N hi (N' _)) (by omega);refine⟨JY v m N T,(ZAO m).map fun i=>T.c (2*v+i),T.c N,?_,by simp[JY],by simp[hm0],fun i=>?_,fun i=>?_,?_⟩
 rotate_left
 ·by_cases hi:i<v
  ·unfold JY
   rw[QP _ hi];have h1:=bN i;have h2:=bN (v+i);have h3:=C3 (Jq m N T i) (Jq m N T (v+i));show qb (Jq m N T i-Jq m N T (v+i))≤_;omega
  ·rw[K',k_ (by simp[JY];omega)]
   show qb 0≤_;omega
 ·by_cases hi:i<m
  ·rw[QP (fun i=>T.c (2*v+i)) hi]
   exact bC2 _ (by omega)
  ·rw[K',k_ (by simp;omega)]
   show qb 0≤_;omega
 ·rw[←hm0]
  exact TCD.congr (fun k hk=>(QP (fun k=>Jq m N T k-Jq m N T (v+k)) hk).symm) (fun i hi=>(QP (fun i=>T.c (2*v+i)) hi).symm)
 obtain⟨X,hX⟩:∃X,X=JY v m N T:=⟨_,rfl⟩
 obtain⟨Yl,hYl⟩:∃Yl,Yl=(ZAO m).map fun i=>T.c (2*v+i):=⟨_,rfl⟩
 rw[←hX,←hYl];have hXl:X.length=v:=by rw[hX];simp[JY]
 obtain⟨R,hR⟩:∃R,R=AV.tup [PP 0 X Yl (T.c N),I 0]:=⟨_,rfl⟩
 have sR:A_ R:=hR▸Z5 (Kk (Eg _ _ _ _) (X8 0));rw[←hR];have c1:=gh v L G hv hm hG ha;refine Fq Tryz.call51 Tryz.func51 10 [] [] [7] (by simp[BT]) (XI 9 ?_);simp(disch:=omega)only[O_,P7,XH,Xu,↓Xc,wG,seval];have hp0:Xf [AV.int .i64 v,.sl L.length (L.length*5) (Xw KX 5 KN L) false,.sl G.length (G.length*4) (Xm fun i=>G.getD i 0) false]=Xf (Zz v L G):=by unfold Zz;rw[XH,Xu];rfl
 rw[hp0];refine d_ ?_ (Xz 0 rfl);refine d_ ?_ (XK 1 rfl rfl);refine XI 54 ?_;simp(disch:=omega)only[ZAt,Zz,XH,Xu,↓Xc,wG,seval];refine X0 c1 (X1 _) ?_;simp(disch:=omega)only[Zz,XH,Xu,↓Xc,wG,seval];obtain⟨T0,hT0⟩:∃T0:Tb,T0=K0 v L.length (lA L) (lB L) (lG G):=⟨_,rfl⟩
 obtain⟨H0,hH0⟩:∃H0:List AO,H0=[.con 0 3 (Xf (Zz v L G)),.row 0 7 (Xf ([.int .i64 0,.sl 0 0 (fun _=>.any) true,.sl 0 0 (fun _=>.any) true] ++ TAE))]:=⟨_,rfl⟩
 have l0:H0.length=2:=by rw[hH0];rfl
 have hB0:KK H0:=fun o ho q _=>by
  rw[hH0]at ho;simp only[b_,V_,or_false]at ho;rcases ho with rfl |rfl
  ·exact fun j _=>X4 (Xe (l:=Zz v L G) (by simp[Zz,X8,QV,Xr]) j)
  ·exact QZ (by simp[TAE,X5,JQ,Jv])
 have hU0:J6 H0:=fun o ho=>by
  rw[hH0]at ho;simp only[b_,V_,or_false]at ho;rcases ho with rfl |rfl <;> simp
 have c2:=qZ H0 v L G T0 N (by rw[hN,hm0]) (by omega) (by omega) (fun i hi=>ha _ (Qp KN hi)) hB (fun i hi k hk=>by rw[hT0]) (fun i k _ _=>by have:=hcA i k;omega) hB0 hU0;rw[l0]at c2;have hce:=dt H0 v L G T0 N;have hLd:=eQ H0 v L G T0 N 2 l0 (fun i _=>by rw[hT0];rfl) hB0 hU0;have M5:(RW H0 v L G T0 N)[5]?=some (ox v L.length):=by
  unfold RW;rw[l0,L_ (by omega)];unfold IW;rw[l0];exact dP l0 _ _ _ _ _
 have Ml:(RW H0 v L G T0 N).length=6+4*m:=by unfold RW;rw[X_,He,l0,hm0]
 have M0:(RW H0 v L G T0 N)[0]?=H0[0]?:=by
  unfold RW;rw[l0,L_ (by omega)];unfold IW;rw[T_ (by omega)]
 have M1:(RW H0 v L G T0 N)[1]?=H0[1]?:=by
  unfold RW;rw[l0,L_ (by omega)];unfold IW;rw[T_ (by omega)]
 obtain⟨M,hM⟩:∃M,M=RW H0 v L G T0 N:=⟨_,rfl⟩
 rw[←hM]at c2 hce hLd M5 Ml M0 M1;subst hH0;have eM0:=BL Ml;have eM1:=FU Ml;have eML:=ZH Ml;have TF1:=CQ Ml;have TE4:=H9 Ml;have m3:=hLd.x;rw[L_ (by show 5≠3;omega)]at m3;have m3:=Q7 (show M[3]?=some (.row 0 6 (Xf [I v,I L.length,I N,.osl 4 L.length 1 0 L.length,.sl 0 0 (fun _=>.any) true,.osl 5 L.length 1 0 L.length]))from m3);have h2v:2*(v:Int)+L.length=((2*v+L.length:Nat):Int):=by omega
 refine XC rfl c2 hce (Qd hU0) (X1 _) ?_;simp(disch:=omega)only[h2v,eM0,eM1,eML,TF1,TE4,m3,Ml,Zz,XH,Xu,P_,↓Xc,wG,seval];obtain⟨last,TDq⟩:∃last,last=2*v+L.length:=⟨_,rfl⟩
 rw[←TDq];obtain⟨Y0,hY0⟩:∃Y0,Y0=lJ 2 L.length:=⟨_,rfl⟩
 obtain⟨B1,hB1⟩:∃B1,B1=M.set 5 (DO Y0 L.length T0.b):=⟨_,rfl⟩
 have hl0:Laid B1 Y0 v L.length N T0 (.sl 0 0 (fun _=>.any) true):=by rw[hB1,hY0];exact hLd
 have B1l:B1.length=6+4*m:=by rw[hB1,X_];exact Ml
 obtain⟨A1,hA1⟩:∃A1,A1=B1 ++ [Q3 (.ref 3 0 0),.con 0 1 (Xf [I last])]:=⟨_,rfl⟩
 have hl1:Laid A1 Y0 v L.length N T0 (.sl 0 0 (fun _=>.any) true):=by
  rw[hA1];refine hl0.app _ fun o ho=>?_
  simp only[b_,V_,or_false]at ho;rcases ho with rfl |rfl
  ·exact⟨fun q hq=>Ak (QX (by rw[B1l]at hq;omega)),by simp[Q3]⟩
  ·exact⟨fun q _=>fun j _=>X4 (Xe (l:=[I last]) (by simp[X8]) j),by simp⟩
 have A1l:A1.length=8+4*m:=by rw[hA1,j_,B1l];simp only[ZAA,ZAN];omega
 refine d_ ?_ (Xz (6+4*m+1) (eM1 _ _ _));simp only[TE4];refine d_ ?_ (XK 6 rfl (eM1 _ _ _));refine d_ ?_ (Zm 5 L.length (fun i=>I ((if i<L.length then T0.b i else 0:Nat))) (Q7 M5 _) (N' _) (fun j hj=>by
  show I ((2*v+j:Nat))=I ((if j<L.length then T0.b j else 0:Nat));rw[N_ hj,hT0];rfl))
 refine d_ (s':=⟨10,[],[.any,pP v L G,.ref 1 0 0,I 0,.any,.ref (6+4*m) 0 0,.ptr 1 (Xf [I last]) 0,.any,.any,.any],[],A1⟩) ?_ (Xh rfl (by simp[ZAt,Xo,pP,Zz,XH,Xu,I]) trivial (by
  show ZDJ (M ++ _) 5 _=A1;rw[Z7 (A7 M5),hA1,hB1,hY0];rfl))
 have y0x:Y0.x=3:=by rw[hY0];rfl
 have y0v:Y0.vx=0:=by rw[hY0];rfl
 have y0t:Y0.x≠Y0.tid:=hl1.xt;have hqT:∀i k,qb (T0.t i k)≤c:=fun i k=>by
  rw[hT0];show qb (if k<v then lA L i k else if k<2*v then -lA L i (k-v)else if k=2*v+i then 1 else if k=2*v+2*L.length then lB L i else 0)≤c
  split
  ·exact hcA _ _
  split
  ·rw[Bj];exact hcA _ _
  split
  ·exact hc1
  split
  ·exact hcB _
  ·exact hc0
 have hq1:∀k,qb (KZ v L.length k)≤c:=fun k=>by unfold KZ;split <;> assumption
 have hq2:∀k,qb (Km v G k)≤c:=fun k=>by
  unfold Km
  split
  ·rw[Bj];exact hcG _
  split
  ·exact hcG _
  ·exact hc0
 have hbT:∀i,T0.b i=2*v+i:=fun i=>by rw[hT0];rfl
 have c3:=TD A1 Y0 v L.length N T0 _ 128 [.ptr 1 (Xf [I last]) 0] (KZ v L.length) hl1.x hl1.t hl1.b hl1.r hl1.xt hl1.xb hl1.xr hl1.bel hl1.born (by omega) (by omega) (Q:=c) (by omega) (fun i k _ _=>hqT i k) (fun k _=>hq1 k)
  (fun i hi=>by rw[hbT];exact⟨by omega,M_ (by omega)⟩) (M_ (by omega)) (fun k hk=>by
   have h:=g8 k last (by omega) (by omega);rw[show(if last≤k then(1:Rat)else 0)=KZ v L.length k by
    unfold KZ;by_cases h:last≤k
    ·rw[N_ h,N_ (by omega)]
    ·rw[M_ h,M_ (by omega)]]at h
   exact h)
 obtain⟨Y1,hY1⟩:∃Y1,Y1=Y0.cost A1.length:=⟨_,rfl⟩
 obtain⟨T1,hT1⟩:∃T1:Tb,T1={ T0 with c:=KZ v L.length }:=⟨_,rfl⟩
 obtain⟨ok1,ht1,hb1,hu1⟩:=hl1.TDC (KZ v L.length);obtain⟨A2,hA2⟩:∃A2,A2=BP A1 Y0 v L.length N (KZ v L.length):=⟨_,rfl⟩
 have ce3:K5 A1 A2:=by
  have h1:=QY (ob:=LW Y0 v L.length N (.osl A1.length 0 4 0 (N+1))) hl1.x (by simp[LW]) (by simp[LW]);have h2:=ZV (h:=A1.set Y0.x (LW Y0 v L.length N (.osl A1.length 0 4 0 (N+1)))) (ob:=.row 0 ((N+1)*4) (Xm (AB N (KZ v L.length))));intro a w k f;rw[hA2];exact(h1 a w k f).trans (h2 a w k f)
 replace c3:G' Tryz.prog 127 [.ref Y0.x Y0.vx 0,.fn 128 [.ptr 1 (Xf [I last]) 0]] A1 (.tup []) A2:=hA2▸c3;have A2l:A2.length=9+4*m:=by rw[hA2];unfold BP;rw[j_,X_,A1l];simp only[ZAA,ZAN];omega
 rw[←hY1,←hT1,←hA2]at ht1;rw[←hY1,←hA2]at ok1;rw[←hA2]at hb1 hu1;have y1x:Y1.x=3:=by rw[hY1];exact y0x
 have y1v:Y1.vx=0:=by rw[hY1];exact y0v
 have c4:=mS A2 Y1 v L.length N N 0 (fun _=>T1) ok1 hb1 hu1 (N' _) (by omega) (by omega) (Q:=c) (by omega) (fun k _ i j _ _=>by rw[hT1];exact hqT i j) (fun k _ j _=>by rw[hT1];exact hq1 j) (fun k hk=>absurd hk (ZAL k)) (fun j _=>by
  rw[hT1];show 0≤KZ v L.length j;unfold KZ
  split <;> decide)
 rw[ht1]at c4;have hl2:Laid A2 Y1 v L.length N T1 (.osl Y1.cid Y1.cv 4 0 (N+1)):=by
  have h:=ok1.laid T1 (by rw[hY1];exact y0t) hb1 hu1;rwa[ht1]at h
 have hc2:A2[Y1.cid]?=some (DU Y1 N T1.c):=by
  have h:=LY ok1 T1;rwa[ht1]at h
 rw[y0x,y0v]at c3;rw[y1x,y1v]at c4;have x2:=hl2.x;rw[y1x]at x2;have xb2:A2[6+4*m]?=some (Q3 (.ref 3 0 0)):=by
  rw[hA2];refine Q7 ?_ _;rw[L_ (by rw[y0x];omega),hA1];exact BL B1l _ _
 have lb2:A2[6+4*m+1]?=some (.con 0 1 (Xf [I last])):=by
  rw[hA2];refine Q7 ?_ _;rw[L_ (by rw[y0x];omega),hA1];exact FU B1l _ _ _
 have xb1:A1[6+4*m]?=some (Q3 (.ref 3 0 0)):=by rw[hA1];exact BL B1l _ _
 have s1:=Qv 0;have w1:=Ch T1.c (N' N);have w2:=BS T1.c (N' N);have e10:T1.c N=0:=by rw[hT1];exact M_ (by omega)
 rw[e10]at w1 w2;rw[ZB9]at s1;unfold Q3 at xb1 xb2;have x2':=x2;have TEL:=hc2;unfold LW at x2';unfold DU at TEL;rw[y1v]at x2';refine XI 95 ?_;simp(disch:=omega)only[xb1,↓Xc,wG,seval];refine XC rfl c3 ce3 (Qd hl1.born) (X1 _) ?_;simp(disch:=omega)only[xb2,x2',A2l,↓Xc,wG,seval];refine XC rfl c4 (Z6 _) (Qd hu1) (X1 _) ?_;simp(disch:=omega)only[xb2,x2',TEL,A2l,w1,w2,qC,↓Xc,wG,seval];refine X2 s1 rfl ?_;simp(disch:=omega)only[xb2,x2',TEL,A2l,lb2,Int.sign_zero,↓Xc,wG,seval];have TE5:∀i,T1.b i=2*v+i:=fun i=>by rw[hT1];exact hbT i
 have c5:=jI A2 Y1 v L.length N last T1.b _ hl2.x hl2.b hb1 (fun i hi=>by rw[TE5];omega) (by omega);rw[y1x,y1v]at c5;refine XC rfl c5 (Z6 _) (Qd hu1) (X1 _) ?_;have c6:=TD A2 Y1 v L.length N T1 _ 132 [pP v L G] (Km v G) hl2.x hl2.t hl2.b hl2.r hl2.xt hl2.xb hl2.xr hb1 hu1 (by omega) (by omega) (Q:=c) (by omega) (fun i k _ _=>by rw[hT1];exact hqT i k) (fun k _=>hq2 k)
  (fun i hi=>by rw[TE5];exact⟨by omega,by unfold Km;rw[M_ (by omega),M_ (by omega)]⟩) (by unfold Km;rw[M_ (by omega),M_ (by omega)]) (fun k hk=>g9 v k L G (by omega) (by omega) hG)
 obtain⟨Y2,hY2⟩:∃Y2,Y2=Y1.cost A2.length:=⟨_,rfl⟩
 obtain⟨ok2,ht2,hb2,hu2⟩:=hl2.TDC (Km v G);have eS:({ T1 with c:=Km v G }:Tb)=S 0:=by
  rw[hS0,hT1,hT0];exact y_ (fun c=>(⟨(K0 v L.length (lA L) (lB L) (lG G)).t,c,(K0 v L.length (lA L) (lB L) (lG G)).b⟩:Tb)) (funext fun k=>rfl)
 rw[eS]at ht2;obtain⟨A3,hA3⟩:∃A3,A3=BP A2 Y1 v L.length N (Km v G):=⟨_,rfl⟩
 have ce6:K5 A2 A3:=by
  have h1:=QY (ob:=LW Y1 v L.length N (.osl A2.length 0 4 0 (N+1))) hl2.x (by simp[LW]) (by simp[LW]);have h2:=ZV (h:=A2.set Y1.x (LW Y1 v L.length N (.osl A2.length 0 4 0 (N+1)))) (ob:=.row 0 ((N+1)*4) (Xm (AB N (Km v G))));intro a w k f;rw[hA3];exact(h1 a w k f).trans (h2 a w k f)
 replace c6:G' Tryz.prog 127 [.ref Y1.x Y1.vx 0,.fn 132 [pP v L G]] A2 (.tup []) A3:=hA3▸c6;have A3l:A3.length=10+4*m:=by rw[hA3];unfold BP;rw[j_,X_,A2l];simp only[ZAA,ZAN];omega
 rw[←hY2,←hA3]at ht2 ok2;rw[←hA3]at hb2 hu2;rw[y1x,y1v]at c6;have y2x:Y2.x=3:=by rw[hY2];exact y1x
 have y2v:Y2.vx=0:=by rw[hY2];exact y1v
 have eN:2*v+L.length≤N:=by omega
 have hEk:∀k,k≤K→∀i j,i<L.length→j≤N→qb ((S k).t i j)≤E:=fun k hk i j hi hj=>by
  obtain⟨g1,g2⟩:=hok k hk;rw[hm0]at g1 g2;rw[hN,hm0]at g1 g2 hj;exact m_ (MA g2 g1 (by omega) hcA hcB hi hj) hE
 have hCk:∀k,k≤K→∀j,j≤N→qb ((S k).c j)≤15000000:=fun k hk j hj=>by
  obtain⟨g1,g2⟩:=hok k hk;have h3:=hEk k hk;rw[hm0]at g1 g2;rw[hN,hm0]at g1 g2 hj h3;exact m_ (R6 g2 g1 hcG h3 hj) hQ
 have c7:=mS A3 Y2 v L.length N last K S ok2 hb2 hu2 (by omega) (by omega) (by omega) (Q:=15000000) (by omega) (fun k hk i j hi hj=>by have:=hEk k hk i j hi hj;omega) hCk (fun k hk=>by
  obtain⟨p,r,g1,g2,g3⟩:=hst k hk;refine⟨p,r,by rw[TDq];rwa[hm0]at g1,by rwa[hm0]at g2,g3⟩) (fun j hj=>TAo j (by omega))
 rw[ht2,←hT]at c7;rw[y2x,y2v]at c7;have x3:=ok2.x;have xb3:A3[6+4*m]?=some (.row 0 1 (Xf [.ref 3 0 0])):=by
  rw[hA3];refine Q7 ?_ _;rw[L_ (by rw[y1x];omega)];exact xb2
 obtain⟨A4,hA4⟩:∃A4,A4=HT A3 Y2 L.length N T:=⟨_,rfl⟩
 have A4l:A4.length=10+4*m:=by rw[hA4,EA,A3l]
 have TF2:K5 A3 A4:=by
  have h:=SG ok2 (S 0) T;rw[ht2,←hA4]at h;exact h
 rw[←hA4]at c7;simp(disch:=omega)only[xb2,A2l,↓Xc,wG,seval];refine XC rfl c6 ce6 (Qd hu1) (X1 _) ?_;simp(disch:=omega)only[xb3,A3l,↓Xc,wG,seval];refine XC rfl c7 TF2 (Qd hu2) (X1 _) ?_;have a0:=BL A4l;have aL:=ZH A4l;have as0:=CQ A4l;simp(disch:=omega)only[a0,A4l,aL,as0,P_,↓Xc,wG,seval];have rd2:∀j,Y2.rid j=7+4*j:=fun j=>by rw[hY2,hY1,hY0];show 2+4+4*j+1=_;omega
 have bd2:Y2.bid=5:=by rw[hY2,hY1,hY0];rfl
 have td2:Y2.tid=4:=by rw[hY2,hY1,hY0];rfl
 have cd2:Y2.cid=9+4*m:=by rw[hY2];exact A2l
 have xb4:A4[6+4*m]?=some (.row 0 1 (Xf [.ref 3 0 0])):=by
  rw[hA4,DI T (by omega) (by omega) fun j _=>by rw[rd2];omega];exact xb3
 have o1:A4[1]?=some (.row 0 7 (Xf ([.int .i64 0,.sl 0 0 (fun _=>.any) true,.sl 0 0 (fun _=>.any) true] ++ TAE))):=by
  rw[hA4,DI T (by omega) (by omega) fun j _=>by rw[rd2];omega,hA3];refine Q7 ?_ _;rw[L_ (by omega),hA2];refine Q7 ?_ _;rw[L_ (by omega),hA1];refine Q7 ?_ _;rw[hB1,L_ (by omega),M1];rfl
 have hl4:Laid (A4 ++ [Q3 (.int .i64 (-1))]) Y2 v L.length N T (.osl Y2.cid Y2.cv 4 0 (N+1)):=by
  have h:=ok2.laid T (by rw[y2x,td2];omega) hb2 hu2;rw[←hA4]at h;refine h.app _ fun o ho=>?_
  rw[Y_.1 ho];exact⟨fun q _=>Ak (X4 (X8 (-1))),by simp[Q3]⟩
 have hc4:(A4 ++ [Q3 (.int .i64 (-1))])[Y2.cid]?=some (DU Y2 N T.c):=by
  have h:=LY ok2 T;rw[←hA4]at h;exact Q7 h _
 obtain⟨F,hF1,hF2,hF3,hF4⟩:=vZ (b:=0) (s:=⟨10,[],[.any,pP v L G,.ref 1 0 0,I 0,.any,.ref (6+4*m) 0 0,.ptr 1 (Xf [I last]) 0,.ref (10+4*m) 0 0,.any,.any],[],A4 ++ [Q3 (.int .i64 (-1))]⟩) (xb:=6+4*m) hl4 hc4 ok2.xc ok2.tc ok2.bc ok2.cr
  (by rw[y2x,y2v];exact Q7 xb4 _) (by omega) (by omega) (by omega) (by omega) (fun i _=>by rw[rd2];omega)
 have F1:F[1]?=some (.row 0 7 (Xf ([.int .i64 0,.sl 0 0 (fun _=>.any) true,.sl 0 0 (fun _=>.any) true] ++ TAE))):=by
  rw[hF4 1 (by omega) (by omega) (by omega) (by omega) (by omega) (fun i _=>by rw[rd2];omega)];exact Q7 o1 _
 have TF3:=A7 F1;have okK:T.Ok L.length N (2*v+L.length):=by
  have h:=(hok K (N' _)).1;rw[←hT]at h;rwa[hm0]at h
 have qn:∀k,qb (Jq L.length N T k)≤E:=Rr okK (fun i hi=>by rw[hT];exact hEk K (N' _) i N hi (N' _)) (by omega);have p1:=ms v L.length N (2*v+L.length) T okK (by omega) (by omega) (by omega) (fun k=>by have:=qn k;omega);have p2:=fZ v L.length N T (by omega) (by omega);rw[←show X=JY v L.length N T by rw[hX,hm0]]at p1;rw[←show Yl=(ZAO L.length).map fun i=>T.c (2*v+i)by rw[hYl,hm0]]at p2;have p3:=jG G X (3*E+c) (by omega) (by omega) (fun i hi=>by
  rw[hX];unfold JY;rw[QP _ (by omega)];have h1:=qn i;have h2:=qn (v+i);have h3:=C3 (Jq L.length N T i) (Jq L.length N T (v+i));have h4:=hcG i;unfold lG at h4;rw[hm0];omega) (by omega)
 have TBG:XO (fun i=>G.getD i 0*X.getD i 0) G.length=T.c N:=by
  rw[←TCD.TCf,hG];refine XQ fun k hk=>?_
  rw[hX];unfold JY;rw[QP _ hk];rfl
 rw[TBG]at p3;unfold Q3 at hF3;refine d_ (s':=⟨10,[],[.any,pP v L G,.ref 1 0 0,I 0,.any,.ref (6+4*m) 0 0,.ptr 1 (Xf [I last]) 0,.ref (10+4*m) 0 0,.any,.any],[],A4 ++ [Q3 (.int .i64 (-1))]⟩) ?_ (ZZ (by simp[Xo,I]) (by simp[Q3]));refine d_ ?_ hF1;have fs1:∀o,(F.set 1 o)[1]?=some o:=fun o=>W_ TF3
 unfold TAE at F1;refine Xk ?_;simp(disch:=omega)only[hF3,F1,↓Xc,wG,seval];refine X0 p1 (X1 _) ?_;simp(disch:=omega)only[hF3,F1,↓Xc,wG,seval];refine X0 p2 (X1 _) ?_;simp(disch:=omega)only[hF3,F1,pP,Zz,Xu,XH,↓Xc,wG,seval];refine X0 p3 (X1 _) ?_;simp(disch:=omega)only[F1,qA,qC,Xu,fs1,↓Xc,wG,seval];rw[hR];exact FK (r1:=.cell 2 91) (r2:=.tmp 3) rfl (Xt lz rfl (fs1 _) rfl) rfl (XY (Eg _ _ _ _) rfl) (XY (X8 0) rfl)
def Ev (b:BB)(g:GG):List (List Rat) :=
  [[g.n.x,-g.n.y,-g.n.x,-(-g.n.y),0],[g.n.y,g.n.x,-g.n.y,-g.n.x,-b.TAD],
   [Xq (g.p.sub b.c) g.n,Xq (g.p.sub b.c) g.n.F',-Xq (g.q.sub b.c) g.n,-Xq (g.q.sub b.c) g.n.F',0]]
def TE (b:BB)(g:GG):List Ln :=
  [⟨[-1,0,0,0,0],0⟩,⟨[0,0,-1,0,0],0⟩,⟨[-g.E_,1,0,0,0],0⟩,⟨[0,0,-g.E_,1,0],0⟩,⟨[-g.E_,-1,0,0,0],0⟩,⟨[0,0,-g.E_,-1,0],0⟩,
   ⟨[Qj g.n,0,0,0,0],g.force⟩,⟨[0,0,Qj g.n,0,0],g.force⟩,⟨[Qj g.n,0,Qj g.n,0,0],b.TAB⟩,⟨[0,0,0,0,1],16⟩,⟨[0,0,0,0,-1],0⟩]
def Cb (l:List Rat):List Rat:=l.map fun x=>-x
def GN (l:List Rat):List Ln:=[⟨l,0⟩,⟨Cb l,0⟩]
def JB (b:BB)(g:GG):List Ln:=TE b g ++ (Ev b g).flatMap GN
def TAO:List Rat:=[0,0,0,0,1]
theorem z7 (f:Nat→Rat):XO f 5=f 0+f 1+f 2+f 3+f 4:=by
 simp only[XO];grind
theorem Bi (b:BB)(g:GG):(JB b g).length=17:=rfl
theorem H4 (b:BB)(g:GG)(x:Nat→Rat):(∀i,i<17→XO (fun k=>lA (JB b g) i k*x k) 5≤lB (JB b g) i)↔okP b g (x 0) (x 1) (x 2) (x 3) (x 4):=by
 have e:∀i,XO (fun k=>lA (JB b g) i k*x k) 5=lA (JB b g) i 0*x 0+lA (JB b g) i 1*x 1+lA (JB b g) i 2*x 2+lA (JB b g) i 3*x 3+lA (JB b g) i 4*x 4:=fun i=>z7 _
 constructor
 ·intro h
  have h0:(-1:Rat)*x 0+0*x 1+0*x 2+0*x 3+0*x 4≤0:=by have:=h 0 (by omega);rw[e]at this;exact this
  have h1:(0:Rat)*x 0+0*x 1+(-1)*x 2+0*x 3+0*x 4≤0:=by have:=h 1 (by omega);rw[e]at this;exact this
  have h2:(-g.E_)*x 0+1*x 1+0*x 2+0*x 3+0*x 4≤0:=by have:=h 2 (by omega);rw[e]at this;exact this
  have h3:(0:Rat)*x 0+0*x 1+(-g.E_)*x 2+1*x 3+0*x 4≤0:=by have:=h 3 (by omega);rw[e]at this;exact this
  have h4:(-g.E_)*x 0+(-1)*x 1+0*x 2+0*x 3+0*x 4≤0:=by have:=h 4 (by omega);rw[e]at this;exact this
  have h5:(0:Rat)*x 0+0*x 1+(-g.E_)*x 2+(-1)*x 3+0*x 4≤0:=by have:=h 5 (by omega);rw[e]at this;exact this
  have h6:Qj g.n*x 0+0*x 1+0*x 2+0*x 3+0*x 4≤g.force:=by have:=h 6 (by omega);rw[e]at this;exact this
  have h7:(0:Rat)*x 0+0*x 1+Qj g.n*x 2+0*x 3+0*x 4≤g.force:=by have:=h 7 (by omega);rw[e]at this;exact this
  have h8:Qj g.n*x 0+0*x 1+Qj g.n*x 2+0*x 3+0*x 4≤b.TAB:=by have:=h 8 (by omega);rw[e]at this;exact this
  have h9:(0:Rat)*x 0+0*x 1+0*x 2+0*x 3+1*x 4≤16:=by have:=h 9 (by omega);rw[e]at this;exact this
  have h10:(0:Rat)*x 0+0*x 1+0*x 2+0*x 3+(-1)*x 4≤0:=by have:=h 10 (by omega);rw[e]at this;exact this
  have h11:g.n.x*x 0 + -g.n.y*x 1 + -g.n.x*x 2 + -(-g.n.y)*x 3+0*x 4≤0:=by have:=h 11 (by omega);rw[e]at this;exact this
  have h12:-g.n.x*x 0 + -(-g.n.y)*x 1 + -(-g.n.x)*x 2 + -(-(-g.n.y))*x 3 + -0*x 4≤0:=by have:=h 12 (by omega);rw[e]at this;exact this
  have h13:g.n.y*x 0+g.n.x*x 1 + -g.n.y*x 2 + -g.n.x*x 3 + -b.TAD*x 4≤0:=by have:=h 13 (by omega);rw[e]at this;exact this
  have h14:-g.n.y*x 0 + -g.n.x*x 1 + -(-g.n.y)*x 2 + -(-g.n.x)*x 3 + -(-b.TAD)*x 4≤0:=by have:=h 14 (by omega);rw[e]at this;exact this
  have h15:Xq (g.p.sub b.c) g.n*x 0+Xq (g.p.sub b.c) g.n.F'*x 1 + -Xq (g.q.sub b.c) g.n*x 2 + -Xq (g.q.sub b.c) g.n.F'*x 3+0*x 4≤0:=by have:=h 15 (by omega);rw[e]at this;exact this
  have h16:-Xq (g.p.sub b.c) g.n*x 0 + -Xq (g.p.sub b.c) g.n.F'*x 1 + -(-Xq (g.q.sub b.c) g.n)*x 2 + -(-Xq (g.q.sub b.c) g.n.F')*x 3 + -0*x 4≤0:=by have:=h 16 (by omega);rw[e]at this;exact this
  clear h e;refine⟨by grind,by grind,by grind,by grind,by grind,by grind,by grind,by grind,by grind,by grind,by grind,by grind,by grind,?_⟩;show Xq (g.p.sub b.c) g.n*x 0+Xq (g.p.sub b.c) g.n.F'*x 1-Xq (g.q.sub b.c) g.n*x 2-Xq (g.q.sub b.c) g.n.F'*x 3=0;generalize Xq (g.p.sub b.c) g.n=c1 at *;generalize Xq (g.p.sub b.c) g.n.F'=c2 at *;generalize Xq (g.q.sub b.c) g.n=c3 at *;generalize Xq (g.q.sub b.c) g.n.F'=c4 at *;grind
 ·intro h i hi
  rw[e];have ht:Xq (g.p.sub b.c) g.n*x 0+Xq (g.p.sub b.c) g.n.F'*x 1-Xq (g.q.sub b.c) g.n*x 2-Xq (g.q.sub b.c) g.n.F'*x 3=0:=h.et;obtain⟨a1,a2,a3,a4,a5,a6,a7,a8,a9,a10,a11,a12,a13,_⟩:=h;clear e
  match i,hi with
  |0,_=>show(-1:Rat)*x 0+0*x 1+0*x 2+0*x 3+0*x 4≤0;grind
  |1,_=>show(0:Rat)*x 0+0*x 1+(-1)*x 2+0*x 3+0*x 4≤0;grind
  |2,_=>show(-g.E_)*x 0+1*x 1+0*x 2+0*x 3+0*x 4≤0;grind
  |3,_=>show(0:Rat)*x 0+0*x 1+(-g.E_)*x 2+1*x 3+0*x 4≤0;grind
  |4,_=>show(-g.E_)*x 0+(-1)*x 1+0*x 2+0*x 3+0*x 4≤0;grind
  |5,_=>show(0:Rat)*x 0+0*x 1+(-g.E_)*x 2+(-1)*x 3+0*x 4≤0;grind
  |6,_=>show Qj g.n*x 0+0*x 1+0*x 2+0*x 3+0*x 4≤g.force;grind
  |7,_=>show(0:Rat)*x 0+0*x 1+Qj g.n*x 2+0*x 3+0*x 4≤g.force;grind
  |8,_=>show Qj g.n*x 0+0*x 1+Qj g.n*x 2+0*x 3+0*x 4≤b.TAB;grind
  |9,_=>show(0:Rat)*x 0+0*x 1+0*x 2+0*x 3+1*x 4≤16;grind
  |10,_=>show(0:Rat)*x 0+0*x 1+0*x 2+0*x 3+(-1)*x 4≤0;grind
  |11,_=>show g.n.x*x 0 + -g.n.y*x 1 + -g.n.x*x 2 + -(-g.n.y)*x 3+0*x 4≤0;grind
  |12,_=>show -g.n.x*x 0 + -(-g.n.y)*x 1 + -(-g.n.x)*x 2 + -(-(-g.n.y))*x 3 + -0*x 4≤0;grind
  |13,_=>show g.n.y*x 0+g.n.x*x 1 + -g.n.y*x 2 + -g.n.x*x 3 + -b.TAD*x 4≤0;grind
  |14,_=>show -g.n.y*x 0 + -g.n.x*x 1 + -(-g.n.y)*x 2 + -(-g.n.x)*x 3 + -(-b.TAD)*x 4≤0;grind
  |15,_ =>
   show Xq (g.p.sub b.c) g.n*x 0+Xq (g.p.sub b.c) g.n.F'*x 1 + -Xq (g.q.sub b.c) g.n*x 2 + -Xq (g.q.sub b.c) g.n.F'*x 3+0*x 4≤0;generalize Xq (g.p.sub b.c) g.n=c1 at *;generalize Xq (g.p.sub b.c) g.n.F'=c2 at *;generalize Xq (g.q.sub b.c) g.n=c3 at *;generalize Xq (g.q.sub b.c) g.n.F'=c4 at *;grind
  |16,_ =>
   show -Xq (g.p.sub b.c) g.n*x 0 + -Xq (g.p.sub b.c) g.n.F'*x 1 + -(-Xq (g.q.sub b.c) g.n)*x 2 + -(-Xq (g.q.sub b.c) g.n.F')*x 3 + -0*x 4≤0;generalize Xq (g.p.sub b.c) g.n=c1 at *;generalize Xq (g.p.sub b.c) g.n.F'=c2 at *;generalize Xq (g.q.sub b.c) g.n=c3 at *;generalize Xq (g.q.sub b.c) g.n.F'=c4 at *;grind
  |i+17,h=>omega
theorem LC (k:Nat)(x:Nat→Rat):XO (fun k=>lG TAO k*x k) 5=x 4:=by
 rw[z7];show(0:Rat)*x 0+0*x 1+0*x 2+0*x 3+1*x 4=x 4;grind
theorem rn {b:BB}{g:GG}{x y:Nat→Rat}{val:Rat}(h:TAx 5 17 (lA (JB b g)) (lB (JB b g)) (lG TAO) x y val):lh b g val∧okP b g (x 0) (x 1) (x 2) (x 3) val∧x 4=val:=by
 have e:x 4=val:=by rw[←h.TCf,LC 0]
 have ok:=(H4 b g x).1 h.TC7;rw[e]at ok;refine⟨⟨⟨_,_,_,_,ok⟩,fun a0 c0 a1 c1 k' hk=>?_⟩,ok,e⟩
 let z:Nat→Rat:=fun k=>match k with |0=>a0 |1=>c0 |2=>a1 |3=>c1 |_=>k'
 have:=h.most (z:=z) ((H4 b g z).2 hk);rw[LC 0]at this;exact this
def Zk (lid n:Nat)(G:List Rat):AO:=.row 0 3 (Xf [I 5,.osl lid n 5 0 n,XX G])
def AU (Ls:List Ln)(n:Nat):AO:=.row n (n*5) (Xw KX 5 KN Ls)
theorem QH {P:Program}{tok:List Tok}{strict:Nat→Bool}{C':Bool}{nid:Nat→Option Nat}{all:Array Oper}{i:Nat}{s:AS}{o:Oper}{v:AV}{h':List AO}(ho:all[i]?=some o)(hs:strict i=false)(hn:nid i=none)(hg:TAw all s o=some true)(h:Jk P false none o.op s.ev s.h=some (v,h')) :
  GStep P tok strict C' nid all i s (({ s with h:=h' }:AS).E' o.dst v):=⟨o,ho,.inl ⟨hg,⟨fun _ h=>(by rw[hn]at h;cases h),v,h',.inl (by rw[hs,hn];exact h),rfl⟩⟩⟩
theorem Lt {all:Array Oper}{fl:Nat→Bool}{T:Nat→Prop}{i:Nat}{s:AS}(h:fl i=false):GT all fl T i s:=fun e=>by rw[h]at e;cases e
theorem xL {all:Array Oper}{fl:Nat→Bool}{T:Nat→Prop}{i:Nat}{s:AS}{o:Oper}{tl:TypeId}{al:Operand}(ho:all[i]?=some o)(hop:o.op=.load tl al)(h:∀o' va off,s.ev al=.ref o' va off→T o'):GT all fl T i s:=fun _ oi hoi=>by
 rw[ho]at hoi;cases hoi;refine⟨fun tl' al' e o va off hv=>?_,fun tx e=>?_,fun a e=>?_⟩
 ·rw[hop]at e;cases e;exact h _ _ _ hv
 ·rw[hop]at e;simp[Dg]at e
 ·rw[hop]at e;simp[oy]at e
theorem gtA {all:Array Oper}{fl:Nat→Bool}{T:Nat→Prop}{i:Nat}{s:AS}{o:Oper}{t:Nat}{y:Operand}{ts:Array TypeId}(ho:all[i]?=some o)(hop:o.op=.call { callee:=.builtin .append,args:=#[.tmp t,y],argTypes:=ts }) (h:∀b ver es off n,s.get t=.osl b ver es off n→¬T b):GT all fl T i s:=fun _ oi hoi=>by
 rw[ho]at hoi;cases hoi;refine⟨fun tl' al' e=>?_,fun tx e b ver es off n hv=>?_,fun a e=>?_⟩
 ·rw[hop]at e;cases e
 ·rw[hop]at e;simp[Dg]at e;subst e;exact h _ _ _ _ _ hv
 ·rw[hop]at e;simp[oy]at e
theorem yE {all:Array Oper}{fl:Nat→Bool}{T:Nat→Prop}{i:Nat}{s:AS}{o:Oper}{tl:TypeId}{al x:Operand}(ho:all[i]?=some o)(hop:o.op=.store tl al x)(h:∀o' va off,s.ev al=.ref o' va off→¬T o'):GT all fl T i s:=fun _ oi hoi=>by
 rw[ho]at hoi;cases hoi;refine⟨fun tl' al' e=>?_,fun tx e=>?_,fun a e o va off hv=>?_⟩
 ·rw[hop]at e;cases e
 ·rw[hop]at e;simp[Dg]at e
 ·rw[hop]at e;simp[oy]at e;subst e;exact h _ _ _ hv
theorem Nz:∀ (n:Nat) (l:List AV),Xo l (List.replicate n .any)
 |0,_=>by cases ‹List AV› <;> trivial
 |n+1,[]=>⟨rfl,Nz n []⟩
 |n+1,_ :: l=>⟨.inl rfl,Nz n l⟩
theorem Ir (H:List AO)(o lid n k:Nat)(r:Rat)(a c:AV)(K6:List AO)(Ls:List Ln)(G:List Rat)(H1:List AO)(Hf:List AO)(ho:H[o]?=some (Zk lid n G)) (hn:n<100000) (hk:k≤5)
  (hlen:NS Tryz.prog 86 a=some (I k)) (hz:K8 Tryz.prog 86 3 a (I ((5-k:Nat):Int)) (H ++ [.row 0 4 (Xf (qC r))])=some (c,K6)) (hr6:K6[H.length]?=some (.row 0 4 (Xf (qC r)))) (hl6:K6[lid]?=some (AU Ls n)) (ho6:K6[o]?=some (Zk lid n G)) (hne:o≠lid)
  (hT:∀b ver es off n',a=.osl b ver es off n'→b≠o) (hc1:c.cells=[c]) (hc2:c.one=true) (hc3:c.loose.one=true) (hc4:c.loose.loose=c.loose)
  (TDV:∀ (s:AS),s.h=(K6.set lid (.row (n+1) ((n+1)*5) (XV (n*5) (Xw KX 5 KN Ls) 5 (Xf (c.loose :: qC r))))).set o (Zk lid (n+1) G)→Sub H.length s { s with h:=Hf })
  (TA5:Hf.take H.length=H1) (TCc:KK H1) (TGC:H1.length=H.length) :
  G' Tryz.prog 164 [qA r,a,.ref o 0 0] H (.tup []) H1:=by
 obtain⟨n0,hn0⟩:∃n0,H.length=n0:=⟨_,rfl⟩
 have e0:=BL hn0;have el:=ZH hn0;have eo:=Q7 ho;refine G'.TAp (fn:=Tryz.f164) Tryz.call164 Tryz.func164 rfl mixed 5 [] [2000000000001,2000000000006] [] (by kernel_rfl) (K_ rfl) (X4 (Z5)) (fun o ho=>TCc o ho _ (by omega)) (XI 5 ?_);simp(disch:=omega)only[O_,e0,el,hn0,qA,qC,↓Xc,wG,seval];show Run _ _ ⟨5,[],[qA r,a,.ref o 0 0,.ref n0 0 0,.any],[],H ++ [.row 0 4 (Xf (qC r))]⟩;obtain⟨K,hK⟩:∃K,K=H ++ [ZAu 0 4 (Xf (qC r))]:=⟨_,rfl⟩
 rw[←hK]at hz ⊢;have oK:K[o]?=some (Zk lid n G):=hK▸eo _;rw[hn0]at hr6;have L0:CM Tryz.prog 88 (.ref o 0 0) 1=some (.ref o 0 1):=by simp[I3,DK,RT]
 have L1:Qy Tryz.prog false 85 (.ref o 0 1) K=some (.osl lid n 5 0 n):=by
  rw[BA,tJ,Kz,oK];unfold Zk;rw[KA,mA];simp[Qf,Xf]
 have L5:∀y:Operand,(∀t,y=.tmp t→True)→CK Tryz.prog .sub 3 (.int .i64 5) (I k)=some (I ((5-k:Nat):Int)):=fun y _=>by
  show CK _ _ _ (.int .i64 5) (.int .i64 (k:Int))=_;rw[S9,show(5:Int)-k=((5-k:Nat):Int)by omega,M'];exact y_ (fun x=>some (AV.int .i64 x)) (by omega)
 have L7:Qy Tryz.prog false 28 (.ref n0 0 0) K6=some (qA r):=by
  rw[BA,XT,Kz,hr6,KA,fF];simp[Qf,Xf,qA,qC,QL]
 have L8:Gc Tryz.prog 131 [(0,c),(1,qA r)]=some (.agg (c.loose :: qC r)):=by
  rw[Sc,NJ,Of];simp[je,SA,SB,Aj,HG,Qf,qA,qC,I8,hc1,hc2,N4,W9,Gl,N0,Xl]
 have L9:Ki Tryz.prog 85 1 [(0,.agg (c.loose :: qC r))]=some (.sl 1 5 (Xf (c.loose :: qC r)) true):=by
  rw[Og,jP,M3,NJ,M6];simp[Aj,HG,Qf,FW,qC,I8,hc3,hc4,N4,W9,Gl,N0,Xl]
 have L10:J5 Tryz.prog 85 (.osl lid n 5 0 n) (.sl 1 5 (Xf (c.loose :: qC r)) true) K6=some (.osl lid (n+1) 5 0 (n+1),K6.set lid (.row (n+1) ((n+1)*5) (XV (n*5) (Xw KX 5 KN Ls) 5 (Xf (c.loose :: qC r))))):=by
  rw[ig,jP];have h1:∀j,j<5→(Xf (c.loose :: qC r) j).one=true:=fun j hj=>by
   match j,hj with
   |0,_=>exact hc3
   |1,_=>rfl
   |2,_=>rfl
   |3,_=>rfl
   |4,_=>rfl
   |j+5,h=>omega
  simp only[WV,Yg,I1,hl6,AU,PF,Qf];rw[N_ (K_ rfl),I1,hl6];unfold AU;rw[PF];unfold Qf;rw[N_ ⟨rfl,rfl,rfl,N' _,by simpa using h1,by omega,by omega⟩]
 obtain⟨K7,hK7⟩:∃K7,K7=K6.set lid (.row (n+1) ((n+1)*5) (XV (n*5) (Xw KX 5 KN Ls) 5 (Xf (c.loose :: qC r)))):=⟨_,rfl⟩
 rw[←hK7]at L10 TDV;have o7:K7[o]?=some (Zk lid n G):=by rw[hK7,L_ (w_ hne)];exact ho6
 have L12:ZC Tryz.prog false 85 (.ref o 0 1) (.osl lid (n+1) 5 0 (n+1)) K7=some (K7.set o (Zk lid (n+1) G)):=by
  rw[Mc,o7];unfold Zk;have hu:DE (Xf [I 5,ZDT lid n 5 0 n,XX G]) 1 [ZDT lid (n+1) 5 0 (n+1)]=Xf [I 5,ZDT lid (n+1) 5 0 (n+1),XX G]:=funext fun j=>by
   rw[BW]
   match j with
   |0=>rfl
   |1=>rfl
   |2=>rfl
   |j+3=>rw[M_ (by simp)];rfl
  simp[Uq,Up,II,Qf,RT,Ot,YV,OM,hu]
 have hD:∀ops,EI false ops=0→EL false ops ⟨5,[],[qA r,a,.ref o 0 0,.ref n0 0 0,.any],[],K⟩=⟨5,[],[qA r,a,.ref o 0 0,.ref n0 0 0,.any],[],K⟩:=fun ops h=>by
  unfold EL;rw[h];simp[AS.clr]
 refine Bo (fun x=>x=o) ?_;show ∃s',TAa _ _ _ false _ _ _ _ _ (EL false _ _) s'∧_;rw[hD _ (by rfl)];refine⟨_,⟨Lt rfl,_,QH (v:=.ref o 0 1) (h':=K) rfl rfl rfl rfl (y_ (ZAF fun w=>(w,K)) L0),
  xL rfl rfl (fun o' va off e=>by cases e;rfl),_,QH (v:=.osl lid n 5 0 n) (h':=K) rfl rfl rfl rfl (y_ (ZAF fun w=>(w,K)) L1),
  Lt rfl,_,QH (v:=a) (h':=K) rfl rfl rfl rfl rfl,
  Lt rfl,_,QH (v:=a) (h':=K) rfl rfl rfl rfl rfl,
  Lt rfl,_,QH (v:=I k) (h':=K) rfl rfl rfl rfl (y_ (ZAF fun w=>(w,K)) hlen),
  Lt rfl,_,QH (v:=I ((5-k:Nat):Int)) (h':=K) rfl rfl rfl rfl (y_ (ZAF fun w=>(w,K)) (L5 (.tmp 9) fun _ _=>trivial)),
  gtA rfl rfl (fun b ver es off n e=>hT b ver es off n e),_,QH (v:=c) (h':=K6) rfl rfl rfl rfl hz,
  Lt rfl,_,QH (v:=qA r) (h':=K6) rfl rfl rfl rfl (y_ (ZAF fun w=>(w,K6)) L7),
  Lt rfl,_,QH (v:=.agg (c.loose :: qC r)) (h':=K6) rfl rfl rfl rfl (y_ (ZAF fun w=>(w,K6)) L8),
  Lt rfl,_,QH (v:=.sl 1 5 (Xf (c.loose :: qC r)) true) (h':=K6) rfl rfl rfl rfl (y_ (ZAF fun w=>(w,K6)) L9),
  Lt rfl,_,QH (v:=.osl lid (n+1) 5 0 (n+1)) (h':=K7) rfl rfl rfl rfl L10,
  Lt rfl,_,QH (v:=.ref o 0 1) (h':=K7) rfl rfl rfl rfl (y_ (ZAF fun w=>(w,K7)) L0),
  Lt rfl,_,QH (v:=XZ) (h':=K7.set o (Zk lid (n+1) G)) rfl rfl rfl rfl (y_ (ZAF fun h=>(XZ,h)) L12),rfl⟩,?_⟩
 refine d_ (s':=⟨5,[],[.any,.any,.any,.any,.any],[],Hf⟩) ?_ (ZAZ (b:=⟨5,[],[.any,.any,.any,.any,.any],[],K7.set o (Zk lid (n+1) G)⟩) (Xh rfl (Nz 5 _) trivial rfl) (TDV _ rfl));refine Xk ?_;simp(disch:=omega)only[↓Xc,wG,seval];exact aw rfl TA5
theorem Zp {α:Type}(e:α→List AV)(s:Nat)(d:α)(l:List α)(x:α)(hs:0<s:=by omega):XV (l.length*s) (Xw e s d l) s (Xf (e x))=Xw e s d (l ++ [x]):=by
 funext j;unfold XV Xw Xf;by_cases h1:j<l.length*s
 ·have:j/s<l.length:=by rw[Nat.div_lt_iff_lt_mul hs];exact h1
  have e1:(l ++ [x]).getD (j/s) d=l.getD (j/s) d:=by rw[K',K',T_ this]
  rw[N_ h1,e1]
 ·rw[M_ h1]
  by_cases h2:j<l.length*s+s
  ·rw[N_ h2]
   have hj:j/s=l.length:=by
    refine Nat.div_eq_of_lt_le (by omega) ?_;rw[ZAc];omega
   have hm:j%s=j-l.length*s:=by
    have:=Nat.div_add_mod j s;rw[hj,ZBH]at this;omega
   rw[hj,hm];simp
  ·rw[M_ h2]
   have hj:l.length+1≤j/s:=by
    rw[Nat.le_div_iff_mul_le hs,ZAc];omega
   have e1:(l ++ [x]).getD (j/s) d=d:=by rw[K',k_ (by simp;omega)];rfl
   have e2:l.getD (j/s) d=d:=by rw[K',k_ (by omega)];rfl
   rw[e1,e2]
theorem GA {α:Type}(l:List α)(d:α){i:Nat}(h:i<l.length):l.take (i+1)=l.take i ++ [l.getD i d]:=by
 rw[ZCa h,K',V' h];rfl
def JX (f:Nat→Rat)(k:Nat):List Rat:=(ZAO 5).map fun i=>if i<k then f i else 0
def Zj (H:List AO)(o lid n:Nat)(Ls:List Ln)(G:List Rat)(x:Ln):List AO:=(H.set lid (AU (Ls ++ [x]) (n+1))).set o (Zk lid (n+1) G)
theorem MX {h:List AO}{n:Nat}{c:AV}{l:List Rat}{r:Rat}{Ls:List Ln}(hn:Ls.length=n)(hw:Jj h c (XX l)) (j:Nat):Jj h (XV (n*5) (Xw KX 5 KN Ls) 5 (Xf (c :: qC r)) j) (Xw KX 5 KN (Ls ++ [⟨l,r⟩]) j):=by
 have h1:=Zp KX 5 KN Ls ⟨l,r⟩;rw[hn]at h1;rw[←h1];unfold XV
 split
 ·exact XD _ _
 split
 ·obtain⟨i,hi⟩:∃i,i=j-n*5:=⟨_,rfl⟩
  rw[←hi];cases i with
  |zero=>exact hw
  |succ i=>exact XD _ _
 ·exact XD _ _
theorem KP (H:List AO)(o lid n:Nat)(Ls:List Ln)(G:List Rat)(x:Ln):(Zj H o lid n Ls G x).length=H.length:=by unfold Zj;rw[X_,X_]
theorem Sw (q n:Nat)(Ls:List Ln):Q0 q (AU Ls n):=fun j _=>X4 (Xe (Z1 _) _)
theorem Sx {q lid:Nat}(n:Nat)(G:List Rat)(h:lid<q):Q0 q (Zk lid n G):=fun j _=>C7 q (by
 intro x hx;simp only[b_,V_,or_false]at hx;rcases hx with rfl |rfl |rfl
 ·exact X4 (X8 _)
 ·exact JJ h
 ·exact X4 (Xr _)) j
theorem Di {H:List AO}{o lid:Nat}(n:Nat)(Ls:List Ln)(G:List Rat)(x:Ln)(hH:KK H)(hl:lid<H.length):KK (Zj H o lid n Ls G x) :=
 fun p hp q hq=>by
  rw[KP]at hq;unfold Zj at hp;rcases ZAd hp with h |h
  ·rcases ZAd h with h |h
   ·exact hH p h q hq
   ·rw[h];exact Sw _ _ _
  ·rw[h];exact Sx _ _ (by omega)
theorem Xy {h:List AO}{a b:AV}(w:B' a b):Jj h a b:=fun c v _ _ r=>w c v r
theorem Nf (f:Nat→Rat)(k:Nat):XX (JX f k)=.sl 5 20 (Xm fun i=>(JX f k).getD i 0) false:=by rw[Xu];rfl
theorem FF (f:Nat→Rat)(k:Nat){i:Nat}(h:i<5:=by omega):(JX f k).getD i 0=if i<k then f i else 0:=QP _ h
theorem Uy {A B:List AO}{n:Nat}(h1:n≤A.length)(h2:B.length=n)(h:∀a,a<n→A[a]?=B[a]?):A.take n=B:=ZAp fun a=>by
 rw[ZAe]
 split
 ·exact h a (by assumption)
 ·rw[k_ (by omega)]
theorem YP (H:List AO)(o lid n k:Nat)(r:Rat)(f:Nat→Rat)(Ls:List Ln)(G:List Rat)(ho:H[o]?=some (Zk lid n G)) (hl:H[lid]?=some (AU Ls n)) (hne:o≠lid) (hn:Ls.length=n) (hn2:n<100000) (hk:k≤5) (hk0:0<k) (hH:KK H) :
  G' Tryz.prog 164 [qA r,.sl k (k*4) (Xm f) true,.ref o 0 0] H (.tup []) (Zj H o lid n Ls G ⟨JX f k,r⟩):=by
 have olt:=A7 ho;have llt:=A7 hl;obtain⟨n0,hn0⟩:∃n0,H.length=n0:=⟨_,rfl⟩
 have hlen:NS Tryz.prog 86 (.sl k (k*4) (Xm f) true)=some (I k):=by
  show Qf _ _=_;rw[G1];unfold Qf;exact N_ rfl
 obtain⟨k',rfl⟩:∃k',k=k'+1:=⟨k-1,by omega⟩
 by_cases h5:k'+1=5
 ·have hz:K8 Tryz.prog 86 3 (.sl (k'+1) ((k'+1)*4) (Xm f) true) (I ((5-(k'+1):Nat):Int)) (H ++ [ZAu 0 4 (Xf (qC r))])=some (.sl (k'+1) ((k'+1)*4) (Xm f) true,H ++ [.row 0 4 (Xf (qC r))]):=by
   show K8 _ _ _ _ (.int .i64 _) _=_;rw[Fo,G1,VT,Mf,En,Mh,N_ (by omega)]
  refine Ir H o lid n (k'+1) r _ _ _ Ls G _ (((H ++ [ZAu 0 4 (Xf (qC r))]).set lid (AU (Ls ++ [(⟨JX f (k'+1),r⟩:Ln)]) (n+1))).set o (Zk lid (n+1) G)) ho hn2 hk hlen hz (BL rfl _ _) (Q7 hl _) (Q7 ho _) hne (fun b ver es off n' e=>by cases e) rfl rfl rfl rfl (fun s hs=>?_) ?_ (Di n Ls G _ hH llt) (KP ..)
  ·have hl2:s.h[lid]?=some (.row (n+1) ((n+1)*5) (XV (n*5) (Xw KX 5 KN Ls) 5 (Xf (AV.sl (k'+1) ((k'+1)*4) (Xm f) false :: qC r)))):=by
    rw[hs,L_ hne,W_ (by rw[j_];omega)];rfl
   have h1:=Qe (m:=H.length) lid (Xw KX 5 KN (Ls ++ [(⟨JX f (k'+1),r⟩:Ln)])) hl2 (fun j _=>MX hn (by
    rw[Nf];refine Xy (QC h5 (by omega) fun j hj=>?_);rw[Kd (N:=5) (fun i hi=>by show f i=(JX f (k'+1)).getD i 0;rw[FF f _ hi,N_ (by omega)]) j (by omega)];exact U_ _) j)
   have e:s.h.set lid (.row (n+1) ((n+1)*5) (Xw KX 5 KN (Ls ++ [(⟨JX f (k'+1),r⟩:Ln)])))=((H ++ [ZAu 0 4 (Xf (qC r))]).set lid (AU (Ls ++ [(⟨JX f (k'+1),r⟩:Ln)]) (n+1))).set o (Zk lid (n+1) G):=by
    rw[hs,ZA2 _ _ hne,ZBm];rfl
   rw[e]at h1;exact h1
  ·rw[Z7 llt,Z7 (by rw[X_];exact olt)]
   exact CR (by rw[X_,X_]) _
 ·obtain⟨d,hd⟩:∃d,d=5-(k'+1):=⟨_,rfl⟩
  have hz:K8 Tryz.prog 86 3 (.sl (k'+1) ((k'+1)*4) (Xm f) true) (I ((5-(k'+1):Nat):Int)) (H ++ [ZAu 0 4 (Xf (qC r))])=some (.osl (n0+1) 0 4 0 5,H ++ [.row 0 4 (Xf (qC r)),.row 0 20 (XV ((k'+1)*4) (Xm f) (d*4) (KY TAE))]):=by
   show K8 _ _ _ _ (.int .i64 _) _=_;rw[Fo,G1,VT,Mf,En,Mh,M_ (by omega)];unfold Qf;rw[N_ ⟨by omega,N' _,by omega,by omega⟩,←hd];have e1:k'+1+((d:Nat):Int).toNat=5:=by omega
   rw[e1,j_,hn0,U',P_];rfl
  obtain⟨g,hg⟩:∃g:Nat→Rat,g=fun i=>(JX f (k'+1)).getD i 0:=⟨_,rfl⟩
  obtain⟨A,hA⟩:∃A:AO,A=.row (n+1) ((n+1)*5) (XV (n*5) (Xw KX 5 KN Ls) 5 (Xf (ZDT (n0+1) 0 4 0 5 :: qC r))):=⟨_,rfl⟩
  obtain⟨B,hB⟩:∃B:AO,B=.row 0 20 (XV ((k'+1)*4) (Xm f) (d*4) (KY TAE)):=⟨_,rfl⟩
  rw[←hB]at hz;have k1:∀ (l:List AO),(H ++ ZAu 0 4 (Xf (qC r)) :: B :: l)[n0+1]?=some B:=fun l=>FU hn0 _ _ _
  refine Ir H o lid n (k'+1) r _ _ _ Ls G _ (((((H ++ [ZAu 0 4 (Xf (qC r)),B]).set lid A).set o (Zk lid (n+1) G)).set (n0+1) (AO.con 0 20 (Xm g))).set lid (AU (Ls ++ [(⟨JX f (k'+1),r⟩:Ln)]) (n+1))) ho hn2 hk hlen hz (BL rfl _ _) (Q7 hl _) (Q7 ho _) hne (fun b ver es off n' e=>by cases e) rfl rfl rfl rfl (fun s hs=>?_) ?_ (Di n Ls G _ hH llt) (KP ..)
  ·replace hs:s.h=((H ++ [ZAu 0 4 (Xf (qC r)),B]).set lid A).set o (Zk lid (n+1) G):=by rw[hs,hA];rfl
   have h1:s.h[n0+1]?=some B:=by rw[hs,L_ (by omega),L_ (by omega)];exact k1 []
   have hl1:n0+1<s.h.length:=A7 h1;rw[hB]at h1;have s1:=Qe (m:=H.length) (n0+1) (Xm g) h1 (fun j hj=>by
    unfold XV;by_cases hj1:j<(k'+1)*4
    ·rw[N_ hj1,hg,Kd (N:=k'+1) (fun i hi=>by show f i=(JX f (k'+1)).getD i 0;rw[FF f _,N_ hi]) j hj1]
     exact XD _ _
    ·rw[M_ hj1,N_ (by omega)]
     refine Xy ?_;have e1:Xm g j=Xm (fun _=>0) (j-(k'+1)*4):=by
      unfold Xm;rw[hg];show(qC ((JX f (k'+1)).getD (j/4) 0)).getD (j%4) .any=(qC 0).getD ((j-(k'+1)*4)%4) .any;rw[FF f _,M_ (by omega),show(j-(k'+1)*4)%4=j%4 by omega]
     rw[e1];exact D4 0 _)
   have s2:=Xz (m:=H.length) (s:={ s with h:=s.h.set (n0+1) (.row 0 20 (Xm g)) }) (n0+1) (W_ hl1);simp only[ZBm]at s2;have h3:(s.h.set (n0+1) (.con 0 20 (Xm g)))[lid]?=some A:=by rw[L_ (by omega),hs,L_ hne,W_ (by rw[j_];omega)]
   rw[hA]at h3;have s3:=Qe (m:=H.length) (s:={ s with h:=s.h.set (n0+1) (.con 0 20 (Xm g)) }) lid (Xw KX 5 KN (Ls ++ [(⟨JX f (k'+1),r⟩:Ln)])) h3 (fun j _=>MX hn (by
    rw[Nf];exact JG (W_ hl1) (by omega) (by omega) fun j hj=>by rw[hg];exact XD _ _) j)
   rw[←hs];exact s1.trans (s2.trans s3)
  ·refine Uy (by simp[hn0]) (KP ..) fun a ha=>?_
   unfold Zj;by_cases e1:lid=a
   ·subst e1
    rw[W_ (by simp;omega),L_ hne,W_ llt]
   ·rw[L_ e1,L_ (by omega)]
    by_cases e2:o=a
    ·subst e2
     rw[W_ (by simp;omega),W_ (by rw[X_];exact olt)]
    ·rw[L_ e2,L_ e1,L_ e2,L_ e1,T_ ha]
theorem Me {P:Program}{h:List AO}(e s b id ver es off N:Nat)(n:Int){z:List AV}{v k:Nat}{f:Nat→AV}(hz:Qh P e=some z)(hr:h[id]?=some (.row v k f)):Vk (some (e,s,b)) (some .i64) P (.osl id ver es off N) (.int .i64 n) h =
  if n=0 then some (.osl id ver es off N,h)else Qf (0<n∧0<N∧v=ver∧es=s∧off=0∧N*s≤k∧z.all AV.one=true∧b*(N+n)≤140737488355328∧(N:Int)+n≤9223372036854775807) (some (.osl id (v+1) s 0 (N+n.toNat),h.set id (.row (v+1) ((N+n.toNat)*s) (XV (N*s) f (n.toNat*s) (KY z))))):=by
 show(match Qh P e with
  |some z=>match h[id]? with
   |some (.row v k f)=>if n=0 then some (ZDT id ver es off N,h)else Qf (0<n∧0<N∧v=ver∧es=s∧off=0∧N*s≤k∧z.all AV.one=true∧b*(N+n)≤140737488355328∧(N:Int)+n≤9223372036854775807) (some (ZDT id (v+1) s 0 (N+n.toNat),h.set id (.row (v+1) ((N+n.toNat)*s) (XV (N*s) f (n.toNat*s) (KY z)))))
   |_=>none
  |none=>none)=_
 rw[hz];simp only[hr]
theorem lV (H:List AO)(o lid n k b ver:Nat)(r:Rat)(f:Nat→Rat)(Ls:List Ln)(G:List Rat)(ho:H[o]?=some (Zk lid n G)) (hl:H[lid]?=some (AU Ls n)) (hb:H[b]?=some (.row ver (k*4) (Xm f))) (hne:o≠lid) (hbo:b≠o) (hbl:b≠lid) (hn:Ls.length=n) (hn2:n<100000) (hk:k≤5) (hk0:0<k) (hH:KK H) :
  G' Tryz.prog 164 [qA r,.osl b ver 4 0 k,.ref o 0 0] H (.tup []) ((Zj H o lid n Ls G ⟨JX f k,r⟩).set b .dead):=by
 have olt:=A7 ho;have llt:=A7 hl;have blt:=A7 hb;obtain⟨n0,hn0⟩:∃n0,H.length=n0:=⟨_,rfl⟩
 have hlen:NS Tryz.prog 86 (.osl b ver 4 0 k)=some (I k):=by
  show Qf _ _=_;rw[G1];unfold Qf;exact N_ rfl
 obtain⟨g,hg⟩:∃g:Nat→Rat,g=fun i=>(JX f k).getD i 0:=⟨_,rfl⟩
 obtain⟨v',F,K6,hz,hK6,hF⟩:∃ (v':Nat) (F:Nat→AV) (K6:List AO),K8 Tryz.prog 86 3 (.osl b ver 4 0 k) (I ((5-k:Nat):Int)) (H ++ [ZAu 0 4 (Xf (qC r))])=some (.osl b v' 4 0 5,K6) ∧
   K6=(H ++ [ZAu 0 4 (Xf (qC r))]).set b (.row v' 20 F)∧∀j,j<20→B' (F j) (Xm g j):=by
  by_cases h5:k=5
  ·subst h5
   refine⟨ver,Xm f,H ++ [ZAu 0 4 (Xf (qC r))],?_,?_,fun j hj=>?_⟩
   ·show K8 _ _ _ _ (.int .i64 _) _=_
    rw[Fo,G1,VT];rw[Me _ _ _ _ _ _ _ _ _ En (Q7 hb _)];rfl
   ·exact ZAp fun i=>by
     by_cases e:b=i
     ·subst e;rw[W_ (by rw[j_];omega),Q7 hb]
     ·rw[L_ e]
   ·rw[hg,Kd (N:=5) (fun i hi=>by show f i=(JX f 5).getD i 0;rw[FF f _ hi,N_ hi]) j (by omega)]
    exact U_ _
  ·obtain⟨d,hd⟩:∃d,d=5-k:=⟨_,rfl⟩
   refine⟨ver+1,XV (k*4) (Xm f) (d*4) (KY TAE),(H ++ [ZAu 0 4 (Xf (qC r))]).set b (.row (ver+1) 20 (XV (k*4) (Xm f) (d*4) (KY TAE))),?_,rfl,fun j hj=>?_⟩
   ·show K8 _ _ _ _ (.int .i64 _) _=_
    rw[Fo,G1,VT];rw[Me _ _ _ _ _ _ _ _ _ En (Q7 hb _),M_ (by omega)];unfold Qf;rw[N_ ⟨by omega,by omega,rfl,rfl,rfl,N' _,by rfl,by omega,by omega⟩,←hd];have e1:k+((d:Nat):Int).toNat=5:=by omega
    rw[e1,U'];rfl
   ·unfold XV
    by_cases hj1:j<k*4
    ·rw[N_ hj1,hg,Kd (N:=k) (fun i hi=>by show f i=(JX f k).getD i 0;rw[FF f _,N_ hi]) j hj1]
     exact U_ _
    ·rw[M_ hj1,N_ (by omega)]
     have e1:Xm g j=Xm (fun _=>0) (j-k*4):=by
      unfold Xm;rw[hg];show(qC ((JX f k).getD (j/4) 0)).getD (j%4) .any=(qC 0).getD ((j-k*4)%4) .any;rw[FF f _,M_ (by omega),show(j-k*4)%4=j%4 by omega]
     rw[e1];exact D4 0 _
 obtain⟨A,hA⟩:∃A:AO,A=.row (n+1) ((n+1)*5) (XV (n*5) (Xw KX 5 KN Ls) 5 (Xf (ZDT b v' 4 0 5 :: qC r))):=⟨_,rfl⟩
 have hk6:∀ {a:Nat} {x:AO},a≠b→H[a]?=some x→K6[a]?=some x:=fun ha hx=>by rw[hK6,L_ (w_ ha)];exact Q7 hx _
 have hl6:K6.length=n0+1:=by rw[hK6,X_,j_,hn0];rfl
 refine Ir H o lid n k r _ _ _ Ls G _ ((((K6.set lid A).set o (Zk lid (n+1) G)).set lid (AU (Ls ++ [(⟨JX f k,r⟩:Ln)]) (n+1))).set b AO.dead) ho hn2 hk hlen hz ?_ (hk6 (w_ hbl) hl) (hk6 (w_ hbo) ho) hne (fun b' ver es off n' e=>by cases e;exact hbo) rfl rfl rfl rfl (fun s hs=>?_) ?_ ?_ (by rw[X_];exact KP ..)
 ·rw[hK6,L_ (by omega)];exact BL rfl _ _
 ·replace hs:s.h=(K6.set lid A).set o (Zk lid (n+1) G):=by rw[hs,hA];rfl
  have h1:s.h[b]?=some (.row v' 20 F):=by rw[hs,L_ (w_ hbo),L_ (w_ hbl),hK6,W_ (by rw[j_];omega)]
  have hl1:b<s.h.length:=A7 h1;have s1:=Qe (m:=H.length) b (Xm g) h1 (fun j hj=>Xy (hF j hj));have s2:=Xz (m:=H.length) (s:={ s with h:=s.h.set b (.row v' 20 (Xm g)) }) b (W_ hl1);simp only[ZBm]at s2;have h3:(s.h.set b (.con v' 20 (Xm g)))[lid]?=some A:=by rw[L_ hbl,hs,L_ hne,W_ (by omega)]
  rw[hA]at h3;have s3:=Qe (m:=H.length) (s:={ s with h:=s.h.set b (.con v' 20 (Xm g)) }) lid (Xw KX 5 KN (Ls ++ [(⟨JX f k,r⟩:Ln)])) h3 (fun j _=>MX hn (by
   rw[Nf];exact JG (W_ hl1) (by omega) (by omega) fun j hj=>by rw[hg];exact XD _ _) j)
  have s4:=NB (m:=H.length) (s:={ s with h:=(s.h.set b (.con v' 20 (Xm g))).set lid (.row (n+1) ((n+1)*5) (Xw KX 5 KN (Ls ++ [(⟨JX f k,r⟩:Ln)]))) }) b (by
   show(ZDJ _ _ _)[b]?=_;rw[L_ (w_ hbl),W_ hl1])
  have e4:(((s.h.set b (.con v' 20 (Xm g))).set lid (.row (n+1) ((n+1)*5) (Xw KX 5 KN (Ls ++ [(⟨JX f k,r⟩:Ln)])))).set b AO.dead)=(s.h.set lid (AU (Ls ++ [(⟨JX f k,r⟩:Ln)]) (n+1))).set b AO.dead:=by
   rw[ZA2 _ _ (w_ hbl),ZBm,ZA2 _ _ hbl];rfl
  simp only[e4]at s4;rw[←hs];exact s1.trans (s2.trans (s3.trans s4))
 ·refine Uy (by simp;omega) (by rw[X_];exact KP ..) fun a ha=>?_
  by_cases e0:b=a
  ·subst e0
   rw[W_ (by simp;omega),W_ (by rw[KP];exact blt)]
  rw[L_ e0,L_ e0];unfold Zj;by_cases e1:lid=a
  ·subst e1
   rw[W_ (by simp;omega),L_ hne,W_ llt]
  ·rw[L_ e1]
   by_cases e2:o=a
   ·subst e2
    rw[W_ (by simp;omega),W_ (by rw[X_];exact olt)]
   ·rw[L_ e2,L_ e1,L_ e2,L_ e1,hK6,L_ e0,T_ ha]
 ·exact Dj (Di n Ls G _ hH llt) fun m _=>trivial
theorem lU (H l:List AO){o lid:Nat}(n:Nat)(Ls:List Ln)(G:List Rat)(x:Ln)(ho:o<H.length)(hl:lid<H.length):Zj (H ++ l) o lid n Ls G x=Zj H o lid n Ls G x ++ l:=by
 unfold Zj;rw[Z7 hl,Z7 (by rw[X_];exact ho)]
theorem wC {H:List AO}{o lid:Nat}(n:Nat)(Ls:List Ln)(G:List Rat)(x:Ln)(ho:o<H.length):(Zj H o lid n Ls G x)[o]?=some (Zk lid (n+1) G):=by
 unfold Zj;rw[W_ (by rw[X_];exact ho)]
theorem wB {H:List AO}{o lid:Nat}(n:Nat)(Ls:List Ln)(G:List Rat)(x:Ln)(hl:lid<H.length)(hne:o≠lid):(Zj H o lid n Ls G x)[lid]?=some (AU (Ls ++ [x]) (n+1)):=by
 unfold Zj;rw[L_ hne,W_ hl]
theorem r7 {H:List AO}{o lid a:Nat}(n:Nat)(Ls:List Ln)(G:List Rat)(x:Ln)(h1:a≠o)(h2:a≠lid):(Zj H o lid n Ls G x)[a]?=H[a]?:=by
 unfold Zj;rw[L_ (w_ h1),L_ (w_ h2)]
theorem Ct {H:List AO}{o lid n:Nat}{Ls:List Ln}{G:List Rat}(x:Ln)(ho:H[o]?=some (Zk lid n G)) (hl:H[lid]?=some (AU Ls n)) (hne:o≠lid):K5 H (Zj H o lid n Ls G x):=by
 have h1:=QY (ob:=AU (Ls ++ [x]) (n+1)) hl (by simp[AU]) (by simp[AU]);have h2:=QY (h:=H.set lid (AU (Ls ++ [x]) (n+1))) (ob:=Zk lid (n+1) G) (by rw[L_ (w_ hne)];exact ho) (by simp[Zk]) (by simp[Zk]);intro a w k f;exact(h1 a w k f).trans (h2 a w k f)
theorem Vq {H:List AO}{o lid:Nat}(n:Nat)(Ls:List Ln)(G:List Rat)(x:Ln)(h:J6 H):J6 (Zj H o lid n Ls G x):=ZT (ZT h (by simp[AU])) (by simp[Zk])
theorem mh (f:Nat→Rat)(k:Nat):JX (AQ f k) k=JX f k:=by
 unfold JX;refine ZAh fun i _=>?_
 by_cases h:i<k
 ·rw[N_ h,N_ h];exact N_ h
 ·rw[M_ h,M_ h]
theorem kg (H:List AO)(o lid mid n k:Nat)(f:Nat→Rat)(Ls:List Ln)(G:List Rat)(ho:H[o]?=some (Zk lid n G)) (hl:H[lid]?=some (AU Ls n)) (TBx:H[mid]?=some (.con 0 1 (Xf [.fn 164 [.ref o 0 0]]))) (hne:o≠lid) (hmo:mid≠o) (hml:mid≠lid)
  (hn:Ls.length=n) (hn2:n<90000) (hk:k≤5) (hk0:0<k) (hH:KK H) (hB:J6 H) :
  G' Tryz.prog 167 [.sl k (k*4) (Xm f) true,.ref mid 0 0,.ptr 4 (Xf (qC 0)) 0] H (.tup []) (Zj (Zj H o lid n Ls G ⟨JX f k,0⟩) o lid (n+1) (Ls ++ [⟨JX f k,0⟩]) G ⟨JX (fun i=>-f i) k,0⟩):=by
 have olt:=A7 ho;have llt:=A7 hl;have mlt:=A7 TBx;obtain⟨n0,hn0⟩:∃n0,H.length=n0:=⟨_,rfl⟩
 have c1:=YP H o lid n k 0 f Ls G ho hl hne hn (by omega) hk hk0 hH;have ce1:=Ct ⟨JX f k,0⟩ ho hl hne;obtain⟨H2,hH2⟩:∃H2,H2=Zj H o lid n Ls G ⟨JX f k,0⟩:=⟨_,rfl⟩
 obtain⟨L2,hL2⟩:∃L2,L2=Ls ++ [(⟨JX f k,0⟩:Ln)]:=⟨_,rfl⟩
 rw[←hH2,←hL2];rw[←hH2]at c1 ce1;have l2:H2.length=n0:=by rw[hH2,KP,hn0]
 have TEM:KK H2:=hH2▸Di n Ls G _ hH llt;have hB2:J6 H2:=hH2▸Vq n Ls G _ hB;have o2:H2[o]?=some (Zk lid (n+1) G):=hH2▸wC n Ls G _ olt;have l2':H2[lid]?=some (AU L2 (n+1)):=by rw[hH2,hL2];exact wB n Ls G _ llt hne
 have m2:H2[mid]?=some (.con 0 1 (Xf [.fn 164 [.ref o 0 0]])):=by rw[hH2,r7 n Ls G _ hmo hml];exact TBx
 obtain⟨nf,hnf⟩:∃nf:Nat→Rat,nf=fun i=>-f i:=⟨_,rfl⟩
 rw[←hnf];have e0:=BL l2;have e1:=FU l2;have el:=ZH l2;have es0:=CQ l2;have es1:=H9 l2;have em:=Q7 m2;have TE6:=TBx;have m2':=m2;have sz:A_ (.ptr 4 (Xf (qC 0)) 0):=XR fun j _=>Xe (l:=qC 0) (by simp[qC,Xd,X5]) j
 refine G'.TAp (fn:=Tryz.f167) Tryz.call167 Tryz.func167 rfl mixed 7 [11,12,13] [] [] (by kernel_rfl) (K_ rfl) (X4 (Z5)) (fun p hp=>Di (n+1) L2 G _ TEM (by omega) p hp _ (by rw[KP,l2,hn0];exact N' _)) (Xk ?_);simp(disch:=omega)only[O_,TE6,qC,↓Xc,wG,seval];refine XC rfl c1 ce1 (Qd hB) (X1 _) ?_;simp(disch:=omega)only[m2',↓Xc,wG,seval];have fb:Jl (n0+1) (.sl k (k*4) (Xm f) true)=True:=L' (X4 (Qw fun j _=>ZY _ j));have fz:Jl (n0+1) (.ptr 4 (Xf (qC 0)) 0)=True:=L' (X4 sz);have fm:Jl (n0+1) (.ref mid 0 0)=True:=L' (QX);have fk:∀i,Jl (n0+1) (.osl n0 i 4 0 i)=True:=fun i=>L' (JJ)
 have hO:∀v m g,∀p∈H2 ++ [ZAu v m (Xm g)],Q0 (n0+1) p:=fun v m g p hp=>by
  rcases n_.1 hp with h |h
  ·exact TEM p h _ (by omega)
  ·rw[Y_.1 h];exact Al _ _ _ _
 refine Xj (fun i:Nat=>⟨7,[11,12,13],[.sl k (k*4) (Xm f) true,.ref mid 0 0,.ptr 4 (Xf (qC 0)) 0,.any,.osl n0 i 4 0 i,.any,.any],[(11,.sl k (k*4) (Xm f) true),(12,I k),(13,I i)],H2 ++ [.row i (i*4) (Xm (AQ nf i))]⟩) (fun i=>i≤k) (fun i=>k-i) 0 (by omega)
  (ZAZ (JS 4 4 (Xm (AQ nf 0)) rfl) (Xh rfl (by simp only[ZAt];exact⟨.inr rfl,.inr rfl,.inr rfl,.inl rfl,.inr (by rw[←l2]),.inl rfl,.inl rfl,trivial⟩) (by simp[ZAt,Xx,XM,I]) (by simp[ZAt]))) ?_
 intro i hi next
 by_cases hi2:i<k
 ·have c2:=Zd (f i)
  have w1:=QD f i;have w2:=JC f i;have hap:=U2 (AQ nf i) i (nf i);rw[Fv]at hap;have fi:nf i = -f i:=by rw[hnf]
  rw[fi]at hap;have nx:=next (i+1)
  refine Xk ?_;simp(disch:=omega)only[em,e0,e1,el,es0,es1,w1,w2,qC,P_,↓Xc,wG,seval];refine X2 c2 rfl ?_;simp(disch:=omega)only[em,e0,e1,el,es0,es1,qC,P_,↓Xc,wG,seval];exact⟨fun j hj=>Wg (-f i) j hj,nx _ (by omega) (by omega) (XG (m:=n0+1) (by show H.length≤n0+1;omega) rfl (⟨.inr rfl,.inr rfl,.inr rfl,.inl rfl,.inr rfl,.inl rfl,.inl rfl,trivial⟩) (by simp[Xx,XM,I]) (by rw[An l2,←hap];rfl) (by simp[XP,fb,fz,fm,fk]) (by simp[XP,fb]) (hO _ _ _))⟩
 ·obtain rfl:i=k:=by omega
  clear next
  have c3:=lV (H2 ++ [ZAu i (i*4) (Xm (AQ nf i))]) o lid (n+1) i n0 i 0 (AQ nf i) L2 G (Q7 o2 _) (Q7 l2' _) (e0 _ _) hne (by omega) (by omega) (by rw[hL2,j_,hn];rfl) (by omega) hk hk0 (fun p hp q hq=>by
   rw[el]at hq;exact(by
    rcases n_.1 hp with h |h
    ·exact TEM p h _ (by omega)
    ·rw[Y_.1 h];exact Al _ _ _ _))
  rw[mh,lU _ _ _ _ _ _ (by omega) (by omega)]at c3;have ce3:K5 (H2 ++ [ZAu i (i*4) (Xm (AQ nf i))]) ((Zj H2 o lid (n+1) L2 G ⟨JX nf i,0⟩ ++ [ZAu i (i*4) (Xm (AQ nf i))]).set n0 .dead):=by
   have h1:=Gf (by rw[KP]) (Ct ⟨JX nf i,0⟩ o2 l2' hne) [ZAu i (i*4) (Xm (AQ nf i))];have h2:=QY (h:=Zj H2 o lid (n+1) L2 G ⟨JX nf i,0⟩ ++ [ZAu i (i*4) (Xm (AQ nf i))]) (ob:=.dead) (BL (n:=n0) (by rw[KP,l2]) _ _);intro a w k f;exact(h1 a w k f).trans (h2 a w k f)
  refine Xk ?_;simp(disch:=omega)only[em,qC,P_,↓Xc,wG,seval];refine XC rfl c3 ce3 (Qd (KO hB2 fun p hp=>by rw[Y_.1 hp];simp)) (X1 _) ?_;simp(disch:=omega)only[↓Xc,wG,seval];refine aw rfl ?_;show List.take H.length (ZDJ _ n0 _)=_;rw[CQ (by rw[KP,l2]),hn0];exact CR (by rw[KP,l2]) _
def bC (b:BB):List AV:=vC b.c ++ qC b.TAS ++ qC b.TAD ++ qC b.TAB
def gC (g:GG):List AV:=vC g.p ++ vC g.q ++ vC g.n ++ qC g.force ++ qC g.E_
theorem KI (b:BB):∀a∈bC b,A_ a:=by simp[bC,vC,qC,Xd,X5]
theorem Kh (g:GG):∀a∈gC g,A_ a:=by simp[gC,vC,qC,Xd,X5]
def bA (b:BB):AV:=.agg (bC b)
def gA (g:GG):AV:=.agg (gC g)
theorem QU (b:BB):A_ (bA b):=XE (KI b)
theorem QA (g:GG):A_ (gA g):=XE (Kh g)
theorem Jc (b:BB):bC b=[.bool (sg b.c.x),X9 (Xa b.c.x.num.natAbs),.bool false,X9 (Xa (qd b.c.x)),.bool (sg b.c.y),X9 (Xa b.c.y.num.natAbs),.bool false,X9 (Xa (qd b.c.y)),.bool (sg b.TAS),X9 (Xa b.TAS.num.natAbs),.bool false,X9 (Xa (qd b.TAS)),
 .bool (sg b.TAD),X9 (Xa b.TAD.num.natAbs),.bool false,X9 (Xa (qd b.TAD)),.bool (sg b.TAB),X9 (Xa b.TAB.num.natAbs),.bool false,X9 (Xa (qd b.TAB))]:=rfl
theorem Jd (g:GG):gC g=[.bool (sg g.p.x),X9 (Xa g.p.x.num.natAbs),.bool false,X9 (Xa (qd g.p.x)),.bool (sg g.p.y),X9 (Xa g.p.y.num.natAbs),.bool false,X9 (Xa (qd g.p.y)),
 .bool (sg g.q.x),X9 (Xa g.q.x.num.natAbs),.bool false,X9 (Xa (qd g.q.x)),.bool (sg g.q.y),X9 (Xa g.q.y.num.natAbs),.bool false,X9 (Xa (qd g.q.y)),
 .bool (sg g.n.x),X9 (Xa g.n.x.num.natAbs),.bool false,X9 (Xa (qd g.n.x)),.bool (sg g.n.y),X9 (Xa g.n.y.num.natAbs),.bool false,X9 (Xa (qd g.n.y)),
 .bool (sg g.force),X9 (Xa g.force.num.natAbs),.bool false,X9 (Xa (qd g.force)),.bool (sg g.E_),X9 (Xa g.E_.num.natAbs),.bool false,X9 (Xa (qd g.E_))]:=rfl
theorem gF (g:GG):Xf (gC g) 0=.bool (sg g.p.x)∧Xf (gC g) 1=X9 (Xa g.p.x.num.natAbs)∧Xf (gC g) 2=.bool false∧Xf (gC g) 3=X9 (Xa (qd g.p.x))∧Xf (gC g) 4=.bool (sg g.p.y)∧Xf (gC g) 5=X9 (Xa g.p.y.num.natAbs)∧Xf (gC g) 6=.bool false∧Xf (gC g) 7=X9 (Xa (qd g.p.y))∧Xf (gC g) 8=.bool (sg g.q.x)∧Xf (gC g) 9=X9 (Xa g.q.x.num.natAbs)∧Xf (gC g) 10=.bool false∧Xf (gC g) 11=X9 (Xa (qd g.q.x))∧Xf (gC g) 12=.bool (sg g.q.y)∧Xf (gC g) 13=X9 (Xa g.q.y.num.natAbs)∧Xf (gC g) 14=.bool false∧Xf (gC g) 15=X9 (Xa (qd g.q.y))∧Xf (gC g) 16=.bool (sg g.n.x)∧Xf (gC g) 17=X9 (Xa g.n.x.num.natAbs)∧Xf (gC g) 18=.bool false∧Xf (gC g) 19=X9 (Xa (qd g.n.x))∧Xf (gC g) 20=.bool (sg g.n.y)∧Xf (gC g) 21=X9 (Xa g.n.y.num.natAbs)∧Xf (gC g) 22=.bool false∧Xf (gC g) 23=X9 (Xa (qd g.n.y))∧Xf (gC g) 24=.bool (sg g.force)∧Xf (gC g) 25=X9 (Xa g.force.num.natAbs)∧Xf (gC g) 26=.bool false∧Xf (gC g) 27=X9 (Xa (qd g.force))∧Xf (gC g) 28=.bool (sg g.E_)∧Xf (gC g) 29=X9 (Xa g.E_.num.natAbs)∧Xf (gC g) 30=.bool false∧Xf (gC g) 31=X9 (Xa (qd g.E_)):=by
 refine⟨rfl,rfl,rfl,rfl,rfl,rfl,rfl,rfl,rfl,rfl,rfl,rfl,rfl,rfl,rfl,rfl,rfl,rfl,rfl,rfl,rfl,rfl,rfl,rfl,rfl,rfl,rfl,rfl,rfl,rfl,rfl,rfl⟩
theorem bF (b:BB):Xf (bC b) 0=.bool (sg b.c.x)∧Xf (bC b) 1=X9 (Xa b.c.x.num.natAbs)∧Xf (bC b) 2=.bool false∧Xf (bC b) 3=X9 (Xa (qd b.c.x))∧Xf (bC b) 4=.bool (sg b.c.y)∧Xf (bC b) 5=X9 (Xa b.c.y.num.natAbs)∧Xf (bC b) 6=.bool false∧Xf (bC b) 7=X9 (Xa (qd b.c.y))∧Xf (bC b) 8=.bool (sg b.TAS)∧Xf (bC b) 9=X9 (Xa b.TAS.num.natAbs)∧Xf (bC b) 10=.bool false∧Xf (bC b) 11=X9 (Xa (qd b.TAS))∧Xf (bC b) 12=.bool (sg b.TAD)∧Xf (bC b) 13=X9 (Xa b.TAD.num.natAbs)∧Xf (bC b) 14=.bool false∧Xf (bC b) 15=X9 (Xa (qd b.TAD))∧Xf (bC b) 16=.bool (sg b.TAB)∧Xf (bC b) 17=X9 (Xa b.TAB.num.natAbs)∧Xf (bC b) 18=.bool false∧Xf (bC b) 19=X9 (Xa (qd b.TAB)):=by
 refine⟨rfl,rfl,rfl,rfl,rfl,rfl,rfl,rfl,rfl,rfl,rfl,rfl,rfl,rfl,rfl,rfl,rfl,rfl,rfl,rfl⟩
def bP (b:BB):AV:=.ptr 20 (Xf (bC b)) 0
def gP (g:GG):AV:=.ptr 32 (Xf (gC g)) 0
def JN (x:Rat):AV:=.ptr 4 (Xf (qC x)) 0
theorem nU {n m:Nat}{f f':Nat→AV}(hf:∀j,j<m→f j=f' j):B' (.sl n m f true) (.sl n m f' true):=fun c v h=>by
 cases h with
 |sl b base _ _ cap _ _ us hS hc hr hn ht=>exact .sl b base n m cap f' true us hS hc (fun j hj=>by rw[←hf j hj];exact hr j hj) hn ht
 |slz a cap _ _ ht=>exact .slz _ _ _ _ ht
theorem Ii (l:List Rat):∀j,j<l.length*4→Xf (l.flatMap qC) j=Xm (fun i=>l.getD i 0) j:=by
 induction l with
 |nil=>intro j hj;simp at hj
 |cons x l ih =>
  intro j hj;show(qC x ++ l.flatMap qC).getD j .any=_;by_cases h:j<4
  ·rw[K',T_ (by exact h),←K']
   unfold Xm;rw[show j/4=0 by omega,show j%4=j by omega];rfl
  ·have h4:(qC x).length=4:=rfl
   rw[K',g_ (by omega),h4,←K'];have:=ih (j-4) (by simp at hj;omega);rw[show(l.flatMap qC).getD (j-4) .any=Xf (l.flatMap qC) (j-4)from rfl,this];unfold Xm;rw[show j/4=(j-4)/4+1 by omega,show j%4=(j-4)%4 by omega];rfl
theorem JU (l:List Rat)(n m:Nat)(L:List AV)(hL:L=l.flatMap qC)(hn:n=l.length)(hm:m=l.length*4):B' (.sl n m (Xf L) true) (.sl n (n*4) (Xm fun i=>l.getD i 0) true):=by
 subst hn hm hL;exact nU fun j hj=>Ii l j hj
def As (b:BB)(g:GG)(n:Nat)(Ls:List Ln):List AO:=[.con 0 20 (Xf (bC b)),.con 0 32 (Xf (gC g)),.row 0 3 (Xf [I 0,.sl 0 0 (fun _=>.any) true,.sl 0 0 (fun _=>.any) true]),.con 0 4 (Xf (qC 0)),.con 0 4 (Xf (qC 1)),Zk 7 n TAO,.con 0 1 (Xf [.fn 164 [.ref 5 0 0]]),AU Ls n,.row 0 4 (Xf (qC (-g.E_))),.row 0 4 (Xf (qC (Qj g.n))),.row 0 4 (Xf (qC (-1)))]
theorem GK (b:BB)(g:GG)(n:Nat)(Ls:List Ln):KK (As b g n Ls):=fun o ho q hq=>by
 have hq:11≤q:=hq;simp only[As,b_,V_,or_false]at ho;rcases ho with rfl |rfl |rfl |rfl |rfl |rfl |rfl |rfl |rfl |rfl |rfl
 ·exact fun j _=>X4 (Xe (KI b) j)
 ·exact fun j _=>X4 (Xe (Kh g) j)
 ·exact QZ (by simp[X8,JQ])
 ·exact fun j _=>X4 (Xe (XU 0) j)
 ·exact fun j _=>X4 (Xe (XU 1) j)
 ·exact Sx _ _ (by omega)
 ·exact fun j _=>C7 q (by
   intro x hx;rw[Y_.1 hx];exact ja (by intro x hx;rw[Y_.1 hx];exact QX)) j
 ·exact Sw _ _ _
 ·exact DR _ _ _
 ·exact DR _ _ _
 ·exact DR _ _ _
theorem Ft (b:BB)(g:GG)(n:Nat)(Ls:List Ln):J6 (As b g n Ls):=fun o ho=>by
 simp only[As,b_,V_,or_false]at ho;rcases ho with rfl |rfl |rfl |rfl |rfl |rfl |rfl |rfl |rfl |rfl |rfl <;> simp[Zk,AU]
theorem tP (b:BB)(g:GG)(n k:Nat)(Ls:List Ln)(r:Rat)(f:Nat→Rat)(hn:Ls.length=n)(hn2:n<1000)(hk:k≤5)(hk0:0<k)(l:List AO)(hl:∀o∈l,∀q,Q0 q o) :
  G' Tryz.prog 164 [qA r,.sl k (k*4) (Xm f) true,.ref 5 0 0] (As b g n Ls ++ l) (.tup []) (As b g (n+1) (Ls ++ [⟨JX f k,r⟩]) ++ l)∧K5 (As b g n Ls ++ l) (As b g (n+1) (Ls ++ [⟨JX f k,r⟩]) ++ l):=by
 have h1:(As b g n Ls ++ l)[5]?=some (Zk 7 n TAO):=rfl;have h2:(As b g n Ls ++ l)[7]?=some (AU Ls n):=rfl;have h:=YP (As b g n Ls ++ l) 5 7 n k r f Ls TAO h1 h2 (by omega) hn (by omega) hk hk0 (fun o ho q hq=>by
  rw[j_]at hq;rcases n_.1 ho with h |h
  ·exact GK b g n Ls o h q (by omega)
  ·exact hl o h q)
 exact⟨h,Ct _ h1 h2 (by omega)⟩
theorem vV (b:BB)(g:GG)(n k:Nat)(Ls:List Ln)(f:Nat→Rat)(hn:Ls.length=n)(hn2:n<1000)(hk:k≤5)(hk0:0<k)(l:List AO)(hl:∀o∈l,(∀q,Q0 q o)∧o≠.D_) :
  G' Tryz.prog 167 [.sl k (k*4) (Xm f) true,.ref 6 0 0,JN 0] (As b g n Ls ++ l) (.tup []) (As b g (n+2) (Ls ++ [⟨JX f k,0⟩] ++ [⟨JX (fun i=>-f i) k,0⟩]) ++ l)∧K5 (As b g n Ls ++ l) (As b g (n+2) (Ls ++ [⟨JX f k,0⟩] ++ [⟨JX (fun i=>-f i) k,0⟩]) ++ l):=by
 have h1:(As b g n Ls ++ l)[5]?=some (Zk 7 n TAO):=rfl;have h2:(As b g n Ls ++ l)[7]?=some (AU Ls n):=rfl;have h:=kg (As b g n Ls ++ l) 5 7 6 n k f Ls TAO h1 h2 rfl (by omega) (by omega) (by omega) hn (by omega) hk hk0 (fun o ho q hq=>by
  rw[j_]at hq;rcases n_.1 ho with h |h
  ·exact GK b g n Ls o h q (by omega)
  ·exact(hl o h).1 q) (KO (Ft b g n Ls) fun o ho=>(hl o ho).2)
 refine⟨h,fun a w k' f'=>?_⟩;have g1:=Ct (x:=⟨JX f k,0⟩) h1 h2 (by omega) a w k' f';have g2:=Ct (H:=Zj (As b g n Ls ++ l) 5 7 n Ls TAO ⟨JX f k,0⟩) (x:=⟨JX (fun i=>-f i) k,0⟩) (o:=5) (lid:=7) (n:=n+1) (Ls:=Ls ++ [⟨JX f k,0⟩]) (G:=TAO) rfl rfl (by omega) a w k' f';exact g1.trans g2
end
end Go.Ab.N
