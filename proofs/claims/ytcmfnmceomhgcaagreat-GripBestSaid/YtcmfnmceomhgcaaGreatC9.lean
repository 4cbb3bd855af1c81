/- Contracts of functions, for every argument that fits. -/
import Derived.Test.YtcmfnmceomhgcaaGreatC8
set_option linter.unusedSimpArgs false
set_option linter.unusedVariables false
open Nat renaming reducePow → Y1, reduceLT → Y2, reduceLeDiff → Y3, reduceEqDiff → Y4, reduceAdd → Y5, reduceMul → Y6, reduceSub → Y7, reduceBEq → Y8, reduceDiv → Y9, reduceMod → YA
open Go.Ab.AO renaming row→ZAk
open Go.Ab.AS renaming start→P',put→ZAm
open Go.Ab.AV renaming osl→ZDN
open List renaming range→ZAD,set→ZAl,set_comm→ZAw
open Nat renaming add_mul→ZAU
open Option renaming map→zV
namespace Go.Ab.N
open Go Go.RowKit Go.Proofs
noncomputable section
set_option maxRecDepth 10000
set_option maxHeartbeats 4000000
open Classical
def aU (k:Int)(x y:List Rat)(val:Rat):List AV:=[I k,Q0 x,Q0 y] ++ qC val
def PH (k:Int)(x y:List Rat)(val:Rat):AV:=.agg (aU k x y val)
theorem Ru (k:Int)(x y:List Rat)(val:Rat):∀a∈aU k x y val,A_ a:=by simp[aU,qC,X9,Xn,Xc,X5]
theorem E3 (k:Int)(x y:List Rat)(val:Rat):A_ (PH k x y val):=QD (Ru k x y val)
theorem Rj {m n e:Nat}{T:Tb}(h:T.Ok m n e){E:Nat}(hE:∀i,i<m→qb (T.t i n)≤E) (h0:qb 0≤E) (k:Nat):qb (Jg m n T k)≤E:=by
 by_cases hex:∃i,i<m∧T.b i=k
 ·obtain⟨i,hi,rfl⟩:=hex
  rw[(Lu h hi).1];exact hE i hi
 ·rw[show Jg m n T k=0 from Ks fun i hi=>M_ fun g=>hex ⟨i,hi,g⟩];exact h0
def KU (v m:Nat)(k:Nat):Rat:=if 2*v+m≤k∧k<2*v+2*m then 1 else 0
def l8 (n0 m:Nat):Lay:=⟨n0+1,0,n0+2,m,n0+3,m,0,0,fun j=>n0+4+4*j+1,fun _=>0⟩
theorem lg (L:List Ln)(T:Tb)(N n0:Nat){j:Nat}:∀ {i:Nat},j<i→(qI L T N n0 i)[4*j+1]?=some (.row 0 ((N+1)*4) (Xl (Av N (T.t j))))
 |i+1,h=>by
  unfold qI;by_cases e:j=i
  ·subst e
   rw[d_ (by rw[H5];omega),H5,show 4*j+1-4*j=1 by omega];rfl
  ·rw[S_ (by rw[H5];omega)]
   exact lg L T N n0 (by omega)
theorem dK (H:List AO)(v:Nat)(L:List Ln)(G:List Rat)(T:Tb)(N n0:Nat)(hn:H.length=n0)(hb:∀ i,i<L.length→T.b i=2*v+i)(hH:KH H)(hB:QY H) :
  Laid ((RD H v L G T N).set (n0+3) (DD (l8 n0 L.length) L.length T.b)) (l8 n0 L.length) v L.length N T (.sl 0 0 (fun _=>.any) true):=by
 have len:(IG H v L G T N L.length).length=n0+4+4*L.length:=by rw[H6,hn]
 have TF0:(RD H v L G T N).length=n0+4+4*L.length:=by unfold RD;rw[V_,len]
 have ne:∀a,a≠n0→(RD H v L G T N)[a]?=(IG H v L G T N L.length)[a]?:=fun a ha=>by unfold RD;rw[L_ (by omega)]
 refine⟨?_,?_,U' (by rw[TF0];omega),fun i hi=>?_,?_,?_,?_,?_,?_,?_,?_,?_,?_⟩
 ·show _[n0+1]?=_
  rw[L_ (by omega),ne _ (by omega)];unfold IG;rw[hn];exact FM hn _ _ _
 ·show _[n0+2]?=_
  rw[L_ (by omega),ne _ (by omega)];unfold IG;rw[hn];exact dc hn _ _ _ _
 ·show _[n0+4+4*i+1]?=_
  rw[L_ (by omega),ne _ (by omega)];unfold IG;rw[hn,d_ (by omega),hn,show n0+4+4*i+1-n0=(4*i+1)+4 by omega];exact lg L T N n0 hi
 ·show n0+1≠n0+2;omega
 ·show n0+1≠n0+3;omega
 ·intro i _;show n0+1≠n0+4+4*i+1;omega
 ·show n0+2≠n0+3;omega
 ·intro i _;show n0+2≠n0+4+4*i+1;omega
 ·intro i _;show n0+3≠n0+4+4*i+1;omega
 ·intro i j _ _ h
  have h:n0+4+4*i+1=n0+4+4*j+1:=h;omega
 ·exact Dd (Dd (Sg v L G T N _ hH) fun k _=>trivial) fun k _=>fun j _=>X4 (X9 _)
 ·exact ZK (ZK (Oo v L G T N _ hB) (by simp)) (by simp[DD])
theorem Yp (L:List Ln)(T:Tb)(N n0:Nat):∀i,∀o∈qI L T N n0 i,∀ver n f,o≠.con ver n f
 |0,o,ho=>absurd ho (V')
 |i+1,o,ho=>by
  rcases m_.1 ho with h |h
  ·exact Yp L T N n0 i o h
  ·simp only[yr,b_,V',or_false]at h
   rcases h with rfl |rfl |rfl |rfl <;> simp[Q5]
theorem cH (H:List AO)(v:Nat)(L:List Ln)(G:List Rat)(T:Tb)(N:Nat):K1 H (RD H v L G T N):=by
 intro a ver n f;unfold RD;by_cases ha:a<H.length
 ·rw[L_ (by omega)]
  unfold IG;rw[S_ ha]
 ·rw[j_ (by omega)]
  constructor
  ·intro h;cases h
  ·intro h
   exfalso;by_cases e:H.length=a
   ·subst e
    rw[U' (by rw[H6];omega)]at h;cases h
   ·rw[L_ e]at h
    unfold IG at h;rw[d_ (by omega)]at h;obtain⟨k,hk⟩:∃k,a-H.length=k+1:=⟨a-H.length-1,by omega⟩
    rw[hk,List.getElem?_cons_succ]at h;have:=ZAC h;simp only[b_]at this;rcases this with h |h |h |h
    ·simp[vY]at h
    ·simp[vX]at h
    ·simp[nX]at h
    ·exact Yp _ _ _ _ _ _ h _ _ _ rfl
theorem TAw.congr {v m:Nat}{A:Nat→Nat→Rat}{B G x y x' y':Nat→Rat}{val:Rat}(h:TAw v m A B G x y val)(hx:∀ k,k<v→x k=x' k)(hy:∀i,i<m→y i=y' i):TAw v m A B G x' y' val:=by
 have e1:∀f:Nat→Rat,XN (fun k=>f k*x' k) v=XN (fun k=>f k*x k) v:=fun f=>XQ fun k hk=>by rw[hx k hk]
 have e2:∀f:Nat→Rat,XN (fun i=>f i*y' i) m=XN (fun i=>f i*y i) m:=fun f=>XQ fun i hi=>by rw[hy i hi]
 exact⟨fun i hi=>by rw[e1];exact h.TC5 i hi,fun i hi=>by rw[←hy i hi];exact h.TEy i hi,fun k hk=>by rw[e2 fun i=>A i k];exact h.TEz k hk,by rw[e1];exact h.TCg,by rw[e2];exact h.TE0⟩
theorem Yu {m n e p κ:Nat}{T:Tb}(h:T.Ok m n e){E:Nat}(hE:∀i,i<m→qb (T.t i p)≤E) (h0:qb 0≤E):qb (XN (fun i=>if T.b i=κ then T.t i p else 0) m)≤E:=by
 by_cases hex:∃i,i<m∧T.b i=κ
 ·obtain⟨i,hi,rfl⟩:=hex
  rw[An hi fun i' hi' hn=>M_ ((Lu h hi).2 i' hi' hn),N_ rfl];exact hE i hi
 ·rw[Ks fun i hi=>M_ fun g=>hex ⟨i,hi,g⟩];exact h0
theorem jf {v m c E κ:Nat}{A:Nat→Nat→Rat}{B G:Nat→Rat}{T:Tb}(hs:(JV v m A B G).Sim m (2*v+2*m) T) (hT:T.Ok m (2*v+2*m) (2*v+m)) (hG:∀k,qb (G k)≤c) (hκ:∀k,k≠κ→G k=0) (hE:∀i p,i<m→p≤2*v+2*m→qb (T.t i p)≤E) (h0:qb 0≤E) {p:Nat} (hp:p≤2*v+2*m) :
  qb (T.c p)≤2*E+3*c+6:=by
 have h1:∀j,(JV v m A B G).c j=if j<v then -G j else if j<2*v then G (j-v)else 0:=fun j=>rfl
 have hc:qb ((JV v m A B G).c p)≤c+1:=by
  rw[h1];have:=Bz
  split
  ·rw[Cs];have:=hG p;omega
  ·split
   ·have:=hG (p-v);omega
   ·omega
 rw[←GK hs hT (by omega) hp];have e:XN (fun i=>(JV v m A B G).c (T.b i)*T.t i p) m=(if κ<v then -G κ else 0)*XN (fun i=>if T.b i=κ then T.t i p else 0) m+(if κ<v then G κ else 0)*XN (fun i=>if T.b i=v+κ then T.t i p else 0) m:=by
  rw[←J8,←J8,←HF];refine XQ fun i hi=>?_
  rw[h1];by_cases e1:T.b i<v
  ·rw[N_ e1,M_ (show ¬T.b i=v+κ by omega)]
   by_cases e2:T.b i=κ
   ·rw[N_ e2,e2,N_ (by omega)];grind
   ·rw[M_ e2,hκ _ e2];grind
  ·rw[M_ e1]
   by_cases e2:T.b i<2*v
   ·rw[N_ e2]
    by_cases e3:T.b i=v+κ
    ·rw[N_ e3,e3,show v+κ-v=κ by omega,N_ (show κ<v by omega),N_ (show κ<v by omega),M_ (show ¬v+κ=κ by omega)];grind
    ·rw[M_ e3,hκ (T.b i-v) (by omega)]
     by_cases e4:T.b i=κ
     ·rw[M_ (show ¬κ<v by omega)];grind
     ·rw[M_ e4];grind
   ·rw[M_ e2]
    by_cases e3:T.b i=v+κ
    ·rw[M_ (show ¬κ<v by omega),M_ (show ¬κ<v by omega)];grind
    ·rw[M_ e3]
     by_cases e4:T.b i=κ
     ·rw[M_ (show ¬κ<v by omega)];grind
     ·rw[M_ e4];grind
 rw[e];have g1:qb (if κ<v then -G κ else 0)≤c+1:=by
  have:=Bz
  split
  ·rw[Cs];have:=hG κ;omega
  ·omega
 have g2:qb (if κ<v then G κ else 0)≤c+1:=by
  have:=Bz
  split
  ·have:=hG κ;omega
  ·omega
 have n1:=Yu (κ:=κ) hT (p:=p) (fun i hi=>hE i p hi hp) h0;have n2:=Yu (κ:=v+κ) hT (p:=p) (fun i hi=>hE i p hi hp) h0;generalize XN (fun i=>if T.b i=κ then T.t i p else 0) m=s1 at *;generalize XN (fun i=>if T.b i=v+κ then T.t i p else 0) m=s2 at *;generalize (if κ<v then -G κ else 0)=a1 at *;generalize (if κ<v then G κ else 0)=a2 at *;have m1:=Qo a1 s1;have m2:=Qo a2 s2;have m3:=A8 (a1*s1) (a2*s2);have m4:=BS ((JV v m A B G).c p) (a1*s1+a2*s2);omega
theorem mI (v:Nat)(L:List Ln)(G:List Rat)(c E:Nat)(hv:v≤48)(hm:L.length≤128)(hG:G.length=v)(ha:∀ x∈L,x.a.length=v)(hB:∀ i,i<L.length→0≤lB L i)(i0:Nat)(hi0:i0<L.length)(hA:∀k,k<v→lA L i0 k=lG G k)
  (hcA:∀i k,qb (lA L i k)≤c) (hcB:∀i,qb (lB L i)≤c) (hcG:∀k,qb (lG G k)≤c) (hc0:qb 0≤c) (hc1:qb 1≤c) (hE:L.length*((v+2)*c+5)+1≤E) (hcE:c≤E) (hQ:c+1+(L.length*(c+1+E+1)+1)+1≤15000000) (hE2:3*E+c+10≤2083000) (hc:c≤10000) (κ:Nat) (hκ:∀k,k≠κ→lG G k=0) :
  ∃x y val,Fn Tryz.prog 51 [P6 v L G] (.tup [PH 0 x y val,I 0])∧x.length=v∧y.length=L.length∧(∀i,qb (x.getD i 0)≤2*E+1)∧(∀i,qb (y.getD i 0)≤2*E+3*c+6)∧TAw v L.length (lA L) (lB L) (lG G) (fun k=>x.getD k 0) (fun i=>y.getD i 0) val:=by
 obtain⟨m,hm0⟩:∃m,m=L.length:=⟨_,rfl⟩
 obtain⟨N,hN⟩:∃N,N=2*v+2*m:=⟨_,rfl⟩
 obtain⟨K,S,hS0,hok,hst,TAn,TCC⟩:=Nr (v:=v) (m:=L.length) (A:=lA L) (B:=lB L) (G:=lG G) hB hi0 hA;rw[←hm0,←hN]at hok hst TCC;rw[←hm0]at TAn;obtain⟨T,hT⟩:∃T,T=S K:=⟨_,rfl⟩
 rw[←hT]at TCC;have bE:∀i p,i<m→p≤N→qb (T.t i p)≤E:=fun i p hi hp=>by
  obtain⟨g1,g2⟩:=hok K (N' _);rw[hm0]at g1 g2 hi;rw[hN,hm0]at g1 g2 hp;rw[hT];exact k_ (Mr g2 g1 (by omega) hcA hcB hi hp) hE
 have bC:∀p,p≤N→qb (T.c p)≤15000000:=fun p hp=>by
  obtain⟨g1,g2⟩:=hok K (N' _);have h3:=bE;rw[hT]at h3;rw[hm0]at g1 g2;rw[hN,hm0]at g1 g2 hp h3;rw[hT];exact k_ (PX g2 g1 hcG h3 hp) hQ
 have bC2:∀p,p≤N→qb (T.c p)≤2*E+3*c+6:=fun p hp=>by
  obtain⟨g1,g2⟩:=hok K (N' _);have h3:=bE;rw[hT]at h3;rw[hm0]at g1 g2;rw[hN,hm0]at g1 g2 hp h3;rw[hT];exact jf g2 g1 hcG hκ h3 (by omega) hp
 have bN:∀k,qb (Jg m N T k)≤E:=Rj (by rw[hT];exact(hok K (N' _)).1) (fun i hi=>bE i N hi (N' _)) (by omega);refine⟨JT v m N T,(ZAD m).map fun i=>T.c (2*v+i),T.c N,?_,by simp[JT],by simp[hm0],fun i=>?_,fun i=>?_,?_⟩
 rotate_left
 ·by_cases hi:i<v
  ·unfold JT
   rw[QP _ hi];have h1:=bN i;have h2:=bN (v+i);have h3:=BS (Jg m N T i) (Jg m N T (v+i));show qb (Jg m N T i-Jg m N T (v+i))≤_;omega
  ·rw[K',j_ (by simp[JT];omega)]
   show qb 0≤_;omega
 ·by_cases hi:i<m
  ·rw[QP (fun i=>T.c (2*v+i)) hi]
   exact bC2 _ (by omega)
  ·rw[K',j_ (by simp;omega)]
   show qb 0≤_;omega
 ·rw[←hm0]
  exact TCC.congr (fun k hk=>(QP (fun k=>Jg m N T k-Jg m N T (v+k)) hk).symm) (fun i hi=>(QP (fun i=>T.c (2*v+i)) hi).symm)
 obtain⟨X,hX⟩:∃X,X=JT v m N T:=⟨_,rfl⟩
 obtain⟨Yl,hYl⟩:∃Yl,Yl=(ZAD m).map fun i=>T.c (2*v+i):=⟨_,rfl⟩
 rw[←hX,←hYl];have hXl:X.length=v:=by rw[hX];simp[JT]
 obtain⟨R,hR⟩:∃R,R=AV.tup [PH 0 X Yl (T.c N),I 0]:=⟨_,rfl⟩
 have sR:A_ R:=hR▸Z0 (KS (E3 _ _ _ _) (X9 0));rw[←hR];have c1:=fM v L G hv hm hG ha;refine Fq Tryz.call51 Tryz.func51 10 [] [] [7] (by simp[BM]) (XF 9 ?_);simp(disch:=omega)only[P',P6,XE,Xt,↓Xd,wG,seval];have hp0:Xf [AV.int .i64 v,.sl L.length (L.length*5) (Xv KR 5 KK L) false,.sl G.length (G.length*4) (Xl fun i=>G.getD i 0) false]=Xf (Zt v L G):=by unfold Zt;rw[XE,Xt];rfl
 rw[hp0];refine e_ ?_ (XB 0 rfl);refine e_ ?_ (XH 1 rfl rfl (by omega));refine XF 54 ?_;simp(disch:=omega)only[ZAm,Zt,XE,Xt,↓Xd,wG,seval];refine X0 c1 (X1 _) ?_;simp(disch:=omega)only[Zt,XE,Xt,↓Xd,wG,seval];obtain⟨T0,hT0⟩:∃T0:Tb,T0=JV v L.length (lA L) (lB L) (lG G):=⟨_,rfl⟩
 obtain⟨H0,hH0⟩:∃H0:List AO,H0=[.con 0 3 (Xf (Zt v L G)),.row 0 7 (Xf ([.int .i64 0,.sl 0 0 (fun _=>.any) true,.sl 0 0 (fun _=>.any) true] ++ TAD))]:=⟨_,rfl⟩
 have l0:H0.length=2:=by rw[hH0];rfl
 have hB0:KH H0:=fun o ho q _=>by
  rw[hH0]at ho;simp only[b_,V',or_false]at ho;rcases ho with rfl |rfl
  ·exact fun j _=>X4 (Xe (l:=Zt v L G) (by simp[Zt,X9,QS,Xn]) j)
  ·exact QN (by simp[TAD,X5,J7,Jn])
 have hU0:QY H0:=fun o ho=>by
  rw[hH0]at ho;simp only[b_,V',or_false]at ho;rcases ho with rfl |rfl <;> simp
 have c2:=qG H0 v L G T0 N (by rw[hN,hm0]) (by omega) (by omega) (fun i hi=>ha _ (Q9 KK hi)) hB (fun i hi k hk=>by rw[hT0]) (fun i k _ _=>by have:=hcA i k;omega) hB0 hU0;rw[l0]at c2;have hce:=cH H0 v L G T0 N;have hLd:=dK H0 v L G T0 N 2 l0 (fun i _=>by rw[hT0];rfl) hB0 hU0;have M5:(RD H0 v L G T0 N)[5]?=some (nX v L.length):=by
  unfold RD;rw[l0,L_ (by omega)];unfold IG;rw[l0];exact de l0 _ _ _ _ _
 have Ml:(RD H0 v L G T0 N).length=6+4*m:=by unfold RD;rw[V_,H6,l0,hm0]
 have M0:(RD H0 v L G T0 N)[0]?=H0[0]?:=by
  unfold RD;rw[l0,L_ (by omega)];unfold IG;rw[S_ (by omega)]
 have M1:(RD H0 v L G T0 N)[1]?=H0[1]?:=by
  unfold RD;rw[l0,L_ (by omega)];unfold IG;rw[S_ (by omega)]
 obtain⟨M,hM⟩:∃M,M=RD H0 v L G T0 N:=⟨_,rfl⟩
 rw[←hM]at c2 hce hLd M5 Ml M0 M1;subst hH0;have eM0:=BG Ml;have eM1:=FM Ml;have eML:=Zz Ml;have TF1:=CK Ml;have TE6:=GX Ml;have m3:=hLd.x;rw[L_ (by show 5≠3;omega)]at m3;have m3:=Qa (show M[3]?=some (.row 0 6 (Xf [I v,I L.length,I N,.osl 4 L.length 1 0 L.length,.sl 0 0 (fun _=>.any) true,.osl 5 L.length 1 0 L.length]))from m3);have h2v:2*(v:Int)+L.length=((2*v+L.length:Nat):Int):=by omega
 refine Xz rfl c2 hce (Qg hU0) (X1 _) ?_;simp(disch:=omega)only[h2v,eM0,eM1,eML,TF1,TE6,m3,Ml,Zt,XE,Xt,P_,↓Xd,wG,seval];obtain⟨last,TDm⟩:∃last,last=2*v+L.length:=⟨_,rfl⟩
 rw[←TDm];obtain⟨Y0,hY0⟩:∃Y0,Y0=l8 2 L.length:=⟨_,rfl⟩
 obtain⟨B1,hB1⟩:∃B1,B1=M.set 5 (DD Y0 L.length T0.b):=⟨_,rfl⟩
 have hl0:Laid B1 Y0 v L.length N T0 (.sl 0 0 (fun _=>.any) true):=by rw[hB1,hY0];exact hLd
 have B1l:B1.length=6+4*m:=by rw[hB1,V_];exact Ml
 obtain⟨A1,hA1⟩:∃A1,A1=B1 ++ [Q5 (.ref 3 0 0),.con 0 1 (Xf [I last])]:=⟨_,rfl⟩
 have hl1:Laid A1 Y0 v L.length N T0 (.sl 0 0 (fun _=>.any) true):=by
  rw[hA1];refine hl0.app _ fun o ho=>?_
  simp only[b_,V',or_false]at ho;rcases ho with rfl |rfl
  ·exact⟨fun q hq=>Ad (QX (by rw[B1l]at hq;omega)),by simp[Q5]⟩
  ·exact⟨fun q _=>fun j _=>X4 (Xe (l:=[I last]) (by simp[X9]) j),by simp⟩
 have A1l:A1.length=8+4*m:=by rw[hA1,f_,B1l];simp only[ZAF,ZAc];omega
 refine e_ ?_ (XB (6+4*m+1) (eM1 _ _ _));simp only[TE6];refine e_ ?_ (XH 6 rfl (eM1 _ _ _) (by omega));refine e_ ?_ (Zh 5 L.length (fun i=>I ((if i<L.length then T0.b i else 0:Nat))) (Qa M5 _) (N' _) (fun j hj=>by
  show I ((2*v+j:Nat))=I ((if j<L.length then T0.b j else 0:Nat));rw[N_ hj,hT0];rfl))
 refine e_ (s':=⟨10,[],[.any,pP v L G,.ref 1 0 0,I 0,.any,.ref (6+4*m) 0 0,.ptr 1 (Xf [I last]) 0,.any,.any,.any],[],A1⟩) ?_ (Xh rfl (by simp[ZAm,Xm,pP,Zt,XE,Xt,I]) trivial (by
  show ZAl (M ++ _) 5 _=A1;rw[Z2 (ZW M5),hA1,hB1,hY0];rfl))
 have y0x:Y0.x=3:=by rw[hY0];rfl
 have y0v:Y0.vx=0:=by rw[hY0];rfl
 have y0t:Y0.x≠Y0.tid:=hl1.xt;have hqT:∀i k,qb (T0.t i k)≤c:=fun i k=>by
  rw[hT0];show qb (if k<v then lA L i k else if k<2*v then -lA L i (k-v)else if k=2*v+i then 1 else if k=2*v+2*L.length then lB L i else 0)≤c
  split
  ·exact hcA _ _
  split
  ·rw[Cs];exact hcA _ _
  split
  ·exact hc1
  split
  ·exact hcB _
  ·exact hc0
 have hq1:∀k,qb (KU v L.length k)≤c:=fun k=>by unfold KU;split <;> assumption
 have hq2:∀k,qb (Kl v G k)≤c:=fun k=>by
  unfold Kl
  split
  ·rw[Cs];exact hcG _
  split
  ·exact hcG _
  ·exact hc0
 have hbT:∀i,T0.b i=2*v+i:=fun i=>by rw[hT0];rfl
 have c3:=Tn A1 Y0 v L.length N T0 _ 128 [.ptr 1 (Xf [I last]) 0] (KU v L.length) hl1.x hl1.t hl1.b hl1.r hl1.xt hl1.xb hl1.xr hl1.bel hl1.born (by omega) (by omega) (Q:=c) (by omega) (fun i k _ _=>hqT i k) (fun k _=>hq1 k)
  (fun i hi=>by rw[hbT];exact⟨by omega,M_ (by omega)⟩) (M_ (by omega)) (fun k hk=>by
   have h:=fH k last (by omega) (by omega);rw[show(if last≤k then(1:Rat)else 0)=KU v L.length k by
    unfold KU;by_cases h:last≤k
    ·rw[N_ h,N_ (by omega)]
    ·rw[M_ h,M_ (by omega)]]at h
   exact h)
 obtain⟨Y1,hY1⟩:∃Y1,Y1=Y0.cost A1.length:=⟨_,rfl⟩
 obtain⟨T1,hT1⟩:∃T1:Tb,T1={ T0 with c:=KU v L.length }:=⟨_,rfl⟩
 obtain⟨ok1,ht1,hb1,hu1⟩:=hl1.TC9 (KU v L.length);obtain⟨A2,hA2⟩:∃A2,A2=BJ A1 Y0 v L.length N (KU v L.length):=⟨_,rfl⟩
 have ce3:K1 A1 A2:=by
  have h1:=QT (ob:=LN Y0 v L.length N (.osl A1.length 0 4 0 (N+1))) hl1.x (by simp[LN]) (by simp[LN]);have h2:=ZM (h:=A1.set Y0.x (LN Y0 v L.length N (.osl A1.length 0 4 0 (N+1)))) (ob:=.row 0 ((N+1)*4) (Xl (Av N (KU v L.length)))) (by simp);intro a w k f;rw[hA2];exact(h1 a w k f).trans (h2 a w k f)
 replace c3:G' Tryz.prog 127 [.ref Y0.x Y0.vx 0,.fn 128 [.ptr 1 (Xf [I last]) 0]] A1 (.tup []) A2:=hA2▸c3;have A2l:A2.length=9+4*m:=by rw[hA2];unfold BJ;rw[f_,V_,A1l];simp only[ZAF,ZAc];omega
 rw[←hY1,←hT1,←hA2]at ht1;rw[←hY1,←hA2]at ok1;rw[←hA2]at hb1 hu1;have y1x:Y1.x=3:=by rw[hY1];exact y0x
 have y1v:Y1.vx=0:=by rw[hY1];exact y0v
 have c4:=mA A2 Y1 v L.length N N 0 (fun _=>T1) ok1 hb1 hu1 (N' _) (by omega) (by omega) (Q:=c) (by omega) (fun k _ i j _ _=>by rw[hT1];exact hqT i j) (fun k _ j _=>by rw[hT1];exact hq1 j) (fun k hk=>absurd hk (ZAG k)) (fun j _=>by
  rw[hT1];show 0≤KU v L.length j;unfold KU
  split <;> decide)
 rw[ht1]at c4;have hl2:Laid A2 Y1 v L.length N T1 (.osl Y1.cid Y1.cv 4 0 (N+1)):=by
  have h:=ok1.laid T1 (by rw[hY1];exact y0t) hb1 hu1;rwa[ht1]at h
 have hc2:A2[Y1.cid]?=some (DI Y1 N T1.c):=by
  have h:=LP ok1 T1;rwa[ht1]at h
 rw[y0x,y0v]at c3;rw[y1x,y1v]at c4;have x2:=hl2.x;rw[y1x]at x2;have xb2:A2[6+4*m]?=some (Q5 (.ref 3 0 0)):=by
  rw[hA2];refine Qa ?_ _;rw[L_ (by rw[y0x];omega),hA1];exact BG B1l _ _
 have lb2:A2[6+4*m+1]?=some (.con 0 1 (Xf [I last])):=by
  rw[hA2];refine Qa ?_ _;rw[L_ (by rw[y0x];omega),hA1];exact FM B1l _ _ _
 have xb1:A1[6+4*m]?=some (Q5 (.ref 3 0 0)):=by rw[hA1];exact BG B1l _ _
 have s1:=Qv 0;have w1:=C7 T1.c (N' N);have w2:=BL T1.c (N' N);have e10:T1.c N=0:=by rw[hT1];exact M_ (by omega)
 rw[e10]at w1 w2;rw[ZB6]at s1;unfold Q5 at xb1 xb2;have x2':=x2;have TEK:=hc2;unfold LN at x2';unfold DI at TEK;rw[y1v]at x2';refine XF 95 ?_;simp(disch:=omega)only[xb1,↓Xd,wG,seval];refine Xz rfl c3 ce3 (Qg hl1.born) (X1 _) ?_;simp(disch:=omega)only[xb2,x2',A2l,↓Xd,wG,seval];refine Xz rfl c4 (Z1 _) (Qg hu1) (X1 _) ?_;simp(disch:=omega)only[xb2,x2',TEK,A2l,w1,w2,qC,↓Xd,wG,seval];refine X2 s1 rfl ?_;simp(disch:=omega)only[xb2,x2',TEK,A2l,lb2,Int.sign_zero,↓Xd,wG,seval];have TE7:∀i,T1.b i=2*v+i:=fun i=>by rw[hT1];exact hbT i
 have c5:=jn A2 Y1 v L.length N last T1.b _ hl2.x hl2.b hb1 (fun i hi=>by rw[TE7];omega) (by omega);rw[y1x,y1v]at c5;refine Xz rfl c5 (Z1 _) (Qg hu1) (X1 _) ?_;have c6:=Tn A2 Y1 v L.length N T1 _ 132 [pP v L G] (Kl v G) hl2.x hl2.t hl2.b hl2.r hl2.xt hl2.xb hl2.xr hb1 hu1 (by omega) (by omega) (Q:=c) (by omega) (fun i k _ _=>by rw[hT1];exact hqT i k) (fun k _=>hq2 k)
  (fun i hi=>by rw[TE7];exact⟨by omega,by unfold Kl;rw[M_ (by omega),M_ (by omega)]⟩) (by unfold Kl;rw[M_ (by omega),M_ (by omega)]) (fun k hk=>fI v k L G (by omega) (by omega) hG)
 obtain⟨Y2,hY2⟩:∃Y2,Y2=Y1.cost A2.length:=⟨_,rfl⟩
 obtain⟨ok2,ht2,hb2,hu2⟩:=hl2.TC9 (Kl v G);have eS:({ T1 with c:=Kl v G }:Tb)=S 0:=by
  rw[hS0,hT1,hT0];exact t_ (fun c=>(⟨(JV v L.length (lA L) (lB L) (lG G)).t,c,(JV v L.length (lA L) (lB L) (lG G)).b⟩:Tb)) (funext fun k=>rfl)
 rw[eS]at ht2;obtain⟨A3,hA3⟩:∃A3,A3=BJ A2 Y1 v L.length N (Kl v G):=⟨_,rfl⟩
 have ce6:K1 A2 A3:=by
  have h1:=QT (ob:=LN Y1 v L.length N (.osl A2.length 0 4 0 (N+1))) hl2.x (by simp[LN]) (by simp[LN]);have h2:=ZM (h:=A2.set Y1.x (LN Y1 v L.length N (.osl A2.length 0 4 0 (N+1)))) (ob:=.row 0 ((N+1)*4) (Xl (Av N (Kl v G)))) (by simp);intro a w k f;rw[hA3];exact(h1 a w k f).trans (h2 a w k f)
 replace c6:G' Tryz.prog 127 [.ref Y1.x Y1.vx 0,.fn 132 [pP v L G]] A2 (.tup []) A3:=hA3▸c6;have A3l:A3.length=10+4*m:=by rw[hA3];unfold BJ;rw[f_,V_,A2l];simp only[ZAF,ZAc];omega
 rw[←hY2,←hA3]at ht2 ok2;rw[←hA3]at hb2 hu2;rw[y1x,y1v]at c6;have y2x:Y2.x=3:=by rw[hY2];exact y1x
 have y2v:Y2.vx=0:=by rw[hY2];exact y1v
 have eN:2*v+L.length≤N:=by omega
 have hEk:∀k,k≤K→∀i j,i<L.length→j≤N→qb ((S k).t i j)≤E:=fun k hk i j hi hj=>by
  obtain⟨g1,g2⟩:=hok k hk;rw[hm0]at g1 g2;rw[hN,hm0]at g1 g2 hj;exact k_ (Mr g2 g1 (by omega) hcA hcB hi hj) hE
 have hCk:∀k,k≤K→∀j,j≤N→qb ((S k).c j)≤15000000:=fun k hk j hj=>by
  obtain⟨g1,g2⟩:=hok k hk;have h3:=hEk k hk;rw[hm0]at g1 g2;rw[hN,hm0]at g1 g2 hj h3;exact k_ (PX g2 g1 hcG h3 hj) hQ
 have c7:=mA A3 Y2 v L.length N last K S ok2 hb2 hu2 (by omega) (by omega) (by omega) (Q:=15000000) (by omega) (fun k hk i j hi hj=>by have:=hEk k hk i j hi hj;omega) hCk (fun k hk=>by
  obtain⟨p,r,g1,g2,g3⟩:=hst k hk;refine⟨p,r,by rw[TDm];rwa[hm0]at g1,by rwa[hm0]at g2,g3⟩) (fun j hj=>TAn j (by omega))
 rw[ht2,←hT]at c7;rw[y2x,y2v]at c7;have x3:=ok2.x;have xb3:A3[6+4*m]?=some (.row 0 1 (Xf [.ref 3 0 0])):=by
  rw[hA3];refine Qa ?_ _;rw[L_ (by rw[y1x];omega)];exact xb2
 obtain⟨A4,hA4⟩:∃A4,A4=HT A3 Y2 L.length N T:=⟨_,rfl⟩
 have A4l:A4.length=10+4*m:=by rw[hA4,Em,A3l]
 have TF2:K1 A3 A4:=by
  have h:=Ss ok2 (S 0) T;rw[ht2,←hA4]at h;exact h
 rw[←hA4]at c7;simp(disch:=omega)only[xb2,A2l,↓Xd,wG,seval];refine Xz rfl c6 ce6 (Qg hu1) (X1 _) ?_;simp(disch:=omega)only[xb3,A3l,↓Xd,wG,seval];refine Xz rfl c7 TF2 (Qg hu2) (X1 _) ?_;have a0:=BG A4l;have aL:=Zz A4l;have as0:=CK A4l;simp(disch:=omega)only[a0,A4l,aL,as0,P_,↓Xd,wG,seval];have rd2:∀j,Y2.rid j=7+4*j:=fun j=>by rw[hY2,hY1,hY0];show 2+4+4*j+1=_;omega
 have bd2:Y2.bid=5:=by rw[hY2,hY1,hY0];rfl
 have td2:Y2.tid=4:=by rw[hY2,hY1,hY0];rfl
 have cd2:Y2.cid=9+4*m:=by rw[hY2];exact A2l
 have xb4:A4[6+4*m]?=some (.row 0 1 (Xf [.ref 3 0 0])):=by
  rw[hA4,Dy T (by omega) (by omega) fun j _=>by rw[rd2];omega];exact xb3
 have o1:A4[1]?=some (.row 0 7 (Xf ([.int .i64 0,.sl 0 0 (fun _=>.any) true,.sl 0 0 (fun _=>.any) true] ++ TAD))):=by
  rw[hA4,Dy T (by omega) (by omega) fun j _=>by rw[rd2];omega,hA3];refine Qa ?_ _;rw[L_ (by omega),hA2];refine Qa ?_ _;rw[L_ (by omega),hA1];refine Qa ?_ _;rw[hB1,L_ (by omega),M1];rfl
 have hl4:Laid (A4 ++ [Q5 (.int .i64 (-1))]) Y2 v L.length N T (.osl Y2.cid Y2.cv 4 0 (N+1)):=by
  have h:=ok2.laid T (by rw[y2x,td2];omega) hb2 hu2;rw[←hA4]at h;refine h.app _ fun o ho=>?_
  rw[a_.1 ho];exact⟨fun q _=>Ad (X4 (X9 (-1))),by simp[Q5]⟩
 have hc4:(A4 ++ [Q5 (.int .i64 (-1))])[Y2.cid]?=some (DI Y2 N T.c):=by
  have h:=LP ok2 T;rw[←hA4]at h;exact Qa h _
 obtain⟨F,hF1,hF2,hF3,hF4⟩:=vH (b:=0) (s:=⟨10,[],[.any,pP v L G,.ref 1 0 0,I 0,.any,.ref (6+4*m) 0 0,.ptr 1 (Xf [I last]) 0,.ref (10+4*m) 0 0,.any,.any],[],A4 ++ [Q5 (.int .i64 (-1))]⟩) (xb:=6+4*m) hl4 hc4 ok2.xc ok2.tc ok2.bc ok2.cr
  (by rw[y2x,y2v];exact Qa xb4 _) (by omega) (by omega) (by omega) (by omega) (fun i _=>by rw[rd2];omega)
 have F1:F[1]?=some (.row 0 7 (Xf ([.int .i64 0,.sl 0 0 (fun _=>.any) true,.sl 0 0 (fun _=>.any) true] ++ TAD))):=by
  rw[hF4 1 (by omega) (by omega) (by omega) (by omega) (by omega) (fun i _=>by rw[rd2];omega)];exact Qa o1 _
 have TF3:=ZW F1;have okK:T.Ok L.length N (2*v+L.length):=by
  have h:=(hok K (N' _)).1;rw[←hT]at h;rwa[hm0]at h
 have qn:∀k,qb (Jg L.length N T k)≤E:=Rj okK (fun i hi=>by rw[hT];exact hEk K (N' _) i N hi (N' _)) (by omega);have p1:=lY v L.length N (2*v+L.length) T okK (by omega) (by omega) (by omega) (fun k=>by have:=qn k;omega);have p2:=fG v L.length N T (by omega) (by omega);rw[←show X=JT v L.length N T by rw[hX,hm0]]at p1;rw[←show Yl=(ZAD L.length).map fun i=>T.c (2*v+i)by rw[hYl,hm0]]at p2;have p3:=jl G X (3*E+c) (by omega) (by omega) (fun i hi=>by
  rw[hX];unfold JT;rw[QP _ (by omega)];have h1:=qn i;have h2:=qn (v+i);have h3:=BS (Jg L.length N T i) (Jg L.length N T (v+i));have h4:=hcG i;unfold lG at h4;rw[hm0];omega) (by omega)
 have TBA:XN (fun i=>G.getD i 0*X.getD i 0) G.length=T.c N:=by
  rw[←TCC.TCg,hG];refine XQ fun k hk=>?_
  rw[hX];unfold JT;rw[QP _ hk];rfl
 rw[TBA]at p3;unfold Q5 at hF3;refine e_ (s':=⟨10,[],[.any,pP v L G,.ref 1 0 0,I 0,.any,.ref (6+4*m) 0 0,.ptr 1 (Xf [I last]) 0,.ref (10+4*m) 0 0,.any,.any],[],A4 ++ [Q5 (.int .i64 (-1))]⟩) ?_ (ZS (by simp[Xm,I]) (by simp[Q5]));refine e_ ?_ hF1;have fs1:∀o,(F.set 1 o)[1]?=some o:=fun o=>U' TF3
 unfold TAD at F1;refine Xk ?_;simp(disch:=omega)only[hF3,F1,↓Xd,wG,seval];refine X0 p1 (X1 _) ?_;simp(disch:=omega)only[hF3,F1,↓Xd,wG,seval];refine X0 p2 (X1 _) ?_;simp(disch:=omega)only[hF3,F1,pP,Zt,Xt,XE,↓Xd,wG,seval];refine X0 p3 (X1 _) ?_;simp(disch:=omega)only[F1,qA,qC,Xt,fs1,↓Xd,wG,seval];rw[hR];exact FA (r1:=.cell 2 91) (r2:=.tmp 3) rfl (Xs kU rfl (fs1 _) rfl) rfl (XU (E3 _ _ _ _) rfl) (XU (X9 0) rfl)
def Ej (b:BB)(g:GG):List (List Rat) :=
  [[g.n.x,-g.n.y,-g.n.x,-(-g.n.y),0],[g.n.y,g.n.x,-g.n.y,-g.n.x,-b.TAJ],
   [Xr (g.p.sub b.c) g.n,Xr (g.p.sub b.c) g.n.F',-Xr (g.q.sub b.c) g.n,-Xr (g.q.sub b.c) g.n.F',0]]
def To (b:BB)(g:GG):List Ln :=
  [⟨[-1,0,0,0,0],0⟩,⟨[0,0,-1,0,0],0⟩,⟨[-g.E_,1,0,0,0],0⟩,⟨[0,0,-g.E_,1,0],0⟩,⟨[-g.E_,-1,0,0,0],0⟩,⟨[0,0,-g.E_,-1,0],0⟩,
   ⟨[QM g.n,0,0,0,0],g.force⟩,⟨[0,0,QM g.n,0,0],g.force⟩,⟨[QM g.n,0,QM g.n,0,0],b.TAB⟩,⟨[0,0,0,0,1],16⟩,⟨[0,0,0,0,-1],0⟩]
def C1 (l:List Rat):List Rat:=l.map fun x=>-x
def GF (l:List Rat):List Ln:=[⟨l,0⟩,⟨C1 l,0⟩]
def Js (b:BB)(g:GG):List Ln:=To b g ++ (Ej b g).flatMap GF
def TAN:List Rat:=[0,0,0,0,1]
theorem yA (f:Nat→Rat):XN f 5=f 0+f 1+f 2+f 3+f 4:=by
 simp only[XN];grind
theorem Bk (b:BB)(g:GG):(Js b g).length=17:=rfl
theorem GS (b:BB)(g:GG)(x:Nat→Rat):(∀i,i<17→XN (fun k=>lA (Js b g) i k*x k) 5≤lB (Js b g) i)↔okP b g (x 0) (x 1) (x 2) (x 3) (x 4):=by
 have e:∀i,XN (fun k=>lA (Js b g) i k*x k) 5=lA (Js b g) i 0*x 0+lA (Js b g) i 1*x 1+lA (Js b g) i 2*x 2+lA (Js b g) i 3*x 3+lA (Js b g) i 4*x 4:=fun i=>yA _
 constructor
 ·intro h
  have h0:(-1:Rat)*x 0+0*x 1+0*x 2+0*x 3+0*x 4≤0:=by have:=h 0 (by omega);rw[e]at this;exact this
  have h1:(0:Rat)*x 0+0*x 1+(-1)*x 2+0*x 3+0*x 4≤0:=by have:=h 1 (by omega);rw[e]at this;exact this
  have h2:(-g.E_)*x 0+1*x 1+0*x 2+0*x 3+0*x 4≤0:=by have:=h 2 (by omega);rw[e]at this;exact this
  have h3:(0:Rat)*x 0+0*x 1+(-g.E_)*x 2+1*x 3+0*x 4≤0:=by have:=h 3 (by omega);rw[e]at this;exact this
  have h4:(-g.E_)*x 0+(-1)*x 1+0*x 2+0*x 3+0*x 4≤0:=by have:=h 4 (by omega);rw[e]at this;exact this
  have h5:(0:Rat)*x 0+0*x 1+(-g.E_)*x 2+(-1)*x 3+0*x 4≤0:=by have:=h 5 (by omega);rw[e]at this;exact this
  have h6:QM g.n*x 0+0*x 1+0*x 2+0*x 3+0*x 4≤g.force:=by have:=h 6 (by omega);rw[e]at this;exact this
  have h7:(0:Rat)*x 0+0*x 1+QM g.n*x 2+0*x 3+0*x 4≤g.force:=by have:=h 7 (by omega);rw[e]at this;exact this
  have h8:QM g.n*x 0+0*x 1+QM g.n*x 2+0*x 3+0*x 4≤b.TAB:=by have:=h 8 (by omega);rw[e]at this;exact this
  have h9:(0:Rat)*x 0+0*x 1+0*x 2+0*x 3+1*x 4≤16:=by have:=h 9 (by omega);rw[e]at this;exact this
  have h10:(0:Rat)*x 0+0*x 1+0*x 2+0*x 3+(-1)*x 4≤0:=by have:=h 10 (by omega);rw[e]at this;exact this
  have h11:g.n.x*x 0 + -g.n.y*x 1 + -g.n.x*x 2 + -(-g.n.y)*x 3+0*x 4≤0:=by have:=h 11 (by omega);rw[e]at this;exact this
  have h12:-g.n.x*x 0 + -(-g.n.y)*x 1 + -(-g.n.x)*x 2 + -(-(-g.n.y))*x 3 + -0*x 4≤0:=by have:=h 12 (by omega);rw[e]at this;exact this
  have h13:g.n.y*x 0+g.n.x*x 1 + -g.n.y*x 2 + -g.n.x*x 3 + -b.TAJ*x 4≤0:=by have:=h 13 (by omega);rw[e]at this;exact this
  have h14:-g.n.y*x 0 + -g.n.x*x 1 + -(-g.n.y)*x 2 + -(-g.n.x)*x 3 + -(-b.TAJ)*x 4≤0:=by have:=h 14 (by omega);rw[e]at this;exact this
  have h15:Xr (g.p.sub b.c) g.n*x 0+Xr (g.p.sub b.c) g.n.F'*x 1 + -Xr (g.q.sub b.c) g.n*x 2 + -Xr (g.q.sub b.c) g.n.F'*x 3+0*x 4≤0:=by have:=h 15 (by omega);rw[e]at this;exact this
  have h16:-Xr (g.p.sub b.c) g.n*x 0 + -Xr (g.p.sub b.c) g.n.F'*x 1 + -(-Xr (g.q.sub b.c) g.n)*x 2 + -(-Xr (g.q.sub b.c) g.n.F')*x 3 + -0*x 4≤0:=by have:=h 16 (by omega);rw[e]at this;exact this
  clear h e;refine⟨by grind,by grind,by grind,by grind,by grind,by grind,by grind,by grind,by grind,by grind,by grind,by grind,by grind,?_⟩;show Xr (g.p.sub b.c) g.n*x 0+Xr (g.p.sub b.c) g.n.F'*x 1-Xr (g.q.sub b.c) g.n*x 2-Xr (g.q.sub b.c) g.n.F'*x 3=0;generalize Xr (g.p.sub b.c) g.n=c1 at *;generalize Xr (g.p.sub b.c) g.n.F'=c2 at *;generalize Xr (g.q.sub b.c) g.n=c3 at *;generalize Xr (g.q.sub b.c) g.n.F'=c4 at *;grind
 ·intro h i hi
  rw[e];have ht:Xr (g.p.sub b.c) g.n*x 0+Xr (g.p.sub b.c) g.n.F'*x 1-Xr (g.q.sub b.c) g.n*x 2-Xr (g.q.sub b.c) g.n.F'*x 3=0:=h.et;obtain⟨a1,a2,a3,a4,a5,a6,a7,a8,a9,a10,a11,a12,a13,_⟩:=h;clear e
  match i,hi with
  |0,_=>show(-1:Rat)*x 0+0*x 1+0*x 2+0*x 3+0*x 4≤0;grind
  |1,_=>show(0:Rat)*x 0+0*x 1+(-1)*x 2+0*x 3+0*x 4≤0;grind
  |2,_=>show(-g.E_)*x 0+1*x 1+0*x 2+0*x 3+0*x 4≤0;grind
  |3,_=>show(0:Rat)*x 0+0*x 1+(-g.E_)*x 2+1*x 3+0*x 4≤0;grind
  |4,_=>show(-g.E_)*x 0+(-1)*x 1+0*x 2+0*x 3+0*x 4≤0;grind
  |5,_=>show(0:Rat)*x 0+0*x 1+(-g.E_)*x 2+(-1)*x 3+0*x 4≤0;grind
  |6,_=>show QM g.n*x 0+0*x 1+0*x 2+0*x 3+0*x 4≤g.force;grind
  |7,_=>show(0:Rat)*x 0+0*x 1+QM g.n*x 2+0*x 3+0*x 4≤g.force;grind
  |8,_=>show QM g.n*x 0+0*x 1+QM g.n*x 2+0*x 3+0*x 4≤b.TAB;grind
  |9,_=>show(0:Rat)*x 0+0*x 1+0*x 2+0*x 3+1*x 4≤16;grind
  |10,_=>show(0:Rat)*x 0+0*x 1+0*x 2+0*x 3+(-1)*x 4≤0;grind
  |11,_=>show g.n.x*x 0 + -g.n.y*x 1 + -g.n.x*x 2 + -(-g.n.y)*x 3+0*x 4≤0;grind
  |12,_=>show -g.n.x*x 0 + -(-g.n.y)*x 1 + -(-g.n.x)*x 2 + -(-(-g.n.y))*x 3 + -0*x 4≤0;grind
  |13,_=>show g.n.y*x 0+g.n.x*x 1 + -g.n.y*x 2 + -g.n.x*x 3 + -b.TAJ*x 4≤0;grind
  |14,_=>show -g.n.y*x 0 + -g.n.x*x 1 + -(-g.n.y)*x 2 + -(-g.n.x)*x 3 + -(-b.TAJ)*x 4≤0;grind
  |15,_ =>
   show Xr (g.p.sub b.c) g.n*x 0+Xr (g.p.sub b.c) g.n.F'*x 1 + -Xr (g.q.sub b.c) g.n*x 2 + -Xr (g.q.sub b.c) g.n.F'*x 3+0*x 4≤0;generalize Xr (g.p.sub b.c) g.n=c1 at *;generalize Xr (g.p.sub b.c) g.n.F'=c2 at *;generalize Xr (g.q.sub b.c) g.n=c3 at *;generalize Xr (g.q.sub b.c) g.n.F'=c4 at *;grind
  |16,_ =>
   show -Xr (g.p.sub b.c) g.n*x 0 + -Xr (g.p.sub b.c) g.n.F'*x 1 + -(-Xr (g.q.sub b.c) g.n)*x 2 + -(-Xr (g.q.sub b.c) g.n.F')*x 3 + -0*x 4≤0;generalize Xr (g.p.sub b.c) g.n=c1 at *;generalize Xr (g.p.sub b.c) g.n.F'=c2 at *;generalize Xr (g.q.sub b.c) g.n=c3 at *;generalize Xr (g.q.sub b.c) g.n.F'=c4 at *;grind
  |i+17,h=>omega
theorem Lq (k:Nat)(x:Nat→Rat):XN (fun k=>lG TAN k*x k) 5=x 4:=by
 rw[yA];show(0:Rat)*x 0+0*x 1+0*x 2+0*x 3+1*x 4=x 4;grind
theorem qW {b:BB}{g:GG}{x y:Nat→Rat}{val:Rat}(h:TAw 5 17 (lA (Js b g)) (lB (Js b g)) (lG TAN) x y val):kM b g val∧okP b g (x 0) (x 1) (x 2) (x 3) val∧x 4=val:=by
 have e:x 4=val:=by rw[←h.TCg,Lq 0]
 have ok:=(GS b g x).1 h.TC5;rw[e]at ok;refine⟨⟨⟨_,_,_,_,ok⟩,fun a0 c0 a1 c1 k' hk=>?_⟩,ok,e⟩
 let z:Nat→Rat:=fun k=>match k with |0=>a0 |1=>c0 |2=>a1 |3=>c1 |_=>k'
 have:=h.most (z:=z) ((GS b g z).2 hk);rw[Lq 0]at this;exact this
def Zf (lid n:Nat)(G:List Rat):AO:=.row 0 3 (Xf [I 5,.osl lid n 5 0 n,Q0 G])
def AR (Ls:List Ln)(n:Nat):AO:=.row n (n*5) (Xv KR 5 KK Ls)
theorem Qr {P:Program}{tok:List Tok}{strict:Nat→Bool}{B':Bool}{nid:Nat→Option Nat}{all:Array Oper}{i:Nat}{s:AS}{o:Oper}{v:AV}{h':List AO}(ho:all[i]?=some o)(hs:strict i=false)(hn:nid i=none)(hg:TAv all s o=some true)(h:Jb P false none o.op s.ev s.h=some (v,h')) :
  GStep P tok strict B' nid all i s (({ s with h:=h' }:AS).E' o.dst v):=⟨o,ho,.inl ⟨hg,⟨fun _ h=>(by rw[hn]at h;cases h),v,h',.inl (by rw[hs,hn];exact h),rfl⟩⟩⟩
theorem HO {all:Array Oper}{fl:Nat→Bool}{T:Nat→Prop}{i:Nat}{s:AS}(h:fl i=false):GT all fl T i s:=fun e=>by rw[h]at e;cases e
theorem vJ {all:Array Oper}{fl:Nat→Bool}{T:Nat→Prop}{i:Nat}{s:AS}{o:Oper}{tl:TypeId}{al:Operand}(ho:all[i]?=some o)(hop:o.op=.load tl al)(h:∀o' va off,s.ev al=.ref o' va off→T o'):GT all fl T i s:=fun _ oi hoi=>by
 rw[ho]at hoi;cases hoi;refine⟨fun tl' al' e o va off hv=>?_,fun tx e=>?_,fun a e=>?_⟩
 ·rw[hop]at e;cases e;exact h _ _ _ hv
 ·rw[hop]at e;simp[D9]at e
 ·rw[hop]at e;simp[nY]at e
theorem zJ {all:Array Oper}{fl:Nat→Bool}{T:Nat→Prop}{i:Nat}{s:AS}{o:Oper}{t:Nat}{y:Operand}{ts:Array TypeId}(ho:all[i]?=some o)(hop:o.op=.call { callee:=.builtin .append,args:=#[.tmp t,y],argTypes:=ts }) (h:∀b ver es off n,s.get t=.osl b ver es off n→¬T b):GT all fl T i s:=fun _ oi hoi=>by
 rw[ho]at hoi;cases hoi;refine⟨fun tl' al' e=>?_,fun tx e b ver es off n hv=>?_,fun a e=>?_⟩
 ·rw[hop]at e;cases e
 ·rw[hop]at e;simp[D9]at e;subst e;exact h _ _ _ _ _ hv
 ·rw[hop]at e;simp[nY]at e
theorem xp {all:Array Oper}{fl:Nat→Bool}{T:Nat→Prop}{i:Nat}{s:AS}{o:Oper}{tl:TypeId}{al x:Operand}(ho:all[i]?=some o)(hop:o.op=.store tl al x)(h:∀o' va off,s.ev al=.ref o' va off→¬T o'):GT all fl T i s:=fun _ oi hoi=>by
 rw[ho]at hoi;cases hoi;refine⟨fun tl' al' e=>?_,fun tx e=>?_,fun a e o va off hv=>?_⟩
 ·rw[hop]at e;cases e
 ·rw[hop]at e;simp[D9]at e
 ·rw[hop]at e;simp[nY]at e;subst e;exact h _ _ _ hv
theorem Nu:∀ (n:Nat) (l:List AV),Xm l (List.replicate n .any)
 |0,_=>by cases ‹List AV› <;> trivial
 |n+1,[]=>⟨rfl,Nu n []⟩
 |n+1,_ :: l=>⟨.inl rfl,Nu n l⟩
theorem Ie (H:List AO)(o lid n k:Nat)(r:Rat)(a c:AV)(K6:List AO)(Ls:List Ln)(G:List Rat)(H1:List AO)(Hf:List AO)(ho:H[o]?=some (Zf lid n G)) (hn:n<100000) (hk:k≤5)
  (hlen:NR Tryz.prog 86 a=some (I k)) (hz:K3 Tryz.prog 86 3 a (I ((5-k:Nat):Int)) (H ++ [.row 0 4 (Xf (qC r))])=some (c,K6)) (hr6:K6[H.length]?=some (.row 0 4 (Xf (qC r)))) (hl6:K6[lid]?=some (AR Ls n)) (ho6:K6[o]?=some (Zf lid n G)) (hne:o≠lid)
  (hT:∀b ver es off n',a=.osl b ver es off n'→b≠o) (hc1:c.cells=[c]) (hc2:c.one=true) (hc3:c.loose.one=true) (hc4:c.loose.loose=c.loose)
  (TDR:∀ (s:AS),s.h=(K6.set lid (.row (n+1) ((n+1)*5) (Q1 (n*5) (Xv KR 5 KK Ls) 5 (Xf (c.loose :: qC r))))).set o (Zf lid (n+1) G)→Sub H.length s { s with h:=Hf })
  (TA4:Hf.take H.length=H1) (TCd:KH H1) (TGB:H1.length=H.length) :
  G' Tryz.prog 164 [qA r,a,.ref o 0 0] H (.tup []) H1:=by
 obtain⟨n0,hn0⟩:∃n0,H.length=n0:=⟨_,rfl⟩
 have e0:=BG hn0;have el:=Zz hn0;have eo:=Qa ho;refine G'.TAo (fn:=Tryz.f164) Tryz.call164 Tryz.func164 rfl mixed 5 [] [2000000000001,2000000000006] [] (by kernel_rfl) (L' rfl) (X4 (Z0 (by simp))) (fun o ho=>TCd o ho _ (by omega)) (XF 5 ?_);simp(disch:=omega)only[P',e0,el,hn0,qA,qC,↓Xd,wG,seval];show Run _ _ ⟨5,[],[qA r,a,.ref o 0 0,.ref n0 0 0,.any],[],H ++ [.row 0 4 (Xf (qC r))]⟩;obtain⟨K,hK⟩:∃K,K=H ++ [ZAk 0 4 (Xf (qC r))]:=⟨_,rfl⟩
 rw[←hK]at hz ⊢;have oK:K[o]?=some (Zf lid n G):=hK▸eo _;rw[hn0]at hr6;have L0:CG Tryz.prog 88 (.ref o 0 0) 1=some (.ref o 0 1):=by simp[HU,DA,RC]
 have L1:Qx Tryz.prog false 85 (.ref o 0 1) K=some (.osl lid n 5 0 n):=by
  rw[Bu,ta,KA,oK];unfold Zf;rw[KB,mc];simp[Qd,Xf]
 have L5:∀y:Operand,(∀t,y=.tmp t→True)→CC Tryz.prog .sub 3 (.int .i64 5) (I k)=some (I ((5-k:Nat):Int)):=fun y _=>by
  show CC _ _ _ (.int .i64 5) (.int .i64 (k:Int))=_;rw[RK,show(5:Int)-k=((5-k:Nat):Int)by omega,M'];exact t_ (fun x=>some (AV.int .i64 x)) (by omega)
 have L7:Qx Tryz.prog false 28 (.ref n0 0 0) K6=some (qA r):=by
  rw[Bu,XY,KA,hr6,KB,eJ];simp[Qd,Xf,qA,qC,QJ]
 have L8:G8 Tryz.prog 131 [(0,c),(1,qA r)]=some (.agg (c.loose :: qC r)):=by
  rw[RN,NG,Oe];simp[iM,Sm,Sn,Ac,Hu,Qd,qA,qC,HZ,hc1,hc2,MW,VO,Gj,MS,Xo]
 have L9:Ki Tryz.prog 85 1 [(0,.agg (c.loose :: qC r))]=some (.sl 1 5 (Xf (c.loose :: qC r)) true):=by
  rw[Of,ju,LS,NG,LU];simp[Ac,Hu,Qd,FP,qC,HZ,hc3,hc4,MW,VO,Gj,MS,Xo]
 have L10:QW Tryz.prog 85 (.osl lid n 5 0 n) (.sl 1 5 (Xf (c.loose :: qC r)) true) K6=some (.osl lid (n+1) 5 0 (n+1),K6.set lid (.row (n+1) ((n+1)*5) (Q1 (n*5) (Xv KR 5 KK Ls) 5 (Xf (c.loose :: qC r))))):=by
  rw[gG,ju];have h1:∀j,j<5→(Xf (c.loose :: qC r) j).one=true:=fun j hj=>by
   match j,hj with
   |0,_=>exact hc3
   |1,_=>rfl
   |2,_=>rfl
   |3,_=>rfl
   |4,_=>rfl
   |j+5,h=>omega
  simp only[Wx,WH,HQ,hl6,AR,Px,Qd];rw[N_ (L' rfl),HQ,hl6];unfold AR;rw[Px];unfold Qd;rw[N_ ⟨rfl,rfl,rfl,N' _,by simpa using h1,by omega,by omega⟩]
 obtain⟨K7,hK7⟩:∃K7,K7=K6.set lid (.row (n+1) ((n+1)*5) (Q1 (n*5) (Xv KR 5 KK Ls) 5 (Xf (c.loose :: qC r)))):=⟨_,rfl⟩
 rw[←hK7]at L10 TDR;have o7:K7[o]?=some (Zf lid n G):=by rw[hK7,L_ (v_ hne)];exact ho6
 have L12:Zv Tryz.prog false 85 (.ref o 0 1) (.osl lid (n+1) 5 0 (n+1)) K7=some (K7.set o (Zf lid (n+1) G)):=by
  rw[M2,o7];unfold Zf;have hu:CE (Xf [I 5,ZDN lid n 5 0 n,Q0 G]) 1 [ZDN lid (n+1) 5 0 (n+1)]=Xf [I 5,ZDN lid (n+1) 5 0 (n+1),Q0 G]:=funext fun j=>by
   rw[ZH]
   match j with
   |0=>rfl
   |1=>rfl
   |2=>rfl
   |j+3=>rw[M_ (by simp)];rfl
  simp[U9,U8,Iy,Qd,RC,Ot,Yw,ON,hu]
 have hD:∀ops,Ew false ops=0→Ez false ops ⟨5,[],[qA r,a,.ref o 0 0,.ref n0 0 0,.any],[],K⟩=⟨5,[],[qA r,a,.ref o 0 0,.ref n0 0 0,.any],[],K⟩:=fun ops h=>by
  unfold Ez;rw[h];simp[AS.clr]
 refine AD (fun x=>x=o) ?_;show ∃s',TAW _ _ _ false _ _ _ _ _ (Ez false _ _) s'∧_;rw[hD _ (by rfl)];refine⟨_,⟨HO rfl,_,Qr (v:=.ref o 0 1) (h':=K) rfl rfl rfl rfl (t_ (zV fun w=>(w,K)) L0),
  vJ rfl rfl (fun o' va off e=>by cases e;rfl),_,Qr (v:=.osl lid n 5 0 n) (h':=K) rfl rfl rfl rfl (t_ (zV fun w=>(w,K)) L1),
  HO rfl,_,Qr (v:=a) (h':=K) rfl rfl rfl rfl rfl,
  HO rfl,_,Qr (v:=a) (h':=K) rfl rfl rfl rfl rfl,
  HO rfl,_,Qr (v:=I k) (h':=K) rfl rfl rfl rfl (t_ (zV fun w=>(w,K)) hlen),
  HO rfl,_,Qr (v:=I ((5-k:Nat):Int)) (h':=K) rfl rfl rfl rfl (t_ (zV fun w=>(w,K)) (L5 (.tmp 9) fun _ _=>trivial)),
  zJ rfl rfl (fun b ver es off n e=>hT b ver es off n e),_,Qr (v:=c) (h':=K6) rfl rfl rfl rfl hz,
  HO rfl,_,Qr (v:=qA r) (h':=K6) rfl rfl rfl rfl (t_ (zV fun w=>(w,K6)) L7),
  HO rfl,_,Qr (v:=.agg (c.loose :: qC r)) (h':=K6) rfl rfl rfl rfl (t_ (zV fun w=>(w,K6)) L8),
  HO rfl,_,Qr (v:=.sl 1 5 (Xf (c.loose :: qC r)) true) (h':=K6) rfl rfl rfl rfl (t_ (zV fun w=>(w,K6)) L9),
  HO rfl,_,Qr (v:=.osl lid (n+1) 5 0 (n+1)) (h':=K7) rfl rfl rfl rfl L10,
  HO rfl,_,Qr (v:=.ref o 0 1) (h':=K7) rfl rfl rfl rfl (t_ (zV fun w=>(w,K7)) L0),
  HO rfl,_,Qr (v:=XW) (h':=K7.set o (Zf lid (n+1) G)) rfl rfl rfl rfl (t_ (zV fun h=>(XW,h)) L12),rfl⟩,?_⟩
 refine e_ (s':=⟨5,[],[.any,.any,.any,.any,.any],[],Hf⟩) ?_ (ZA8 (b:=⟨5,[],[.any,.any,.any,.any,.any],[],K7.set o (Zf lid (n+1) G)⟩) (Xh rfl (Nu 5 _) trivial rfl) (TDR _ rfl));refine Xk ?_;simp(disch:=omega)only[↓Xd,wG,seval];exact YR rfl TA4
theorem Zj {α:Type}(e:α→List AV)(s:Nat)(d:α)(l:List α)(x:α)(hs:0<s):Q1 (l.length*s) (Xv e s d l) s (Xf (e x))=Xv e s d (l ++ [x]):=by
 funext j;unfold Q1 Xv Xf;by_cases h1:j<l.length*s
 ·have:j/s<l.length:=by rw[Nat.div_lt_iff_lt_mul hs];exact h1
  have e1:(l ++ [x]).getD (j/s) d=l.getD (j/s) d:=by rw[K',K',S_ this]
  rw[N_ h1,e1]
 ·rw[M_ h1]
  by_cases h2:j<l.length*s+s
  ·rw[N_ h2]
   have hj:j/s=l.length:=by
    refine Nat.div_eq_of_lt_le (by omega) ?_;rw[ZAU];omega
   have hm:j%s=j-l.length*s:=by
    have:=Nat.div_add_mod j s;rw[hj,ZA4]at this;omega
   rw[hj,hm];simp
  ·rw[M_ h2]
   have hj:l.length+1≤j/s:=by
    rw[Nat.le_div_iff_mul_le hs,ZAU];omega
   have e1:(l ++ [x]).getD (j/s) d=d:=by rw[K',j_ (by simp;omega)];rfl
   have e2:l.getD (j/s) d=d:=by rw[K',j_ (by omega)];rfl
   rw[e1,e2]
theorem Gv {α:Type}(l:List α)(d:α){i:Nat}(h:i<l.length):l.take (i+1)=l.take i ++ [l.getD i d]:=by
 rw[ZCV h,K',U_ h];rfl
def JS (f:Nat→Rat)(k:Nat):List Rat:=(ZAD 5).map fun i=>if i<k then f i else 0
def Zd (H:List AO)(o lid n:Nat)(Ls:List Ln)(G:List Rat)(x:Ln):List AO:=(H.set lid (AR (Ls ++ [x]) (n+1))).set o (Zf lid (n+1) G)
theorem MR {h:List AO}{n:Nat}{c:AV}{l:List Rat}{r:Rat}{Ls:List Ln}(hn:Ls.length=n)(hw:Ko h c (Q0 l)) (j:Nat):Ko h (Q1 (n*5) (Xv KR 5 KK Ls) 5 (Xf (c :: qC r)) j) (Xv KR 5 KK (Ls ++ [⟨l,r⟩]) j):=by
 have h1:=Zj KR 5 KK Ls ⟨l,r⟩ (by omega);rw[hn]at h1;rw[←h1];unfold Q1
 split
 ·exact XC _ _
 split
 ·obtain⟨i,hi⟩:∃i,i=j-n*5:=⟨_,rfl⟩
  rw[←hi];cases i with
  |zero=>exact hw
  |succ i=>exact XC _ _
 ·exact XC _ _
theorem KN (H:List AO)(o lid n:Nat)(Ls:List Ln)(G:List Rat)(x:Ln):(Zd H o lid n Ls G x).length=H.length:=by unfold Zd;rw[V_,V_]
theorem Sh (q n:Nat)(Ls:List Ln):XX q (AR Ls n):=fun j _=>X4 (Xe (KW _) _)
theorem Si {q lid:Nat}(n:Nat)(G:List Rat)(h:lid<q):XX q (Zf lid n G):=fun j _=>BV q (by
 intro x hx;simp only[b_,V',or_false]at hx;rcases hx with rfl |rfl |rfl
 ·exact X4 (X9 _)
 ·exact JB h
 ·exact X4 (Xn _)) j
theorem Dc {H:List AO}{o lid:Nat}(n:Nat)(Ls:List Ln)(G:List Rat)(x:Ln)(hH:KH H)(hl:lid<H.length):KH (Zd H o lid n Ls G x) :=
 fun p hp q hq=>by
  rw[KN]at hq;unfold Zd at hp;rcases ZAN hp with h |h
  ·rcases ZAN h with h |h
   ·exact hH p h q hq
   ·rw[h];exact Sh _ _ _
  ·rw[h];exact Si _ _ (by omega)
theorem XI {h:List AO}{a b:AV}(w:B_ a b):Ko h a b:=fun c v _ _ r=>w c v r
theorem N8 (f:Nat→Rat)(k:Nat):Q0 (JS f k)=.sl 5 20 (Xl fun i=>(JS f k).getD i 0) false:=by rw[Xt];rfl
theorem Fu (f:Nat→Rat)(k:Nat){i:Nat}(h:i<5):(JS f k).getD i 0=if i<k then f i else 0:=QP _ h
theorem Ui {A B:List AO}{n:Nat}(h1:n≤A.length)(h2:B.length=n)(h:∀a,a<n→A[a]?=B[a]?):A.take n=B:=ZAg fun a=>by
 rw[ZAV]
 split
 ·exact h a (by assumption)
 ·rw[j_ (by omega)]
theorem Yq (H:List AO)(o lid n k:Nat)(r:Rat)(f:Nat→Rat)(Ls:List Ln)(G:List Rat)(ho:H[o]?=some (Zf lid n G)) (hl:H[lid]?=some (AR Ls n)) (hne:o≠lid) (hn:Ls.length=n) (hn2:n<100000) (hk:k≤5) (hk0:0<k) (hH:KH H) :
  G' Tryz.prog 164 [qA r,.sl k (k*4) (Xl f) true,.ref o 0 0] H (.tup []) (Zd H o lid n Ls G ⟨JS f k,r⟩):=by
 have olt:=ZW ho;have llt:=ZW hl;obtain⟨n0,hn0⟩:∃n0,H.length=n0:=⟨_,rfl⟩
 have hlen:NR Tryz.prog 86 (.sl k (k*4) (Xl f) true)=some (I k):=by
  show Qd _ _=_;rw[FV];unfold Qd;exact N_ rfl
 obtain⟨k',rfl⟩:∃k',k=k'+1:=⟨k-1,by omega⟩
 by_cases h5:k'+1=5
 ·have hz:K3 Tryz.prog 86 3 (.sl (k'+1) ((k'+1)*4) (Xl f) true) (I ((5-(k'+1):Nat):Int)) (H ++ [ZAk 0 4 (Xf (qC r))])=some (.sl (k'+1) ((k'+1)*4) (Xl f) true,H ++ [.row 0 4 (Xf (qC r))]):=by
   show K3 _ _ _ _ (.int .i64 _) _=_;rw[F9,FV,Vy,M6,Ec,M7,N_ (by omega)]
  refine Ie H o lid n (k'+1) r _ _ _ Ls G _ (((H ++ [ZAk 0 4 (Xf (qC r))]).set lid (AR (Ls ++ [(⟨JS f (k'+1),r⟩:Ln)]) (n+1))).set o (Zf lid (n+1) G)) ho hn2 hk hlen hz (BG rfl _ _) (Qa hl _) (Qa ho _) hne (fun b ver es off n' e=>by cases e) rfl rfl rfl rfl (fun s hs=>?_) ?_ (Dc n Ls G _ hH llt) (KN ..)
  ·have hl2:s.h[lid]?=some (.row (n+1) ((n+1)*5) (Q1 (n*5) (Xv KR 5 KK Ls) 5 (Xf (AV.sl (k'+1) ((k'+1)*4) (Xl f) false :: qC r)))):=by
    rw[hs,L_ hne,U' (by rw[f_];omega)];rfl
   have h1:=Qh (m:=H.length) lid (Xv KR 5 KK (Ls ++ [(⟨JS f (k'+1),r⟩:Ln)])) hl2 (fun j _=>MR hn (by
    rw[N8];refine XI (JJ h5 (by omega) fun j hj=>?_);rw[Ka (N:=5) (fun i hi=>by show f i=(JS f (k'+1)).getD i 0;rw[Fu f _ hi,N_ (by omega)]) j (by omega)];exact X' _) j)
   have e:s.h.set lid (.row (n+1) ((n+1)*5) (Xv KR 5 KK (Ls ++ [(⟨JS f (k'+1),r⟩:Ln)])))=((H ++ [ZAk 0 4 (Xf (qC r))]).set lid (AR (Ls ++ [(⟨JS f (k'+1),r⟩:Ln)]) (n+1))).set o (Zf lid (n+1) G):=by
    rw[hs,ZAw _ _ hne,ZBl];rfl
   rw[e]at h1;exact h1
  ·rw[Z2 llt,Z2 (by rw[V_];exact olt)]
   exact CL (by rw[V_,V_]) _
 ·obtain⟨d,hd⟩:∃d,d=5-(k'+1):=⟨_,rfl⟩
  have hz:K3 Tryz.prog 86 3 (.sl (k'+1) ((k'+1)*4) (Xl f) true) (I ((5-(k'+1):Nat):Int)) (H ++ [ZAk 0 4 (Xf (qC r))])=some (.osl (n0+1) 0 4 0 5,H ++ [.row 0 4 (Xf (qC r)),.row 0 20 (Q1 ((k'+1)*4) (Xl f) (d*4) (KT TAD))]):=by
   show K3 _ _ _ _ (.int .i64 _) _=_;rw[F9,FV,Vy,M6,Ec,M7,M_ (by omega)];unfold Qd;rw[N_ ⟨by omega,N' _,by omega,by omega⟩,←hd];have e1:k'+1+((d:Nat):Int).toNat=5:=by omega
   rw[e1,f_,hn0,T_,P_];rfl
  obtain⟨g,hg⟩:∃g:Nat→Rat,g=fun i=>(JS f (k'+1)).getD i 0:=⟨_,rfl⟩
  obtain⟨A,hA⟩:∃A:AO,A=.row (n+1) ((n+1)*5) (Q1 (n*5) (Xv KR 5 KK Ls) 5 (Xf (ZDN (n0+1) 0 4 0 5 :: qC r))):=⟨_,rfl⟩
  obtain⟨B,hB⟩:∃B:AO,B=.row 0 20 (Q1 ((k'+1)*4) (Xl f) (d*4) (KT TAD)):=⟨_,rfl⟩
  rw[←hB]at hz;have k1:∀ (l:List AO),(H ++ ZAk 0 4 (Xf (qC r)) :: B :: l)[n0+1]?=some B:=fun l=>FM hn0 _ _ _
  refine Ie H o lid n (k'+1) r _ _ _ Ls G _ (((((H ++ [ZAk 0 4 (Xf (qC r)),B]).set lid A).set o (Zf lid (n+1) G)).set (n0+1) (AO.con 0 20 (Xl g))).set lid (AR (Ls ++ [(⟨JS f (k'+1),r⟩:Ln)]) (n+1))) ho hn2 hk hlen hz (BG rfl _ _) (Qa hl _) (Qa ho _) hne (fun b ver es off n' e=>by cases e) rfl rfl rfl rfl (fun s hs=>?_) ?_ (Dc n Ls G _ hH llt) (KN ..)
  ·replace hs:s.h=((H ++ [ZAk 0 4 (Xf (qC r)),B]).set lid A).set o (Zf lid (n+1) G):=by rw[hs,hA];rfl
   have h1:s.h[n0+1]?=some B:=by rw[hs,L_ (by omega),L_ (by omega)];exact k1 []
   have hl1:n0+1<s.h.length:=ZW h1;rw[hB]at h1;have s1:=Qh (m:=H.length) (n0+1) (Xl g) h1 (fun j hj=>by
    unfold Q1;by_cases hj1:j<(k'+1)*4
    ·rw[N_ hj1,hg,Ka (N:=k'+1) (fun i hi=>by show f i=(JS f (k'+1)).getD i 0;rw[Fu f _ (by omega),N_ hi]) j hj1]
     exact XC _ _
    ·rw[M_ hj1,N_ (by omega)]
     refine XI ?_;have e1:Xl g j=Xl (fun _=>0) (j-(k'+1)*4):=by
      unfold Xl;rw[hg];show(qC ((JS f (k'+1)).getD (j/4) 0)).getD (j%4) .any=(qC 0).getD ((j-(k'+1)*4)%4) .any;rw[Fu f _ (by omega),M_ (by omega),show(j-(k'+1)*4)%4=j%4 by omega]
     rw[e1];exact CX 0 _)
   have s2:=XB (m:=H.length) (s:={ s with h:=s.h.set (n0+1) (.row 0 20 (Xl g)) }) (n0+1) (U' hl1);simp only[ZBl]at s2;have h3:(s.h.set (n0+1) (.con 0 20 (Xl g)))[lid]?=some A:=by rw[L_ (by omega),hs,L_ hne,U' (by rw[f_];omega)]
   rw[hA]at h3;have s3:=Qh (m:=H.length) (s:={ s with h:=s.h.set (n0+1) (.con 0 20 (Xl g)) }) lid (Xv KR 5 KK (Ls ++ [(⟨JS f (k'+1),r⟩:Ln)])) h3 (fun j _=>MR hn (by
    rw[N8];exact Kh (U' hl1) (by omega) (by omega) fun j hj=>by rw[hg];exact XC _ _) j)
   rw[←hs];exact s1.trans (s2.trans s3)
  ·refine Ui (by simp[hn0]) (KN ..) fun a ha=>?_
   unfold Zd;by_cases e1:lid=a
   ·subst e1
    rw[U' (by simp;omega),L_ hne,U' llt]
   ·rw[L_ e1,L_ (by omega)]
    by_cases e2:o=a
    ·subst e2
     rw[U' (by simp;omega),U' (by rw[V_];exact olt)]
    ·rw[L_ e2,L_ e1,L_ e2,L_ e1,S_ ha]
theorem M3 {P:Program}{h:List AO}(e s b id ver es off N:Nat)(n:Int){z:List AV}{v k:Nat}{f:Nat→AV}(hz:Qj P e=some z)(hr:h[id]?=some (.row v k f)):UZ (some (e,s,b)) (some .i64) P (.osl id ver es off N) (.int .i64 n) h =
  if n=0 then some (.osl id ver es off N,h)else Qd (0<n∧0<N∧v=ver∧es=s∧off=0∧N*s≤k∧z.all AV.one=true∧b*(N+n)≤140737488355328∧(N:Int)+n≤9223372036854775807) (some (.osl id (v+1) s 0 (N+n.toNat),h.set id (.row (v+1) ((N+n.toNat)*s) (Q1 (N*s) f (n.toNat*s) (KT z))))):=by
 show(match Qj P e with
  |some z=>match h[id]? with
   |some (.row v k f)=>if n=0 then some (ZDN id ver es off N,h)else Qd (0<n∧0<N∧v=ver∧es=s∧off=0∧N*s≤k∧z.all AV.one=true∧b*(N+n)≤140737488355328∧(N:Int)+n≤9223372036854775807) (some (ZDN id (v+1) s 0 (N+n.toNat),h.set id (.row (v+1) ((N+n.toNat)*s) (Q1 (N*s) f (n.toNat*s) (KT z)))))
   |_=>none
  |none=>none)=_
 rw[hz];simp only[hr]
theorem lk (H:List AO)(o lid n k b ver:Nat)(r:Rat)(f:Nat→Rat)(Ls:List Ln)(G:List Rat)(ho:H[o]?=some (Zf lid n G)) (hl:H[lid]?=some (AR Ls n)) (hb:H[b]?=some (.row ver (k*4) (Xl f))) (hne:o≠lid) (hbo:b≠o) (hbl:b≠lid) (hn:Ls.length=n) (hn2:n<100000) (hk:k≤5) (hk0:0<k) (hH:KH H) :
  G' Tryz.prog 164 [qA r,.osl b ver 4 0 k,.ref o 0 0] H (.tup []) ((Zd H o lid n Ls G ⟨JS f k,r⟩).set b .dead):=by
 have olt:=ZW ho;have llt:=ZW hl;have blt:=ZW hb;obtain⟨n0,hn0⟩:∃n0,H.length=n0:=⟨_,rfl⟩
 have hlen:NR Tryz.prog 86 (.osl b ver 4 0 k)=some (I k):=by
  show Qd _ _=_;rw[FV];unfold Qd;exact N_ rfl
 obtain⟨g,hg⟩:∃g:Nat→Rat,g=fun i=>(JS f k).getD i 0:=⟨_,rfl⟩
 obtain⟨v',F,K6,hz,hK6,hF⟩:∃ (v':Nat) (F:Nat→AV) (K6:List AO),K3 Tryz.prog 86 3 (.osl b ver 4 0 k) (I ((5-k:Nat):Int)) (H ++ [ZAk 0 4 (Xf (qC r))])=some (.osl b v' 4 0 5,K6) ∧
   K6=(H ++ [ZAk 0 4 (Xf (qC r))]).set b (.row v' 20 F)∧∀j,j<20→B_ (F j) (Xl g j):=by
  by_cases h5:k=5
  ·subst h5
   refine⟨ver,Xl f,H ++ [ZAk 0 4 (Xf (qC r))],?_,?_,fun j hj=>?_⟩
   ·show K3 _ _ _ _ (.int .i64 _) _=_
    rw[F9,FV,Vy];rw[M3 _ _ _ _ _ _ _ _ _ Ec (Qa hb _)];rfl
   ·exact ZAg fun i=>by
     by_cases e:b=i
     ·subst e;rw[U' (by rw[f_];omega),Qa hb]
     ·rw[L_ e]
   ·rw[hg,Ka (N:=5) (fun i hi=>by show f i=(JS f 5).getD i 0;rw[Fu f _ hi,N_ hi]) j (by omega)]
    exact X' _
  ·obtain⟨d,hd⟩:∃d,d=5-k:=⟨_,rfl⟩
   refine⟨ver+1,Q1 (k*4) (Xl f) (d*4) (KT TAD),(H ++ [ZAk 0 4 (Xf (qC r))]).set b (.row (ver+1) 20 (Q1 (k*4) (Xl f) (d*4) (KT TAD))),?_,rfl,fun j hj=>?_⟩
   ·show K3 _ _ _ _ (.int .i64 _) _=_
    rw[F9,FV,Vy];rw[M3 _ _ _ _ _ _ _ _ _ Ec (Qa hb _),M_ (by omega)];unfold Qd;rw[N_ ⟨by omega,by omega,rfl,rfl,rfl,N' _,by rfl,by omega,by omega⟩,←hd];have e1:k+((d:Nat):Int).toNat=5:=by omega
    rw[e1,T_];rfl
   ·unfold Q1
    by_cases hj1:j<k*4
    ·rw[N_ hj1,hg,Ka (N:=k) (fun i hi=>by show f i=(JS f k).getD i 0;rw[Fu f _ (by omega),N_ hi]) j hj1]
     exact X' _
    ·rw[M_ hj1,N_ (by omega)]
     have e1:Xl g j=Xl (fun _=>0) (j-k*4):=by
      unfold Xl;rw[hg];show(qC ((JS f k).getD (j/4) 0)).getD (j%4) .any=(qC 0).getD ((j-k*4)%4) .any;rw[Fu f _ (by omega),M_ (by omega),show(j-k*4)%4=j%4 by omega]
     rw[e1];exact CX 0 _
 obtain⟨A,hA⟩:∃A:AO,A=.row (n+1) ((n+1)*5) (Q1 (n*5) (Xv KR 5 KK Ls) 5 (Xf (ZDN b v' 4 0 5 :: qC r))):=⟨_,rfl⟩
 have hk6:∀ {a:Nat} {x:AO},a≠b→H[a]?=some x→K6[a]?=some x:=fun ha hx=>by rw[hK6,L_ (v_ ha)];exact Qa hx _
 have hl6:K6.length=n0+1:=by rw[hK6,V_,f_,hn0];rfl
 refine Ie H o lid n k r _ _ _ Ls G _ ((((K6.set lid A).set o (Zf lid (n+1) G)).set lid (AR (Ls ++ [(⟨JS f k,r⟩:Ln)]) (n+1))).set b AO.dead) ho hn2 hk hlen hz ?_ (hk6 (v_ hbl) hl) (hk6 (v_ hbo) ho) hne (fun b' ver es off n' e=>by cases e;exact hbo) rfl rfl rfl rfl (fun s hs=>?_) ?_ ?_ (by rw[V_];exact KN ..)
 ·rw[hK6,L_ (by omega)];exact BG rfl _ _
 ·replace hs:s.h=(K6.set lid A).set o (Zf lid (n+1) G):=by rw[hs,hA];rfl
  have h1:s.h[b]?=some (.row v' 20 F):=by rw[hs,L_ (v_ hbo),L_ (v_ hbl),hK6,U' (by rw[f_];omega)]
  have hl1:b<s.h.length:=ZW h1;have s1:=Qh (m:=H.length) b (Xl g) h1 (fun j hj=>XI (hF j hj));have s2:=XB (m:=H.length) (s:={ s with h:=s.h.set b (.row v' 20 (Xl g)) }) b (U' hl1);simp only[ZBl]at s2;have h3:(s.h.set b (.con v' 20 (Xl g)))[lid]?=some A:=by rw[L_ hbl,hs,L_ hne,U' (by omega)]
  rw[hA]at h3;have s3:=Qh (m:=H.length) (s:={ s with h:=s.h.set b (.con v' 20 (Xl g)) }) lid (Xv KR 5 KK (Ls ++ [(⟨JS f k,r⟩:Ln)])) h3 (fun j _=>MR hn (by
   rw[N8];exact Kh (U' hl1) (by omega) (by omega) fun j hj=>by rw[hg];exact XC _ _) j)
  have s4:=Nw (m:=H.length) (s:={ s with h:=(s.h.set b (.con v' 20 (Xl g))).set lid (.row (n+1) ((n+1)*5) (Xv KR 5 KK (Ls ++ [(⟨JS f k,r⟩:Ln)]))) }) b (by
   show(ZAl _ _ _)[b]?=_;rw[L_ (v_ hbl),U' hl1])
  have e4:(((s.h.set b (.con v' 20 (Xl g))).set lid (.row (n+1) ((n+1)*5) (Xv KR 5 KK (Ls ++ [(⟨JS f k,r⟩:Ln)])))).set b AO.dead)=(s.h.set lid (AR (Ls ++ [(⟨JS f k,r⟩:Ln)]) (n+1))).set b AO.dead:=by
   rw[ZAw _ _ (v_ hbl),ZBl,ZAw _ _ hbl];rfl
  simp only[e4]at s4;rw[←hs];exact s1.trans (s2.trans (s3.trans s4))
 ·refine Ui (by simp;omega) (by rw[V_];exact KN ..) fun a ha=>?_
  by_cases e0:b=a
  ·subst e0
   rw[U' (by simp;omega),U' (by rw[KN];exact blt)]
  rw[L_ e0,L_ e0];unfold Zd;by_cases e1:lid=a
  ·subst e1
   rw[U' (by simp;omega),L_ hne,U' llt]
  ·rw[L_ e1]
   by_cases e2:o=a
   ·subst e2
    rw[U' (by simp;omega),U' (by rw[V_];exact olt)]
   ·rw[L_ e2,L_ e1,L_ e2,L_ e1,hK6,L_ e0,S_ ha]
 ·exact Dd (Dc n Ls G _ hH llt) fun m _=>trivial
theorem lj (H l:List AO){o lid:Nat}(n:Nat)(Ls:List Ln)(G:List Rat)(x:Ln)(ho:o<H.length)(hl:lid<H.length):Zd (H ++ l) o lid n Ls G x=Zd H o lid n Ls G x ++ l:=by
 unfold Zd;rw[Z2 hl,Z2 (by rw[V_];exact ho)]
theorem wa {H:List AO}{o lid:Nat}(n:Nat)(Ls:List Ln)(G:List Rat)(x:Ln)(ho:o<H.length):(Zd H o lid n Ls G x)[o]?=some (Zf lid (n+1) G):=by
 unfold Zd;rw[U' (by rw[V_];exact ho)]
theorem vZ {H:List AO}{o lid:Nat}(n:Nat)(Ls:List Ln)(G:List Rat)(x:Ln)(hl:lid<H.length)(hne:o≠lid):(Zd H o lid n Ls G x)[lid]?=some (AR (Ls ++ [x]) (n+1)):=by
 unfold Zd;rw[L_ hne,U' hl]
theorem qK {H:List AO}{o lid a:Nat}(n:Nat)(Ls:List Ln)(G:List Rat)(x:Ln)(h1:a≠o)(h2:a≠lid):(Zd H o lid n Ls G x)[a]?=H[a]?:=by
 unfold Zd;rw[L_ (v_ h1),L_ (v_ h2)]
theorem Cg {H:List AO}{o lid n:Nat}{Ls:List Ln}{G:List Rat}(x:Ln)(ho:H[o]?=some (Zf lid n G)) (hl:H[lid]?=some (AR Ls n)) (hne:o≠lid):K1 H (Zd H o lid n Ls G x):=by
 have h1:=QT (ob:=AR (Ls ++ [x]) (n+1)) hl (by simp[AR]) (by simp[AR]);have h2:=QT (h:=H.set lid (AR (Ls ++ [x]) (n+1))) (ob:=Zf lid (n+1) G) (by rw[L_ (v_ hne)];exact ho) (by simp[Zf]) (by simp[Zf]);intro a w k f;exact(h1 a w k f).trans (h2 a w k f)
theorem V8 {H:List AO}{o lid:Nat}(n:Nat)(Ls:List Ln)(G:List Rat)(x:Ln)(h:QY H):QY (Zd H o lid n Ls G x):=ZK (ZK h (by simp[AR])) (by simp[Zf])
theorem lP (f:Nat→Rat)(k:Nat):JS (AN f k) k=JS f k:=by
 unfold JS;refine ZAL fun i _=>?_
 by_cases h:i<k
 ·rw[N_ h,N_ h];exact N_ h
 ·rw[M_ h,M_ h]
theorem jJ (H:List AO)(o lid mid n k:Nat)(f:Nat→Rat)(Ls:List Ln)(G:List Rat)(ho:H[o]?=some (Zf lid n G)) (hl:H[lid]?=some (AR Ls n)) (TBO:H[mid]?=some (.con 0 1 (Xf [.fn 164 [.ref o 0 0]]))) (hne:o≠lid) (hmo:mid≠o) (hml:mid≠lid)
  (hn:Ls.length=n) (hn2:n<90000) (hk:k≤5) (hk0:0<k) (hH:KH H) (hB:QY H) :
  G' Tryz.prog 167 [.sl k (k*4) (Xl f) true,.ref mid 0 0,.ptr 4 (Xf (qC 0)) 0] H (.tup []) (Zd (Zd H o lid n Ls G ⟨JS f k,0⟩) o lid (n+1) (Ls ++ [⟨JS f k,0⟩]) G ⟨JS (fun i=>-f i) k,0⟩):=by
 have olt:=ZW ho;have llt:=ZW hl;have mlt:=ZW TBO;obtain⟨n0,hn0⟩:∃n0,H.length=n0:=⟨_,rfl⟩
 have c1:=Yq H o lid n k 0 f Ls G ho hl hne hn (by omega) hk hk0 hH;have ce1:=Cg ⟨JS f k,0⟩ ho hl hne;obtain⟨H2,hH2⟩:∃H2,H2=Zd H o lid n Ls G ⟨JS f k,0⟩:=⟨_,rfl⟩
 obtain⟨L2,hL2⟩:∃L2,L2=Ls ++ [(⟨JS f k,0⟩:Ln)]:=⟨_,rfl⟩
 rw[←hH2,←hL2];rw[←hH2]at c1 ce1;have l2:H2.length=n0:=by rw[hH2,KN,hn0]
 have TEL:KH H2:=hH2▸Dc n Ls G _ hH llt;have hB2:QY H2:=hH2▸V8 n Ls G _ hB;have o2:H2[o]?=some (Zf lid (n+1) G):=hH2▸wa n Ls G _ olt;have l2':H2[lid]?=some (AR L2 (n+1)):=by rw[hH2,hL2];exact vZ n Ls G _ llt hne
 have m2:H2[mid]?=some (.con 0 1 (Xf [.fn 164 [.ref o 0 0]])):=by rw[hH2,qK n Ls G _ hmo hml];exact TBO
 obtain⟨nf,hnf⟩:∃nf:Nat→Rat,nf=fun i=>-f i:=⟨_,rfl⟩
 rw[←hnf];have e0:=BG l2;have e1:=FM l2;have el:=Zz l2;have es0:=CK l2;have es1:=GX l2;have em:=Qa m2;have TE8:=TBO;have m2':=m2;have sz:A_ (.ptr 4 (Xf (qC 0)) 0):=XP fun j _=>Xe (l:=qC 0) (by simp[qC,Xc,X5]) j
 refine G'.TAo (fn:=Tryz.f167) Tryz.call167 Tryz.func167 rfl mixed 7 [11,12,13] [] [] (by kernel_rfl) (L' rfl) (X4 (Z0 (by simp))) (fun p hp=>Dc (n+1) L2 G _ TEL (by omega) p hp _ (by rw[KN,l2,hn0];exact N' _)) (Xk ?_);simp(disch:=omega)only[P',TE8,qC,↓Xd,wG,seval];refine Xz rfl c1 ce1 (Qg hB) (X1 _) ?_;simp(disch:=omega)only[m2',↓Xd,wG,seval];have fb:J9 (n0+1) (.sl k (k*4) (Xl f) true)=True:=K_ (X4 (QF fun j _=>ZR _ j));have fz:J9 (n0+1) (.ptr 4 (Xf (qC 0)) 0)=True:=K_ (X4 sz);have fm:J9 (n0+1) (.ref mid 0 0)=True:=K_ (QX (by omega));have fk:∀i,J9 (n0+1) (.osl n0 i 4 0 i)=True:=fun i=>K_ (JB (by omega))
 have hO:∀v m g,∀p∈H2 ++ [ZAk v m (Xl g)],XX (n0+1) p:=fun v m g p hp=>by
  rcases m_.1 hp with h |h
  ·exact TEL p h _ (by omega)
  ·rw[a_.1 h];exact Ae _ _ _ _
 refine Xi (fun i:Nat=>⟨7,[11,12,13],[.sl k (k*4) (Xl f) true,.ref mid 0 0,.ptr 4 (Xf (qC 0)) 0,.any,.osl n0 i 4 0 i,.any,.any],[(11,.sl k (k*4) (Xl f) true),(12,I k),(13,I i)],H2 ++ [.row i (i*4) (Xl (AN nf i))]⟩) (fun i=>i≤k) (fun i=>k-i) 0 (by omega)
  (ZA8 (JM 4 4 (Xl (AN nf 0)) rfl) (Xh rfl (by simp only[ZAm];exact⟨.inr rfl,.inr rfl,.inr rfl,.inl rfl,.inr (by rw[←l2]),.inl rfl,.inl rfl,trivial⟩) (by simp[ZAm,Xu,XJ,I]) (by simp[ZAm]))) ?_
 intro i hi next
 by_cases hi2:i<k
 ·have c2:=Z6 (f i)
  have w1:=QA f i;have w2:=Jt f i;have hap:=TJ (AN nf i) i (nf i);rw[Fg]at hap;have fi:nf i = -f i:=by rw[hnf]
  rw[fi]at hap;have nx:=next (i+1)
  refine Xk ?_;simp(disch:=omega)only[em,e0,e1,el,es0,es1,w1,w2,qC,P_,↓Xd,wG,seval];refine X2 c2 rfl ?_;simp(disch:=omega)only[em,e0,e1,el,es0,es1,qC,P_,↓Xd,wG,seval];exact⟨fun j hj=>VW (-f i) j hj,nx _ (by omega) (by omega) (XD (m:=n0+1) (by show H.length≤n0+1;omega) rfl (⟨.inr rfl,.inr rfl,.inr rfl,.inl rfl,.inr rfl,.inl rfl,.inl rfl,trivial⟩) (by simp[Xu,XJ,I]) (by rw[Af l2,←hap];rfl) (by simp[XK,fb,fz,fm,fk]) (by simp[XK,fb]) (hO _ _ _))⟩
 ·obtain rfl:i=k:=by omega
  clear next
  have c3:=lk (H2 ++ [ZAk i (i*4) (Xl (AN nf i))]) o lid (n+1) i n0 i 0 (AN nf i) L2 G (Qa o2 _) (Qa l2' _) (e0 _ _) hne (by omega) (by omega) (by rw[hL2,f_,hn];rfl) (by omega) hk hk0 (fun p hp q hq=>by
   rw[el]at hq;exact(by
    rcases m_.1 hp with h |h
    ·exact TEL p h _ (by omega)
    ·rw[a_.1 h];exact Ae _ _ _ _))
  rw[lP,lj _ _ _ _ _ _ (by omega) (by omega)]at c3;have ce3:K1 (H2 ++ [ZAk i (i*4) (Xl (AN nf i))]) ((Zd H2 o lid (n+1) L2 G ⟨JS nf i,0⟩ ++ [ZAk i (i*4) (Xl (AN nf i))]).set n0 .dead):=by
   have h1:=Gb (by rw[KN]) (Cg ⟨JS nf i,0⟩ o2 l2' hne) [ZAk i (i*4) (Xl (AN nf i))];have h2:=QT (h:=Zd H2 o lid (n+1) L2 G ⟨JS nf i,0⟩ ++ [ZAk i (i*4) (Xl (AN nf i))]) (ob:=.dead) (BG (n:=n0) (by rw[KN,l2]) _ _) (by simp) (by simp);intro a w k f;exact(h1 a w k f).trans (h2 a w k f)
  refine Xk ?_;simp(disch:=omega)only[em,qC,P_,↓Xd,wG,seval];refine Xz rfl c3 ce3 (Qg (KM hB2 fun p hp=>by rw[a_.1 hp];simp)) (X1 _) ?_;simp(disch:=omega)only[↓Xd,wG,seval];refine YR rfl ?_;show List.take H.length (ZAl _ n0 _)=_;rw[CK (by rw[KN,l2]),hn0];exact CL (by rw[KN,l2]) _
def bC (b:BB):List AV:=vC b.c ++ qC b.TAX ++ qC b.TAJ ++ qC b.TAB
def gC (g:GG):List AV:=vC g.p ++ vC g.q ++ vC g.n ++ qC g.force ++ qC g.E_
theorem KG (b:BB):∀a∈bC b,A_ a:=by simp[bC,vC,qC,Xc,X5]
theorem Ke (g:GG):∀a∈gC g,A_ a:=by simp[gC,vC,qC,Xc,X5]
def bA (b:BB):AV:=.agg (bC b)
def gA (g:GG):AV:=.agg (gC g)
theorem Jz (b:BB):A_ (bA b):=QD (KG b)
theorem J2 (g:GG):A_ (gA g):=QD (Ke g)
theorem J4 (b:BB):bC b=[.bool (sg b.c.x),X8 (Xb b.c.x.num.natAbs),.bool false,X8 (Xb (qd b.c.x)),.bool (sg b.c.y),X8 (Xb b.c.y.num.natAbs),.bool false,X8 (Xb (qd b.c.y)),.bool (sg b.TAX),X8 (Xb b.TAX.num.natAbs),.bool false,X8 (Xb (qd b.TAX)),
 .bool (sg b.TAJ),X8 (Xb b.TAJ.num.natAbs),.bool false,X8 (Xb (qd b.TAJ)),.bool (sg b.TAB),X8 (Xb b.TAB.num.natAbs),.bool false,X8 (Xb (qd b.TAB))]:=rfl
theorem QZ (g:GG):gC g=[.bool (sg g.p.x),X8 (Xb g.p.x.num.natAbs),.bool false,X8 (Xb (qd g.p.x)),.bool (sg g.p.y),X8 (Xb g.p.y.num.natAbs),.bool false,X8 (Xb (qd g.p.y)),
 .bool (sg g.q.x),X8 (Xb g.q.x.num.natAbs),.bool false,X8 (Xb (qd g.q.x)),.bool (sg g.q.y),X8 (Xb g.q.y.num.natAbs),.bool false,X8 (Xb (qd g.q.y)),
 .bool (sg g.n.x),X8 (Xb g.n.x.num.natAbs),.bool false,X8 (Xb (qd g.n.x)),.bool (sg g.n.y),X8 (Xb g.n.y.num.natAbs),.bool false,X8 (Xb (qd g.n.y)),
 .bool (sg g.force),X8 (Xb g.force.num.natAbs),.bool false,X8 (Xb (qd g.force)),.bool (sg g.E_),X8 (Xb g.E_.num.natAbs),.bool false,X8 (Xb (qd g.E_))]:=rfl
theorem gF (g:GG):Xf (gC g) 0=.bool (sg g.p.x)∧Xf (gC g) 1=X8 (Xb g.p.x.num.natAbs)∧Xf (gC g) 2=.bool false∧Xf (gC g) 3=X8 (Xb (qd g.p.x))∧Xf (gC g) 4=.bool (sg g.p.y)∧Xf (gC g) 5=X8 (Xb g.p.y.num.natAbs)∧Xf (gC g) 6=.bool false∧Xf (gC g) 7=X8 (Xb (qd g.p.y))∧Xf (gC g) 8=.bool (sg g.q.x)∧Xf (gC g) 9=X8 (Xb g.q.x.num.natAbs)∧Xf (gC g) 10=.bool false∧Xf (gC g) 11=X8 (Xb (qd g.q.x))∧Xf (gC g) 12=.bool (sg g.q.y)∧Xf (gC g) 13=X8 (Xb g.q.y.num.natAbs)∧Xf (gC g) 14=.bool false∧Xf (gC g) 15=X8 (Xb (qd g.q.y))∧Xf (gC g) 16=.bool (sg g.n.x)∧Xf (gC g) 17=X8 (Xb g.n.x.num.natAbs)∧Xf (gC g) 18=.bool false∧Xf (gC g) 19=X8 (Xb (qd g.n.x))∧Xf (gC g) 20=.bool (sg g.n.y)∧Xf (gC g) 21=X8 (Xb g.n.y.num.natAbs)∧Xf (gC g) 22=.bool false∧Xf (gC g) 23=X8 (Xb (qd g.n.y))∧Xf (gC g) 24=.bool (sg g.force)∧Xf (gC g) 25=X8 (Xb g.force.num.natAbs)∧Xf (gC g) 26=.bool false∧Xf (gC g) 27=X8 (Xb (qd g.force))∧Xf (gC g) 28=.bool (sg g.E_)∧Xf (gC g) 29=X8 (Xb g.E_.num.natAbs)∧Xf (gC g) 30=.bool false∧Xf (gC g) 31=X8 (Xb (qd g.E_)):=by
 refine⟨rfl,rfl,rfl,rfl,rfl,rfl,rfl,rfl,rfl,rfl,rfl,rfl,rfl,rfl,rfl,rfl,rfl,rfl,rfl,rfl,rfl,rfl,rfl,rfl,rfl,rfl,rfl,rfl,rfl,rfl,rfl,rfl⟩
theorem bF (b:BB):Xf (bC b) 0=.bool (sg b.c.x)∧Xf (bC b) 1=X8 (Xb b.c.x.num.natAbs)∧Xf (bC b) 2=.bool false∧Xf (bC b) 3=X8 (Xb (qd b.c.x))∧Xf (bC b) 4=.bool (sg b.c.y)∧Xf (bC b) 5=X8 (Xb b.c.y.num.natAbs)∧Xf (bC b) 6=.bool false∧Xf (bC b) 7=X8 (Xb (qd b.c.y))∧Xf (bC b) 8=.bool (sg b.TAX)∧Xf (bC b) 9=X8 (Xb b.TAX.num.natAbs)∧Xf (bC b) 10=.bool false∧Xf (bC b) 11=X8 (Xb (qd b.TAX))∧Xf (bC b) 12=.bool (sg b.TAJ)∧Xf (bC b) 13=X8 (Xb b.TAJ.num.natAbs)∧Xf (bC b) 14=.bool false∧Xf (bC b) 15=X8 (Xb (qd b.TAJ))∧Xf (bC b) 16=.bool (sg b.TAB)∧Xf (bC b) 17=X8 (Xb b.TAB.num.natAbs)∧Xf (bC b) 18=.bool false∧Xf (bC b) 19=X8 (Xb (qd b.TAB)):=by
 refine⟨rfl,rfl,rfl,rfl,rfl,rfl,rfl,rfl,rfl,rfl,rfl,rfl,rfl,rfl,rfl,rfl,rfl,rfl,rfl,rfl⟩
def bP (b:BB):AV:=.ptr 20 (Xf (bC b)) 0
def gP (g:GG):AV:=.ptr 32 (Xf (gC g)) 0
def Jo (x:Rat):AV:=.ptr 4 (Xf (qC x)) 0
theorem nD {n m:Nat}{f f':Nat→AV}(hf:∀j,j<m→f j=f' j):B_ (.sl n m f true) (.sl n m f' true):=fun c v h=>by
 cases h with
 |sl b base _ _ cap _ _ us hS hc hr hn ht=>exact .sl b base n m cap f' true us hS hc (fun j hj=>by rw[←hf j hj];exact hr j hj) hn ht
 |slz a cap _ _ ht=>exact .slz _ _ _ _ ht
theorem I8 (l:List Rat):∀j,j<l.length*4→Xf (l.flatMap qC) j=Xl (fun i=>l.getD i 0) j:=by
 induction l with
 |nil=>intro j hj;simp at hj
 |cons x l ih =>
  intro j hj;show(qC x ++ l.flatMap qC).getD j .any=_;by_cases h:j<4
  ·rw[K',S_ (by exact h),←K']
   unfold Xl;rw[show j/4=0 by omega,show j%4=j by omega];rfl
  ·have h4:(qC x).length=4:=rfl
   rw[K',d_ (by omega),h4,←K'];have:=ih (j-4) (by simp at hj;omega);rw[show(l.flatMap qC).getD (j-4) .any=Xf (l.flatMap qC) (j-4)from rfl,this];unfold Xl;rw[show j/4=(j-4)/4+1 by omega,show j%4=(j-4)%4 by omega];rfl
theorem JO (l:List Rat)(n m:Nat)(L:List AV)(hL:L=l.flatMap qC)(hn:n=l.length)(hm:m=l.length*4):B_ (.sl n m (Xf L) true) (.sl n (n*4) (Xl fun i=>l.getD i 0) true):=by
 subst hn hm hL;exact nD fun j hj=>I8 l j hj
def Aj (b:BB)(g:GG)(n:Nat)(Ls:List Ln):List AO:=[.con 0 20 (Xf (bC b)),.con 0 32 (Xf (gC g)),.row 0 3 (Xf [I 0,.sl 0 0 (fun _=>.any) true,.sl 0 0 (fun _=>.any) true]),.con 0 4 (Xf (qC 0)),.con 0 4 (Xf (qC 1)),Zf 7 n TAN,.con 0 1 (Xf [.fn 164 [.ref 5 0 0]]),AR Ls n,.row 0 4 (Xf (qC (-g.E_))),.row 0 4 (Xf (qC (QM g.n))),.row 0 4 (Xf (qC (-1)))]
theorem GD (b:BB)(g:GG)(n:Nat)(Ls:List Ln):KH (Aj b g n Ls):=fun o ho q hq=>by
 have hq:11≤q:=hq;simp only[Aj,b_,V',or_false]at ho;rcases ho with rfl |rfl |rfl |rfl |rfl |rfl |rfl |rfl |rfl |rfl |rfl
 ·exact fun j _=>X4 (Xe (KG b) j)
 ·exact fun j _=>X4 (Xe (Ke g) j)
 ·exact QN (by simp[X9,J7])
 ·exact fun j _=>X4 (Xe (XV 0) j)
 ·exact fun j _=>X4 (Xe (XV 1) j)
 ·exact Si _ _ (by omega)
 ·exact fun j _=>BV q (by
   intro x hx;rw[a_.1 hx];exact iJ (by intro x hx;rw[a_.1 hx];exact QX (by omega))) j
 ·exact Sh _ _ _
 ·exact Fa _ _ _
 ·exact Fa _ _ _
 ·exact Fa _ _ _
theorem Fe (b:BB)(g:GG)(n:Nat)(Ls:List Ln):QY (Aj b g n Ls):=fun o ho=>by
 simp only[Aj,b_,V',or_false]at ho;rcases ho with rfl |rfl |rfl |rfl |rfl |rfl |rfl |rfl |rfl |rfl |rfl <;> simp[Zf,AR]
theorem th (b:BB)(g:GG)(n k:Nat)(Ls:List Ln)(r:Rat)(f:Nat→Rat)(hn:Ls.length=n)(hn2:n<1000)(hk:k≤5)(hk0:0<k)(l:List AO)(hl:∀o∈l,∀q,XX q o) :
  G' Tryz.prog 164 [qA r,.sl k (k*4) (Xl f) true,.ref 5 0 0] (Aj b g n Ls ++ l) (.tup []) (Aj b g (n+1) (Ls ++ [⟨JS f k,r⟩]) ++ l)∧K1 (Aj b g n Ls ++ l) (Aj b g (n+1) (Ls ++ [⟨JS f k,r⟩]) ++ l):=by
 have h1:(Aj b g n Ls ++ l)[5]?=some (Zf 7 n TAN):=rfl;have h2:(Aj b g n Ls ++ l)[7]?=some (AR Ls n):=rfl;have h:=Yq (Aj b g n Ls ++ l) 5 7 n k r f Ls TAN h1 h2 (by omega) hn (by omega) hk hk0 (fun o ho q hq=>by
  rw[f_]at hq;rcases m_.1 ho with h |h
  ·exact GD b g n Ls o h q (by omega)
  ·exact hl o h q)
 exact⟨h,Cg _ h1 h2 (by omega)⟩
theorem vw (b:BB)(g:GG)(n k:Nat)(Ls:List Ln)(f:Nat→Rat)(hn:Ls.length=n)(hn2:n<1000)(hk:k≤5)(hk0:0<k)(l:List AO)(hl:∀o∈l,(∀q,XX q o)∧o≠.D_) :
  G' Tryz.prog 167 [.sl k (k*4) (Xl f) true,.ref 6 0 0,Jo 0] (Aj b g n Ls ++ l) (.tup []) (Aj b g (n+2) (Ls ++ [⟨JS f k,0⟩] ++ [⟨JS (fun i=>-f i) k,0⟩]) ++ l)∧K1 (Aj b g n Ls ++ l) (Aj b g (n+2) (Ls ++ [⟨JS f k,0⟩] ++ [⟨JS (fun i=>-f i) k,0⟩]) ++ l):=by
 have h1:(Aj b g n Ls ++ l)[5]?=some (Zf 7 n TAN):=rfl;have h2:(Aj b g n Ls ++ l)[7]?=some (AR Ls n):=rfl;have h:=jJ (Aj b g n Ls ++ l) 5 7 6 n k f Ls TAN h1 h2 rfl (by omega) (by omega) (by omega) hn (by omega) hk hk0 (fun o ho q hq=>by
  rw[f_]at hq;rcases m_.1 ho with h |h
  ·exact GD b g n Ls o h q (by omega)
  ·exact(hl o h).1 q) (KM (Fe b g n Ls) fun o ho=>(hl o ho).2)
 refine⟨h,fun a w k' f'=>?_⟩;have g1:=Cg (x:=⟨JS f k,0⟩) h1 h2 (by omega) a w k' f';have g2:=Cg (H:=Zd (Aj b g n Ls ++ l) 5 7 n Ls TAN ⟨JS f k,0⟩) (x:=⟨JS (fun i=>-f i) k,0⟩) (o:=5) (lid:=7) (n:=n+1) (Ls:=Ls ++ [⟨JS f k,0⟩]) (G:=TAN) rfl rfl (by omega) a w k' f';exact g1.trans g2
end
end Go.Ab.N
