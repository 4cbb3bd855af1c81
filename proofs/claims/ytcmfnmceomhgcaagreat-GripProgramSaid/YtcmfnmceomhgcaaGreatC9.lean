/- Contracts of functions, for every argument that fits. -/
import Derived.Test.YtcmfnmceomhgcaaGreatC8
set_option linter.unusedSimpArgs false
set_option linter.unusedVariables false
open Nat renaming reducePow → Y1, reduceLT → Y2, reduceLeDiff → Y3, reduceEqDiff → Y4, reduceAdd → Y5, reduceMul → Y6, reduceSub → Y7, reduceBEq → Y8, reduceDiv → Y9, reduceMod → YA
namespace Go.Ab.N
open Go Go.RowKit Go.Proofs
noncomputable section
set_option maxRecDepth 10000
set_option maxHeartbeats 4000000
open Classical
def BM (k:Int)(x y:List Rat)(val:Rat):List AV:=[I k,Qb x,Qb y] ++ qC val
def FW (k:Int)(x y:List Rat)(val:Rat):AV:=.agg (BM k x y val)
theorem Pf (k:Int)(x y:List Rat)(val:Rat):∀a∈BM k x y val,Settled a:=by simp[BM,qC,Xb,Xz,Xc,X5]
theorem Bz (k:Int)(x y:List Rat)(val:Rat):Settled (FW k x y val):=Qr (Pf k x y val)
theorem W2 {m n e:Nat}{T:Tb}(h:T.Ok m n e){E:Nat}(hE:∀i,i<m→qb (T.t i n)≤E) (h0:qb 0≤E) (k:Nat):qb (KN m n T k)≤E:=by
 by_cases hex:∃i,i<m∧T.b i=k
 ·obtain⟨i,hi,rfl⟩:=hex
  rw[(P6 h hi).1];exact hE i hi
 ·rw[show KN m n T k=0 from Kl fun i hi=>if_neg fun g=>hex ⟨i,hi,g⟩];exact h0
def E2 (v m:Nat)(k:Nat):Rat:=if 2*v+m≤k∧k<2*v+2*m then 1 else 0
def iO (n0 m:Nat):Lay:=⟨n0+1,0,n0+2,m,n0+3,m,0,0,fun j=>n0+4+4*j+1,fun _=>0⟩
theorem iT (L:List Ln)(T:Tb)(N n0:Nat){j:Nat}:∀ {i:Nat},j<i→(nV L T N n0 i)[4*j+1]?=some (.row 0 ((N+1)*4) (Xn (A6 N (T.t j))))
 |i+1,h=>by
  unfold nV;by_cases e:j=i
  ·subst e
   rw[List.getElem?_append_right (by rw[Gn];omega),Gn,show 4*j+1-4*j=1 by omega];rfl
  ·rw[List.getElem?_append_left (by rw[Gn];omega)]
   exact iT L T N n0 (by omega)
theorem az (H:List AO)(v:Nat)(L:List Ln)(G:List Rat)(T:Tb)(N n0:Nat)(hn:H.length=n0)(hb:∀ i,i<L.length→T.b i=2*v+i)(hH:Kt H)(hB:QZ H) :
  Laid ((Pr H v L G T N).set (n0+3) (D7 (iO n0 L.length) L.length T.b)) (iO n0 L.length) v L.length N T (.sl 0 0 (fun _=>.any) true):=by
 have len:(I2 H v L G T N L.length).length=n0+4+4*L.length:=by rw[Gp,hn]
 have len2:(Pr H v L G T N).length=n0+4+4*L.length:=by unfold Pr;rw[List.length_set,len]
 have ne:∀a,a≠n0→(Pr H v L G T N)[a]?=(I2 H v L G T N L.length)[a]?:=fun a ha=>by unfold Pr;rw[List.getElem?_set_ne (by omega)]
 refine⟨?_,?_,List.getElem?_set_self (by rw[len2];omega),fun i hi=>?_,?_,?_,?_,?_,?_,?_,?_,?_,?_⟩
 ·show _[n0+1]?=_
  rw[List.getElem?_set_ne (by omega),ne _ (by omega)];unfold I2;rw[hn];exact FD hn _ _ _
 ·show _[n0+2]?=_
  rw[List.getElem?_set_ne (by omega),ne _ (by omega)];unfold I2;rw[hn];exact YW hn _ _ _ _
 ·show _[n0+4+4*i+1]?=_
  rw[List.getElem?_set_ne (by omega),ne _ (by omega)];unfold I2;rw[hn,List.getElem?_append_right (by omega),hn,show n0+4+4*i+1-n0=(4*i+1)+4 by omega];exact iT L T N n0 hi
 ·show n0+1≠n0+2;omega
 ·show n0+1≠n0+3;omega
 ·intro i _;show n0+1≠n0+4+4*i+1;omega
 ·show n0+2≠n0+3;omega
 ·intro i _;show n0+2≠n0+4+4*i+1;omega
 ·intro i _;show n0+3≠n0+4+4*i+1;omega
 ·intro i j _ _ h
  have h:n0+4+4*i+1=n0+4+4*j+1:=h;omega
 ·exact CI (CI (PR v L G T N _ hH) fun k _=>trivial) fun k _=>fun j _=>X6 (Xb _)
 ·exact Zd (Zd (Nk v L G T N _ hB) (by simp)) (by simp[D7])
theorem VX (L:List Ln)(T:Tb)(N n0:Nat):∀i,∀o∈nV L T N n0 i,∀ver n f,o≠.con ver n f
 |0,o,ho=>absurd ho (List.not_mem_nil)
 |i+1,o,ho=>by
  rcases List.mem_append.1 ho with h |h
  ·exact VX L T N n0 i o h
  ·simp only[uZ,List.mem_cons,List.not_mem_nil,or_false]at h
   rcases h with rfl |rfl |rfl |rfl <;> simp[XU]
theorem YG (H:List AO)(v:Nat)(L:List Ln)(G:List Rat)(T:Tb)(N:Nat):JP H (Pr H v L G T N):=by
 intro a ver n f;unfold Pr;by_cases ha:a<H.length
 ·rw[List.getElem?_set_ne (by omega)]
  unfold I2;rw[List.getElem?_append_left ha]
 ·rw[List.getElem?_eq_none (by omega)]
  constructor
  ·intro h;cases h
  ·intro h
   exfalso;by_cases e:H.length=a
   ·subst e
    rw[List.getElem?_set_self (by rw[Gp];omega)]at h;cases h
   ·rw[List.getElem?_set_ne e]at h
    unfold I2 at h;rw[List.getElem?_append_right (by omega)]at h;obtain⟨k,hk⟩:∃k,a-H.length=k+1:=⟨a-H.length-1,by omega⟩
    rw[hk,List.getElem?_cons_succ]at h;have:=List.mem_of_getElem? h;simp only[List.mem_cons]at this;rcases this with h |h |h |h
    ·simp[sw]at h
    ·simp[su]at h
    ·simp[ls]at h
    ·exact VX _ _ _ _ _ _ h _ _ _ rfl
theorem IsOpt.congr {v m:Nat}{A:Nat→Nat→Rat}{B G x y x' y':Nat→Rat}{val:Rat}(h:IsOpt v m A B G x y val)(hx:∀ k,k<v→x k=x' k)(hy:∀i,i<m→y i=y' i):IsOpt v m A B G x' y' val:=by
 have e1:∀f:Nat→Rat,XB (fun k=>f k*x' k) v=XB (fun k=>f k*x k) v:=fun f=>XH fun k hk=>by rw[hx k hk]
 have e2:∀f:Nat→Rat,XB (fun i=>f i*y' i) m=XB (fun i=>f i*y i) m:=fun f=>XH fun i hi=>by rw[hy i hi]
 exact⟨fun i hi=>by rw[e1];exact h.feas i hi,fun i hi=>by rw[←hy i hi];exact h.dpos i hi,fun k hk=>by rw[e2 fun i=>A i k];exact h.dual k hk,by rw[e1];exact h.val1,by rw[e2];exact h.val2⟩
theorem W1 {m n e p κ:Nat}{T:Tb}(h:T.Ok m n e){E:Nat}(hE:∀i,i<m→qb (T.t i p)≤E) (h0:qb 0≤E):qb (XB (fun i=>if T.b i=κ then T.t i p else 0) m)≤E:=by
 by_cases hex:∃i,i<m∧T.b i=κ
 ·obtain⟨i,hi,rfl⟩:=hex
  rw[ZQ hi fun i' hi' hn=>if_neg ((P6 h hi).2 i' hi' hn),if_pos rfl];exact hE i hi
 ·rw[Kl fun i hi=>if_neg fun g=>hex ⟨i,hi,g⟩];exact h0
theorem fH {v m c E κ:Nat}{A:Nat→Nat→Rat}{B G:Nat→Rat}{T:Tb}(hs:(JC v m A B G).Sim m (2*v+2*m) T) (hT:T.Ok m (2*v+2*m) (2*v+m)) (hG:∀k,qb (G k)≤c) (hκ:∀k,k≠κ→G k=0) (hE:∀i p,i<m→p≤2*v+2*m→qb (T.t i p)≤E) (h0:qb 0≤E) {p:Nat} (hp:p≤2*v+2*m) :
  qb (T.c p)≤2*E+3*c+6:=by
 have h1:∀j,(JC v m A B G).c j=if j<v then -G j else if j<2*v then G (j-v)else 0:=fun j=>rfl
 have hc:qb ((JC v m A B G).c p)≤c+1:=by
  rw[h1];have:=AY
  split
  ·rw[Dp];have:=hG p;omega
  ·split
   ·have:=hG (p-v);omega
   ·omega
 rw[←G7 hs hT (by omega) hp];have e:XB (fun i=>(JC v m A B G).c (T.b i)*T.t i p) m=(if κ<v then -G κ else 0)*XB (fun i=>if T.b i=κ then T.t i p else 0) m+(if κ<v then G κ else 0)*XB (fun i=>if T.b i=v+κ then T.t i p else 0) m:=by
  rw[←QS,←QS,←GU];refine XH fun i hi=>?_
  rw[h1];by_cases e1:T.b i<v
  ·rw[if_pos e1,if_neg (show ¬T.b i=v+κ by omega)]
   by_cases e2:T.b i=κ
   ·rw[if_pos e2,e2,if_pos (by omega)];grind
   ·rw[if_neg e2,hκ _ e2];grind
  ·rw[if_neg e1]
   by_cases e2:T.b i<2*v
   ·rw[if_pos e2]
    by_cases e3:T.b i=v+κ
    ·rw[if_pos e3,e3,show v+κ-v=κ by omega,if_pos (show κ<v by omega),if_pos (show κ<v by omega),if_neg (show ¬v+κ=κ by omega)];grind
    ·rw[if_neg e3,hκ (T.b i-v) (by omega)]
     by_cases e4:T.b i=κ
     ·rw[if_neg (show ¬κ<v by omega)];grind
     ·rw[if_neg e4];grind
   ·rw[if_neg e2]
    by_cases e3:T.b i=v+κ
    ·rw[if_neg (show ¬κ<v by omega),if_neg (show ¬κ<v by omega)];grind
    ·rw[if_neg e3]
     by_cases e4:T.b i=κ
     ·rw[if_neg (show ¬κ<v by omega)];grind
     ·rw[if_neg e4];grind
 rw[e];have g1:qb (if κ<v then -G κ else 0)≤c+1:=by
  have:=AY
  split
  ·rw[Dp];have:=hG κ;omega
  ·omega
 have g2:qb (if κ<v then G κ else 0)≤c+1:=by
  have:=AY
  split
  ·have:=hG κ;omega
  ·omega
 have n1:=W1 (κ:=κ) hT (p:=p) (fun i hi=>hE i p hi hp) h0;have n2:=W1 (κ:=v+κ) hT (p:=p) (fun i hi=>hE i p hi hp) h0;generalize XB (fun i=>if T.b i=κ then T.t i p else 0) m=s1 at *;generalize XB (fun i=>if T.b i=v+κ then T.t i p else 0) m=s2 at *;generalize (if κ<v then -G κ else 0)=a1 at *;generalize (if κ<v then G κ else 0)=a2 at *;have m1:=Qk a1 s1;have m2:=Qk a2 s2;have m3:=ZA (a1*s1) (a2*s2);have m4:=Cy ((JC v m A B G).c p) (a1*s1+a2*s2);omega
theorem SJ (v:Nat)(L:List Ln)(G:List Rat)(c E:Nat)(hv:v≤48)(hm:L.length≤128)(hG:G.length=v)(ha:∀ x∈L,x.a.length=v)(hB:∀ i,i<L.length→0≤lB L i)(i0:Nat)(hi0:i0<L.length)(hA:∀k,k<v→lA L i0 k=lG G k)
  (hcA:∀i k,qb (lA L i k)≤c) (hcB:∀i,qb (lB L i)≤c) (hcG:∀k,qb (lG G k)≤c) (hc0:qb 0≤c) (hc1:qb 1≤c) (hE:L.length*((v+2)*c+5)+1≤E) (hcE:c≤E) (hQ:c+1+(L.length*(c+1+E+1)+1)+1≤15000000) (hE2:3*E+c+10≤2083000) (hc:c≤10000) (κ:Nat) (hκ:∀k,k≠κ→lG G k=0) :
  ∃x y val,Fn Tryz.prog 51 [I7 v L G] (.tup [FW 0 x y val,I 0])∧x.length=v∧y.length=L.length∧(∀i,qb (x.getD i 0)≤2*E+1)∧(∀i,qb (y.getD i 0)≤2*E+3*c+6)∧IsOpt v L.length (lA L) (lB L) (lG G) (fun k=>x.getD k 0) (fun i=>y.getD i 0) val:=by
 obtain⟨m,hm0⟩:∃m,m=L.length:=⟨_,rfl⟩
 obtain⟨N,hN⟩:∃N,N=2*v+2*m:=⟨_,rfl⟩
 obtain⟨K,S,hS0,hok,hst,hend,hopt⟩:=V0 (v:=v) (m:=L.length) (A:=lA L) (B:=lB L) (G:=lG G) hB hi0 hA;rw[←hm0,←hN]at hok hst hopt;rw[←hm0]at hend;obtain⟨T,hT⟩:∃T,T=S K:=⟨_,rfl⟩
 rw[←hT]at hopt;have bE:∀i p,i<m→p≤N→qb (T.t i p)≤E:=fun i p hi hp=>by
  obtain⟨g1,g2⟩:=hok K (Nat.le_refl _);rw[hm0]at g1 g2 hi;rw[hN,hm0]at g1 g2 hp;rw[hT];exact Nat.le_trans (Re g2 g1 (by omega) hcA hcB hi hp) hE
 have bC:∀p,p≤N→qb (T.c p)≤15000000:=fun p hp=>by
  obtain⟨g1,g2⟩:=hok K (Nat.le_refl _);have h3:=bE;rw[hT]at h3;rw[hm0]at g1 g2;rw[hN,hm0]at g1 g2 hp h3;rw[hT];exact Nat.le_trans (Vy g2 g1 hcG h3 hp) hQ
 have bC2:∀p,p≤N→qb (T.c p)≤2*E+3*c+6:=fun p hp=>by
  obtain⟨g1,g2⟩:=hok K (Nat.le_refl _);have h3:=bE;rw[hT]at h3;rw[hm0]at g1 g2;rw[hN,hm0]at g1 g2 hp h3;rw[hT];exact fH g2 g1 hcG hκ h3 (by omega) hp
 have bN:∀k,qb (KN m N T k)≤E:=W2 (by rw[hT];exact(hok K (Nat.le_refl _)).1) (fun i hi=>bE i N hi (Nat.le_refl _)) (by omega);refine⟨Am v m N T,(List.range m).map fun i=>T.c (2*v+i),T.c N,?_,by simp[Am],by simp[hm0],fun i=>?_,fun i=>?_,?_⟩
 rotate_left
 ·by_cases hi:i<v
  ·unfold Am
   rw[JH _ hi];have h1:=bN i;have h2:=bN (v+i);have h3:=Cy (KN m N T i) (KN m N T (v+i));show qb (KN m N T i-KN m N T (v+i))≤_;omega
  ·rw[List.getD_eq_getElem?_getD,List.getElem?_eq_none (by simp[Am];omega)]
   show qb 0≤_;omega
 ·by_cases hi:i<m
  ·rw[JH (fun i=>T.c (2*v+i)) hi]
   exact bC2 _ (by omega)
  ·rw[List.getD_eq_getElem?_getD,List.getElem?_eq_none (by simp;omega)]
   show qb 0≤_;omega
 ·rw[←hm0]
  exact hopt.congr (fun k hk=>(JH (fun k=>KN m N T k-KN m N T (v+k)) hk).symm) (fun i hi=>(JH (fun i=>T.c (2*v+i)) hi).symm)
 obtain⟨X,hX⟩:∃X,X=Am v m N T:=⟨_,rfl⟩
 obtain⟨Yl,hYl⟩:∃Yl,Yl=(List.range m).map fun i=>T.c (2*v+i):=⟨_,rfl⟩
 rw[←hX,←hYl];have hXl:X.length=v:=by rw[hX];simp[Am]
 obtain⟨R,hR⟩:∃R,R=AV.tup [FW 0 X Yl (T.c N),I 0]:=⟨_,rfl⟩
 have sR:Settled R:=hR▸Z6 (JY (Bz _ _ _ _) (Xb 0));rw[←hR];have c1:=Oa v L G hv hm hG ha;refine Fq Tryz.call51 Tryz.func51 10 [] [] [7] (by simp[Ks]) (XG 9 ?_);simp(disch:=omega)only[AS.start,I7,XE,Xr,↓Xd,wG,seval];have hp0:Xf [AV.int .i64 v,.sl L.length (L.length*5) (XD Ka 5 K9 L) false,.sl G.length (G.length*4) (Xn fun i=>G.getD i 0) false]=Xf (ZT v L G):=by unfold ZT;rw[XE,Xr];rfl
 rw[hp0];refine Run.sub ?_ (XC 0 rfl);refine Run.sub ?_ (Xy 1 rfl rfl (by omega));refine XG 54 ?_;simp(disch:=omega)only[AS.put,ZT,XE,Xr,↓Xd,wG,seval];refine X0 c1 (X2 _) ?_;simp(disch:=omega)only[ZT,XE,Xr,↓Xd,wG,seval];obtain⟨T0,hT0⟩:∃T0:Tb,T0=JC v L.length (lA L) (lB L) (lG G):=⟨_,rfl⟩
 obtain⟨H0,hH0⟩:∃H0:List AO,H0=[.con 0 3 (Xf (ZT v L G)),.row 0 7 (Xf ([.int .i64 0,.sl 0 0 (fun _=>.any) true,.sl 0 0 (fun _=>.any) true] ++ zeroR))]:=⟨_,rfl⟩
 have l0:H0.length=2:=by rw[hH0];rfl
 have hB0:Kt H0:=fun o ho q _=>by
  rw[hH0]at ho;simp only[List.mem_cons,List.not_mem_nil,or_false]at ho;rcases ho with rfl |rfl
  ·exact fun j _=>X6 (Xe (l:=ZT v L G) (by simp[ZT,Xb,QV,Xz]) j)
  ·exact QX (by simp[zeroR,X5,JB,Jp])
 have hU0:QZ H0:=fun o ho=>by
  rw[hH0]at ho;simp only[List.mem_cons,List.not_mem_nil,or_false]at ho;rcases ho with rfl |rfl <;> simp
 have c2:=nU H0 v L G T0 N (by rw[hN,hm0]) (by omega) (by omega) (fun i hi=>ha _ (Qp K9 hi)) hB (fun i hi k hk=>by rw[hT0]) (fun i k _ _=>by have:=hcA i k;omega) hB0 hU0;rw[l0]at c2;have hce:=YG H0 v L G T0 N;have hLd:=az H0 v L G T0 N 2 l0 (fun i _=>by rw[hT0];rfl) hB0 hU0;have M5:(Pr H0 v L G T0 N)[5]?=some (ls v L.length):=by
  unfold Pr;rw[l0,List.getElem?_set_ne (by omega)];unfold I2;rw[l0];exact YX l0 _ _ _ _ _
 have Ml:(Pr H0 v L G T0 N).length=6+4*m:=by unfold Pr;rw[List.length_set,Gp,l0,hm0]
 have M0:(Pr H0 v L G T0 N)[0]?=H0[0]?:=by
  unfold Pr;rw[l0,List.getElem?_set_ne (by omega)];unfold I2;rw[List.getElem?_append_left (by omega)]
 have M1:(Pr H0 v L G T0 N)[1]?=H0[1]?:=by
  unfold Pr;rw[l0,List.getElem?_set_ne (by omega)];unfold I2;rw[List.getElem?_append_left (by omega)]
 obtain⟨M,hM⟩:∃M,M=Pr H0 v L G T0 N:=⟨_,rfl⟩
 rw[←hM]at c2 hce hLd M5 Ml M0 M1;subst hH0;have eM0:=Bi Ml;have eM1:=FD Ml;have eML:=Zw Ml;have eMs0:=CO Ml;have eMs1:=HX Ml;have m3:=hLd.x;rw[List.getElem?_set_ne (by show 5≠3;omega)]at m3;have m3:=XZ (show M[3]?=some (.row 0 6 (Xf [I v,I L.length,I N,.osl 4 L.length 1 0 L.length,.sl 0 0 (fun _=>.any) true,.osl 5 L.length 1 0 L.length]))from m3);have h2v:2*(v:Int)+L.length=((2*v+L.length:Nat):Int):=by omega
 refine XJ rfl c2 hce (QB hU0) (X2 _) ?_;simp(disch:=omega)only[h2v,eM0,eM1,eML,eMs0,eMs1,m3,Ml,ZT,XE,Xr,List.append_assoc,↓Xd,wG,seval];obtain⟨last,hlast⟩:∃last,last=2*v+L.length:=⟨_,rfl⟩
 rw[←hlast];obtain⟨Y0,hY0⟩:∃Y0,Y0=iO 2 L.length:=⟨_,rfl⟩
 obtain⟨B1,hB1⟩:∃B1,B1=M.set 5 (D7 Y0 L.length T0.b):=⟨_,rfl⟩
 have hl0:Laid B1 Y0 v L.length N T0 (.sl 0 0 (fun _=>.any) true):=by rw[hB1,hY0];exact hLd
 have B1l:B1.length=6+4*m:=by rw[hB1,List.length_set];exact Ml
 obtain⟨A1,hA1⟩:∃A1,A1=B1 ++ [XU (.ref 3 0 0),.con 0 1 (Xf [I last])]:=⟨_,rfl⟩
 have hl1:Laid A1 Y0 v L.length N T0 (.sl 0 0 (fun _=>.any) true):=by
  rw[hA1];refine hl0.app _ fun o ho=>?_
  simp only[List.mem_cons,List.not_mem_nil,or_false]at ho;rcases ho with rfl |rfl
  ·exact⟨fun q hq=>ZG (QH (by rw[B1l]at hq;omega)),by simp[XU]⟩
  ·exact⟨fun q _=>fun j _=>X6 (Xe (l:=[I last]) (by simp[Xb]) j),by simp⟩
 have A1l:A1.length=8+4*m:=by rw[hA1,List.length_append,B1l];simp only[List.length_cons,List.length_nil];omega
 refine Run.sub ?_ (XC (6+4*m+1) (eM1 _ _ _));simp only[eMs1];refine Run.sub ?_ (Xy 6 rfl (eM1 _ _ _) (by omega));refine Run.sub ?_ (KH 5 L.length (fun i=>I ((if i<L.length then T0.b i else 0:Nat))) (XZ M5 _) (Nat.le_refl _) (fun j hj=>by
  show I ((2*v+j:Nat))=I ((if j<L.length then T0.b j else 0:Nat));rw[if_pos hj,hT0];rfl))
 refine Run.sub (s':=⟨10,[],[.any,pP v L G,.ref 1 0 0,I 0,.any,.ref (6+4*m) 0 0,.ptr 1 (Xf [I last]) 0,.any,.any,.any],[],A1⟩) ?_ (Xi rfl (by simp[AS.put,Xm,pP,ZT,XE,Xr,I]) trivial (by
  show List.set (M ++ _) 5 _=A1;rw[Kv (Zp M5),hA1,hB1,hY0];rfl))
 have y0x:Y0.x=3:=by rw[hY0];rfl
 have y0v:Y0.vx=0:=by rw[hY0];rfl
 have y0t:Y0.x≠Y0.tid:=hl1.xt;have hqT:∀i k,qb (T0.t i k)≤c:=fun i k=>by
  rw[hT0];show qb (if k<v then lA L i k else if k<2*v then -lA L i (k-v)else if k=2*v+i then 1 else if k=2*v+2*L.length then lB L i else 0)≤c
  split
  ·exact hcA _ _
  split
  ·rw[Dp];exact hcA _ _
  split
  ·exact hc1
  split
  ·exact hcB _
  ·exact hc0
 have hq1:∀k,qb (E2 v L.length k)≤c:=fun k=>by unfold E2;split <;> assumption
 have hq2:∀k,qb (DO v G k)≤c:=fun k=>by
  unfold DO
  split
  ·rw[Dp];exact hcG _
  split
  ·exact hcG _
  ·exact hc0
 have hbT:∀i,T0.b i=2*v+i:=fun i=>by rw[hT0];rfl
 have c3:=RY A1 Y0 v L.length N T0 _ 128 [.ptr 1 (Xf [I last]) 0] (E2 v L.length) hl1.x hl1.t hl1.b hl1.r hl1.xt hl1.xb hl1.xr hl1.bel hl1.born (by omega) (by omega) (Q:=c) (by omega) (fun i k _ _=>hqT i k) (fun k _=>hq1 k)
  (fun i hi=>by rw[hbT];exact⟨by omega,if_neg (by omega)⟩) (if_neg (by omega)) (fun k hk=>by
   have h:=bm k last (by omega) (by omega);rw[show(if last≤k then(1:Rat)else 0)=E2 v L.length k by
    unfold E2;by_cases h:last≤k
    ·rw[if_pos h,if_pos (by omega)]
    ·rw[if_neg h,if_neg (by omega)]]at h
   exact h)
 obtain⟨Y1,hY1⟩:∃Y1,Y1=Y0.cost A1.length:=⟨_,rfl⟩
 obtain⟨T1,hT1⟩:∃T1:Tb,T1={ T0 with c:=E2 v L.length }:=⟨_,rfl⟩
 obtain⟨ok1,ht1,hb1,hu1⟩:=hl1.priced (E2 v L.length);obtain⟨A2,hA2⟩:∃A2,A2=Bc A1 Y0 v L.length N (E2 v L.length):=⟨_,rfl⟩
 have ce3:JP A1 A2:=by
  have h1:=QE (ob:=IP Y0 v L.length N (.osl A1.length 0 4 0 (N+1))) hl1.x (by simp[IP]) (by simp[IP]);have h2:=Zf (h:=A1.set Y0.x (IP Y0 v L.length N (.osl A1.length 0 4 0 (N+1)))) (ob:=.row 0 ((N+1)*4) (Xn (A6 N (E2 v L.length)))) (by simp);intro a w k f;rw[hA2];exact(h1 a w k f).trans (h2 a w k f)
 replace c3:HCall Tryz.prog 127 [.ref Y0.x Y0.vx 0,.fn 128 [.ptr 1 (Xf [I last]) 0]] A1 (.tup []) A2:=hA2▸c3;have A2l:A2.length=9+4*m:=by rw[hA2];unfold Bc;rw[List.length_append,List.length_set,A1l];simp only[List.length_cons,List.length_nil];omega
 rw[←hY1,←hT1,←hA2]at ht1;rw[←hY1,←hA2]at ok1;rw[←hA2]at hb1 hu1;have y1x:Y1.x=3:=by rw[hY1];exact y0x
 have y1v:Y1.vx=0:=by rw[hY1];exact y0v
 have c4:=jQ A2 Y1 v L.length N N 0 (fun _=>T1) ok1 hb1 hu1 (Nat.le_refl _) (by omega) (by omega) (Q:=c) (by omega) (fun k _ i j _ _=>by rw[hT1];exact hqT i j) (fun k _ j _=>by rw[hT1];exact hq1 j) (fun k hk=>absurd hk (Nat.not_lt_zero k)) (fun j _=>by
  rw[hT1];show 0≤E2 v L.length j;unfold E2
  split <;> decide)
 rw[ht1]at c4;have hl2:Laid A2 Y1 v L.length N T1 (.osl Y1.cid Y1.cv 4 0 (N+1)):=by
  have h:=ok1.laid T1 (by rw[hY1];exact y0t) hb1 hu1;rwa[ht1]at h
 have hc2:A2[Y1.cid]?=some (Dd Y1 N T1.c):=by
  have h:=IR ok1 T1;rwa[ht1]at h
 rw[y0x,y0v]at c3;rw[y1x,y1v]at c4;have x2:=hl2.x;rw[y1x]at x2;have xb2:A2[6+4*m]?=some (XU (.ref 3 0 0)):=by
  rw[hA2];refine XZ ?_ _;rw[List.getElem?_set_ne (by rw[y0x];omega),hA1];exact Bi B1l _ _
 have lb2:A2[6+4*m+1]?=some (.con 0 1 (Xf [I last])):=by
  rw[hA2];refine XZ ?_ _;rw[List.getElem?_set_ne (by rw[y0x];omega),hA1];exact FD B1l _ _ _
 have xb1:A1[6+4*m]?=some (XU (.ref 3 0 0)):=by rw[hA1];exact Bi B1l _ _
 have s1:=Qe 0;have w1:=Bv T1.c (Nat.le_refl N);have w2:=Be T1.c (Nat.le_refl N);have e10:T1.c N=0:=by rw[hT1];exact if_neg (by omega)
 rw[e10]at w1 w2;rw[Rat.zero_num]at s1;unfold XU at xb1 xb2;have x2':=x2;have hc2':=hc2;unfold IP at x2';unfold Dd at hc2';rw[y1v]at x2';refine XG 95 ?_;simp(disch:=omega)only[xb1,↓Xd,wG,seval];refine XJ rfl c3 ce3 (QB hl1.born) (X2 _) ?_;simp(disch:=omega)only[xb2,x2',A2l,↓Xd,wG,seval];refine XJ rfl c4 (Ku _) (QB hu1) (X2 _) ?_;simp(disch:=omega)only[xb2,x2',hc2',A2l,w1,w2,qC,↓Xd,wG,seval];refine X1 s1 rfl ?_;simp(disch:=omega)only[xb2,x2',hc2',A2l,lb2,Int.sign_zero,↓Xd,wG,seval];have hb1T:∀i,T1.b i=2*v+i:=fun i=>by rw[hT1];exact hbT i
 have c5:=fP A2 Y1 v L.length N last T1.b _ hl2.x hl2.b hb1 (fun i hi=>by rw[hb1T];omega) (by omega);rw[y1x,y1v]at c5;refine XJ rfl c5 (Ku _) (QB hu1) (X2 _) ?_;have c6:=RY A2 Y1 v L.length N T1 _ 132 [pP v L G] (DO v G) hl2.x hl2.t hl2.b hl2.r hl2.xt hl2.xb hl2.xr hb1 hu1 (by omega) (by omega) (Q:=c) (by omega) (fun i k _ _=>by rw[hT1];exact hqT i k) (fun k _=>hq2 k)
  (fun i hi=>by rw[hb1T];exact⟨by omega,by unfold DO;rw[if_neg (by omega),if_neg (by omega)]⟩) (by unfold DO;rw[if_neg (by omega),if_neg (by omega)]) (fun k hk=>bu v k L G (by omega) (by omega) hG)
 obtain⟨Y2,hY2⟩:∃Y2,Y2=Y1.cost A2.length:=⟨_,rfl⟩
 obtain⟨ok2,ht2,hb2,hu2⟩:=hl2.priced (DO v G);have eS:({ T1 with c:=DO v G }:Tb)=S 0:=by
  rw[hS0,hT1,hT0];exact congrArg (fun c=>(⟨(JC v L.length (lA L) (lB L) (lG G)).t,c,(JC v L.length (lA L) (lB L) (lG G)).b⟩:Tb)) (funext fun k=>rfl)
 rw[eS]at ht2;obtain⟨A3,hA3⟩:∃A3,A3=Bc A2 Y1 v L.length N (DO v G):=⟨_,rfl⟩
 have ce6:JP A2 A3:=by
  have h1:=QE (ob:=IP Y1 v L.length N (.osl A2.length 0 4 0 (N+1))) hl2.x (by simp[IP]) (by simp[IP]);have h2:=Zf (h:=A2.set Y1.x (IP Y1 v L.length N (.osl A2.length 0 4 0 (N+1)))) (ob:=.row 0 ((N+1)*4) (Xn (A6 N (DO v G)))) (by simp);intro a w k f;rw[hA3];exact(h1 a w k f).trans (h2 a w k f)
 replace c6:HCall Tryz.prog 127 [.ref Y1.x Y1.vx 0,.fn 132 [pP v L G]] A2 (.tup []) A3:=hA3▸c6;have A3l:A3.length=10+4*m:=by rw[hA3];unfold Bc;rw[List.length_append,List.length_set,A2l];simp only[List.length_cons,List.length_nil];omega
 rw[←hY2,←hA3]at ht2 ok2;rw[←hA3]at hb2 hu2;rw[y1x,y1v]at c6;have y2x:Y2.x=3:=by rw[hY2];exact y1x
 have y2v:Y2.vx=0:=by rw[hY2];exact y1v
 have eN:2*v+L.length≤N:=by omega
 have hEk:∀k,k≤K→∀i j,i<L.length→j≤N→qb ((S k).t i j)≤E:=fun k hk i j hi hj=>by
  obtain⟨g1,g2⟩:=hok k hk;rw[hm0]at g1 g2;rw[hN,hm0]at g1 g2 hj;exact Nat.le_trans (Re g2 g1 (by omega) hcA hcB hi hj) hE
 have hCk:∀k,k≤K→∀j,j≤N→qb ((S k).c j)≤15000000:=fun k hk j hj=>by
  obtain⟨g1,g2⟩:=hok k hk;have h3:=hEk k hk;rw[hm0]at g1 g2;rw[hN,hm0]at g1 g2 hj h3;exact Nat.le_trans (Vy g2 g1 hcG h3 hj) hQ
 have c7:=jQ A3 Y2 v L.length N last K S ok2 hb2 hu2 (by omega) (by omega) (by omega) (Q:=15000000) (by omega) (fun k hk i j hi hj=>by have:=hEk k hk i j hi hj;omega) hCk (fun k hk=>by
  obtain⟨p,r,g1,g2,g3⟩:=hst k hk;refine⟨p,r,by rw[hlast];rwa[hm0]at g1,by rwa[hm0]at g2,g3⟩) (fun j hj=>hend j (by omega))
 rw[ht2,←hT]at c7;rw[y2x,y2v]at c7;have x3:=ok2.x;have xb3:A3[6+4*m]?=some (.row 0 1 (Xf [.ref 3 0 0])):=by
  rw[hA3];refine XZ ?_ _;rw[List.getElem?_set_ne (by rw[y1x];omega)];exact xb2
 obtain⟨A4,hA4⟩:∃A4,A4=HT A3 Y2 L.length N T:=⟨_,rfl⟩
 have A4l:A4.length=10+4*m:=by rw[hA4,DV,A3l]
 have hce7:JP A3 A4:=by
  have h:=R4 ok2 (S 0) T;rw[ht2,←hA4]at h;exact h
 rw[←hA4]at c7;simp(disch:=omega)only[xb2,A2l,↓Xd,wG,seval];refine XJ rfl c6 ce6 (QB hu1) (X2 _) ?_;simp(disch:=omega)only[xb3,A3l,↓Xd,wG,seval];refine XJ rfl c7 hce7 (QB hu2) (X2 _) ?_;have a0:=Bi A4l;have aL:=Zw A4l;have as0:=CO A4l;simp(disch:=omega)only[a0,A4l,aL,as0,List.append_assoc,↓Xd,wG,seval];have rd2:∀j,Y2.rid j=7+4*j:=fun j=>by rw[hY2,hY1,hY0];show 2+4+4*j+1=_;omega
 have bd2:Y2.bid=5:=by rw[hY2,hY1,hY0];rfl
 have td2:Y2.tid=4:=by rw[hY2,hY1,hY0];rfl
 have cd2:Y2.cid=9+4*m:=by rw[hY2];exact A2l
 have xb4:A4[6+4*m]?=some (.row 0 1 (Xf [.ref 3 0 0])):=by
  rw[hA4,D1 T (by omega) (by omega) fun j _=>by rw[rd2];omega];exact xb3
 have o1:A4[1]?=some (.row 0 7 (Xf ([.int .i64 0,.sl 0 0 (fun _=>.any) true,.sl 0 0 (fun _=>.any) true] ++ zeroR))):=by
  rw[hA4,D1 T (by omega) (by omega) fun j _=>by rw[rd2];omega,hA3];refine XZ ?_ _;rw[List.getElem?_set_ne (by omega),hA2];refine XZ ?_ _;rw[List.getElem?_set_ne (by omega),hA1];refine XZ ?_ _;rw[hB1,List.getElem?_set_ne (by omega),M1];rfl
 have hl4:Laid (A4 ++ [XU (.int .i64 (-1))]) Y2 v L.length N T (.osl Y2.cid Y2.cv 4 0 (N+1)):=by
  have h:=ok2.laid T (by rw[y2x,td2];omega) hb2 hu2;rw[←hA4]at h;refine h.app _ fun o ho=>?_
  rw[List.mem_singleton.1 ho];exact⟨fun q _=>ZG (X6 (Xb (-1))),by simp[XU]⟩
 have hc4:(A4 ++ [XU (.int .i64 (-1))])[Y2.cid]?=some (Dd Y2 N T.c):=by
  have h:=IR ok2 T;rw[←hA4]at h;exact XZ h _
 obtain⟨F,hF1,hF2,hF3,hF4⟩:=rW (b:=0) (s:=⟨10,[],[.any,pP v L G,.ref 1 0 0,I 0,.any,.ref (6+4*m) 0 0,.ptr 1 (Xf [I last]) 0,.ref (10+4*m) 0 0,.any,.any],[],A4 ++ [XU (.int .i64 (-1))]⟩) (xb:=6+4*m) hl4 hc4 ok2.xc ok2.tc ok2.bc ok2.cr
  (by rw[y2x,y2v];exact XZ xb4 _) (by omega) (by omega) (by omega) (by omega) (fun i _=>by rw[rd2];omega)
 have F1:F[1]?=some (.row 0 7 (Xf ([.int .i64 0,.sl 0 0 (fun _=>.any) true,.sl 0 0 (fun _=>.any) true] ++ zeroR))):=by
  rw[hF4 1 (by omega) (by omega) (by omega) (by omega) (by omega) (fun i _=>by rw[rd2];omega)];exact XZ o1 _
 have F1lt:=Zp F1;have okK:T.Ok L.length N (2*v+L.length):=by
  have h:=(hok K (Nat.le_refl _)).1;rw[←hT]at h;rwa[hm0]at h
 have qn:∀k,qb (KN L.length N T k)≤E:=W2 okK (fun i hi=>by rw[hT];exact hEk K (Nat.le_refl _) i N hi (Nat.le_refl _)) (by omega);have p1:=jr v L.length N (2*v+L.length) T okK (by omega) (by omega) (by omega) (fun k=>by have:=qn k;omega);have p2:=bh v L.length N T (by omega) (by omega);rw[←show X=Am v L.length N T by rw[hX,hm0]]at p1;rw[←show Yl=(List.range L.length).map fun i=>T.c (2*v+i)by rw[hYl,hm0]]at p2;have p3:=Lu G X (3*E+c) (by omega) (by omega) (fun i hi=>by
  rw[hX];unfold Am;rw[JH _ (by omega)];have h1:=qn i;have h2:=qn (v+i);have h3:=Cy (KN L.length N T i) (KN L.length N T (v+i));have h4:=hcG i;unfold lG at h4;rw[hm0];omega) (by omega)
 have hval:XB (fun i=>G.getD i 0*X.getD i 0) G.length=T.c N:=by
  rw[←hopt.val1,hG];refine XH fun k hk=>?_
  rw[hX];unfold Am;rw[JH _ hk];rfl
 rw[hval]at p3;unfold XU at hF3;refine Run.sub (s':=⟨10,[],[.any,pP v L G,.ref 1 0 0,I 0,.any,.ref (6+4*m) 0 0,.ptr 1 (Xf [I last]) 0,.ref (10+4*m) 0 0,.any,.any],[],A4 ++ [XU (.int .i64 (-1))]⟩) ?_ (BA (by simp[Xm,I]) (by simp[XU]));refine Run.sub ?_ hF1;have fs1:∀o,(F.set 1 o)[1]?=some o:=fun o=>List.getElem?_set_self F1lt
 unfold zeroR at F1;refine Xk ?_;simp(disch:=omega)only[hF3,F1,↓Xd,wG,seval];refine X0 p1 (X2 _) ?_;simp(disch:=omega)only[hF3,F1,↓Xd,wG,seval];refine X0 p2 (X2 _) ?_;simp(disch:=omega)only[hF3,F1,pP,ZT,Xr,XE,↓Xd,wG,seval];refine X0 p3 (X2 _) ?_;simp(disch:=omega)only[F1,qA,qC,Xr,fs1,↓Xd,wG,seval];rw[hR];exact Dv (r1:=.cell 2 91) (r2:=.tmp 3) rfl (Xs qj rfl (fs1 _) rfl) rfl (Q1 (Bz _ _ _ _) rfl) (Q1 (Xb 0) rfl)
def DR (b:BB)(g:GG):List (List Rat) :=
  [[g.n.x,-g.n.y,-g.n.x,-(-g.n.y),0],[g.n.y,g.n.x,-g.n.y,-g.n.x,-b.heavy],
   [Xp (g.p.sub b.c) g.n,Xp (g.p.sub b.c) g.n.turned,-Xp (g.q.sub b.c) g.n,-Xp (g.q.sub b.c) g.n.turned,0]]
def RZ (b:BB)(g:GG):List Ln :=
  [⟨[-1,0,0,0,0],0⟩,⟨[0,0,-1,0,0],0⟩,⟨[-g.rough,1,0,0,0],0⟩,⟨[0,0,-g.rough,1,0],0⟩,⟨[-g.rough,-1,0,0,0],0⟩,⟨[0,0,-g.rough,-1,0],0⟩,
   ⟨[QA g.n,0,0,0,0],g.force⟩,⟨[0,0,QA g.n,0,0],g.force⟩,⟨[QA g.n,0,QA g.n,0,0],b.strength⟩,⟨[0,0,0,0,1],16⟩,⟨[0,0,0,0,-1],0⟩]
def N1 (l:List Rat):List Rat:=l.map fun x=>-x
def G3 (l:List Rat):List Ln:=[⟨l,0⟩,⟨N1 l,0⟩]
def Ja (b:BB)(g:GG):List Ln:=RZ b g ++ (DR b g).flatMap G3
def goal5:List Rat:=[0,0,0,0,1]
theorem vu (f:Nat→Rat):XB f 5=f 0+f 1+f 2+f 3+f 4:=by
 simp only[XB];grind
theorem AD (b:BB)(g:GG):(Ja b g).length=17:=rfl
theorem Gg (b:BB)(g:GG)(x:Nat→Rat):(∀i,i<17→XB (fun k=>lA (Ja b g) i k*x k) 5≤lB (Ja b g) i)↔okP b g (x 0) (x 1) (x 2) (x 3) (x 4):=by
 have e:∀i,XB (fun k=>lA (Ja b g) i k*x k) 5=lA (Ja b g) i 0*x 0+lA (Ja b g) i 1*x 1+lA (Ja b g) i 2*x 2+lA (Ja b g) i 3*x 3+lA (Ja b g) i 4*x 4:=fun i=>vu _
 constructor
 ·intro h
  have h0:(-1:Rat)*x 0+0*x 1+0*x 2+0*x 3+0*x 4≤0:=by have:=h 0 (by omega);rw[e]at this;exact this
  have h1:(0:Rat)*x 0+0*x 1+(-1)*x 2+0*x 3+0*x 4≤0:=by have:=h 1 (by omega);rw[e]at this;exact this
  have h2:(-g.rough)*x 0+1*x 1+0*x 2+0*x 3+0*x 4≤0:=by have:=h 2 (by omega);rw[e]at this;exact this
  have h3:(0:Rat)*x 0+0*x 1+(-g.rough)*x 2+1*x 3+0*x 4≤0:=by have:=h 3 (by omega);rw[e]at this;exact this
  have h4:(-g.rough)*x 0+(-1)*x 1+0*x 2+0*x 3+0*x 4≤0:=by have:=h 4 (by omega);rw[e]at this;exact this
  have h5:(0:Rat)*x 0+0*x 1+(-g.rough)*x 2+(-1)*x 3+0*x 4≤0:=by have:=h 5 (by omega);rw[e]at this;exact this
  have h6:QA g.n*x 0+0*x 1+0*x 2+0*x 3+0*x 4≤g.force:=by have:=h 6 (by omega);rw[e]at this;exact this
  have h7:(0:Rat)*x 0+0*x 1+QA g.n*x 2+0*x 3+0*x 4≤g.force:=by have:=h 7 (by omega);rw[e]at this;exact this
  have h8:QA g.n*x 0+0*x 1+QA g.n*x 2+0*x 3+0*x 4≤b.strength:=by have:=h 8 (by omega);rw[e]at this;exact this
  have h9:(0:Rat)*x 0+0*x 1+0*x 2+0*x 3+1*x 4≤16:=by have:=h 9 (by omega);rw[e]at this;exact this
  have h10:(0:Rat)*x 0+0*x 1+0*x 2+0*x 3+(-1)*x 4≤0:=by have:=h 10 (by omega);rw[e]at this;exact this
  have h11:g.n.x*x 0 + -g.n.y*x 1 + -g.n.x*x 2 + -(-g.n.y)*x 3+0*x 4≤0:=by have:=h 11 (by omega);rw[e]at this;exact this
  have h12:-g.n.x*x 0 + -(-g.n.y)*x 1 + -(-g.n.x)*x 2 + -(-(-g.n.y))*x 3 + -0*x 4≤0:=by have:=h 12 (by omega);rw[e]at this;exact this
  have h13:g.n.y*x 0+g.n.x*x 1 + -g.n.y*x 2 + -g.n.x*x 3 + -b.heavy*x 4≤0:=by have:=h 13 (by omega);rw[e]at this;exact this
  have h14:-g.n.y*x 0 + -g.n.x*x 1 + -(-g.n.y)*x 2 + -(-g.n.x)*x 3 + -(-b.heavy)*x 4≤0:=by have:=h 14 (by omega);rw[e]at this;exact this
  have h15:Xp (g.p.sub b.c) g.n*x 0+Xp (g.p.sub b.c) g.n.turned*x 1 + -Xp (g.q.sub b.c) g.n*x 2 + -Xp (g.q.sub b.c) g.n.turned*x 3+0*x 4≤0:=by have:=h 15 (by omega);rw[e]at this;exact this
  have h16:-Xp (g.p.sub b.c) g.n*x 0 + -Xp (g.p.sub b.c) g.n.turned*x 1 + -(-Xp (g.q.sub b.c) g.n)*x 2 + -(-Xp (g.q.sub b.c) g.n.turned)*x 3 + -0*x 4≤0:=by have:=h 16 (by omega);rw[e]at this;exact this
  clear h e;refine⟨by grind,by grind,by grind,by grind,by grind,by grind,by grind,by grind,by grind,by grind,by grind,by grind,by grind,?_⟩;show Xp (g.p.sub b.c) g.n*x 0+Xp (g.p.sub b.c) g.n.turned*x 1-Xp (g.q.sub b.c) g.n*x 2-Xp (g.q.sub b.c) g.n.turned*x 3=0;generalize Xp (g.p.sub b.c) g.n=c1 at *;generalize Xp (g.p.sub b.c) g.n.turned=c2 at *;generalize Xp (g.q.sub b.c) g.n=c3 at *;generalize Xp (g.q.sub b.c) g.n.turned=c4 at *;grind
 ·intro h i hi
  rw[e];have ht:Xp (g.p.sub b.c) g.n*x 0+Xp (g.p.sub b.c) g.n.turned*x 1-Xp (g.q.sub b.c) g.n*x 2-Xp (g.q.sub b.c) g.n.turned*x 3=0:=h.et;obtain⟨a1,a2,a3,a4,a5,a6,a7,a8,a9,a10,a11,a12,a13,_⟩:=h;clear e
  match i,hi with
  |0,_=>show(-1:Rat)*x 0+0*x 1+0*x 2+0*x 3+0*x 4≤0;grind
  |1,_=>show(0:Rat)*x 0+0*x 1+(-1)*x 2+0*x 3+0*x 4≤0;grind
  |2,_=>show(-g.rough)*x 0+1*x 1+0*x 2+0*x 3+0*x 4≤0;grind
  |3,_=>show(0:Rat)*x 0+0*x 1+(-g.rough)*x 2+1*x 3+0*x 4≤0;grind
  |4,_=>show(-g.rough)*x 0+(-1)*x 1+0*x 2+0*x 3+0*x 4≤0;grind
  |5,_=>show(0:Rat)*x 0+0*x 1+(-g.rough)*x 2+(-1)*x 3+0*x 4≤0;grind
  |6,_=>show QA g.n*x 0+0*x 1+0*x 2+0*x 3+0*x 4≤g.force;grind
  |7,_=>show(0:Rat)*x 0+0*x 1+QA g.n*x 2+0*x 3+0*x 4≤g.force;grind
  |8,_=>show QA g.n*x 0+0*x 1+QA g.n*x 2+0*x 3+0*x 4≤b.strength;grind
  |9,_=>show(0:Rat)*x 0+0*x 1+0*x 2+0*x 3+1*x 4≤16;grind
  |10,_=>show(0:Rat)*x 0+0*x 1+0*x 2+0*x 3+(-1)*x 4≤0;grind
  |11,_=>show g.n.x*x 0 + -g.n.y*x 1 + -g.n.x*x 2 + -(-g.n.y)*x 3+0*x 4≤0;grind
  |12,_=>show -g.n.x*x 0 + -(-g.n.y)*x 1 + -(-g.n.x)*x 2 + -(-(-g.n.y))*x 3 + -0*x 4≤0;grind
  |13,_=>show g.n.y*x 0+g.n.x*x 1 + -g.n.y*x 2 + -g.n.x*x 3 + -b.heavy*x 4≤0;grind
  |14,_=>show -g.n.y*x 0 + -g.n.x*x 1 + -(-g.n.y)*x 2 + -(-g.n.x)*x 3 + -(-b.heavy)*x 4≤0;grind
  |15,_ =>
   show Xp (g.p.sub b.c) g.n*x 0+Xp (g.p.sub b.c) g.n.turned*x 1 + -Xp (g.q.sub b.c) g.n*x 2 + -Xp (g.q.sub b.c) g.n.turned*x 3+0*x 4≤0;generalize Xp (g.p.sub b.c) g.n=c1 at *;generalize Xp (g.p.sub b.c) g.n.turned=c2 at *;generalize Xp (g.q.sub b.c) g.n=c3 at *;generalize Xp (g.q.sub b.c) g.n.turned=c4 at *;grind
  |16,_ =>
   show -Xp (g.p.sub b.c) g.n*x 0 + -Xp (g.p.sub b.c) g.n.turned*x 1 + -(-Xp (g.q.sub b.c) g.n)*x 2 + -(-Xp (g.q.sub b.c) g.n.turned)*x 3 + -0*x 4≤0;generalize Xp (g.p.sub b.c) g.n=c1 at *;generalize Xp (g.p.sub b.c) g.n.turned=c2 at *;generalize Xp (g.q.sub b.c) g.n=c3 at *;generalize Xp (g.q.sub b.c) g.n.turned=c4 at *;grind
  |i+17,h=>omega
theorem Gi (k:Nat)(x:Nat→Rat):XB (fun k=>lG goal5 k*x k) 5=x 4:=by
 rw[vu];show(0:Rat)*x 0+0*x 1+0*x 2+0*x 3+1*x 4=x 4;grind
theorem oh {b:BB}{g:GG}{x y:Nat→Rat}{val:Rat}(h:IsOpt 5 17 (lA (Ja b g)) (lB (Ja b g)) (lG goal5) x y val):iA b g val∧okP b g (x 0) (x 1) (x 2) (x 3) val∧x 4=val:=by
 have e:x 4=val:=by rw[←h.val1,Gi 0]
 have ok:=(Gg b g x).1 h.feas;rw[e]at ok;refine⟨⟨⟨_,_,_,_,ok⟩,fun a0 c0 a1 c1 k' hk=>?_⟩,ok,e⟩
 let z:Nat→Rat:=fun k=>match k with |0=>a0 |1=>c0 |2=>a1 |3=>c1 |_=>k'
 have:=h.most (z:=z) ((Gg b g z).2 hk);rw[Gi 0]at this;exact this
def KG (lid n:Nat)(G:List Rat):AO:=.row 0 3 (Xf [I 5,.osl lid n 5 0 n,Qb G])
def Ak (Ls:List Ln)(n:Nat):AO:=.row n (n*5) (XD Ka 5 K9 Ls)
theorem Qt {P:Program}{tok:List Tok}{strict:Nat→Bool}{hcall:Bool}{nid:Nat→Option Nat}{all:Array Oper}{i:Nat}{s:AS}{o:Oper}{v:AV}{h':List AO}(ho:all[i]?=some o)(hs:strict i=false)(hn:nid i=none)(hg:gval all s o=some true)(h:QU P false none o.op s.ev s.h=some (v,h')) :
  GStep P tok strict hcall nid all i s (({ s with h:=h' }:AS).putO o.dst v):=⟨o,ho,.inl ⟨hg,⟨fun _ h=>(by rw[hn]at h;cases h),v,h',.inl (by rw[hs,hn];exact h),rfl⟩⟩⟩
theorem In {all:Array Oper}{fl:Nat→Bool}{T:Nat→Prop}{i:Nat}{s:AS}(h:fl i=false):GT all fl T i s:=fun e=>by rw[h]at e;cases e
theorem tV {all:Array Oper}{fl:Nat→Bool}{T:Nat→Prop}{i:Nat}{s:AS}{o:Oper}{tl:TypeId}{al:Operand}(ho:all[i]?=some o)(hop:o.op=.load tl al)(h:∀o' va off,s.ev al=.ref o' va off→T o'):GT all fl T i s:=fun _ oi hoi=>by
 rw[ho]at hoi;cases hoi;refine⟨fun tl' al' e o va off hv=>?_,fun tx e=>?_,fun a e=>?_⟩
 ·rw[hop]at e;cases e;exact h _ _ _ hv
 ·rw[hop]at e;simp[CF]at e
 ·rw[hop]at e;simp[lu]at e
theorem wT {all:Array Oper}{fl:Nat→Bool}{T:Nat→Prop}{i:Nat}{s:AS}{o:Oper}{t:Nat}{y:Operand}{ts:Array TypeId}(ho:all[i]?=some o)(hop:o.op=.call { callee:=.builtin .append,args:=#[.tmp t,y],argTypes:=ts }) (h:∀b ver es off n,s.get t=.osl b ver es off n→¬T b):GT all fl T i s:=fun _ oi hoi=>by
 rw[ho]at hoi;cases hoi;refine⟨fun tl' al' e=>?_,fun tx e b ver es off n hv=>?_,fun a e=>?_⟩
 ·rw[hop]at e;cases e
 ·rw[hop]at e;simp[CF]at e;subst e;exact h _ _ _ _ _ hv
 ·rw[hop]at e;simp[lu]at e
theorem uP {all:Array Oper}{fl:Nat→Bool}{T:Nat→Prop}{i:Nat}{s:AS}{o:Oper}{tl:TypeId}{al x:Operand}(ho:all[i]?=some o)(hop:o.op=.store tl al x)(h:∀o' va off,s.ev al=.ref o' va off→¬T o'):GT all fl T i s:=fun _ oi hoi=>by
 rw[ho]at hoi;cases hoi;refine⟨fun tl' al' e=>?_,fun tx e=>?_,fun a e o va off hv=>?_⟩
 ·rw[hop]at e;cases e
 ·rw[hop]at e;simp[CF]at e
 ·rw[hop]at e;simp[lu]at e;subst e;exact h _ _ _ hv
theorem Mx:∀ (n:Nat) (l:List AV),Xm l (List.replicate n .any)
 |0,_=>by cases ‹List AV› <;> trivial
 |n+1,[]=>⟨rfl,Mx n []⟩
 |n+1,_ :: l=>⟨.inl rfl,Mx n l⟩
theorem Hu (H:List AO)(o lid n k:Nat)(r:Rat)(a c:AV)(K6:List AO)(Ls:List Ln)(G:List Rat)(H1:List AO)(Hf:List AO)(ho:H[o]?=some (KG lid n G)) (hn:n<100000) (hk:k≤5)
  (hlen:MP Tryz.prog 86 a=some (I k)) (hz:JQ Tryz.prog 86 3 a (I ((5-k:Nat):Int)) (H ++ [.row 0 4 (Xf (qC r))])=some (c,K6)) (hr6:K6[H.length]?=some (.row 0 4 (Xf (qC r)))) (hl6:K6[lid]?=some (Ak Ls n)) (ho6:K6[o]?=some (KG lid n G)) (hne:o≠lid)
  (hT:∀b ver es off n',a=.osl b ver es off n'→b≠o) (hc1:c.cells=[c]) (hc2:c.one=true) (hc3:c.loose.one=true) (hc4:c.loose.loose=c.loose)
  (hfin:∀ (s:AS),s.h=(K6.set lid (.row (n+1) ((n+1)*5) (Qf (n*5) (XD Ka 5 K9 Ls) 5 (Xf (c.loose :: qC r))))).set o (KG lid (n+1) G)→Sub H.length s { s with h:=Hf })
  (htake:Hf.take H.length=H1) (hbel:Kt H1) (hlen1:H1.length=H.length) :
  HCall Tryz.prog 164 [qA r,a,.ref o 0 0] H (.tup []) H1:=by
 obtain⟨n0,hn0⟩:∃n0,H.length=n0:=⟨_,rfl⟩
 have e0:=Bi hn0;have el:=Zw hn0;have eo:=XZ ho;refine HCall.introC (fn:=Tryz.f164) Tryz.call164 Tryz.func164 rfl mixed 5 [] [2000000000001,2000000000006] [] (by kernel_rfl) (Nat.le_of_ble_eq_true rfl) (X6 (Z6 (by simp))) (fun o ho=>hbel o ho _ (by omega)) (XG 5 ?_);simp(disch:=omega)only[AS.start,e0,el,hn0,qA,qC,↓Xd,wG,seval];show Run _ _ ⟨5,[],[qA r,a,.ref o 0 0,.ref n0 0 0,.any],[],H ++ [.row 0 4 (Xf (qC r))]⟩;obtain⟨K,hK⟩:∃K,K=H ++ [AO.row 0 4 (Xf (qC r))]:=⟨_,rfl⟩
 rw[←hK]at hz ⊢;have oK:K[o]?=some (KG lid n G):=hK▸eo _;rw[hn0]at hr6;have L0:Ce Tryz.prog 88 (.ref o 0 0) 1=some (.ref o 0 1):=by simp[H8,D3,Pp]
 have L1:Qm Tryz.prog false 85 (.ref o 0 1) K=some (.osl lid n 5 0 n):=by
  rw[AR,qf,JZ,oK];unfold KG;rw[K0,jx];simp[Q4,Xf]
 have L5:∀y:Operand,(∀t,y=.tmp t→True)→Cb Tryz.prog .sub 3 (.int .i64 5) (I k)=some (I ((5-k:Nat):Int)):=fun y _=>by
  show Cb _ _ _ (.int .i64 5) (.int .i64 (k:Int))=_;rw[Px,show(5:Int)-k=((5-k:Nat):Int)by omega,IntKind.wrap_i64];exact congrArg (fun x=>some (AV.int .i64 x)) (by omega)
 have L7:Qm Tryz.prog false 28 (.ref n0 0 0) K6=some (qA r):=by
  rw[AR,XR,JZ,hr6,K0,aO];simp[Q4,Xf,qA,qC,Qw]
 have L8:Fv Tryz.prog 131 [(0,c),(1,qA r)]=some (.agg (c.loose :: qC r)):=by
  rw[PA,MF,Nc];simp[eU,PW,PX,ZF,GK,Q4,qA,qC,Hc,hc1,hc2,M3,Uy,FF,LY,Xl]
 have L9:JL Tryz.prog 85 1 [(0,.agg (c.loose :: qC r))]=some (.sl 1 5 (Xf (c.loose :: qC r)) true):=by
  rw[Nd,fW,IW,MF,IX];simp[ZF,GK,Q4,Fd,qC,Hc,hc3,hc4,M3,Uy,FF,LY,Xl]
 have L10:QG Tryz.prog 85 (.osl lid n 5 0 n) (.sl 1 5 (Xf (c.loose :: qC r)) true) K6=some (.osl lid (n+1) 5 0 (n+1),K6.set lid (.row (n+1) ((n+1)*5) (Qf (n*5) (XD Ka 5 K9 Ls) 5 (Xf (c.loose :: qC r))))):=by
  rw[dm,fW];have h1:∀j,j<5→(Xf (c.loose :: qC r) j).one=true:=fun j hj=>by
   match j,hj with
   |0,_=>exact hc3
   |1,_=>rfl
   |2,_=>rfl
   |3,_=>rfl
   |4,_=>rfl
   |j+5,h=>omega
  simp only[Vf,Vp,H6,hl6,Ak,On,Q4];rw[if_pos (Nat.le_of_ble_eq_true rfl),H6,hl6];unfold Ak;rw[On];unfold Q4;rw[if_pos ⟨rfl,rfl,rfl,Nat.le_refl _,by simpa using h1,by omega,by omega⟩]
 obtain⟨K7,hK7⟩:∃K7,K7=K6.set lid (.row (n+1) ((n+1)*5) (Qf (n*5) (XD Ka 5 K9 Ls) 5 (Xf (c.loose :: qC r)))):=⟨_,rfl⟩
 rw[←hK7]at L10 hfin;have o7:K7[o]?=some (KG lid n G):=by rw[hK7,List.getElem?_set_ne (Ne.symm hne)];exact ho6
 have L12:KU Tryz.prog false 85 (.ref o 0 1) (.osl lid (n+1) 5 0 (n+1)) K7=some (K7.set o (KG lid (n+1) G)):=by
  rw[Lb,o7];unfold KG;have hu:FQ (Xf [I 5,AV.osl lid n 5 0 n,Qb G]) 1 [AV.osl lid (n+1) 5 0 (n+1)]=Xf [I 5,AV.osl lid (n+1) 5 0 (n+1),Qb G]:=funext fun j=>by
   rw[Ey]
   match j with
   |0=>rfl
   |1=>rfl
   |2=>rfl
   |j+3=>rw[if_neg (by simp)];rfl
  simp[SN,SM,HN,Q4,Pp,Nm,W4,ND,hu]
 have hD:∀ops,E3 false ops=0→E6 false ops ⟨5,[],[qA r,a,.ref o 0 0,.ref n0 0 0,.any],[],K⟩=⟨5,[],[qA r,a,.ref o 0 0,.ref n0 0 0,.any],[],K⟩:=fun ops h=>by
  unfold E6;rw[h];simp[AS.clr]
 refine AF (fun x=>x=o) ?_;show ∃s',AExecT _ _ _ false _ _ _ _ _ (E6 false _ _) s'∧_;rw[hD _ (by rfl)];refine⟨_,⟨In rfl,_,Qt (v:=.ref o 0 1) (h':=K) rfl rfl rfl rfl (congrArg (Option.map fun w=>(w,K)) L0),
  tV rfl rfl (fun o' va off e=>by cases e;rfl),_,Qt (v:=.osl lid n 5 0 n) (h':=K) rfl rfl rfl rfl (congrArg (Option.map fun w=>(w,K)) L1),
  In rfl,_,Qt (v:=a) (h':=K) rfl rfl rfl rfl rfl,
  In rfl,_,Qt (v:=a) (h':=K) rfl rfl rfl rfl rfl,
  In rfl,_,Qt (v:=I k) (h':=K) rfl rfl rfl rfl (congrArg (Option.map fun w=>(w,K)) hlen),
  In rfl,_,Qt (v:=I ((5-k:Nat):Int)) (h':=K) rfl rfl rfl rfl (congrArg (Option.map fun w=>(w,K)) (L5 (.tmp 9) fun _ _=>trivial)),
  wT rfl rfl (fun b ver es off n e=>hT b ver es off n e),_,Qt (v:=c) (h':=K6) rfl rfl rfl rfl hz,
  In rfl,_,Qt (v:=qA r) (h':=K6) rfl rfl rfl rfl (congrArg (Option.map fun w=>(w,K6)) L7),
  In rfl,_,Qt (v:=.agg (c.loose :: qC r)) (h':=K6) rfl rfl rfl rfl (congrArg (Option.map fun w=>(w,K6)) L8),
  In rfl,_,Qt (v:=.sl 1 5 (Xf (c.loose :: qC r)) true) (h':=K6) rfl rfl rfl rfl (congrArg (Option.map fun w=>(w,K6)) L9),
  In rfl,_,Qt (v:=.osl lid (n+1) 5 0 (n+1)) (h':=K7) rfl rfl rfl rfl L10,
  In rfl,_,Qt (v:=.ref o 0 1) (h':=K7) rfl rfl rfl rfl (congrArg (Option.map fun w=>(w,K7)) L0),
  In rfl,_,Qt (v:=XO) (h':=K7.set o (KG lid (n+1) G)) rfl rfl rfl rfl (congrArg (Option.map fun h=>(XO,h)) L12),rfl⟩,?_⟩
 refine Run.sub (s':=⟨5,[],[.any,.any,.any,.any,.any],[],Hf⟩) ?_ (Sub.trans (b:=⟨5,[],[.any,.any,.any,.any,.any],[],K7.set o (KG lid (n+1) G)⟩) (Xi rfl (Mx 5 _) trivial rfl) (hfin _ rfl));refine Xk ?_;simp(disch:=omega)only[↓Xd,wG,seval];exact Wn rfl htake
theorem Az {α:Type}(e:α→List AV)(s:Nat)(d:α)(l:List α)(x:α)(hs:0<s):Qf (l.length*s) (XD e s d l) s (Xf (e x))=XD e s d (l ++ [x]):=by
 funext j;unfold Qf XD Xf;by_cases h1:j<l.length*s
 ·have:j/s<l.length:=by rw[Nat.div_lt_iff_lt_mul hs];exact h1
  have e1:(l ++ [x]).getD (j/s) d=l.getD (j/s) d:=by rw[List.getD_eq_getElem?_getD,List.getD_eq_getElem?_getD,List.getElem?_append_left this]
  rw[if_pos h1,e1]
 ·rw[if_neg h1]
  by_cases h2:j<l.length*s+s
  ·rw[if_pos h2]
   have hj:j/s=l.length:=by
    refine Nat.div_eq_of_lt_le (by omega) ?_;rw[Nat.add_mul];omega
   have hm:j%s=j-l.length*s:=by
    have:=Nat.div_add_mod j s;rw[hj,Nat.mul_comm]at this;omega
   rw[hj,hm];simp
  ·rw[if_neg h2]
   have hj:l.length+1≤j/s:=by
    rw[Nat.le_div_iff_mul_le hs,Nat.add_mul];omega
   have e1:(l ++ [x]).getD (j/s) d=d:=by rw[List.getD_eq_getElem?_getD,List.getElem?_eq_none (by simp;omega)];rfl
   have e2:l.getD (j/s) d=d:=by rw[List.getD_eq_getElem?_getD,List.getElem?_eq_none (by omega)];rfl
   rw[e1,e2]
theorem MA {α:Type}(l:List α)(d:α){i:Nat}(h:i<l.length):l.take (i+1)=l.take i ++ [l.getD i d]:=by
 rw[List.take_succ_eq_append_getElem h,List.getD_eq_getElem?_getD,List.getElem?_eq_getElem h];rfl
def Jv (f:Nat→Rat)(k:Nat):List Rat:=(List.range 5).map fun i=>if i<k then f i else 0
def KF (H:List AO)(o lid n:Nat)(Ls:List Ln)(G:List Rat)(x:Ln):List AO:=(H.set lid (Ak (Ls ++ [x]) (n+1))).set o (KG lid (n+1) G)
theorem LX {h:List AO}{n:Nat}{c:AV}{l:List Rat}{r:Rat}{Ls:List Ln}(hn:Ls.length=n)(hw:Ke h c (Qb l)) (j:Nat):Ke h (Qf (n*5) (XD Ka 5 K9 Ls) 5 (Xf (c :: qC r)) j) (XD Ka 5 K9 (Ls ++ [⟨l,r⟩]) j):=by
 have h1:=Az Ka 5 K9 Ls ⟨l,r⟩ (by omega);rw[hn]at h1;rw[←h1];unfold Qf
 split
 ·exact XL _ _
 split
 ·obtain⟨i,hi⟩:∃i,i=j-n*5:=⟨_,rfl⟩
  rw[←hi];cases i with
  |zero=>exact hw
  |succ i=>exact XL _ _
 ·exact XL _ _
theorem Kg (H:List AO)(o lid n:Nat)(Ls:List Ln)(G:List Rat)(x:Ln):(KF H o lid n Ls G x).length=H.length:=by unfold KF;rw[List.length_set,List.length_set]
theorem PS (q n:Nat)(Ls:List Ln):Qa q (Ak Ls n):=fun j _=>X6 (Xe (Kp _) _)
theorem PT {q lid:Nat}(n:Nat)(G:List Rat)(h:lid<q):Qa q (KG lid n G):=fun j _=>D9 q (by
 intro x hx;simp only[List.mem_cons,List.not_mem_nil,or_false]at hx;rcases hx with rfl |rfl |rfl
 ·exact X6 (Xb _)
 ·exact JR h
 ·exact X6 (Xz _)) j
theorem CH {H:List AO}{o lid:Nat}(n:Nat)(Ls:List Ln)(G:List Rat)(x:Ln)(hH:Kt H)(hl:lid<H.length):Kt (KF H o lid n Ls G x) :=
 fun p hp q hq=>by
  rw[Kg]at hq;unfold KF at hp;rcases List.mem_or_eq_of_mem_set hp with h |h
  ·rcases List.mem_or_eq_of_mem_set h with h |h
   ·exact hH p h q hq
   ·rw[h];exact PS _ _ _
  ·rw[h];exact PT _ _ (by omega)
theorem Q3 {h:List AO}{a b:AV}(w:Weak a b):Ke h a b:=fun c v _ _ r=>w c v r
theorem Mc (f:Nat→Rat)(k:Nat):Qb (Jv f k)=.sl 5 20 (Xn fun i=>(Jv f k).getD i 0) false:=by rw[Xr];rfl
theorem ER (f:Nat→Rat)(k:Nat){i:Nat}(h:i<5):(Jv f k).getD i 0=if i<k then f i else 0:=JH _ h
theorem SY {A B:List AO}{n:Nat}(h1:n≤A.length)(h2:B.length=n)(h:∀a,a<n→A[a]?=B[a]?):A.take n=B:=List.ext_getElem? fun a=>by
 rw[List.getElem?_take]
 split
 ·exact h a (by assumption)
 ·rw[List.getElem?_eq_none (by omega)]
theorem VY (H:List AO)(o lid n k:Nat)(r:Rat)(f:Nat→Rat)(Ls:List Ln)(G:List Rat)(ho:H[o]?=some (KG lid n G)) (hl:H[lid]?=some (Ak Ls n)) (hne:o≠lid) (hn:Ls.length=n) (hn2:n<100000) (hk:k≤5) (hk0:0<k) (hH:Kt H) :
  HCall Tryz.prog 164 [qA r,.sl k (k*4) (Xn f) true,.ref o 0 0] H (.tup []) (KF H o lid n Ls G ⟨Jv f k,r⟩):=by
 have olt:=Zp ho;have llt:=Zp hl;obtain⟨n0,hn0⟩:∃n0,H.length=n0:=⟨_,rfl⟩
 have hlen:MP Tryz.prog 86 (.sl k (k*4) (Xn f) true)=some (I k):=by
  show Q4 _ _=_;rw[HO];unfold Q4;exact if_pos rfl
 obtain⟨k',rfl⟩:∃k',k=k'+1:=⟨k-1,by omega⟩
 by_cases h5:k'+1=5
 ·have hz:JQ Tryz.prog 86 3 (.sl (k'+1) ((k'+1)*4) (Xn f) true) (I ((5-(k'+1):Nat):Int)) (H ++ [AO.row 0 4 (Xf (qC r))])=some (.sl (k'+1) ((k'+1)*4) (Xn f) true,H ++ [.row 0 4 (Xf (qC r))]):=by
   show JQ _ _ _ _ (.int .i64 _) _=_;rw[FY,HO,iw,Lc,H4,Ld,if_pos (by omega)]
  refine Hu H o lid n (k'+1) r _ _ _ Ls G _ (((H ++ [AO.row 0 4 (Xf (qC r))]).set lid (Ak (Ls ++ [(⟨Jv f (k'+1),r⟩:Ln)]) (n+1))).set o (KG lid (n+1) G)) ho hn2 hk hlen hz (Bi rfl _ _) (XZ hl _) (XZ ho _) hne (fun b ver es off n' e=>by cases e) rfl rfl rfl rfl (fun s hs=>?_) ?_ (CH n Ls G _ hH llt) (Kg ..)
  ·have hl2:s.h[lid]?=some (.row (n+1) ((n+1)*5) (Qf (n*5) (XD Ka 5 K9 Ls) 5 (Xf (AV.sl (k'+1) ((k'+1)*4) (Xn f) false :: qC r)))):=by
    rw[hs,List.getElem?_set_ne hne,List.getElem?_set_self (by rw[List.length_append];omega)];rfl
   have h1:=Qo (m:=H.length) lid (XD Ka 5 K9 (Ls ++ [(⟨Jv f (k'+1),r⟩:Ln)])) hl2 (fun j _=>LX hn (by
    rw[Mc];refine Q3 (JK h5 (by omega) fun j hj=>?_);rw[A5 (N:=5) (fun i hi=>by show f i=(Jv f (k'+1)).getD i 0;rw[ER f _ hi,if_pos (by omega)]) j (by omega)];exact Weak.rfl' _) j)
   have e:s.h.set lid (.row (n+1) ((n+1)*5) (XD Ka 5 K9 (Ls ++ [(⟨Jv f (k'+1),r⟩:Ln)])))=((H ++ [AO.row 0 4 (Xf (qC r))]).set lid (Ak (Ls ++ [(⟨Jv f (k'+1),r⟩:Ln)]) (n+1))).set o (KG lid (n+1) G):=by
    rw[hs,List.set_comm _ _ hne,List.set_set];rfl
   rw[e]at h1;exact h1
  ·rw[Kv llt,Kv (by rw[List.length_set];exact olt)]
   exact Ch (by rw[List.length_set,List.length_set]) _
 ·obtain⟨d,hd⟩:∃d,d=5-(k'+1):=⟨_,rfl⟩
  have hz:JQ Tryz.prog 86 3 (.sl (k'+1) ((k'+1)*4) (Xn f) true) (I ((5-(k'+1):Nat):Int)) (H ++ [AO.row 0 4 (Xf (qC r))])=some (.osl (n0+1) 0 4 0 5,H ++ [.row 0 4 (Xf (qC r)),.row 0 20 (Qf ((k'+1)*4) (Xn f) (d*4) (ZE zeroR))]):=by
   show JQ _ _ _ _ (.int .i64 _) _=_;rw[FY,HO,iw,Lc,H4,Ld,if_neg (by omega)];unfold Q4;rw[if_pos ⟨by omega,Nat.le_refl _,by omega,by omega⟩,←hd];have e1:k'+1+((d:Nat):Int).toNat=5:=by omega
   rw[e1,List.length_append,hn0,Int.toNat_natCast,List.append_assoc];rfl
  obtain⟨g,hg⟩:∃g:Nat→Rat,g=fun i=>(Jv f (k'+1)).getD i 0:=⟨_,rfl⟩
  obtain⟨A,hA⟩:∃A:AO,A=.row (n+1) ((n+1)*5) (Qf (n*5) (XD Ka 5 K9 Ls) 5 (Xf (AV.osl (n0+1) 0 4 0 5 :: qC r))):=⟨_,rfl⟩
  obtain⟨B,hB⟩:∃B:AO,B=.row 0 20 (Qf ((k'+1)*4) (Xn f) (d*4) (ZE zeroR)):=⟨_,rfl⟩
  rw[←hB]at hz;have k1:∀ (l:List AO),(H ++ AO.row 0 4 (Xf (qC r)) :: B :: l)[n0+1]?=some B:=fun l=>FD hn0 _ _ _
  refine Hu H o lid n (k'+1) r _ _ _ Ls G _ (((((H ++ [AO.row 0 4 (Xf (qC r)),B]).set lid A).set o (KG lid (n+1) G)).set (n0+1) (AO.con 0 20 (Xn g))).set lid (Ak (Ls ++ [(⟨Jv f (k'+1),r⟩:Ln)]) (n+1))) ho hn2 hk hlen hz (Bi rfl _ _) (XZ hl _) (XZ ho _) hne (fun b ver es off n' e=>by cases e) rfl rfl rfl rfl (fun s hs=>?_) ?_ (CH n Ls G _ hH llt) (Kg ..)
  ·replace hs:s.h=((H ++ [AO.row 0 4 (Xf (qC r)),B]).set lid A).set o (KG lid (n+1) G):=by rw[hs,hA];rfl
   have h1:s.h[n0+1]?=some B:=by rw[hs,List.getElem?_set_ne (by omega),List.getElem?_set_ne (by omega)];exact k1 []
   have hl1:n0+1<s.h.length:=Zp h1;rw[hB]at h1;have s1:=Qo (m:=H.length) (n0+1) (Xn g) h1 (fun j hj=>by
    unfold Qf;by_cases hj1:j<(k'+1)*4
    ·rw[if_pos hj1,hg,A5 (N:=k'+1) (fun i hi=>by show f i=(Jv f (k'+1)).getD i 0;rw[ER f _ (by omega),if_pos hi]) j hj1]
     exact XL _ _
    ·rw[if_neg hj1,if_pos (by omega)]
     refine Q3 ?_;have e1:Xn g j=Xn (fun _=>0) (j-(k'+1)*4):=by
      unfold Xn;rw[hg];show(qC ((Jv f (k'+1)).getD (j/4) 0)).getD (j%4) .any=(qC 0).getD ((j-(k'+1)*4)%4) .any;rw[ER f _ (by omega),if_neg (by omega),show(j-(k'+1)*4)%4=j%4 by omega]
     rw[e1];exact Fa 0 _)
   have s2:=XC (m:=H.length) (s:={ s with h:=s.h.set (n0+1) (.row 0 20 (Xn g)) }) (n0+1) (List.getElem?_set_self hl1);simp only[List.set_set]at s2;have h3:(s.h.set (n0+1) (.con 0 20 (Xn g)))[lid]?=some A:=by rw[List.getElem?_set_ne (by omega),hs,List.getElem?_set_ne hne,List.getElem?_set_self (by rw[List.length_append];omega)]
   rw[hA]at h3;have s3:=Qo (m:=H.length) (s:={ s with h:=s.h.set (n0+1) (.con 0 20 (Xn g)) }) lid (XD Ka 5 K9 (Ls ++ [(⟨Jv f (k'+1),r⟩:Ln)])) h3 (fun j _=>LX hn (by
    rw[Mc];exact Zc (List.getElem?_set_self hl1) (by omega) (by omega) fun j hj=>by rw[hg];exact XL _ _) j)
   rw[←hs];exact s1.trans (s2.trans s3)
  ·refine SY (by simp[hn0]) (Kg ..) fun a ha=>?_
   unfold KF;by_cases e1:lid=a
   ·subst e1
    rw[List.getElem?_set_self (by simp;omega),List.getElem?_set_ne hne,List.getElem?_set_self llt]
   ·rw[List.getElem?_set_ne e1,List.getElem?_set_ne (by omega)]
    by_cases e2:o=a
    ·subst e2
     rw[List.getElem?_set_self (by simp;omega),List.getElem?_set_self (by rw[List.length_set];exact olt)]
    ·rw[List.getElem?_set_ne e2,List.getElem?_set_ne e1,List.getElem?_set_ne e2,List.getElem?_set_ne e1,List.getElem?_append_left ha]
theorem PO {P:Program}{h:List AO}(e s b id ver es off N:Nat)(n:Int){z:List AV}{v k:Nat}{f:Nat→AV}(hz:Q9 P e=some z)(hr:h[id]?=some (.row v k f)):TM (some (e,s,b)) (some .i64) P (.osl id ver es off N) (.int .i64 n) h =
  if n=0 then some (.osl id ver es off N,h)else Q4 (0<n∧0<N∧v=ver∧es=s∧off=0∧N*s≤k∧z.all AV.one=true∧b*(N+n)≤140737488355328∧(N:Int)+n≤9223372036854775807) (some (.osl id (v+1) s 0 (N+n.toNat),h.set id (.row (v+1) ((N+n.toNat)*s) (Qf (N*s) f (n.toNat*s) (ZE z))))):=by
 show(match Q9 P e with
  |some z=>match h[id]? with
   |some (.row v k f)=>if n=0 then some (AV.osl id ver es off N,h)else Q4 (0<n∧0<N∧v=ver∧es=s∧off=0∧N*s≤k∧z.all AV.one=true∧b*(N+n)≤140737488355328∧(N:Int)+n≤9223372036854775807) (some (AV.osl id (v+1) s 0 (N+n.toNat),h.set id (.row (v+1) ((N+n.toNat)*s) (Qf (N*s) f (n.toNat*s) (ZE z)))))
   |_=>none
  |none=>none)=_
 rw[hz];simp only[hr]
theorem iX (H:List AO)(o lid n k b ver:Nat)(r:Rat)(f:Nat→Rat)(Ls:List Ln)(G:List Rat)(ho:H[o]?=some (KG lid n G)) (hl:H[lid]?=some (Ak Ls n)) (hb:H[b]?=some (.row ver (k*4) (Xn f))) (hne:o≠lid) (hbo:b≠o) (hbl:b≠lid) (hn:Ls.length=n) (hn2:n<100000) (hk:k≤5) (hk0:0<k) (hH:Kt H) :
  HCall Tryz.prog 164 [qA r,.osl b ver 4 0 k,.ref o 0 0] H (.tup []) ((KF H o lid n Ls G ⟨Jv f k,r⟩).set b .dead):=by
 have olt:=Zp ho;have llt:=Zp hl;have blt:=Zp hb;obtain⟨n0,hn0⟩:∃n0,H.length=n0:=⟨_,rfl⟩
 have hlen:MP Tryz.prog 86 (.osl b ver 4 0 k)=some (I k):=by
  show Q4 _ _=_;rw[HO];unfold Q4;exact if_pos rfl
 obtain⟨g,hg⟩:∃g:Nat→Rat,g=fun i=>(Jv f k).getD i 0:=⟨_,rfl⟩
 obtain⟨v',F,K6,hz,hK6,hF⟩:∃ (v':Nat) (F:Nat→AV) (K6:List AO),JQ Tryz.prog 86 3 (.osl b ver 4 0 k) (I ((5-k:Nat):Int)) (H ++ [AO.row 0 4 (Xf (qC r))])=some (.osl b v' 4 0 5,K6) ∧
   K6=(H ++ [AO.row 0 4 (Xf (qC r))]).set b (.row v' 20 F)∧∀j,j<20→Weak (F j) (Xn g j):=by
  by_cases h5:k=5
  ·subst h5
   refine⟨ver,Xn f,H ++ [AO.row 0 4 (Xf (qC r))],?_,?_,fun j hj=>?_⟩
   ·show JQ _ _ _ _ (.int .i64 _) _=_
    rw[FY,HO,iw];rw[PO _ _ _ _ _ _ _ _ _ H4 (XZ hb _)];rfl
   ·exact List.ext_getElem? fun i=>by
     by_cases e:b=i
     ·subst e;rw[List.getElem?_set_self (by rw[List.length_append];omega),XZ hb]
     ·rw[List.getElem?_set_ne e]
   ·rw[hg,A5 (N:=5) (fun i hi=>by show f i=(Jv f 5).getD i 0;rw[ER f _ hi,if_pos hi]) j (by omega)]
    exact Weak.rfl' _
  ·obtain⟨d,hd⟩:∃d,d=5-k:=⟨_,rfl⟩
   refine⟨ver+1,Qf (k*4) (Xn f) (d*4) (ZE zeroR),(H ++ [AO.row 0 4 (Xf (qC r))]).set b (.row (ver+1) 20 (Qf (k*4) (Xn f) (d*4) (ZE zeroR))),?_,rfl,fun j hj=>?_⟩
   ·show JQ _ _ _ _ (.int .i64 _) _=_
    rw[FY,HO,iw];rw[PO _ _ _ _ _ _ _ _ _ H4 (XZ hb _),if_neg (by omega)];unfold Q4;rw[if_pos ⟨by omega,by omega,rfl,rfl,rfl,Nat.le_refl _,by rfl,by omega,by omega⟩,←hd];have e1:k+((d:Nat):Int).toNat=5:=by omega
    rw[e1,Int.toNat_natCast];rfl
   ·unfold Qf
    by_cases hj1:j<k*4
    ·rw[if_pos hj1,hg,A5 (N:=k) (fun i hi=>by show f i=(Jv f k).getD i 0;rw[ER f _ (by omega),if_pos hi]) j hj1]
     exact Weak.rfl' _
    ·rw[if_neg hj1,if_pos (by omega)]
     have e1:Xn g j=Xn (fun _=>0) (j-k*4):=by
      unfold Xn;rw[hg];show(qC ((Jv f k).getD (j/4) 0)).getD (j%4) .any=(qC 0).getD ((j-k*4)%4) .any;rw[ER f _ (by omega),if_neg (by omega),show(j-k*4)%4=j%4 by omega]
     rw[e1];exact Fa 0 _
 obtain⟨A,hA⟩:∃A:AO,A=.row (n+1) ((n+1)*5) (Qf (n*5) (XD Ka 5 K9 Ls) 5 (Xf (AV.osl b v' 4 0 5 :: qC r))):=⟨_,rfl⟩
 have hk6:∀ {a:Nat} {x:AO},a≠b→H[a]?=some x→K6[a]?=some x:=fun ha hx=>by rw[hK6,List.getElem?_set_ne (Ne.symm ha)];exact XZ hx _
 have hl6:K6.length=n0+1:=by rw[hK6,List.length_set,List.length_append,hn0];rfl
 refine Hu H o lid n k r _ _ _ Ls G _ ((((K6.set lid A).set o (KG lid (n+1) G)).set lid (Ak (Ls ++ [(⟨Jv f k,r⟩:Ln)]) (n+1))).set b AO.dead) ho hn2 hk hlen hz ?_ (hk6 (Ne.symm hbl) hl) (hk6 (Ne.symm hbo) ho) hne (fun b' ver es off n' e=>by cases e;exact hbo) rfl rfl rfl rfl (fun s hs=>?_) ?_ ?_ (by rw[List.length_set];exact Kg ..)
 ·rw[hK6,List.getElem?_set_ne (by omega)];exact Bi rfl _ _
 ·replace hs:s.h=(K6.set lid A).set o (KG lid (n+1) G):=by rw[hs,hA];rfl
  have h1:s.h[b]?=some (.row v' 20 F):=by rw[hs,List.getElem?_set_ne (Ne.symm hbo),List.getElem?_set_ne (Ne.symm hbl),hK6,List.getElem?_set_self (by rw[List.length_append];omega)]
  have hl1:b<s.h.length:=Zp h1;have s1:=Qo (m:=H.length) b (Xn g) h1 (fun j hj=>Q3 (hF j hj));have s2:=XC (m:=H.length) (s:={ s with h:=s.h.set b (.row v' 20 (Xn g)) }) b (List.getElem?_set_self hl1);simp only[List.set_set]at s2;have h3:(s.h.set b (.con v' 20 (Xn g)))[lid]?=some A:=by rw[List.getElem?_set_ne hbl,hs,List.getElem?_set_ne hne,List.getElem?_set_self (by omega)]
  rw[hA]at h3;have s3:=Qo (m:=H.length) (s:={ s with h:=s.h.set b (.con v' 20 (Xn g)) }) lid (XD Ka 5 K9 (Ls ++ [(⟨Jv f k,r⟩:Ln)])) h3 (fun j _=>LX hn (by
   rw[Mc];exact Zc (List.getElem?_set_self hl1) (by omega) (by omega) fun j hj=>by rw[hg];exact XL _ _) j)
  have s4:=SP (m:=H.length) (s:={ s with h:=(s.h.set b (.con v' 20 (Xn g))).set lid (.row (n+1) ((n+1)*5) (XD Ka 5 K9 (Ls ++ [(⟨Jv f k,r⟩:Ln)]))) }) b (by
   show(List.set _ _ _)[b]?=_;rw[List.getElem?_set_ne (Ne.symm hbl),List.getElem?_set_self hl1])
  have e4:(((s.h.set b (.con v' 20 (Xn g))).set lid (.row (n+1) ((n+1)*5) (XD Ka 5 K9 (Ls ++ [(⟨Jv f k,r⟩:Ln)])))).set b AO.dead)=(s.h.set lid (Ak (Ls ++ [(⟨Jv f k,r⟩:Ln)]) (n+1))).set b AO.dead:=by
   rw[List.set_comm _ _ (Ne.symm hbl),List.set_set,List.set_comm _ _ hbl];rfl
  simp only[e4]at s4;rw[←hs];exact s1.trans (s2.trans (s3.trans s4))
 ·refine SY (by simp;omega) (by rw[List.length_set];exact Kg ..) fun a ha=>?_
  by_cases e0:b=a
  ·subst e0
   rw[List.getElem?_set_self (by simp;omega),List.getElem?_set_self (by rw[Kg];exact blt)]
  rw[List.getElem?_set_ne e0,List.getElem?_set_ne e0];unfold KF;by_cases e1:lid=a
  ·subst e1
   rw[List.getElem?_set_self (by simp;omega),List.getElem?_set_ne hne,List.getElem?_set_self llt]
  ·rw[List.getElem?_set_ne e1]
   by_cases e2:o=a
   ·subst e2
    rw[List.getElem?_set_self (by simp;omega),List.getElem?_set_self (by rw[List.length_set];exact olt)]
   ·rw[List.getElem?_set_ne e2,List.getElem?_set_ne e1,List.getElem?_set_ne e2,List.getElem?_set_ne e1,hK6,List.getElem?_set_ne e0,List.getElem?_append_left ha]
 ·exact CI (CH n Ls G _ hH llt) fun m _=>trivial
theorem iW (H l:List AO){o lid:Nat}(n:Nat)(Ls:List Ln)(G:List Rat)(x:Ln)(ho:o<H.length)(hl:lid<H.length):KF (H ++ l) o lid n Ls G x=KF H o lid n Ls G x ++ l:=by
 unfold KF;rw[Kv hl,Kv (by rw[List.length_set];exact ho)]
theorem sE {H:List AO}{o lid:Nat}(n:Nat)(Ls:List Ln)(G:List Rat)(x:Ln)(ho:o<H.length):(KF H o lid n Ls G x)[o]?=some (KG lid (n+1) G):=by
 unfold KF;rw[List.getElem?_set_self (by rw[List.length_set];exact ho)]
theorem sD {H:List AO}{o lid:Nat}(n:Nat)(Ls:List Ln)(G:List Rat)(x:Ln)(hl:lid<H.length)(hne:o≠lid):(KF H o lid n Ls G x)[lid]?=some (Ak (Ls ++ [x]) (n+1)):=by
 unfold KF;rw[List.getElem?_set_ne hne,List.getElem?_set_self hl]
theorem nX {H:List AO}{o lid a:Nat}(n:Nat)(Ls:List Ln)(G:List Rat)(x:Ln)(h1:a≠o)(h2:a≠lid):(KF H o lid n Ls G x)[a]?=H[a]?:=by
 unfold KF;rw[List.getElem?_set_ne (Ne.symm h1),List.getElem?_set_ne (Ne.symm h2)]
theorem BN {H:List AO}{o lid n:Nat}{Ls:List Ln}{G:List Rat}(x:Ln)(ho:H[o]?=some (KG lid n G)) (hl:H[lid]?=some (Ak Ls n)) (hne:o≠lid):JP H (KF H o lid n Ls G x):=by
 have h1:=QE (ob:=Ak (Ls ++ [x]) (n+1)) hl (by simp[Ak]) (by simp[Ak]);have h2:=QE (h:=H.set lid (Ak (Ls ++ [x]) (n+1))) (ob:=KG lid (n+1) G) (by rw[List.getElem?_set_ne (Ne.symm hne)];exact ho) (by simp[KG]) (by simp[KG]);intro a w k f;exact(h1 a w k f).trans (h2 a w k f)
theorem TT {H:List AO}{o lid:Nat}(n:Nat)(Ls:List Ln)(G:List Rat)(x:Ln)(h:QZ H):QZ (KF H o lid n Ls G x):=Zd (Zd h (by simp[Ak])) (by simp[KG])
theorem jl (f:Nat→Rat)(k:Nat):Jv (Zu f k) k=Jv f k:=by
 unfold Jv;refine List.map_congr_left fun i _=>?_
 by_cases h:i<k
 ·rw[if_pos h,if_pos h];exact if_pos h
 ·rw[if_neg h,if_neg h]
theorem gr (H:List AO)(o lid mid n k:Nat)(f:Nat→Rat)(Ls:List Ln)(G:List Rat)(ho:H[o]?=some (KG lid n G)) (hl:H[lid]?=some (Ak Ls n)) (hmid:H[mid]?=some (.con 0 1 (Xf [.fn 164 [.ref o 0 0]]))) (hne:o≠lid) (hmo:mid≠o) (hml:mid≠lid)
  (hn:Ls.length=n) (hn2:n<90000) (hk:k≤5) (hk0:0<k) (hH:Kt H) (hB:QZ H) :
  HCall Tryz.prog 167 [.sl k (k*4) (Xn f) true,.ref mid 0 0,.ptr 4 (Xf (qC 0)) 0] H (.tup []) (KF (KF H o lid n Ls G ⟨Jv f k,0⟩) o lid (n+1) (Ls ++ [⟨Jv f k,0⟩]) G ⟨Jv (fun i=>-f i) k,0⟩):=by
 have olt:=Zp ho;have llt:=Zp hl;have mlt:=Zp hmid;obtain⟨n0,hn0⟩:∃n0,H.length=n0:=⟨_,rfl⟩
 have c1:=VY H o lid n k 0 f Ls G ho hl hne hn (by omega) hk hk0 hH;have ce1:=BN ⟨Jv f k,0⟩ ho hl hne;obtain⟨H2,hH2⟩:∃H2,H2=KF H o lid n Ls G ⟨Jv f k,0⟩:=⟨_,rfl⟩
 obtain⟨L2,hL2⟩:∃L2,L2=Ls ++ [(⟨Jv f k,0⟩:Ln)]:=⟨_,rfl⟩
 rw[←hH2,←hL2];rw[←hH2]at c1 ce1;have l2:H2.length=n0:=by rw[hH2,Kg,hn0]
 have hH2b:Kt H2:=hH2▸CH n Ls G _ hH llt;have hB2:QZ H2:=hH2▸TT n Ls G _ hB;have o2:H2[o]?=some (KG lid (n+1) G):=hH2▸sE n Ls G _ olt;have l2':H2[lid]?=some (Ak L2 (n+1)):=by rw[hH2,hL2];exact sD n Ls G _ llt hne
 have m2:H2[mid]?=some (.con 0 1 (Xf [.fn 164 [.ref o 0 0]])):=by rw[hH2,nX n Ls G _ hmo hml];exact hmid
 obtain⟨nf,hnf⟩:∃nf:Nat→Rat,nf=fun i=>-f i:=⟨_,rfl⟩
 rw[←hnf];have e0:=Bi l2;have e1:=FD l2;have el:=Zw l2;have es0:=CO l2;have es1:=HX l2;have em:=XZ m2;have hmid':=hmid;have m2':=m2;have sz:Settled (.ptr 4 (Xf (qC 0)) 0):=XI fun j _=>Xe (l:=qC 0) (by simp[qC,Xc,X5]) j
 refine HCall.introC (fn:=Tryz.f167) Tryz.call167 Tryz.func167 rfl mixed 7 [11,12,13] [] [] (by kernel_rfl) (Nat.le_of_ble_eq_true rfl) (X6 (Z6 (by simp))) (fun p hp=>CH (n+1) L2 G _ hH2b (by omega) p hp _ (by rw[Kg,l2,hn0];exact Nat.le_refl _)) (Xk ?_);simp(disch:=omega)only[AS.start,hmid',qC,↓Xd,wG,seval];refine XJ rfl c1 ce1 (QB hB) (X2 _) ?_;simp(disch:=omega)only[m2',↓Xd,wG,seval];have fb:Jq (n0+1) (.sl k (k*4) (Xn f) true)=True:=eq_true (X6 (J3 fun j _=>Zl _ j));have fz:Jq (n0+1) (.ptr 4 (Xf (qC 0)) 0)=True:=eq_true (X6 sz);have fm:Jq (n0+1) (.ref mid 0 0)=True:=eq_true (QH (by omega));have fk:∀i,Jq (n0+1) (.osl n0 i 4 0 i)=True:=fun i=>eq_true (JR (by omega))
 have hO:∀v m g,∀p∈H2 ++ [AO.row v m (Xn g)],Qa (n0+1) p:=fun v m g p hp=>by
  rcases List.mem_append.1 hp with h |h
  ·exact hH2b p h _ (by omega)
  ·rw[List.mem_singleton.1 h];exact KV _ _ _ _
 refine Xj (fun i:Nat=>⟨7,[11,12,13],[.sl k (k*4) (Xn f) true,.ref mid 0 0,.ptr 4 (Xf (qC 0)) 0,.any,.osl n0 i 4 0 i,.any,.any],[(11,.sl k (k*4) (Xn f) true),(12,I k),(13,I i)],H2 ++ [.row i (i*4) (Xn (Zu nf i))]⟩) (fun i=>i≤k) (fun i=>k-i) 0 (by omega)
  (Sub.trans (Kk 4 4 (Xn (Zu nf 0)) rfl) (Xi rfl (by simp only[AS.put];exact⟨.inr rfl,.inr rfl,.inr rfl,.inl rfl,.inr (by rw[←l2]),.inl rfl,.inl rfl,trivial⟩) (by simp[AS.put,Xw,XA,I]) (by simp[AS.put]))) ?_
 intro i hi next
 by_cases hi2:i<k
 ·have c2:=KA (f i)
  have w1:=ZW f i;have w2:=ZP f i;have hap:=So (Zu nf i) i (nf i);rw[CL]at hap;have fi:nf i = -f i:=by rw[hnf]
  rw[fi]at hap;have nx:=next (i+1)
  refine Xk ?_;simp(disch:=omega)only[em,e0,e1,el,es0,es1,w1,w2,qC,List.append_assoc,↓Xd,wG,seval];refine X1 c2 rfl ?_;simp(disch:=omega)only[em,e0,e1,el,es0,es1,qC,List.append_assoc,↓Xd,wG,seval];exact⟨fun j hj=>UD (-f i) j hj,nx _ (by omega) (by omega) (XT (m:=n0+1) (by show H.length≤n0+1;omega) rfl (⟨.inr rfl,.inr rfl,.inr rfl,.inl rfl,.inr rfl,.inl rfl,.inl rfl,trivial⟩) (by simp[Xw,XA,I]) (by rw[ZI l2,←hap];rfl) (by simp[XW,fb,fz,fm,fk]) (by simp[XW,fb]) (hO _ _ _))⟩
 ·obtain rfl:i=k:=by omega
  clear next
  have c3:=iX (H2 ++ [AO.row i (i*4) (Xn (Zu nf i))]) o lid (n+1) i n0 i 0 (Zu nf i) L2 G (XZ o2 _) (XZ l2' _) (e0 _ _) hne (by omega) (by omega) (by rw[hL2,List.length_append,hn];rfl) (by omega) hk hk0 (fun p hp q hq=>by
   rw[el]at hq;exact(by
    rcases List.mem_append.1 hp with h |h
    ·exact hH2b p h _ (by omega)
    ·rw[List.mem_singleton.1 h];exact KV _ _ _ _))
  rw[jl,iW _ _ _ _ _ _ (by omega) (by omega)]at c3;have ce3:JP (H2 ++ [AO.row i (i*4) (Xn (Zu nf i))]) ((KF H2 o lid (n+1) L2 G ⟨Jv nf i,0⟩ ++ [AO.row i (i*4) (Xn (Zu nf i))]).set n0 .dead):=by
   have h1:=Fy (by rw[Kg]) (BN ⟨Jv nf i,0⟩ o2 l2' hne) [AO.row i (i*4) (Xn (Zu nf i))];have h2:=QE (h:=KF H2 o lid (n+1) L2 G ⟨Jv nf i,0⟩ ++ [AO.row i (i*4) (Xn (Zu nf i))]) (ob:=.dead) (Bi (n:=n0) (by rw[Kg,l2]) _ _) (by simp) (by simp);intro a w k f;exact(h1 a w k f).trans (h2 a w k f)
  refine Xk ?_;simp(disch:=omega)only[em,qC,List.append_assoc,↓Xd,wG,seval];refine XJ rfl c3 ce3 (QB (Kf hB2 fun p hp=>by rw[List.mem_singleton.1 hp];simp)) (X2 _) ?_;simp(disch:=omega)only[↓Xd,wG,seval];refine Wn rfl ?_;show List.take H.length (List.set _ n0 _)=_;rw[CO (by rw[Kg,l2]),hn0];exact Ch (by rw[Kg,l2]) _
def bC (b:BB):List AV:=vC b.c ++ qC b.light ++ qC b.heavy ++ qC b.strength
def gC (g:GG):List AV:=vC g.p ++ vC g.q ++ vC g.n ++ qC g.force ++ qC g.rough
theorem C7 (b:BB):∀a∈bC b,Settled a:=by simp[bC,vC,qC,Xc,X5]
theorem KB (g:GG):∀a∈gC g,Settled a:=by simp[gC,vC,qC,Xc,X5]
def bA (b:BB):AV:=.agg (bC b)
def gA (g:GG):AV:=.agg (gC g)
theorem Z3 (b:BB):Settled (bA b):=Qr (C7 b)
theorem Jh (g:GG):Settled (gA g):=Qr (KB g)
theorem QW (b:BB):bC b=[.bool (sg b.c.x),X8 (X9 b.c.x.num.natAbs),.bool false,X8 (X9 (qd b.c.x)),.bool (sg b.c.y),X8 (X9 b.c.y.num.natAbs),.bool false,X8 (X9 (qd b.c.y)),.bool (sg b.light),X8 (X9 b.light.num.natAbs),.bool false,X8 (X9 (qd b.light)),
 .bool (sg b.heavy),X8 (X9 b.heavy.num.natAbs),.bool false,X8 (X9 (qd b.heavy)),.bool (sg b.strength),X8 (X9 b.strength.num.natAbs),.bool false,X8 (X9 (qd b.strength))]:=rfl
theorem QK (g:GG):gC g=[.bool (sg g.p.x),X8 (X9 g.p.x.num.natAbs),.bool false,X8 (X9 (qd g.p.x)),.bool (sg g.p.y),X8 (X9 g.p.y.num.natAbs),.bool false,X8 (X9 (qd g.p.y)),
 .bool (sg g.q.x),X8 (X9 g.q.x.num.natAbs),.bool false,X8 (X9 (qd g.q.x)),.bool (sg g.q.y),X8 (X9 g.q.y.num.natAbs),.bool false,X8 (X9 (qd g.q.y)),
 .bool (sg g.n.x),X8 (X9 g.n.x.num.natAbs),.bool false,X8 (X9 (qd g.n.x)),.bool (sg g.n.y),X8 (X9 g.n.y.num.natAbs),.bool false,X8 (X9 (qd g.n.y)),
 .bool (sg g.force),X8 (X9 g.force.num.natAbs),.bool false,X8 (X9 (qd g.force)),.bool (sg g.rough),X8 (X9 g.rough.num.natAbs),.bool false,X8 (X9 (qd g.rough))]:=rfl
theorem gF (g:GG):Xf (gC g) 0=.bool (sg g.p.x)∧Xf (gC g) 1=X8 (X9 g.p.x.num.natAbs)∧Xf (gC g) 2=.bool false∧Xf (gC g) 3=X8 (X9 (qd g.p.x))∧Xf (gC g) 4=.bool (sg g.p.y)∧Xf (gC g) 5=X8 (X9 g.p.y.num.natAbs)∧Xf (gC g) 6=.bool false∧Xf (gC g) 7=X8 (X9 (qd g.p.y))∧Xf (gC g) 8=.bool (sg g.q.x)∧Xf (gC g) 9=X8 (X9 g.q.x.num.natAbs)∧Xf (gC g) 10=.bool false∧Xf (gC g) 11=X8 (X9 (qd g.q.x))∧Xf (gC g) 12=.bool (sg g.q.y)∧Xf (gC g) 13=X8 (X9 g.q.y.num.natAbs)∧Xf (gC g) 14=.bool false∧Xf (gC g) 15=X8 (X9 (qd g.q.y))∧Xf (gC g) 16=.bool (sg g.n.x)∧Xf (gC g) 17=X8 (X9 g.n.x.num.natAbs)∧Xf (gC g) 18=.bool false∧Xf (gC g) 19=X8 (X9 (qd g.n.x))∧Xf (gC g) 20=.bool (sg g.n.y)∧Xf (gC g) 21=X8 (X9 g.n.y.num.natAbs)∧Xf (gC g) 22=.bool false∧Xf (gC g) 23=X8 (X9 (qd g.n.y))∧Xf (gC g) 24=.bool (sg g.force)∧Xf (gC g) 25=X8 (X9 g.force.num.natAbs)∧Xf (gC g) 26=.bool false∧Xf (gC g) 27=X8 (X9 (qd g.force))∧Xf (gC g) 28=.bool (sg g.rough)∧Xf (gC g) 29=X8 (X9 g.rough.num.natAbs)∧Xf (gC g) 30=.bool false∧Xf (gC g) 31=X8 (X9 (qd g.rough)):=by
 refine⟨rfl,rfl,rfl,rfl,rfl,rfl,rfl,rfl,rfl,rfl,rfl,rfl,rfl,rfl,rfl,rfl,rfl,rfl,rfl,rfl,rfl,rfl,rfl,rfl,rfl,rfl,rfl,rfl,rfl,rfl,rfl,rfl⟩
theorem bF (b:BB):Xf (bC b) 0=.bool (sg b.c.x)∧Xf (bC b) 1=X8 (X9 b.c.x.num.natAbs)∧Xf (bC b) 2=.bool false∧Xf (bC b) 3=X8 (X9 (qd b.c.x))∧Xf (bC b) 4=.bool (sg b.c.y)∧Xf (bC b) 5=X8 (X9 b.c.y.num.natAbs)∧Xf (bC b) 6=.bool false∧Xf (bC b) 7=X8 (X9 (qd b.c.y))∧Xf (bC b) 8=.bool (sg b.light)∧Xf (bC b) 9=X8 (X9 b.light.num.natAbs)∧Xf (bC b) 10=.bool false∧Xf (bC b) 11=X8 (X9 (qd b.light))∧Xf (bC b) 12=.bool (sg b.heavy)∧Xf (bC b) 13=X8 (X9 b.heavy.num.natAbs)∧Xf (bC b) 14=.bool false∧Xf (bC b) 15=X8 (X9 (qd b.heavy))∧Xf (bC b) 16=.bool (sg b.strength)∧Xf (bC b) 17=X8 (X9 b.strength.num.natAbs)∧Xf (bC b) 18=.bool false∧Xf (bC b) 19=X8 (X9 (qd b.strength)):=by
 refine⟨rfl,rfl,rfl,rfl,rfl,rfl,rfl,rfl,rfl,rfl,rfl,rfl,rfl,rfl,rfl,rfl,rfl,rfl,rfl,rfl⟩
def bP (b:BB):AV:=.ptr 20 (Xf (bC b)) 0
def gP (g:GG):AV:=.ptr 32 (Xf (gC g)) 0
def Jx (x:Rat):AV:=.ptr 4 (Xf (qC x)) 0
theorem kV {n m:Nat}{f f':Nat→AV}(hf:∀j,j<m→f j=f' j):Weak (.sl n m f true) (.sl n m f' true):=fun c v h=>by
 cases h with
 |sl b base _ _ cap _ _ us hS hc hr hn ht=>exact .sl b base n m cap f' true us hS hc (fun j hj=>by rw[←hf j hj];exact hr j hj) hn ht
 |slz a cap _ _ ht=>exact .slz _ _ _ _ ht
theorem Hm (l:List Rat):∀j,j<l.length*4→Xf (l.flatMap qC) j=Xn (fun i=>l.getD i 0) j:=by
 induction l with
 |nil=>intro j hj;simp at hj
 |cons x l ih =>
  intro j hj;show(qC x ++ l.flatMap qC).getD j .any=_;by_cases h:j<4
  ·rw[List.getD_eq_getElem?_getD,List.getElem?_append_left (by exact h),←List.getD_eq_getElem?_getD]
   unfold Xn;rw[show j/4=0 by omega,show j%4=j by omega];rfl
  ·have h4:(qC x).length=4:=rfl
   rw[List.getD_eq_getElem?_getD,List.getElem?_append_right (by omega),h4,←List.getD_eq_getElem?_getD];have:=ih (j-4) (by simp at hj;omega);rw[show(l.flatMap qC).getD (j-4) .any=Xf (l.flatMap qC) (j-4)from rfl,this];unfold Xn;rw[show j/4=(j-4)/4+1 by omega,show j%4=(j-4)%4 by omega];rfl
theorem Js (l:List Rat)(n m:Nat)(L:List AV)(hL:L=l.flatMap qC)(hn:n=l.length)(hm:m=l.length*4):Weak (.sl n m (Xf L) true) (.sl n (n*4) (Xn fun i=>l.getD i 0) true):=by
 subst hn hm hL;exact kV fun j hj=>Hm l j hj
def ZL (b:BB)(g:GG)(n:Nat)(Ls:List Ln):List AO:=[.con 0 20 (Xf (bC b)),.con 0 32 (Xf (gC g)),.row 0 3 (Xf [I 0,.sl 0 0 (fun _=>.any) true,.sl 0 0 (fun _=>.any) true]),.con 0 4 (Xf (qC 0)),.con 0 4 (Xf (qC 1)),KG 7 n goal5,.con 0 1 (Xf [.fn 164 [.ref 5 0 0]]),Ak Ls n,.row 0 4 (Xf (qC (-g.rough))),.row 0 4 (Xf (qC (QA g.n))),.row 0 4 (Xf (qC (-1)))]
theorem G1 (b:BB)(g:GG)(n:Nat)(Ls:List Ln):Kt (ZL b g n Ls):=fun o ho q hq=>by
 have hq:11≤q:=hq;simp only[ZL,List.mem_cons,List.not_mem_nil,or_false]at ho;rcases ho with rfl |rfl |rfl |rfl |rfl |rfl |rfl |rfl |rfl |rfl |rfl
 ·exact fun j _=>X6 (Xe (C7 b) j)
 ·exact fun j _=>X6 (Xe (KB g) j)
 ·exact QX (by simp[Xb,JB])
 ·exact fun j _=>X6 (Xe (QJ 0) j)
 ·exact fun j _=>X6 (Xe (QJ 1) j)
 ·exact PT _ _ (by omega)
 ·exact fun j _=>D9 q (by
   intro x hx;rw[List.mem_singleton.1 hx];exact TP (by intro x hx;rw[List.mem_singleton.1 hx];exact QH (by omega))) j
 ·exact PS _ _ _
 ·exact EC _ _ _
 ·exact EC _ _ _
 ·exact EC _ _ _
theorem EF (b:BB)(g:GG)(n:Nat)(Ls:List Ln):QZ (ZL b g n Ls):=fun o ho=>by
 simp only[ZL,List.mem_cons,List.not_mem_nil,or_false]at ho;rcases ho with rfl |rfl |rfl |rfl |rfl |rfl |rfl |rfl |rfl |rfl |rfl <;> simp[KG,Ak]
theorem qm (b:BB)(g:GG)(n k:Nat)(Ls:List Ln)(r:Rat)(f:Nat→Rat)(hn:Ls.length=n)(hn2:n<1000)(hk:k≤5)(hk0:0<k)(l:List AO)(hl:∀o∈l,∀q,Qa q o) :
  HCall Tryz.prog 164 [qA r,.sl k (k*4) (Xn f) true,.ref 5 0 0] (ZL b g n Ls ++ l) (.tup []) (ZL b g (n+1) (Ls ++ [⟨Jv f k,r⟩]) ++ l)∧JP (ZL b g n Ls ++ l) (ZL b g (n+1) (Ls ++ [⟨Jv f k,r⟩]) ++ l):=by
 have h1:(ZL b g n Ls ++ l)[5]?=some (KG 7 n goal5):=rfl;have h2:(ZL b g n Ls ++ l)[7]?=some (Ak Ls n):=rfl;have h:=VY (ZL b g n Ls ++ l) 5 7 n k r f Ls goal5 h1 h2 (by omega) hn (by omega) hk hk0 (fun o ho q hq=>by
  rw[List.length_append]at hq;rcases List.mem_append.1 ho with h |h
  ·exact G1 b g n Ls o h q (by omega)
  ·exact hl o h q)
 exact⟨h,BN _ h1 h2 (by omega)⟩
theorem rS (b:BB)(g:GG)(n k:Nat)(Ls:List Ln)(f:Nat→Rat)(hn:Ls.length=n)(hn2:n<1000)(hk:k≤5)(hk0:0<k)(l:List AO)(hl:∀o∈l,(∀q,Qa q o)∧o≠.unborn) :
  HCall Tryz.prog 167 [.sl k (k*4) (Xn f) true,.ref 6 0 0,Jx 0] (ZL b g n Ls ++ l) (.tup []) (ZL b g (n+2) (Ls ++ [⟨Jv f k,0⟩] ++ [⟨Jv (fun i=>-f i) k,0⟩]) ++ l)∧JP (ZL b g n Ls ++ l) (ZL b g (n+2) (Ls ++ [⟨Jv f k,0⟩] ++ [⟨Jv (fun i=>-f i) k,0⟩]) ++ l):=by
 have h1:(ZL b g n Ls ++ l)[5]?=some (KG 7 n goal5):=rfl;have h2:(ZL b g n Ls ++ l)[7]?=some (Ak Ls n):=rfl;have h:=gr (ZL b g n Ls ++ l) 5 7 6 n k f Ls goal5 h1 h2 rfl (by omega) (by omega) (by omega) hn (by omega) hk hk0 (fun o ho q hq=>by
  rw[List.length_append]at hq;rcases List.mem_append.1 ho with h |h
  ·exact G1 b g n Ls o h q (by omega)
  ·exact(hl o h).1 q) (Kf (EF b g n Ls) fun o ho=>(hl o ho).2)
 refine⟨h,fun a w k' f'=>?_⟩;have g1:=BN (x:=⟨Jv f k,0⟩) h1 h2 (by omega) a w k' f';have g2:=BN (H:=KF (ZL b g n Ls ++ l) 5 7 n Ls goal5 ⟨Jv f k,0⟩) (x:=⟨Jv (fun i=>-f i) k,0⟩) (o:=5) (lid:=7) (n:=n+1) (Ls:=Ls ++ [⟨Jv f k,0⟩]) (G:=goal5) rfl rfl (by omega) a w k' f';exact g1.trans g2
end
end Go.Ab.N
