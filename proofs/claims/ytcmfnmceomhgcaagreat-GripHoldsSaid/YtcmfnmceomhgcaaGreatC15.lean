/- Contracts of functions, for every argument that fits. -/
import Derived.Test.YtcmfnmceomhgcaaGreatC14
import Derived.Test.YtcmfnmceomhgcaaGreatC13
import Derived.Test.YtcmfnmceomhgcaaGreatC12
set_option linter.unusedSimpArgs false
set_option linter.unusedVariables false
open Bool renaming and_true→ZCR
open Go.Ab.AS renaming start→O_,put→ZAt
open List renaming map_nil→ZB6,all_cons→ZDS,all_nil→ZDc
open Nat renaming add_sub_cancel_left→ZA0,not_lt→ZDe,le_antisymm→ZEb
open Rat renaming divInt→P'
namespace Go.Ab.N
open Go Go.RowKit Go.Proofs
noncomputable section
set_option maxRecDepth 10000
set_option maxHeartbeats 4000000
open Classical
def HS (c:AV)(m:Nat):AO:=.row 0 3 (Xf [.osl 4 m 1 0 m,c,.osl 5 m 1 0 m])
def Lj (f:Nat→AV)(m:Nat):AO:=.row m m f
def Li (b:Nat→Nat)(m:Nat):AO:=.row m m (fun i=>I (b i:Nat))
def TH (x y z:AO)(c:AV)(f:Nat→AV)(b:Nat→Nat)(m:Nat):List AO:=[x,y,z,HS c m,Lj f m,Li b m]
def Kv (t:Nat→Nat→Rat)(N m:Nat):Nat→AV:=fun i=>if i<m then XX (Qb (t i) N)else .any
theorem Fa (t:Nat→Nat→Rat){N m i:Nat}(h:i<m):Kv t N m i=XX (Qb (t i) N):=N_ h
theorem Pm (t:Nat→Nat→Rat)(N m r:Nat)(g:Nat→Rat)(hr:r<m):DE (Kv t N m) r [XX (Qb g N)]=Kv (fun i=>if i=r then g else t i) N m:=funext fun j=>by
 rw[BW];unfold Kv;by_cases h:j=r
 ·subst h
  rw[N_ ⟨by omega,by simp⟩,N_ hr,ZB7];simp only[if_true];rfl
 ·rw[M_ (fun g=>h (by have:=g.2;simp at this;omega))]
  split
  ·simp only[M_ h]
  ·rfl
theorem Fp (t:Nat→Nat→Rat)(N m q i:Nat):Jl q (Kv t N m i):=by
 unfold Kv
 split
 ·exact X4 (Xr _)
 ·exact X4 Jg
theorem PV {q m:Nat}(x y z:AO)(c:AV)(f:Nat→AV)(b:Nat→Nat)(hq:6≤q)(hx:Q0 q x)(hy:Q0 q y)(hz:Q0 q z)(hc:Jl q c)(hf:∀i,Jl q (f i)):∀o∈TH x y z c f b m,Q0 q o:=fun o ho=>by
 simp only[TH,b_,V_,or_false]at ho;rcases ho with rfl |rfl |rfl |rfl |rfl |rfl
 ·exact hx
 ·exact hy
 ·exact hz
 ·exact fun j _=>C7 q (by
   intro a ha;simp only[b_,V_,or_false]at ha;rcases ha with rfl |rfl |rfl
   ·exact JJ
   ·exact hc
   ·exact JJ) j
 ·exact fun j _=>hf j
 ·exact fun j _=>X4 (X8 _)
def TT (x y z:AO)(N m:Nat)(T:Tb):List AO:=TH x y z (XX (Qb T.c N)) (Kv T.t N m) T.b m
theorem DQ {q:Nat}(x y z:AO)(N m:Nat)(T:Tb)(hq:6≤q)(hx:Q0 q x)(hy:Q0 q y)(hz:Q0 q z):∀o∈TT x y z N m T,Q0 q o :=
 PV x y z _ _ _ hq hx hy hz (X4 (Xr _)) fun i=>Fp _ _ _ _ i
def Hp (T:Tb)(r p k:Nat):Nat→Nat→Rat:=fun i=>if i<k∧i≠r then(Cd T r p).t i else T.t i
theorem ft (T:Tb)(r p k:Nat)(h:k≠r):(fun i=>if i=k then(Cd T r p).t k else Hp T r p k i)=Hp T r p (k+1):=funext fun i=>by
 unfold Hp;by_cases e:i=k
 ·subst e
  rw[N_ rfl,N_ ⟨by omega,h⟩]
 ·rw[M_ e]
  by_cases e2:i<k∧i≠r
  ·rw[N_ e2,N_ ⟨by omega,e2.2⟩]
  ·rw[M_ e2,M_ fun g=>e2 ⟨by omega,g.2⟩]
theorem wP (T:Tb)(r p:Nat):Hp T r p 0=T.t:=funext fun i=>M_ fun g=>absurd g.1 (ZAL _)
theorem pg (b:Nat→Nat)(r p:Nat):DE (fun i=>I (b i:Nat)) r [I p]=fun i=>I ((if i=r then p else b i:Nat)):=funext fun j=>by
 rw[BW];by_cases h:j=r
 ·subst h
  rw[N_ ⟨by omega,by simp⟩,N_ rfl,ZB7];rfl
 ·rw[M_ (fun g=>h (by have:=g.2;simp at this;omega)),M_ h]
theorem fq (T:Tb)(r p:Nat):Hp T r p r=Hp T r p (r+1):=funext fun i=>by
 unfold Hp;by_cases e2:i<r∧i≠r
 ·rw[N_ e2,N_ ⟨by omega,e2.2⟩]
 ·rw[M_ e2,M_ fun g=>e2 ⟨by omega,g.2⟩]
theorem mi (T:Tb)(r p m N:Nat):Kv (fun i=>if i=r then(fun j=>T.t r j/T.t r p)else Hp T r p m i) N m=Kv (Cd T r p).t N m:=funext fun i=>by
 unfold Kv
 split
 ·rename_i hi
  by_cases e:i=r
  ·subst e
   simp only[if_true];refine y_ XX (Ec fun j _=>?_);show _=if i=i then _ else _
   rw[N_ rfl]
  ·simp only[M_ e]
   unfold Hp;rw[N_ ⟨hi,e⟩]
 ·rfl
theorem Wc (x y z:AO)(T:Tb)(N m r p Q:Nat)(hx:∀ q,6≤q→Q0 q x)(hy:∀ q,6≤q→Q0 q y)(hz:∀ q,6≤q→Q0 q z)(hr:r<m)(hp:p<N)(hN:N<1000000)(hm:m<1000000)(hQ:Q≤5000000)
    (hq1:∀i j,i<m→j<N→qb (T.t i j)≤Q) (hq2:∀j,j<N→qb (T.c j)≤20000000) :
    G' Tryz.prog 173 [.ref 3 0 0,I r,I p] (TT x y z N m T) (.tup []) (TT x y z N m (Cd T r p)):=by
  have c1:=XL 1 1 ⟨by omega,by omega⟩ ⟨by omega,by omega⟩;rw[show P' 1 1=1 by decide +kernel]at c1;have q1:=hq1 r p hr hp;have o1:qb 1≤1:=by decide +kernel
  have c2:=Bl 1 (T.t r p);have c3:=Ld (Qb (T.t r) N) (1/T.t r p) (by rw[Dw];omega) (by have:=C2 1 (T.t r p);unfold rm;omega) (fun a ha=>by
    obtain⟨j,hj,rfl⟩:=ZBj.1 ha;have:=hq1 r j hr (ZDH.1 hj);unfold rm;omega)
  rw[show(Qb (T.t r) N).map (·*(1/T.t r p))=Qb (fun j=>T.t r j/T.t r p) N by
    unfold Qb;rw[List.map_map];exact ZAh fun j _=>by show T.t r j*(1/T.t r p)=T.t r j/T.t r p;grind]at c3
  have at0:∀ (h:Nat→Rat) i,i<N→Xm (fun i=>(Qb h N).getD i 0) (i*4)=(qC (h i)).getD 0 .any:=fun h i hi=>by rw[JC];simp only[Kj h hi]
  have at1:∀ (h:Nat→Rat) i j,i<N→j<4→Xm (fun i=>(Qb h N).getD i 0) (i*4+j)=(qC (h i)).getD j .any:=fun h i j hi hj=>by rw[QD _ _ _ hj];simp only[Kj h hi]
  have p0:=at0 (T.t r) p hp;have p1:=fun j hj=>at1 (T.t r) p j hp hj
  have fp:(p<N)=True:=L' hp;have fr:(r<m)=True:=L' hr;have er:=Fa T.t (N:=N) hr;have wr:=wj r;refine G'.TAp (fn:=Tryz.f173) Tryz.call173 Tryz.func173 rfl mixed 8 [] [] [] (by kernel_rfl) (K_ rfl) (X4 (Z5)) (fun o ho=>DQ x y z N m _ (N' _) (hx _ (N' _)) (hy _ (N' _)) (hz _ (N' _)) o ho) (Xk ?_);simp(disch:=omega)only[O_,TT,TH,HS,Lj,Li,fr,er,Qg,fp,p0,p1,qC,↓Xc,wG,seval];refine X0 c1 (X1 _) ?_;simp(disch:=omega)only[TT,TH,HS,Lj,Li,fr,er,Qg,fp,p0,p1,qA,qC,↓Xc,wG,seval];refine X0 c2 (X1 _) ?_;simp(disch:=omega)only[qA,qC,↓Xc,wG,seval];refine X0 c3 ⟨by rw[Qg];exact U_ _,U_ _,trivial⟩ ?_;simp(disch:=omega)only[TT,TH,HS,Lj,Li,↓Xc,wG,seval];have sR:=Xr (Qb (fun j=>T.t r j/T.t r p) N);have dR:∀j,j<N→qb (T.t r j/T.t r p)≤10000000:=fun j hj=>by
    have:=C2 (T.t r j) (T.t r p);have:=hq1 r j hr hj;omega
  have cc:=NH T.c (fun j=>T.t r j/T.t r p) N p 20000000 hp hN (N' _) hq2 (fun j hj=>by have:=dR j hj;omega);have ct:∀i,i<m→Fn Tryz.prog 220 [XX (Qb (T.t i) N),XX (Qb (fun j=>T.t r j/T.t r p) N),I p] (XX (Qb (fun j=>T.t i j-T.t i p*(T.t r j/T.t r p)) N)):=fun i hi=>NH (T.t i) (fun j=>T.t r j/T.t r p) N p 20000000 hp hN (N' _) (fun j hj=>by have:=hq1 i j hi hj;omega) (fun j hj=>by have:=dR j hj;omega)
  have cc:Fn Tryz.prog 220 [XX (Qb T.c N),XX (Qb (fun j=>T.t r j/T.t r p) N),I p] (XX (Qb (Cd T r p).c N)):=cc;have TEm:=Pm (Hp T r p m) N m r (fun j=>T.t r j/T.t r p) hr;rw[mi]at TEm;have TFf:DE (fun i=>I (T.b i:Nat)) r [I p]=fun i=>I ((Cd T r p).b i:Nat):=pg T.b r p
  generalize hRR:XX (Qb (fun j=>T.t r j/T.t r p) N)=RR at *;have bR:∀q,Jl q RR=True:=fun q=>L' (X4 sR)
  have r1:RR.cells=[RR]:=hRR▸KF _;have r2:RR.one=true:=hRR▸Q6 _;have r3:RR.loose=RR:=hRR▸XN _;refine Xj (fun i:Nat=>⟨8,[],[.ref 3 0 0,I r,I p,.any,.any,.any,RR,I i],[],TH x y z (XX (Qb T.c N)) (Kv (Hp T r p i) N m) T.b m⟩) (fun i=>i≤m) (fun i=>m-i) 0 (by omega)
    (ZZ (by simp[Xo,I]) (by rw[wP];unfold TH HS;rw[Qg];rfl)) ?_
  intro i hi next
  have w1:=wj i;by_cases hi2:i<m
  · have nx:=next (i+1)
    clear next
    have f1:(i<m)=True:=L' hi2;have ei:=Fa (Hp T r p i) (N:=N) hi2;by_cases hir:i=r
    · subst hir;rw[←fq]at nx;refine Xk ?_;simp(disch:=omega)only[TH,HS,Lj,Li,f1,w1,↓Xc,wG,seval];exact nx _ (by omega) (by omega) (ZZ (by simp[Xo,I]) rfl)
    · have f2:((i:Int)=r)=False:=R_ (by omega);have f2':(i=r)=False:=R_ hir;have ci:=ct i hi2;have hst:=Pm (Hp T r p i) N m i ((Cd T r p).t i) hi2;rw[ft T r p i hir]at hst;have ep:Hp T r p i i=T.t i:=M_ fun g=>absurd g.1 (ZAG _)
      rw[ep]at ei;have en:(Qb (fun j=>T.t i j-T.t i p*(T.t r j/T.t r p)) N)=Qb ((Cd T r p).t i) N:=Ec fun j _=>by show _=if i=r then _ else _;rw[M_ hir]
      rw[en]at ci;refine Xk ?_;simp(disch:=omega)only[TH,HS,Lj,Li,f1,f2,f2',w1,ei,↓Xc,wG,seval];refine X0 ci (X1 _) ?_;simp(disch:=omega)only[TH,HS,Lj,Li,f1,f2,f2',w1,ei,Q6,XN,KF,ZBW,ZB6,ZAA,ZAN,ZDS,ZDc,ZCR,↓Xc,wG,seval];exact nx _ (by omega) (by omega) (ZZ (by simp[Xo,I]) (by rw[←hst];rfl))
  · obtain rfl:i=m:=by omega
    refine Xk ?_;simp(disch:=omega)only[TH,HS,Lj,Li,fr,↓Xc,wG,seval];refine X0 cc (X1 _) ?_;simp(disch:=omega)only[TH,HS,Lj,Li,fr,wr,Q6,Gt,XN,↓Xc,wG,seval];refine⟨⟨rfl,by simp[KF],by simp[KF],rfl⟩,?_⟩;simp(disch:=omega)only[TH,HS,Lj,Li,fr,wr,Q6,Gt,XN,KF,↓Xc,wG,seval];refine⟨⟨by rw[r1];rfl,by simp[r1],by simp[r1];omega,by rw[r1];simp[r2]⟩,?_⟩;simp(disch:=omega)only[TH,HS,Lj,Li,fr,wr,Q6,Gt,XN,KF,r1,r3,ZBW,ZB6,↓Xc,wG,seval];refine RA rfl ?_;rw[←TEm,←TFf];rfl
theorem Pl (t:Nat→Nat→Rat){N m i:Nat}(h:i<m):Kv t N m i=.sl N (N*4) (Xm fun j=>(Qb (t i) N).getD j 0) false:=by rw[Fa t h,Qg]
def Aq (T:Tb)(n p k:Nat):Int:=match JI T n p k with |none=>-1 |some r=>r
def AE (T:Tb)(n p k:Nat):Rat:=match JI T n p k with |none=>0 |some r=>T.q n p r
theorem Rn (x y z:AO)(T:Tb)(n m p:Nat)(hx:∀ q,6≤q→Q0 q x)(hy:∀ q,6≤q→Q0 q y)(hz:∀ q,6≤q→Q0 q z)(hp:p<n+1)(hN:n<1000000)(hm:m<1000000)
  (hq1:∀i j,i<m→j<n+1→qb (T.t i j)≤5000000) :
  G' Tryz.prog 221 [.ref 3 0 0,I p] (TT x y z (n+1) m T) (I (Aq T n p m)) (TT x y z (n+1) m T):=by
 have at0:∀ (h:Nat→Rat) i,i<n+1→Xm (fun i=>(Qb h (n+1)).getD i 0) (i*4)=(qC (h i)).getD 0 .any:=fun h i hi=>by rw[JC];simp only[Kj h hi]
 have at1:∀ (h:Nat→Rat) i j,i<n+1→j<4→Xm (fun i=>(Qb h (n+1)).getD i 0) (i*4+j)=(qC (h i)).getD j .any:=fun h i j hi hj=>by rw[QD _ _ _ hj];simp only[Kj h hi]
 have fp:(p<n+1)=True:=L' hp;refine G'.TAp (fn:=Tryz.f221) Tryz.call221 Tryz.func221 rfl mixed 11 [] [8,9005,9009] [] (by kernel_rfl) (K_ rfl) (X4 (X8 _)) (fun o ho=>DQ x y z (n+1) m _ (N' _) (hx _ (N' _)) (hy _ (N' _)) (hz _ (N' _)) o ho) (Xk ?_);simp(disch:=omega)only[O_,TT,TH,HS,Lj,Li,↓Xc,wG,seval];have w0:=QB true;refine d_ ?_ (Qe 6 (Xf (qC 0)) rfl (fun j hj=>by
  match j,hj with
  |0,_=>exact Xy w0.1
  |1,_=>exact Xy w0.2.1
  |2,_=>exact Xy w0.2.2.1
  |3,_=>exact Xy w0.2.2.2.1
  |j+4,h=>omega))
 refine Xj (fun i:Nat=>⟨11,[],[.ref 3 0 0,I p,.any,.any,.any,I (Aq T n p i),.ref 6 0 0,I i,.any,.any,.any],[],TT x y z (n+1) m T ++ [.row 0 4 (Xf (qC (AE T n p i)))]⟩) (fun i=>i≤m) (fun i=>m-i) 0 (by omega)
  (Xh rfl ⟨.inr rfl,.inr rfl,.inl rfl,.inl rfl,.inl rfl,.inr rfl,.inr rfl,.inr rfl,.inl rfl,.inl rfl,.inl rfl,trivial⟩ (by simp[Xx]) rfl) ?_
 intro i hi next
 have w1:=wj i;by_cases hi2:i<m
 rotate_left
 ·obtain rfl:i=m:=by omega
  refine Xk ?_;simp(disch:=omega)only[TT,TH,HS,Lj,Li,e_,h_,↓Xc,wG,seval];exact mH rfl rfl rfl
 have nx:=next (i+1)
 clear next
 have f1:(i<m)=True:=L' hi2;have ei:=Pl T.t (N:=n+1) hi2;have a0:=at0 (T.t i) p hp;have a1:=fun j hj=>at1 (T.t i) p j hp hj
 have b0:=at0 (T.t i) n (by omega);have b1:=fun j hj=>at1 (T.t i) n j (by omega) hj
 have q1:=hq1 i p hi2 hp;have q2:=hq1 i n hi2 (by omega);have d1:=Q8 (T.t i p);have d2:=Bl (T.t i n) (T.t i p);have q3:=C2 (T.t i n) (T.t i p);have wn:=wj n;have fn':(n<n+1)=True:=L' (by omega);have en:(((n+1:Nat):Int)-1).toNat=n:=by omega
 have en2:((n+1:Nat):Int)-1=(n:Int):=by omega
 have bZ:∀q u,Q0 q (.row 0 4 (Xf (qC u)))=True:=fun q u=>L' (QZ (XU u))
 have bH:∀o∈TT x y z (n+1) m T ++ [.row 0 4 (Xf (qC (AE T n p (i+1))))],Q0 7 o:=fun o ho=>by
  rcases n_.1 ho with h |h
  ·exact DQ x y z _ _ _ (by omega) (hx _ (by omega)) (hy _ (by omega)) (hz _ (by omega)) o h
  ·rw[Y_.1 h];exact QZ (XU _)
 have bS:∀q (f:Nat→Rat),Jl q (.sl (n+1) ((n+1)*4) (Xm fun j=>(Qb f (n+1)).getD j 0) false)=True:=fun q f=>L' (X4 (Qg f (n+1)▸Xr _))
 by_cases hs:0<T.t i p
 rotate_left
 ·have fs:((T.t i p).num.sign≤0)=True:=L' (by rw[←ZN]at hs;omega)
  have e1:JI T n p (i+1)=JI T n p i:=M_ hs;have e2:Aq T n p (i+1)=Aq T n p i:=by unfold Aq;rw[e1]
  have e3:AE T n p (i+1)=AE T n p i:=by unfold AE;rw[e1]
  rw[e2,e3]at nx;refine Xk ?_;simp(disch:=omega)only[TT,TH,HS,Lj,Li,e_,h_,f1,w1,ei,fp,a0,a1,qC,↓Xc,wG,seval];refine X0 d1 (X1 _) ?_;simp(disch:=omega)only[fs,f1,w1,ei,fp,a0,a1,b0,b1,fn',en,en2,qC,↓Xc,wG,seval];exact nx _ (by omega) (by omega) (ZZ (by simp[Xo,I]) rfl)
 have fs:((T.t i p).num.sign≤0)=False:=R_ (by rw[←ZN]at hs;omega);have c3:=J2 (T.t i n/T.t i p) (AE T n p i) (by unfold rm;omega) (by
  unfold AE;cases hl:JI T n p i with
  |none=>show qb 0≤rm;decide +kernel
  |some r =>
   have hr:=(ZI hl).1;have:=C2 (T.t r n) (T.t r p);have:=hq1 r n (by omega) (by omega);have:=hq1 r p (by omega) hp;show qb (T.t r n/T.t r p)≤rm;unfold rm;omega)
 have eq:T.t i n/T.t i p=T.q n p i:=rfl;rw[eq]at d2 c3;cases hl:JI T n p i with
 |none =>
  have e1:JI T n p (i+1)=some i:=by
   show(if 0<T.t i p then _ else _)=_;rw[N_ hs,hl]
  have e2:Aq T n p (i+1)=i:=by unfold Aq;rw[e1]
  have e3:AE T n p (i+1)=T.q n p i:=by unfold AE;rw[e1]
  have e4:Aq T n p i = -1:=by unfold Aq;rw[hl]
  rw[e3]at bH;rw[e2,e3]at nx;generalize AE T n p i=lq at *;generalize T.q n p i=qi at *;refine Xk ?_;simp(disch:=omega)only[TT,TH,HS,Lj,Li,e_,h_,f1,w1,ei,fp,a0,a1,qC,e4,↓Xc,wG,seval];refine X0 d1 (X1 _) ?_;simp(disch:=omega)only[fs,f1,w1,ei,fp,a0,a1,b0,b1,fn',en,en2,qC,↓Xc,wG,seval];refine X0 d2 (X1 _) ?_;simp(disch:=omega)only[fs,f1,w1,ei,qA,qC,↓Xc,wG,seval];refine X0 c3 (X1 _) ?_;simp(disch:=omega)only[fs,f1,w1,ei,qA,qC,↓Xc,wG,seval];exact nx _ (by omega) (by omega) (XG (m:=7) (by show 6≤7;omega) rfl ⟨.inr rfl,.inr rfl,.inl rfl,.inl rfl,.inl rfl,.inr rfl,.inr rfl,.inr rfl,.inl rfl,.inl rfl,.inl rfl,trivial⟩ (by simp[Xx]) rfl (by simp[XP]) (by simp[XP]) bH)
 |some r =>
  obtain⟨hr,g1,g2⟩:=ZI hl;have e4:Aq T n p i=r:=by unfold Aq;rw[hl]
  have e5:AE T n p i=T.q n p r:=by unfold AE;rw[hl]
  rw[e5]at c3;have wr:=wj r;have fr:(r<m)=True:=L' (by omega);have er:max (r:Int) 0=(r:Int):=by omega
  have er2:((r:Int)<0)=False:=R_ (by omega);have e1:JI T n p (i+1)=if T.q n p i<T.q n p r∨(T.q n p i=T.q n p r∧T.b i<T.b r)then some i else some r:=by
   show(if 0<T.t i p then _ else _)=_;rw[N_ hs,hl]
  have d2':=d2;have lt1:(Bk (T.q n p i) (T.q n p r)<0)=(T.q n p i<T.q n p r):=propext (CV _ _);have lt2:(Bk (T.q n p i) (T.q n p r)=0)=(T.q n p i=T.q n p r):=propext ⟨fun h=>Rat.le_antisymm ((Kt _ _).1 (by omega)) ((Hv _ _).1 (by omega)),fun h=>by have h1:=(Kt _ _).2 (show T.q n p i≤T.q n p r by rw[h];exact ZCt);have h2:=(Hv _ _).2 (show T.q n p r≤T.q n p i by rw[h];exact ZCt);omega⟩;refine Xk ?_;simp(disch:=omega)only[TT,TH,HS,Lj,Li,e_,h_,f1,w1,ei,fp,a0,a1,qC,e4,e5,↓Xc,wG,seval];refine X0 d1 (X1 _) ?_;simp(disch:=omega)only[fs,f1,w1,ei,fp,a0,a1,b0,b1,fn',en,en2,qC,↓Xc,wG,seval];refine X0 d2 (X1 _) ?_;simp(disch:=omega)only[fs,f1,w1,ei,qA,qC,↓Xc,wG,seval];refine X0 c3 (X1 _) ?_;by_cases h1:T.q n p i<T.q n p r
  ·have e6:JI T n p (i+1)=some i:=by rw[e1,N_ (.inl h1)]
   rw[show AE T n p (i+1)=T.q n p i from by unfold AE;rw[e6]]at nx bH;rw[show Aq T n p (i+1)=(i:Int)from by unfold Aq;rw[e6]]at nx;simp(disch:=omega)only[f1,w1,ei,qA,qC,er,er2,wr,fr,lt1,h1,↓Xc,wG,seval];exact nx _ (by omega) (by omega) (XG (m:=7) (by show 6≤7;omega) rfl ⟨.inr rfl,.inr rfl,.inl rfl,.inl rfl,.inl rfl,.inr rfl,.inr rfl,.inr rfl,.inl rfl,.inl rfl,.inl rfl,trivial⟩ (by simp[Xx]) rfl (by simp[XP]) (by simp[XP]) bH)
  by_cases h2:T.q n p i=T.q n p r
  ·have fq1:(Bk (T.q n p i) (T.q n p r)<0)=False:=R_ (by rw[lt1];exact h1)
   have fq2:(Bk (T.q n p i) (T.q n p r)=0)=True:=L' (by rw[lt2];exact h2);by_cases h3:T.b i<T.b r
   ·have e6:JI T n p (i+1)=some i:=by rw[e1,N_ (.inr ⟨h2,h3⟩)]
    rw[show AE T n p (i+1)=T.q n p i from by unfold AE;rw[e6]]at nx bH;rw[show Aq T n p (i+1)=(i:Int)from by unfold Aq;rw[e6]]at nx;simp(disch:=omega)only[f1,w1,ei,qA,qC,er,er2,wr,fr,fq1,fq2,show((T.b i:Int)<T.b r)=True from L' (by omega),↓Xc,wG,seval];exact nx _ (by omega) (by omega) (XG (m:=7) (by show 6≤7;omega) rfl ⟨.inr rfl,.inr rfl,.inl rfl,.inl rfl,.inl rfl,.inr rfl,.inr rfl,.inr rfl,.inl rfl,.inl rfl,.inl rfl,trivial⟩ (by simp[Xx]) rfl (by simp[XP]) (by simp[XP]) bH)
   ·have e6:JI T n p (i+1)=some r:=by rw[e1,M_ (fun g=>g.elim h1 fun g=>h3 g.2)]
    rw[show AE T n p (i+1)=T.q n p r from by unfold AE;rw[e6]]at nx bH;rw[show Aq T n p (i+1)=(r:Int)from by unfold Aq;rw[e6]]at nx;simp(disch:=omega)only[f1,w1,ei,qA,qC,er,er2,wr,fr,fq1,fq2,show((T.b i:Int)<T.b r)=False from R_ (by omega),↓Xc,wG,seval];exact nx _ (by omega) (by omega) (XG (m:=7) (by show 6≤7;omega) rfl ⟨.inr rfl,.inr rfl,.inl rfl,.inl rfl,.inl rfl,.inr rfl,.inr rfl,.inr rfl,.inl rfl,.inl rfl,.inl rfl,trivial⟩ (by simp[Xx]) rfl (by simp[XP]) (by simp[XP]) bH)
  ·have e6:JI T n p (i+1)=some r:=by rw[e1,M_ (fun g=>g.elim h1 fun g=>h2 g.1)]
   rw[show AE T n p (i+1)=T.q n p r from by unfold AE;rw[e6]]at nx bH;rw[show Aq T n p (i+1)=(r:Int)from by unfold Aq;rw[e6]]at nx;simp(disch:=omega)only[f1,w1,ei,qA,qC,er,er2,wr,fr,lt1,lt2,h1,h2,↓Xc,wG,seval];exact nx _ (by omega) (by omega) (XG (m:=7) (by show 6≤7;omega) rfl ⟨.inr rfl,.inr rfl,.inl rfl,.inl rfl,.inl rfl,.inr rfl,.inr rfl,.inr rfl,.inl rfl,.inl rfl,.inl rfl,trivial⟩ (by simp[Xx]) rfl (by simp[XP]) (by simp[XP]) bH)
theorem Hy (b:BB)(g:GG):∀x∈F0 b g,x∈JB b g:=fun x hx=>by
 unfold F0 at hx;unfold JB;rcases n_.1 hx with h |h
 ·refine n_.2 (.inl ?_)
  unfold TK at h;unfold TE;simp only[b_,V_,or_false]at h ⊢;rcases h with h |h |h |h |h |h |h |h |h |h |h <;> simp[h]
 ·exact n_.2 (.inr h)
theorem Hx (b:BB)(g:GG):(F0 b g).length=17:=rfl
theorem wV {b:BB}{g:GG}(hb:bS b)(hg:gS g):(∀i k,qb (lA (F0 b g) i k)≤5700)∧∀i,qb (lB (F0 b g) i)≤5700:=by
 have k1:=Hs hb hg;have e0:qb 0≤5700:=by decide +kernel
 refine⟨fun i k=>?_,fun i=>?_⟩
 ·unfold lA
  by_cases hi:i<(F0 b g).length
  ·have hm:=Hy b g _ (Qp KN hi)
   by_cases hk:k<((F0 b g).getD i KN).a.length
   ·exact(k1 _ hm).1 _ (Qp 0 hk)
   ·rw[K' (i:=k),k_ (by omega)];exact e0
  ·rw[K' (i:=i),k_ (by omega)];exact e0
 ·unfold lB
  by_cases hi:i<(F0 b g).length
  ·exact(k1 _ (Hy b g _ (Qp KN hi))).2
  ·rw[K' (i:=i),k_ (by omega)];exact e0
theorem kU (k:Nat):qb (lG TAO k)≤5700:=by
 have e0:qb 0≤5700:=by decide +kernel
 have e1:qb 1≤5700:=by decide +kernel
 unfold lG TAO
 match k with
 |0=>exact e0
 |1=>exact e0
 |2=>exact e0
 |3=>exact e0
 |4=>exact e1
 |k+5=>exact e0
theorem N7 (x y z:AO)(T:Tb)(C:AV)(cost:Nat→Rat)(N m:Nat)(hx:∀ q,6≤q→Q0 q x)(hy:∀ q,6≤q→Q0 q y)(hz:∀ q,6≤q→Q0 q z)(hN:N<100000)(hm:m<1000000)
  (hq1:∀i j,i<m→j<N+1→qb (T.t i j)≤5000000) (hq2:∀j,j<N→qb (cost j)≤5000000) (hb:∀i,i<m→T.b i<N∧cost (T.b i)=0) (hc:cost N=0) :
  G' Tryz.prog 171 [.ref 3 0 0,XX (Qb cost N)] (TH x y z C (Kv T.t (N+1) m) T.b m) (.tup []) (TT x y z (N+1) m { T with c:=cost }):=by
 have z0:qb 0≤5000000:=by decide +kernel
 have cw:∀i,i<m→Fn Tryz.prog 220 [XX (Qb cost (N+1)),XX (Qb (T.t i) (N+1)),I (T.b i:Nat)] (XX (Qb cost (N+1))):=fun i hi=>by
  have:=NH cost (T.t i) (N+1) (T.b i) 5000000 (by have:=(hb i hi).1;omega) (by omega) (by omega) (fun j hj=>by
   by_cases h:j<N
   ·exact hq2 j h
   ·obtain rfl:j=N:=by omega
    rw[hc];exact z0) (fun j hj=>hq1 i j hi hj)
  rwa[show Qb (fun j=>cost j-cost (T.b i)*T.t i j) (N+1)=Qb cost (N+1)from Ec fun j _=>by rw[(hb i hi).2];grind]at this
 refine G'.TAp (fn:=Tryz.f171) Tryz.call171 Tryz.func171 rfl mixed 5 [] [] [] (by kernel_rfl) (K_ rfl) (X4 (Z5)) (fun o ho=>DQ x y z (N+1) m _ (N' _) (hx _ (N' _)) (hy _ (N' _)) (hz _ (N' _)) o ho) (Xk ?_);have one:∀j,(Xm (fun i=>(Qb cost N).getD i 0) j).one=true:=fun j=>by unfold Xm;exact CF _ _ (ZAI _ (by omega))
 simp(disch:=omega)only[O_,TT,TH,HS,Lj,Li,Qg,↓Xc,wG,seval];refine⟨fun j _=>one j,?_⟩;obtain⟨A,hA⟩:∃A:Nat→AV,A=XV (N*4) (XV 0 (Xf []) (N*4) (Xm fun i=>(Qb cost N).getD i 0)) 4 (Xf [.bool false,.sl 0 0 (fun _=>.any) false,.bool false,.sl 0 0 (fun _=>.any) false]):=⟨_,rfl⟩
 have w0:=QB false;have hw:∀j,j<(N+1)*4→B' (A j) (Xm (fun i=>(Qb cost (N+1)).getD i 0) j):=fun j hj=>by
  have e1:Xm (fun i=>(Qb cost (N+1)).getD i 0) j=Xm cost j:=Kd (N:=N+1) (fun i hi=>Kj cost hi) j hj;rw[e1,hA];unfold XV;by_cases h:j<N*4
  ·rw[N_ h]
   rw[M_ (by omega),N_ (by omega),Nat.sub_zero,Kd (N:=N) (fun i hi=>Kj cost hi) j h];exact U_ _
  ·rw[M_ h,N_ (by omega)]
   obtain⟨i,rfl⟩:∃i,j=N*4+i:=⟨j-N*4,by omega⟩
   rw[QD _ _ _ (by omega),hc,ZA0];have hi:i<4:=by omega
   match i,hi with
   |0,_=>exact w0.1
   |1,_=>exact w0.2.1
   |2,_=>exact w0.2.2.1
   |3,_=>exact w0.2.2.2.1
   |i+4,h=>omega
 rw[←hA];refine⟨fun j hj=>by
  match j,hj with
  |0,_ |1,_ |2,_ |3,_=>rfl
  |j+4,h=>omega,?_⟩
 clear hA;have bC:∀q,Jl q (XX (Qb cost (N+1))):=fun q=>X4 (Xr _)
 have bH:∀q,6≤q→∀o∈TH x y z (XX (Qb cost (N+1))) (Kv T.t (N+1) m) T.b m,Q0 q o:=fun q hq=>PV x y z _ _ _ hq (hx q hq) (hy q hq) (hz q hq) (bC q) fun i=>Fp _ _ _ _ i
 refine Xj (fun i:Nat=>⟨5,[],[.ref 3 0 0,.any,.any,.any,I i],[],TH x y z (XX (Qb cost (N+1))) (Kv T.t (N+1) m) T.b m⟩) (fun i=>i≤m) (fun i=>m-i) 0 (by omega)
  ((Xz 6 rfl).trans ((Qe 3 (Xf [.osl 4 m 1 0 m,XX (Qb cost (N+1)),.osl 5 m 1 0 m]) rfl (fun j hj=>by
   match j,hj with
   |0,_=>exact XD _ _
   |1,_=>show Jj _ _ (XX (Qb cost (N+1)));rw[Qg];exact JG rfl (N' _) (by omega) fun j hj=>Xy (hw j hj)
   |2,_=>exact XD _ _
   |j+3,h=>omega)).trans (XG (m:=6) (N' _) rfl ⟨.inr rfl,.inl rfl,.inl rfl,.inl rfl,.inr rfl,trivial⟩ (by simp[Xx]) rfl (by simp[XP]) (by simp[XP]) (bH 6 (N' _))))) ?_
 intro i hi next
 have w1:=wj i;by_cases hi2:i<m
 ·have nx:=next (i+1)
  have f1:(i<m)=True:=L' hi2;have ei:=Fa T.t (N:=N+1) hi2;have ci:=cw i hi2;refine Xk ?_;simp(disch:=omega)only[TH,HS,Lj,Li,f1,w1,ei,↓Xc,wG,seval];refine X0 ci (X1 _) ?_;simp(disch:=omega)only[TH,HS,Lj,Li,f1,w1,ei,Q6,XN,KF,ZBW,ZB6,ZAA,ZAN,ZDS,ZDc,ZCR,↓Xc,wG,seval];exact nx _ (by omega) (by omega) (ZZ (by simp[Xo,I]) rfl)
 ·obtain rfl:i=m:=by omega
  refine Xk ?_;simp(disch:=omega)only[TH,HS,Lj,Li,↓Xc,wG,seval];exact RA rfl rfl
theorem Dm (x y z:AO)(c c':AV)(f f':Nat→AV)(b b':Nat→Nat)(m:Nat):K5 (TH x y z c f b m) (TH x y z c' f' b' m):=fun a ver n g=>by
 match a with
 |0=>exact ZCo
 |1=>exact ZCo
 |2=>exact ZCo
 |3=>exact⟨fun h=>(by cases h),fun h=>(by cases h)⟩
 |4=>exact⟨fun h=>(by cases h),fun h=>(by cases h)⟩
 |5=>exact⟨fun h=>(by cases h),fun h=>(by cases h)⟩
 |a+6=>exact⟨fun h=>(by cases h),fun h=>(by cases h)⟩
theorem CO {x y z:AO}(hux:x≠.D_)(huy:y≠.D_)(huz:z≠.D_)(c:AV)(f:Nat→AV)(b:Nat→Nat)(m:Nat):J6 (TH x y z c f b m):=fun o ho=>by
 simp only[TH,b_,V_,or_false]at ho;rcases ho with rfl |rfl |rfl |rfl |rfl |rfl
 ·exact hux
 ·exact huy
 ·exact huz
 ·simp[HS]
 ·simp[Lj]
 ·simp[Li]
theorem U5 (x y z:AO)(n m E K:Nat)(S:Nat→Tb)(hx:∀ q,6≤q→Q0 q x)(hy:∀ q,6≤q→Q0 q y)(hz:∀ q,6≤q→Q0 q z)(hux:x≠.D_)(huy:y≠.D_)(huz:z≠.D_)(hE:E≤n)(hN:n<100000)(hm:m<100000)
  (hq1:∀k,k≤K→∀i j,i<m→j<n+1→qb ((S k).t i j)≤5000000) (hq2:∀k,k≤K→∀j,j<n+1→qb ((S k).c j)≤20000000)
  (hs:∀k,k<K→∃p r,Ie E (S k) p∧JI (S k) n p m=some r∧S (k+1)=Cd (S k) r p) (TAo:∀j,j<E→0≤(S K).c j) :
  G' Tryz.prog 172 [.ref 3 0 0,I E] (TT x y z (n+1) m (S 0)) (I (-1)) (TT x y z (n+1) m (S K)):=by
 refine G'.TAp (fn:=Tryz.f172) Tryz.call172 Tryz.func172 rfl mixed 7 [] [] [6,9] (by kernel_rfl) (K_ rfl) (X4 (X8 _)) (fun o ho=>DQ x y z (n+1) m _ (N' _) (hx _ (N' _)) (hy _ (N' _)) (hz _ (N' _)) o ho) (Xk ?_);simp(disch:=omega)only[O_,↓Xc,wG,seval];refine Xj (fun k:Nat=>⟨7,[],[.ref 3 0 0,I E,.any,.any,.any,.any,.any],[],TT x y z (n+1) m (S k)⟩) (fun k=>k≤K) (fun k=>K-k) 0 (by omega)
  (ZZ (by simp[Xo,I]) rfl) ?_
 intro k hk next
 have at0:∀ (h:Nat→Rat) i,i<n+1→Xm (fun i=>(Qb h (n+1)).getD i 0) (i*4)=(qC (h i)).getD 0 .any:=fun h i hi=>by rw[JC];simp only[Kj h hi]
 have at1:∀ (h:Nat→Rat) i j,i<n+1→j<4→Xm (fun i=>(Qb h (n+1)).getD i 0) (i*4+j)=(qC (h i)).getD j .any:=fun h i j hi hj=>by rw[QD _ _ _ hj];simp only[Kj h hi]
 refine Xk ?_;simp(disch:=omega)only[↓Xc,wG,seval];refine Xj (fun j:Nat=>⟨7,[],[.ref 3 0 0,I E,.any,.any,.any,I j,.any],[],TT x y z (n+1) m (S k)⟩) (fun j=>j≤E∧∀i,i<j→0≤(S k).c i) (fun j=>E-j) 0 ⟨by omega,fun i hi=>absurd hi (ZAL _)⟩
  (ZZ (by simp[Xo,I]) rfl) ?_
 rintro j ⟨hj,hj0⟩ nx;have w1:=wj j;by_cases hjE:j<E
 rotate_left
 ·obtain rfl:j=E:=by omega
  have hkK:k=K:=by
   refine ZEb hk (ZDe.1 fun h=>?_);obtain⟨p,r,he,_,_⟩:=hs k h;exact absurd (hj0 p he.1) (ZBD.2 he.2.1)
  subst hkK;refine Xk ?_;simp(disch:=omega)only[↓Xc,wG,seval];exact mH rfl rfl rfl
 have f1:(j<E)=True:=L' hjE;have f2:(j<n+1)=True:=L' (by omega);have a0:=at0 (S k).c j (by omega);have a1:=fun i hi=>at1 (S k).c j i (by omega) hi
 have q1:=hq2 k hk j (by omega);have d1:=Q8 ((S k).c j);have rl:=Qg (S k).c (n+1);refine Xk ?_;simp(disch:=omega)only[TT,TH,HS,Lj,Li,f1,f2,w1,rl,a0,a1,qC,↓Xc,wG,seval];refine X0 d1 (X1 _) ?_;by_cases hc:0≤(S k).c j
 ·have fs:(0≤((S k).c j).num.sign)=True:=L' (by rwa[ZM])
  simp(disch:=omega)only[fs,f1,w1,↓Xc,wG,seval];refine nx (j+1) _ ⟨by omega,fun i hi=>?_⟩ (by omega) (ZZ (by simp[Xo,I]) (by unfold TT TH HS;rw[rl];rfl));by_cases e:i=j
  ·rw[e];exact hc
  ·exact hj0 i (by omega)
 ·have fs:(0≤((S k).c j).num.sign)=False:=R_ (by rwa[ZM])
  have hkK:k<K:=by
   refine Nat.lt_of_le_of_ne hk fun h=>?_
   subst h;exact hc (TAo j hjE)
  obtain⟨p,r,he,hl,hS⟩:=hs k hkK;obtain rfl:p=j:=by
   refine ZEb (ZDe.1 fun h=>?_) (ZDe.1 fun h=>?_)
   ·exact hc (he.2.2 j h)
   ·exact absurd (hj0 p h) (ZBD.2 he.2.1)
  obtain⟨hr,_,_⟩:=ZI hl;have c1:=Rn x y z (S k) n m p hx hy hz (by omega) (by omega) (by omega) (hq1 k hk);rw[show Aq (S k) n p m=(r:Int)by unfold Aq;rw[hl]]at c1;have c2:=Wc x y z (S k) (n+1) m r p 5000000 hx hy hz hr (by omega) (by omega) (by omega) (N' _) (hq1 k hk) (hq2 k hk);rw[←hS]at c2;have wE:((p:Int)=E)=False:=R_ (by omega);have wE':(p=E)=False:=R_ (by omega);simp(disch:=omega)only[fs,f1,w1,wE,wE',↓Xc,wG,seval];rw[←rl];refine XC rfl c1 (Dm x y z _ _ _ _ _ _ m) (Qd (CO hux huy huz _ _ _ m)) (X1 _) ?_;simp(disch:=omega)only[↓Xc,wG,seval];refine XC rfl c2 (Dm x y z _ _ _ _ _ _ m) (Qd (CO hux huy huz _ _ _ m)) (X1 _) ?_;simp(disch:=omega)only[↓Xc,wG,seval];exact next (k+1) _ (by omega) (by omega) (ZZ (by simp[Xo,I]) rfl)
theorem fN (t:Nat→Nat→Rat)(N i:Nat):∀j,XV i (Kv t N i) 1 (Xf [XX (Qb (t i) N)]) j=Kv t N (i+1) j:=fun j=>by
 unfold XV Kv;by_cases h:j<i
 ·rw[N_ h,N_ h,N_ (by omega)]
 ·rw[M_ h]
  by_cases h2:j<i+1
  ·obtain rfl:j=i:=by omega
   rw[N_ (by omega),N_ h2,ZB7];rfl
  ·rw[M_ (by omega),M_ h,M_ h2]
theorem Nx {P:Program}{K:AV×List AO→Prop}{u u':TypeId}{a y:AV}{h:List AO}{e s b id ver N n k:Nat}{z:List AV}{f:Nat→AV}(he:AL P u=some (e,s,b)) (hi:VS P u'=some .i64) (hz:Qh P e=some z)
  (ha:a=.osl id ver s 0 N) (hy:y=.int .i64 ((n:Nat):Int)) (ho:h[id]?=some (.row ver k f)) (hn:0<n) (hN:0<N) (hk:N*s≤k) (h1:z.all AV.one=true) (hb:b*(N+n)≤140737488355328) (h63:N+n≤9223372036854775807)
  (hK:K (.osl id (ver+1) s 0 (N+n),h.set id (.row (ver+1) ((N+n)*s) (XV (N*s) f (n*s) (KY z))))):Q2 (K8 P u u' a y h) K:=by
 subst ha hy;rw[Fo,he,hi,Me _ _ _ _ _ _ _ _ _ hz ho,M_ (by omega)];unfold Qf;rw[N_ ⟨by omega,hN,rfl,rfl,rfl,hk,h1,by exact Int.ofNat_le.2 hb,by omega⟩,U'];show Q2 (some _) K;rw[TAv];exact hK
theorem YS (l:List Rat){k:Nat}(h:k<l.length):(Cb l).getD k 0 = -(l.getD k 0):=by
 unfold Cb;rw[K',ZBy,V' h,K',V' h];rfl
def Su (v p M:Nat)(f g:Nat→Rat)(B:Rat)(k:Nat):Rat:=if k<v then f k else if k<2*v then g (k-v)else if k=p then 1 else if k=M then B else 0
theorem cO (v n p:Nat)(f g:Nat→Rat)(B:Rat)(hp:v+v≤p)(hp2:p<v+v+n)(Z:List AV)(hZ:∀j,B' (KY Z j) (Xm (fun _=>0) j)) (j:Nat) (hj:j<(v+v+n+1)*4) :
  B' (XV ((v+v+n)*4) (DE (XV ((v+v)*4) (XV (v*4) (XV 0 (Xf []) (v*4) (Xm f)) (v*4) (Xm g)) (n*4) (KY Z)) (p*4) (qC 1)) 4 (Xf (qC B)) j) (Xm (Su v p (v+v+n) f g B) j):=by
 obtain⟨k,r,hr,rfl⟩:∃k r,r<4∧j=k*4+r:=⟨j/4,j%4,ZAI _ (by omega),by omega⟩
 rw[QD _ _ _ hr];by_cases h1:k=v+v+n
 ·subst h1
  unfold XV;rw[M_ (by omega),N_ (by omega),ZA0];unfold Su;rw[M_ (by omega),M_ (by omega),M_ (by omega),N_ rfl];exact U_ _
 ·have e1:∀ (F:Nat→AV) (q:Nat→AV),XV ((v+v+n)*4) F 4 q (k*4+r)=F (k*4+r):=fun F q=>by unfold XV;rw[N_ (by omega)]
  rw[e1,BW];by_cases h2:k=p
  ·subst h2
   rw[N_ ⟨by omega,by show k*4+r<k*4+4;omega⟩,ZA0];unfold Su;rw[M_ (by omega),M_ (by omega),N_ rfl];exact U_ _
  ·rw[M_ (fun h=>h2 (by have h3:k*4+r<p*4+4:=h.2;omega))]
   by_cases h3:k<v
   ·unfold XV
    rw[N_ (by omega),N_ (by omega),M_ (by omega),N_ (by omega),Nat.sub_zero,QD _ _ _ hr];unfold Su;rw[N_ h3];exact U_ _
   ·by_cases h4:k<2*v
    ·unfold XV
     rw[N_ (by omega),M_ (by omega),N_ (by omega),show k*4+r-v*4=(k-v)*4+r by omega,QD _ _ _ hr];unfold Su;rw[M_ h3,N_ h4];exact U_ _
    ·unfold XV
     rw[M_ (by omega),N_ (by omega)];have:=hZ (k*4+r-(v+v)*4);rw[show k*4+r-(v+v)*4=(k-(v+v))*4+r by omega,QD _ _ _ hr]at this;rw[show k*4+r-(v+v)*4=(k-(v+v))*4+r by omega];unfold Su;rw[M_ h3,M_ h4,M_ h2,M_ h1];exact this
theorem j8 (x y:AO)(v:Nat)(L:List Ln)(G:List Rat)(t:Nat→Nat→Rat)(b:Nat→Nat)(N:Nat)(hx:∀ q,2≤q→Q0 q x)(hy:∀ q,2≤q→Q0 q y)(hN:N=2*v+2*L.length)(hv:v<10000)(hm:L.length<10000)(hv0:0<v)(ha:∀i,i<L.length→(L.getD i KN).a.length=v) (hB:∀i,i<L.length→0≤lB L i)
  (hT:∀i k,i<L.length→t i k=if k<v then lA L i k else if k<2*v then -lA L i (k-v)else if k=2*v+i then 1 else if k=2*v+2*L.length then lB L i else 0) (hb:∀i,b i=2*v+i) (hq:∀i k,qb (lA L i k)≤5000000) (hq2:∀i,qb (lB L i)≤5000000) :
  G' Tryz.prog 170 [P7 v L G] [x,y] (.ref 3 0 0) (TH x y .dead (.sl 0 0 (fun _=>.any) true) (Kv t (N+1) L.length) b L.length):=by
 obtain⟨m,hm0⟩:∃m,m=L.length:=⟨_,rfl⟩
 have eP:(AO.row 0 3 (Xf [I v,.sl m (m*5) (Xw KX 5 KN L) false,XX G]):AO)=.row 0 3 (Xf (Zz v L G)):=by unfold Zz;rw[XH,hm0]
 refine G'.intro (fn:=Tryz.f170) Tryz.call170 Tryz.func170 rfl mixed 9 [] [] [] (by kernel_rfl) (K_ rfl) (Xk ?_);simp(disch:=omega)only[O_,P7,XH,Xu,↓Xc,wG,seval];rw[←hm0];refine d_ (s':=⟨9,[],[.any,.ref 2 0 0,.any,I m,.ref 3 0 0,I 0,.any,.any,.any],[],[x,y,.row 0 3 (Xf (Zz v L G)),.row 0 3 (Xf [.sl 0 0 (fun _=>.any) true,.sl 0 0 (fun _=>.any) true,.sl 0 0 (fun _=>.any) true])]⟩) ?_ (Xh rfl ⟨.inl rfl,.inr rfl,.inl rfl,.inr rfl,.inr rfl,.inr rfl,.inl rfl,.inl rfl,.inl rfl,trivial⟩ trivial (by rw[←eP,Xu];rfl));refine d_ ?_ (Xz 2 rfl);refine d_ ?_ (XK 1 rfl rfl);refine d_ ?_ (FP (Kv t (N+1) 0));refine d_ ?_ (FP (fun j=>I (b j:Nat)));refine d_ ?_ (Qe 3 (Xf [.osl 4 0 1 0 0,.sl 0 0 (fun _=>.any) true,.osl 5 0 1 0 0]) rfl (fun j hj=>by
  match j,hj with
  |0,_=>exact A5 (f:=Kv t (N+1) 0) (n:=0) rfl
  |1,_=>exact XD _ _
  |2,_=>exact A5 (f:=fun j=>I (b j:Nat)) (n:=0) rfl
  |j+3,h=>omega))
 have bP:∀q,Jl q (.ptr 3 (Xf (Zz v L G)) 0)=True:=fun q=>L' (X4 (XR fun j _=>Xe (l:=Zz v L G) (by simp[Zz,X8,QV,Xr]) j))
 refine Xj (fun i:Nat=>⟨9,[],[.any,.ptr 3 (Xf (Zz v L G)) 0,.any,I m,.ref 3 0 0,I i,.any,.any,.any],[],[x,y,.con 0 3 (Xf (Zz v L G)),.row 0 3 (Xf [.osl 4 i 1 0 i,.sl 0 0 (fun _=>.any) true,.osl 5 i 1 0 i]),.row i i (Kv t (N+1) i),.row i i (fun j=>I (b j:Nat))]⟩) (fun i=>i≤m) (fun i=>m-i) 0 (by omega)
  (ZZ (by simp[Xo,I,ZAt]) (by simp[ZAt])) ?_
 intro i hi next
 have w1:=wj i;by_cases hi2:i<m
 rotate_left
 ·obtain rfl:i=m:=by omega
  refine d_ ?_ (NB 2 rfl);refine Xk ?_;simp(disch:=omega)only[↓Xc,wG,seval];exact Pe rfl rfl (by rw[hm0];rfl)
 have nx:=next (i+1)
 clear next
 have f1:(i<m)=True:=L' hi2;obtain⟨v1,v2,v3,v4,v5⟩:=zK L i;have hiL:i<L.length:=by omega
 have la:=ha i hiL;have c1:=N2 (L.getD i KN).a (by omega) (fun r hr=>by
  obtain⟨k,hk,rfl⟩:=ZAT hr;have:=hq i k;unfold lA at this;rw[K' (i:=k),V' hk]at this;have h2:qb ((L.getD i KN).a[k])≤5000000:=this;unfold rm;omega)
 have c2:=XL 1 1 ⟨by omega,by omega⟩ ⟨by omega,by omega⟩;rw[show P' 1 1=1 by decide +kernel]at c2;have c3:=Q8 (lB L i) (by have:=hq2 i;unfold rm;omega);have fs:((lB L i).num.sign<0)=False:=R_ (by have:=hB i hiL;rw[←ZM]at this;omega);have m2:2*(m:Int)=((2*m:Nat):Int):=by omega
 have v2i:2*(v:Int)+(i:Int)=((2*v+i:Nat):Int):=by omega
 have f2:((2*v+i:Nat):Int).toNat=2*v+i:=by omega
 have one:∀j,(Xm (fun i_1=>(L.getD i KN).a.getD i_1 0) j).one=true:=fun j=>CF _ _ (ZAI _ (by omega))
 have TFg:∀j,(Xm (fun i_1=>(Cb (L.getD i KN).a).getD i_1 0) j).one=true:=fun j=>CF _ _ (ZAI _ (by omega))
 refine XI 130 ?_;have en:XX (Cb (L.getD i KN).a)=.sl v (v*4) (Xm fun k=>(Cb (L.getD i KN).a).getD k 0) false:=by rw[Xu];unfold Cb;rw[ZCz,la]
 simp(disch:=omega)only[Zz,XH,←hm0,f1,w1,v1,v2,v3,v4,v5,Xu,la,↓Xc,wG,seval];refine⟨fun j _=>one j,?_⟩;refine X0 c1 ⟨by rw[Xu,la];exact U_ _,trivial⟩ ?_;simp(disch:=omega)only[en,Zz,XH,←hm0,m2,↓Xc,wG,seval];refine⟨fun j _=>TFg j,?_⟩;have n0:(((2*m:Nat):Int)=0)=False:=R_ (by omega);have n0':(2*m=0)=False:=R_ (by omega);rw[EB (hne:=by decide)];refine Nx G1 VT En rfl rfl rfl (by omega) (by omega) (N' _) rfl (by omega) (by omega) ?_;have g1:(2*v+i<v+v+2*m)=True:=L' (by omega);have g2:((2*v+i:Nat):Int).toNat=2*v+i:=by omega
 simp(disch:=omega)only[v2i,↓Xc,wG,seval];refine X0 c2 (X1 _) ?_;simp(disch:=omega)only[v2i,g1,qA,qC,↓Xc,wG,seval];refine⟨CF (lB L i),?_⟩;refine X0 c3 (X1 _) ?_;simp(disch:=omega)only[fs,v2i,↓Xc,wG,seval];have hF:∀j,j<(v+v+2*m+1)*4→B' (XV ((v+v+2*m)*4) (DE (XV ((v+v)*4) (XV (v*4) (XV 0 (Xf []) (v*4) (Xm fun k=>(L.getD i KN).a.getD k 0)) (v*4) (Xm fun k=>(Cb (L.getD i KN).a).getD k 0)) (2*m*4) (KY [.bool false,.sl 0 0 (fun _=>.any) true,.bool false,.sl 0 0 (fun _=>.any) true])) ((2*v+i)*4) (qC 1)) 4 (Xf (qC (lB L i))) j) (Xm (fun k=>(Qb (t i) (N+1)).getD k 0) j):=fun j hj=>by
  have h:=cO v (2*m) (2*v+i) (fun k=>(L.getD i KN).a.getD k 0) (fun k=>(Cb (L.getD i KN).a).getD k 0) (lB L i) (by omega) (by omega) [.bool false,.sl 0 0 (fun _=>.any) true,.bool false,.sl 0 0 (fun _=>.any) true] (fun j c' v' h=>D4 0 j c' v' h) j hj;have e:=Kd (f:=Su v (2*v+i) (v+v+2*m) (fun k=>(L.getD i KN).a.getD k 0) (fun k=>(Cb (L.getD i KN).a).getD k 0) (lB L i)) (g:=fun k=>(Qb (t i) (N+1)).getD k 0) (N:=N+1) (fun k hk=>by
   show _=(Qb (t i) (N+1)).getD k 0;rw[Kj (t i) hk,hT i k hiL];unfold Su;by_cases h1:k<v
   ·rw[N_ h1,N_ h1];rfl
   ·rw[M_ h1,M_ h1]
    by_cases h2:k<2*v
    ·rw[N_ h2,N_ h2]
     exact YS _ (by omega)
    ·rw[M_ h2,M_ h2]
     by_cases h3:k=2*v+i
     ·rw[N_ h3,N_ h3]
     ·rw[M_ h3,M_ h3]
      by_cases h4:k=2*v+2*L.length
      ·rw[N_ h4,N_ (by omega)]
      ·rw[M_ h4,M_ (by omega)]) j (by omega)
  rwa[e]at h
 refine d_ ?_ (ZAZ (Xz 7 rfl) (HP (M:=(v+v+2*m+1)*4) 7 rfl rfl));refine d_ ?_ (Zf 7 (XX (Qb (t i) (N+1))) (show 7<9 by omega) (Xy (by rw[Qg];exact QC (by omega) (by omega) (fun j hj=>by rw[z_];exact hF j (by omega)))));have wb:XX (Qb (t i) (N+1))=XX (Qb (t i) (N+1)):=rfl;refine Xk ?_;simp(disch:=omega)only[ZAt,List.set,Q6,XN,KF,ZBW,ZB6,ZAA,ZAN,ZDS,ZDc,ZCR,↓Xc,wG,seval];have TBz:XV i (Kv t (N+1) i) 1 (Xf [XX (Qb (t i) (N+1))])=Kv t (N+1) (i+1):=funext (fN t (N+1) i);have TFh:XV i (fun j=>I (b j:Nat)) 1 (Xf [I ((2*v+i:Nat):Int)])=fun j=>I (b j:Nat):=funext fun j=>by
  unfold XV;by_cases h:j<i
  ·rw[N_ h]
  ·rw[M_ h]
   by_cases h2:j<i+1
   ·obtain rfl:j=i:=by omega
    rw[N_ h2,ZB7,hb];rfl
   ·rw[M_ h2]
 refine nx _ (by omega) (by omega) (XG (m:=6) (by show 2≤6;omega) rfl (by simp[Xo,I,Zz,XH,Xu,←hm0]) (by simp[Xx]) (by rw[←TBz,←TFh];simp[Zz,XH,Xu,←hm0,I]) (by simp[XP,bP]) (by simp[XP]) (fun o ho=>by
  simp only[b_,V_,or_false]at ho;rcases ho with rfl |rfl |rfl |rfl |rfl |rfl
  ·exact hx 6 (by omega)
  ·exact hy 6 (by omega)
  ·exact fun j _=>X4 (Xe (l:=Zz v L G) (by simp[Zz,X8,QV,Xr]) j)
  ·exact fun j _=>C7 6 (by
    intro a ha;simp only[b_,V_,or_false]at ha;rcases ha with rfl |rfl |rfl
    ·exact JJ
    ·exact X4 (JQ _ _)
    ·exact JJ) j
  ·exact fun j _=>Fp _ _ _ _ _
  ·exact fun j _=>X4 (X8 _)))
def nY (m n:Nat)(T:Tb):List AV:=[.sl m m (Kv T.t (n+1) m) false,XX (Qb T.c (n+1)),.sl m m (fun i=>I (T.b i:Nat)) false]
def xT (m n:Nat)(T:Tb):AV:=.ptr 3 (Xf (nY m n T)) 0
theorem Ui (m n:Nat)(T:Tb):∀a∈nY m n T,A_ a:=by
 have h1:A_ (.sl m m (Kv T.t (n+1) m) false):=Qw fun j hj=>by rw[Fa T.t hj];exact Xr _
 have h2:A_ (.sl m m (fun i=>I (T.b i:Nat)) false):=Qw fun j _=>X8 _
 simp[nY,h1,h2,Xr]
theorem Ei (m n:Nat)(T:Tb):A_ (xT m n T):=XR fun j _=>Xe (Ui m n T) j
theorem NF {m n e:Nat}{T:Tb}(h:T.Ok m n e)(k:Nat)(hk:k<1000000)(hm:m<100000)(hn:n<100000):Fn Tryz.prog 222 [xT m n T,I k,I (-1)] (qA (Jq m n T k)):=by
 obtain⟨R,hR⟩:∃R,R=qA (Jq m n T k):=⟨_,rfl⟩
 have sR:A_ R:=hR▸Xb _;rw[←hR];have at0:∀ (h:Nat→Rat) i,i<n+1→Xm (fun i=>(Qb h (n+1)).getD i 0) (i*4)=(qC (h i)).getD 0 .any:=fun h i hi=>by rw[JC];simp only[Kj h hi]
 have at1:∀ (h:Nat→Rat) i j,i<n+1→j<4→Xm (fun i=>(Qb h (n+1)).getD i 0) (i*4+j)=(qC (h i)).getD j .any:=fun h i j hi hj=>by rw[QD _ _ _ hj];simp only[Kj h hi]
 have k1:((k:Int) = -1)=False:=R_ (by omega);refine q_ (fn:=Tryz.f222) Tryz.call222 Tryz.func222 rfl mixed 8 [] [] [] (by kernel_rfl) (K_ rfl) (by
  intro a ha;simp only[b_,V_,or_false]at ha;rcases ha with rfl |rfl |rfl
  ·exact Ei m n T
  ·exact X8 _
  ·exact X8 _) (Xk ?_)
 simp(disch:=omega)only[O_,xT,nY,k1,↓Xc,wG,seval];refine Xj (fun i:Nat=>⟨8,[],[xT m n T,I k,I (-1),.any,.any,.any,.ref 0 0 0,I i],[],[.row 0 4 (Xf TAE)]⟩) (fun i=>i≤m∧∀j,j<i→T.b j≠k) (fun i=>m-i) 0 ⟨by omega,fun j hj=>absurd hj (ZAL _)⟩
  (ZZ (by simp[Xo,I,xT,nY]) (by simp[TAE])) ?_
 rintro i ⟨hi,hno⟩ next
 have w1:=wj i;by_cases hi2:i<m
 rotate_left
 ·obtain rfl:i=m:=by omega
  have e0:Jq i n T k=0:=Kp fun j hj=>M_ (hno j hj)
  refine Xk ?_;simp(disch:=omega)only[xT,nY,TAE,↓Xc,wG,seval];exact Kc (L:=[.bool false,.sl 0 0 (fun _=>.any) false,.bool false,.sl 0 0 (fun _=>.any) false]) rfl XT rfl rfl rfl (Xp sR (by rw[hR,e0];exact JR (QB false)))
 have f1:(i<m)=True:=L' hi2;have er:=Pl T.t (N:=n+1) hi2;have b0:=at0 (T.t i) n (by omega);have b1:=fun j hj=>at1 (T.t i) n j (by omega) hj
 have en:(((n+1:Nat):Int)-1).toNat=n:=by omega
 have en2:((n+1:Nat):Int)-1=(n:Int):=by omega
 have fn':(n<n+1)=True:=L' (by omega);by_cases hb:T.b i=k
 ·have e0:Jq m n T k=T.t i n:=hb▸(LH h hi2).1
  have fb:((T.b i:Int)=k)=True:=L' (by omega);have fb':(T.b i=k)=True:=L' hb;refine Xk ?_;simp(disch:=omega)only[xT,nY,f1,w1,fb,fb',er,b0,b1,en,en2,fn',TAE,qC,↓Xc,wG,seval];exact Jf rfl XT rfl rfl rfl sR (hR.trans (by rw[e0];rfl))
 ·have fb:((T.b i:Int)=k)=False:=R_ (by omega)
  have fb':(T.b i=k)=False:=R_ hb;refine Xk ?_;simp(disch:=omega)only[xT,nY,f1,w1,fb,fb',↓Xc,wG,seval];exact next (i+1) _ ⟨by omega,fun j hj=>by
   by_cases e:j=i
   ·rw[e];exact hb
   ·exact hno j (by omega)⟩ (by omega) (ZZ (by simp[Xo,I,xT,nY]) rfl)
theorem Wd {m n e:Nat}{T:Tb}(v:Nat)(h:T.Ok m n e)(hv:v<10000)(hm:m<100000)(hn:n<100000)(hq:∀k,qb (Jq m n T k)≤10000000):Fn Tryz.prog 174 [xT m n T,I v,I (-1)] (XX (JY v m n T)):=by
 obtain⟨f,hf⟩:∃f:Nat→Rat,f=fun k=>Jq m n T k-Jq m n T (v+k):=⟨_,rfl⟩
 have eL:JY v m n T=Qb f v:=by unfold JY Qb;rw[hf]
 rw[eL];have bX:∀q,Jl q (xT m n T)=True:=fun q=>L' (X4 (Ei m n T))
 have bR:∀q i n x,Q0 q (.row i n (Xw qC 4 0 x))=True:=fun q i n x=>L' fun j _=>X4 (Xe (XU _) _)
 refine q_ (fn:=Tryz.f174) Tryz.call174 Tryz.func174 rfl mixed 9 [] [] [] (by kernel_rfl) (K_ rfl) (by
  intro a ha;simp only[b_,V_,or_false]at ha;rcases ha with rfl |rfl |rfl
  ·exact Ei m n T
  ·exact X8 _
  ·exact X8 _) (Xk ?_)
 simp(disch:=omega)only[O_,↓Xc,wG,seval];refine Xj (fun i:Nat=>⟨9,[],[xT m n T,I v,I (-1),.any,.any,.any,.any,.osl 0 i 4 0 i,I i],[],[.row i (i*4) (Xw qC 4 0 (Qb f i))]⟩) (fun i=>i≤v) (fun i=>v-i) 0 (by omega)
  (ZAZ (JS 7 4 (Xw qC 4 0 []) rfl) (Xh rfl (by simp[ZAt,Xo,I]) (by simp[ZAt,Xx]) (by simp[ZAt,Qb]))) ?_
 intro i hi next
 have w1:=wj i;by_cases hi2:i<v
 ·have f1:(i<v)=True:=L' hi2
  have c1:=NF h i (by omega) hm hn;have c2:=NF h (v+i) (by omega) hm hn;have q1:=hq i;have q2:=hq (v+i);have c3:=Bm (Jq m n T i) (Jq m n T (v+i));have hap:=Zp qC 4 0 (Qb f i) (f i);rw[Dw]at hap;have nx:=next (i+1)
  rw[Pk]at nx;have vi:(v:Int)+(i:Int)=((v+i:Nat):Int):=by omega
  have fk:f i=Jq m n T i-Jq m n T (v+i):=by rw[hf]
  rw[←fk]at c3;refine Xk ?_;simp(disch:=omega)only[f1,w1,vi,↓Xc,wG,seval];refine X0 c1 (X1 _) ?_;simp(disch:=omega)only[f1,w1,vi,qA,qC,↓Xc,wG,seval];refine X0 c2 (X1 _) ?_;simp(disch:=omega)only[f1,w1,vi,qA,qC,↓Xc,wG,seval];refine X0 c3 (X1 _) ?_;simp(disch:=omega)only[f1,w1,vi,qA,qC,↓Xc,wG,seval];exact⟨fun j hj=>CF (f i) j hj,nx _ (by omega) (by omega) (rM (m:=1) (by simp[Xo,I]) (by rw[←hap];rfl) (by simp[XP,bX]) (by simp[bR]))⟩
 ·obtain rfl:i=v:=by omega
  refine Xk ?_;simp(disch:=omega)only[↓Xc,wG,seval];refine C4 rfl ?_;show ZA _ (.osl 0 i 4 0 i) (XX (Qb f i));rw[Xu,Dw];refine Kw (.inl rfl) (by omega) (fun h=>by rw[h]) fun j hj=>?_
  rw[z_];exact(Xe (XU _) _).TBI _
end
end Go.Ab.N
