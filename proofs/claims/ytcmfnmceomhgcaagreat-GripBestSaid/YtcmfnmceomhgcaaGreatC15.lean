/- Contracts of functions, for every argument that fits. -/
import Derived.Test.YtcmfnmceomhgcaaGreatC14
import Derived.Test.YtcmfnmceomhgcaaGreatC13
import Derived.Test.YtcmfnmceomhgcaaGreatC12
set_option linter.unusedSimpArgs false
set_option linter.unusedVariables false
open Bool renaming and_true→ZDM
open Go.Ab.AS renaming start→P',put→ZAm
open List renaming map_nil→ZB3,all_cons→ZDL,all_nil→ZDW
open Nat renaming not_lt→ZDZ,le_antisymm→ZEZ
open Rat renaming divInt→O_
namespace Go.Ab.N
open Go Go.RowKit Go.Proofs
noncomputable section
set_option maxRecDepth 10000
set_option maxHeartbeats 4000000
open Classical
def HG (c:AV)(m:Nat):AO:=.row 0 3 (Xf [.osl 4 m 1 0 m,c,.osl 5 m 1 0 m])
def L4 (f:Nat→AV)(m:Nat):AO:=.row m m f
def IZ (b:Nat→Nat)(m:Nat):AO:=.row m m (fun i=>I (b i:Nat))
def TH (x y z:AO)(c:AV)(f:Nat→AV)(b:Nat→Nat)(m:Nat):List AO:=[x,y,z,HG c m,L4 f m,IZ b m]
def Kx (t:Nat→Nat→Rat)(N m:Nat):Nat→AV:=fun i=>if i<m then Q0 (Qc (t i) N)else .any
theorem EQ (t:Nat→Nat→Rat){N m i:Nat}(h:i<m):Kx t N m i=Q0 (Qc (t i) N):=N_ h
theorem Pi (t:Nat→Nat→Rat)(N m r:Nat)(g:Nat→Rat)(hr:r<m):CE (Kx t N m) r [Q0 (Qc g N)]=Kx (fun i=>if i=r then g else t i) N m:=funext fun j=>by
 rw[ZH];unfold Kx;by_cases h:j=r
 ·subst h
  rw[N_ ⟨by omega,by simp⟩,N_ hr,ZB4];simp only[if_true];rfl
 ·rw[M_ (fun g=>h (by have:=g.2;simp at this;omega))]
  split
  ·simp only[M_ h]
  ·rfl
theorem Fb (t:Nat→Nat→Rat)(N m q i:Nat):J9 q (Kx t N m i):=by
 unfold Kx
 split
 ·exact X4 (Xn _)
 ·exact X4 Jm
theorem PN {q m:Nat}(x y z:AO)(c:AV)(f:Nat→AV)(b:Nat→Nat)(hq:6≤q)(hx:XX q x)(hy:XX q y)(hz:XX q z)(hc:J9 q c)(hf:∀i,J9 q (f i)):∀o∈TH x y z c f b m,XX q o:=fun o ho=>by
 simp only[TH,b_,V',or_false]at ho;rcases ho with rfl |rfl |rfl |rfl |rfl |rfl
 ·exact hx
 ·exact hy
 ·exact hz
 ·exact fun j _=>BV q (by
   intro a ha;simp only[b_,V',or_false]at ha;rcases ha with rfl |rfl |rfl
   ·exact JB (by omega)
   ·exact hc
   ·exact JB (by omega)) j
 ·exact fun j _=>hf j
 ·exact fun j _=>X4 (X9 _)
def TT (x y z:AO)(N m:Nat)(T:Tb):List AO:=TH x y z (Q0 (Qc T.c N)) (Kx T.t N m) T.b m
theorem DF {q:Nat}(x y z:AO)(N m:Nat)(T:Tb)(hq:6≤q)(hx:XX q x)(hy:XX q y)(hz:XX q z):∀o∈TT x y z N m T,XX q o :=
 PN x y z _ _ _ hq hx hy hz (X4 (Xn _)) fun i=>Fb _ _ _ _ i
def Hg (T:Tb)(r p k:Nat):Nat→Nat→Rat:=fun i=>if i<k∧i≠r then(C2 T r p).t i else T.t i
theorem ef (T:Tb)(r p k:Nat)(h:k≠r):(fun i=>if i=k then(C2 T r p).t k else Hg T r p k i)=Hg T r p (k+1):=funext fun i=>by
 unfold Hg;by_cases e:i=k
 ·subst e
  rw[N_ rfl,N_ ⟨by omega,h⟩]
 ·rw[M_ e]
  by_cases e2:i<k∧i≠r
  ·rw[N_ e2,N_ ⟨by omega,e2.2⟩]
  ·rw[M_ e2,M_ fun g=>e2 ⟨by omega,g.2⟩]
theorem wt (T:Tb)(r p:Nat):Hg T r p 0=T.t:=funext fun i=>M_ fun g=>absurd g.1 (ZAG _)
theorem oN (b:Nat→Nat)(r p:Nat):CE (fun i=>I (b i:Nat)) r [I p]=fun i=>I ((if i=r then p else b i:Nat)):=funext fun j=>by
 rw[ZH];by_cases h:j=r
 ·subst h
  rw[N_ ⟨by omega,by simp⟩,N_ rfl,ZB4];rfl
 ·rw[M_ (fun g=>h (by have:=g.2;simp at this;omega)),M_ h]
theorem ee (T:Tb)(r p:Nat):Hg T r p r=Hg T r p (r+1):=funext fun i=>by
 unfold Hg;by_cases e2:i<r∧i≠r
 ·rw[N_ e2,N_ ⟨by omega,e2.2⟩]
 ·rw[M_ e2,M_ fun g=>e2 ⟨by omega,g.2⟩]
theorem lQ (T:Tb)(r p m N:Nat):Kx (fun i=>if i=r then(fun j=>T.t r j/T.t r p)else Hg T r p m i) N m=Kx (C2 T r p).t N m:=funext fun i=>by
 unfold Kx
 split
 ·rename_i hi
  by_cases e:i=r
  ·subst e
   simp only[if_true];refine t_ Q0 (DZ fun j _=>?_);show _=if i=i then _ else _
   rw[N_ rfl]
  ·simp only[M_ e]
   unfold Hg;rw[N_ ⟨hi,e⟩]
 ·rfl
theorem VR (x y z:AO)(T:Tb)(N m r p Q:Nat)(hx:∀ q,6≤q→XX q x)(hy:∀ q,6≤q→XX q y)(hz:∀ q,6≤q→XX q z)(hr:r<m)(hp:p<N)(hN:N<1000000)(hm:m<1000000)(hQ:Q≤5000000)
    (hq1:∀i j,i<m→j<N→qb (T.t i j)≤Q) (hq2:∀j,j<N→qb (T.c j)≤20000000) :
    G' Tryz.prog 173 [.ref 3 0 0,I r,I p] (TT x y z N m T) (.tup []) (TT x y z N m (C2 T r p)):=by
  have c1:=XS 1 1 ⟨by omega,by omega⟩ ⟨by omega,by omega⟩;rw[show O_ 1 1=1 by decide +kernel]at c1;have q1:=hq1 r p hr hp;have o1:qb 1≤1:=by decide +kernel
  have c2:=Bl 1 (T.t r p) (by unfold vm;omega) (by unfold vm;omega);have c3:=IR (Qc (T.t r) N) (1/T.t r p) (by rw[Dr];omega) (by have:=BR 1 (T.t r p);unfold rm;omega) (fun a ha=>by
    obtain⟨j,hj,rfl⟩:=ZA3.1 ha;have:=hq1 r j hr (ZBc.1 hj);unfold rm;omega)
  rw[show(Qc (T.t r) N).map (·*(1/T.t r p))=Qc (fun j=>T.t r j/T.t r p) N by
    unfold Qc;rw[List.map_map];exact ZAL fun j _=>by show T.t r j*(1/T.t r p)=T.t r j/T.t r p;grind]at c3
  have at0:∀ (h:Nat→Rat) i,i<N→Xl (fun i=>(Qc h N).getD i 0) (i*4)=(qC (h i)).getD 0 .any:=fun h i hi=>by rw[Jt];simp only[Kj h hi]
  have at1:∀ (h:Nat→Rat) i j,i<N→j<4→Xl (fun i=>(Qc h N).getD i 0) (i*4+j)=(qC (h i)).getD j .any:=fun h i j hi hj=>by rw[QA _ _ _ hj];simp only[Kj h hi]
  have p0:=at0 (T.t r) p hp;have p1:=fun j hj=>at1 (T.t r) p j hp hj
  have fp:(p<N)=True:=K_ hp;have fr:(r<m)=True:=K_ hr;have er:=EQ T.t (N:=N) hr;have wr:=wj r (by omega);refine G'.TAo (fn:=Tryz.f173) Tryz.call173 Tryz.func173 rfl mixed 8 [] [] [] (by kernel_rfl) (L' rfl) (X4 (Z0 (by simp))) (fun o ho=>DF x y z N m _ (N' _) (hx _ (N' _)) (hy _ (N' _)) (hz _ (N' _)) o ho) (Xk ?_);simp(disch:=omega)only[P',TT,TH,HG,L4,IZ,fr,er,Qi,fp,p0,p1,qC,↓Xd,wG,seval];refine X0 c1 (X1 _) ?_;simp(disch:=omega)only[TT,TH,HG,L4,IZ,fr,er,Qi,fp,p0,p1,qA,qC,↓Xd,wG,seval];refine X0 c2 (X1 _) ?_;simp(disch:=omega)only[qA,qC,↓Xd,wG,seval];refine X0 c3 ⟨by rw[Qi];exact X' _,X' _,trivial⟩ ?_;simp(disch:=omega)only[TT,TH,HG,L4,IZ,↓Xd,wG,seval];have sR:=Xn (Qc (fun j=>T.t r j/T.t r p) N);have dR:∀j,j<N→qb (T.t r j/T.t r p)≤10000000:=fun j hj=>by
    have:=BR (T.t r j) (T.t r p);have:=hq1 r j hr hj;omega
  have cc:=NE T.c (fun j=>T.t r j/T.t r p) N p 20000000 hp hN (N' _) hq2 (fun j hj=>by have:=dR j hj;omega);have ct:∀i,i<m→Fn Tryz.prog 220 [Q0 (Qc (T.t i) N),Q0 (Qc (fun j=>T.t r j/T.t r p) N),I p] (Q0 (Qc (fun j=>T.t i j-T.t i p*(T.t r j/T.t r p)) N)):=fun i hi=>NE (T.t i) (fun j=>T.t r j/T.t r p) N p 20000000 hp hN (N' _) (fun j hj=>by have:=hq1 i j hi hj;omega) (fun j hj=>by have:=dR j hj;omega)
  have cc:Fn Tryz.prog 220 [Q0 (Qc T.c N),Q0 (Qc (fun j=>T.t r j/T.t r p) N),I p] (Q0 (Qc (C2 T r p).c N)):=cc;have TEn:=Pi (Hg T r p m) N m r (fun j=>T.t r j/T.t r p) hr;rw[lQ]at TEn;have TFg:CE (fun i=>I (T.b i:Nat)) r [I p]=fun i=>I ((C2 T r p).b i:Nat):=oN T.b r p
  generalize hRR:Q0 (Qc (fun j=>T.t r j/T.t r p) N)=RR at *;have bR:∀q,J9 q RR=True:=fun q=>K_ (X4 sR)
  have r1:RR.cells=[RR]:=hRR▸KE _;have r2:RR.one=true:=hRR▸Q7 _;have r3:RR.loose=RR:=hRR▸XL _;refine Xi (fun i:Nat=>⟨8,[],[.ref 3 0 0,I r,I p,.any,.any,.any,RR,I i],[],TH x y z (Q0 (Qc T.c N)) (Kx (Hg T r p i) N m) T.b m⟩) (fun i=>i≤m) (fun i=>m-i) 0 (by omega)
    (ZS (by simp[Xm,I]) (by rw[wt];unfold TH HG;rw[Qi];rfl)) ?_
  intro i hi next
  have w1:=wj i (by omega);by_cases hi2:i<m
  · have nx:=next (i+1)
    clear next
    have f1:(i<m)=True:=K_ hi2;have ei:=EQ (Hg T r p i) (N:=N) hi2;by_cases hir:i=r
    · subst hir;rw[←ee]at nx;refine Xk ?_;simp(disch:=omega)only[TH,HG,L4,IZ,f1,w1,↓Xd,wG,seval];exact nx _ (by omega) (by omega) (ZS (by simp[Xm,I]) rfl)
    · have f2:((i:Int)=r)=False:=Q' (by omega);have f2':(i=r)=False:=Q' hir;have ci:=ct i hi2;have hst:=Pi (Hg T r p i) N m i ((C2 T r p).t i) hi2;rw[ef T r p i hir]at hst;have ep:Hg T r p i i=T.t i:=M_ fun g=>absurd g.1 (zZ _)
      rw[ep]at ei;have en:(Qc (fun j=>T.t i j-T.t i p*(T.t r j/T.t r p)) N)=Qc ((C2 T r p).t i) N:=DZ fun j _=>by show _=if i=r then _ else _;rw[M_ hir]
      rw[en]at ci;refine Xk ?_;simp(disch:=omega)only[TH,HG,L4,IZ,f1,f2,f2',w1,ei,↓Xd,wG,seval];refine X0 ci (X1 _) ?_;simp(disch:=omega)only[TH,HG,L4,IZ,f1,f2,f2',w1,ei,Q7,XL,KE,ZBV,ZB3,ZAF,ZAc,ZDL,ZDW,ZDM,↓Xd,wG,seval];exact nx _ (by omega) (by omega) (ZS (by simp[Xm,I]) (by rw[←hst];rfl))
  · obtain rfl:i=m:=by omega
    refine Xk ?_;simp(disch:=omega)only[TH,HG,L4,IZ,fr,↓Xd,wG,seval];refine X0 cc (X1 _) ?_;simp(disch:=omega)only[TH,HG,L4,IZ,fr,wr,Q7,Gq,XL,↓Xd,wG,seval];refine⟨⟨rfl,by simp[KE],by simp[KE],rfl⟩,?_⟩;simp(disch:=omega)only[TH,HG,L4,IZ,fr,wr,Q7,Gq,XL,KE,↓Xd,wG,seval];refine⟨⟨by rw[r1];rfl,by simp[r1],by simp[r1];omega,by rw[r1];simp[r2]⟩,?_⟩;simp(disch:=omega)only[TH,HG,L4,IZ,fr,wr,Q7,Gq,XL,KE,r1,r3,ZBV,ZB3,↓Xd,wG,seval];refine Rq rfl ?_;rw[←TEn,←TFg];rfl
theorem Ph (t:Nat→Nat→Rat){N m i:Nat}(h:i<m):Kx t N m i=.sl N (N*4) (Xl fun j=>(Qc (t i) N).getD j 0) false:=by rw[EQ t h,Qi]
def Ah (T:Tb)(n p k:Nat):Int:=match JA T n p k with |none=>-1 |some r=>r
def Ay (T:Tb)(n p k:Nat):Rat:=match JA T n p k with |none=>0 |some r=>T.q n p r
theorem Rg (x y z:AO)(T:Tb)(n m p:Nat)(hx:∀ q,6≤q→XX q x)(hy:∀ q,6≤q→XX q y)(hz:∀ q,6≤q→XX q z)(hp:p<n+1)(hN:n<1000000)(hm:m<1000000)
  (hq1:∀i j,i<m→j<n+1→qb (T.t i j)≤5000000) :
  G' Tryz.prog 221 [.ref 3 0 0,I p] (TT x y z (n+1) m T) (I (Ah T n p m)) (TT x y z (n+1) m T):=by
 have at0:∀ (h:Nat→Rat) i,i<n+1→Xl (fun i=>(Qc h (n+1)).getD i 0) (i*4)=(qC (h i)).getD 0 .any:=fun h i hi=>by rw[Jt];simp only[Kj h hi]
 have at1:∀ (h:Nat→Rat) i j,i<n+1→j<4→Xl (fun i=>(Qc h (n+1)).getD i 0) (i*4+j)=(qC (h i)).getD j .any:=fun h i j hi hj=>by rw[QA _ _ _ hj];simp only[Kj h hi]
 have fp:(p<n+1)=True:=K_ hp;refine G'.TAo (fn:=Tryz.f221) Tryz.call221 Tryz.func221 rfl mixed 11 [] [8,9005,9009] [] (by kernel_rfl) (L' rfl) (X4 (X9 _)) (fun o ho=>DF x y z (n+1) m _ (N' _) (hx _ (N' _)) (hy _ (N' _)) (hz _ (N' _)) o ho) (Xk ?_);simp(disch:=omega)only[P',TT,TH,HG,L4,IZ,↓Xd,wG,seval];have w0:=Jj true;refine e_ ?_ (Qh 6 (Xf (qC 0)) rfl (fun j hj=>by
  match j,hj with
  |0,_=>exact XI w0.1
  |1,_=>exact XI w0.2.1
  |2,_=>exact XI w0.2.2.1
  |3,_=>exact XI w0.2.2.2.1
  |j+4,h=>omega))
 refine Xi (fun i:Nat=>⟨11,[],[.ref 3 0 0,I p,.any,.any,.any,I (Ah T n p i),.ref 6 0 0,I i,.any,.any,.any],[],TT x y z (n+1) m T ++ [.row 0 4 (Xf (qC (Ay T n p i)))]⟩) (fun i=>i≤m) (fun i=>m-i) 0 (by omega)
  (Xh rfl ⟨.inr rfl,.inr rfl,.inl rfl,.inl rfl,.inl rfl,.inr rfl,.inr rfl,.inr rfl,.inl rfl,.inl rfl,.inl rfl,trivial⟩ (by simp[Xu]) rfl) ?_
 intro i hi next
 have w1:=wj i (by omega);by_cases hi2:i<m
 rotate_left
 ·obtain rfl:i=m:=by omega
  refine Xk ?_;simp(disch:=omega)only[TT,TH,HG,L4,IZ,g_,h_,↓Xd,wG,seval];exact mj rfl rfl rfl
 have nx:=next (i+1)
 clear next
 have f1:(i<m)=True:=K_ hi2;have ei:=Ph T.t (N:=n+1) hi2;have a0:=at0 (T.t i) p hp;have a1:=fun j hj=>at1 (T.t i) p j hp hj
 have b0:=at0 (T.t i) n (by omega);have b1:=fun j hj=>at1 (T.t i) n j (by omega) hj
 have q1:=hq1 i p hi2 hp;have q2:=hq1 i n hi2 (by omega);have d1:=Qz (T.t i p) (by unfold rm;omega);have d2:=Bl (T.t i n) (T.t i p) (by unfold vm;omega) (by unfold vm;omega);have q3:=BR (T.t i n) (T.t i p);have wn:=wj n (by omega);have fn':(n<n+1)=True:=K_ (by omega);have en:(((n+1:Nat):Int)-1).toNat=n:=by omega
 have en2:((n+1:Nat):Int)-1=(n:Int):=by omega
 have bZ:∀q u,XX q (.row 0 4 (Xf (qC u)))=True:=fun q u=>K_ (QN (XV u))
 have bH:∀o∈TT x y z (n+1) m T ++ [.row 0 4 (Xf (qC (Ay T n p (i+1))))],XX 7 o:=fun o ho=>by
  rcases m_.1 ho with h |h
  ·exact DF x y z _ _ _ (by omega) (hx _ (by omega)) (hy _ (by omega)) (hz _ (by omega)) o h
  ·rw[a_.1 h];exact QN (XV _)
 have bS:∀q (f:Nat→Rat),J9 q (.sl (n+1) ((n+1)*4) (Xl fun j=>(Qc f (n+1)).getD j 0) false)=True:=fun q f=>K_ (X4 (Qi f (n+1)▸Xn _))
 by_cases hs:0<T.t i p
 rotate_left
 ·have fs:((T.t i p).num.sign≤0)=True:=K_ (by rw[←ZE]at hs;omega)
  have e1:JA T n p (i+1)=JA T n p i:=M_ hs;have e2:Ah T n p (i+1)=Ah T n p i:=by unfold Ah;rw[e1]
  have e3:Ay T n p (i+1)=Ay T n p i:=by unfold Ay;rw[e1]
  rw[e2,e3]at nx;refine Xk ?_;simp(disch:=omega)only[TT,TH,HG,L4,IZ,g_,h_,f1,w1,ei,fp,a0,a1,qC,↓Xd,wG,seval];refine X0 d1 (X1 _) ?_;simp(disch:=omega)only[fs,f1,w1,ei,fp,a0,a1,b0,b1,fn',en,en2,qC,↓Xd,wG,seval];exact nx _ (by omega) (by omega) (ZS (by simp[Xm,I]) rfl)
 have fs:((T.t i p).num.sign≤0)=False:=Q' (by rw[←ZE]at hs;omega);have c3:=K9 (T.t i n/T.t i p) (Ay T n p i) (by unfold rm;omega) (by
  unfold Ay;cases hl:JA T n p i with
  |none=>show qb 0≤rm;decide +kernel
  |some r =>
   have hr:=(ZA hl).1;have:=BR (T.t r n) (T.t r p);have:=hq1 r n (by omega) (by omega);have:=hq1 r p (by omega) hp;show qb (T.t r n/T.t r p)≤rm;unfold rm;omega)
 have eq:T.t i n/T.t i p=T.q n p i:=rfl;rw[eq]at d2 c3;cases hl:JA T n p i with
 |none =>
  have e1:JA T n p (i+1)=some i:=by
   show(if 0<T.t i p then _ else _)=_;rw[N_ hs,hl]
  have e2:Ah T n p (i+1)=i:=by unfold Ah;rw[e1]
  have e3:Ay T n p (i+1)=T.q n p i:=by unfold Ay;rw[e1]
  have e4:Ah T n p i = -1:=by unfold Ah;rw[hl]
  rw[e3]at bH;rw[e2,e3]at nx;generalize Ay T n p i=lq at *;generalize T.q n p i=qi at *;refine Xk ?_;simp(disch:=omega)only[TT,TH,HG,L4,IZ,g_,h_,f1,w1,ei,fp,a0,a1,qC,e4,↓Xd,wG,seval];refine X0 d1 (X1 _) ?_;simp(disch:=omega)only[fs,f1,w1,ei,fp,a0,a1,b0,b1,fn',en,en2,qC,↓Xd,wG,seval];refine X0 d2 (X1 _) ?_;simp(disch:=omega)only[fs,f1,w1,ei,qA,qC,↓Xd,wG,seval];refine X0 c3 (X1 _) ?_;simp(disch:=omega)only[fs,f1,w1,ei,qA,qC,↓Xd,wG,seval];exact nx _ (by omega) (by omega) (XD (m:=7) (by show 6≤7;omega) rfl ⟨.inr rfl,.inr rfl,.inl rfl,.inl rfl,.inl rfl,.inr rfl,.inr rfl,.inr rfl,.inl rfl,.inl rfl,.inl rfl,trivial⟩ (by simp[Xu]) rfl (by simp[XK]) (by simp[XK]) bH)
 |some r =>
  obtain⟨hr,g1,g2⟩:=ZA hl;have e4:Ah T n p i=r:=by unfold Ah;rw[hl]
  have e5:Ay T n p i=T.q n p r:=by unfold Ay;rw[hl]
  rw[e5]at c3;have wr:=wj r (by omega);have fr:(r<m)=True:=K_ (by omega);have er:max (r:Int) 0=(r:Int):=by omega
  have er2:((r:Int)<0)=False:=Q' (by omega);have e1:JA T n p (i+1)=if T.q n p i<T.q n p r∨(T.q n p i=T.q n p r∧T.b i<T.b r)then some i else some r:=by
   show(if 0<T.t i p then _ else _)=_;rw[N_ hs,hl]
  have d2':=d2;have lt1:(AJ (T.q n p i) (T.q n p r)<0)=(T.q n p i<T.q n p r):=propext (CP _ _);have lt2:(AJ (T.q n p i) (T.q n p r)=0)=(T.q n p i=T.q n p r):=propext ⟨fun h=>Rat.le_antisymm ((KL _ _).1 (by omega)) ((Hl _ _).1 (by omega)),fun h=>by have h1:=(KL _ _).2 (show T.q n p i≤T.q n p r by rw[h];exact ZCR);have h2:=(Hl _ _).2 (show T.q n p r≤T.q n p i by rw[h];exact ZCR);omega⟩;refine Xk ?_;simp(disch:=omega)only[TT,TH,HG,L4,IZ,g_,h_,f1,w1,ei,fp,a0,a1,qC,e4,e5,↓Xd,wG,seval];refine X0 d1 (X1 _) ?_;simp(disch:=omega)only[fs,f1,w1,ei,fp,a0,a1,b0,b1,fn',en,en2,qC,↓Xd,wG,seval];refine X0 d2 (X1 _) ?_;simp(disch:=omega)only[fs,f1,w1,ei,qA,qC,↓Xd,wG,seval];refine X0 c3 (X1 _) ?_;by_cases h1:T.q n p i<T.q n p r
  ·have e6:JA T n p (i+1)=some i:=by rw[e1,N_ (.inl h1)]
   rw[show Ay T n p (i+1)=T.q n p i from by unfold Ay;rw[e6]]at nx bH;rw[show Ah T n p (i+1)=(i:Int)from by unfold Ah;rw[e6]]at nx;simp(disch:=omega)only[f1,w1,ei,qA,qC,er,er2,wr,fr,lt1,h1,↓Xd,wG,seval];exact nx _ (by omega) (by omega) (XD (m:=7) (by show 6≤7;omega) rfl ⟨.inr rfl,.inr rfl,.inl rfl,.inl rfl,.inl rfl,.inr rfl,.inr rfl,.inr rfl,.inl rfl,.inl rfl,.inl rfl,trivial⟩ (by simp[Xu]) rfl (by simp[XK]) (by simp[XK]) bH)
  by_cases h2:T.q n p i=T.q n p r
  ·have fq1:(AJ (T.q n p i) (T.q n p r)<0)=False:=Q' (by rw[lt1];exact h1)
   have fq2:(AJ (T.q n p i) (T.q n p r)=0)=True:=K_ (by rw[lt2];exact h2);by_cases h3:T.b i<T.b r
   ·have e6:JA T n p (i+1)=some i:=by rw[e1,N_ (.inr ⟨h2,h3⟩)]
    rw[show Ay T n p (i+1)=T.q n p i from by unfold Ay;rw[e6]]at nx bH;rw[show Ah T n p (i+1)=(i:Int)from by unfold Ah;rw[e6]]at nx;simp(disch:=omega)only[f1,w1,ei,qA,qC,er,er2,wr,fr,fq1,fq2,show((T.b i:Int)<T.b r)=True from K_ (by omega),↓Xd,wG,seval];exact nx _ (by omega) (by omega) (XD (m:=7) (by show 6≤7;omega) rfl ⟨.inr rfl,.inr rfl,.inl rfl,.inl rfl,.inl rfl,.inr rfl,.inr rfl,.inr rfl,.inl rfl,.inl rfl,.inl rfl,trivial⟩ (by simp[Xu]) rfl (by simp[XK]) (by simp[XK]) bH)
   ·have e6:JA T n p (i+1)=some r:=by rw[e1,M_ (fun g=>g.elim h1 fun g=>h3 g.2)]
    rw[show Ay T n p (i+1)=T.q n p r from by unfold Ay;rw[e6]]at nx bH;rw[show Ah T n p (i+1)=(r:Int)from by unfold Ah;rw[e6]]at nx;simp(disch:=omega)only[f1,w1,ei,qA,qC,er,er2,wr,fr,fq1,fq2,show((T.b i:Int)<T.b r)=False from Q' (by omega),↓Xd,wG,seval];exact nx _ (by omega) (by omega) (XD (m:=7) (by show 6≤7;omega) rfl ⟨.inr rfl,.inr rfl,.inl rfl,.inl rfl,.inl rfl,.inr rfl,.inr rfl,.inr rfl,.inl rfl,.inl rfl,.inl rfl,trivial⟩ (by simp[Xu]) rfl (by simp[XK]) (by simp[XK]) bH)
  ·have e6:JA T n p (i+1)=some r:=by rw[e1,M_ (fun g=>g.elim h1 fun g=>h2 g.1)]
   rw[show Ay T n p (i+1)=T.q n p r from by unfold Ay;rw[e6]]at nx bH;rw[show Ah T n p (i+1)=(r:Int)from by unfold Ah;rw[e6]]at nx;simp(disch:=omega)only[f1,w1,ei,qA,qC,er,er2,wr,fr,lt1,lt2,h1,h2,↓Xd,wG,seval];exact nx _ (by omega) (by omega) (XD (m:=7) (by show 6≤7;omega) rfl ⟨.inr rfl,.inr rfl,.inl rfl,.inl rfl,.inl rfl,.inr rfl,.inr rfl,.inr rfl,.inl rfl,.inl rfl,.inl rfl,trivial⟩ (by simp[Xu]) rfl (by simp[XK]) (by simp[XK]) bH)
theorem Hp (b:BB)(g:GG):∀x∈EM b g,x∈Js b g:=fun x hx=>by
 unfold EM at hx;unfold Js;rcases m_.1 hx with h |h
 ·refine m_.2 (.inl ?_)
  unfold Tu at h;unfold To;simp only[b_,V',or_false]at h ⊢;rcases h with h |h |h |h |h |h |h |h |h |h |h <;> simp[h]
 ·exact m_.2 (.inr h)
theorem Ho (b:BB)(g:GG):(EM b g).length=17:=rfl
theorem wx {b:BB}{g:GG}(hb:bS b)(hg:gS g):(∀i k,qb (lA (EM b g) i k)≤5700)∧∀i,qb (lB (EM b g) i)≤5700:=by
 have k1:=Hh hb hg;have e0:qb 0≤5700:=by decide +kernel
 refine⟨fun i k=>?_,fun i=>?_⟩
 ·unfold lA
  by_cases hi:i<(EM b g).length
  ·have hm:=Hp b g _ (Q9 KK hi)
   by_cases hk:k<((EM b g).getD i KK).a.length
   ·exact(k1 _ hm).1 _ (Q9 0 hk)
   ·rw[K' (i:=k),j_ (by omega)];exact e0
  ·rw[K' (i:=i),j_ (by omega)];exact e0
 ·unfold lB
  by_cases hi:i<(EM b g).length
  ·exact(k1 _ (Hp b g _ (Q9 KK hi))).2
  ·rw[K' (i:=i),j_ (by omega)];exact e0
theorem ky (k:Nat):qb (lG TAN k)≤5700:=by
 have e0:qb 0≤5700:=by decide +kernel
 have e1:qb 1≤5700:=by decide +kernel
 unfold lG TAN
 match k with
 |0=>exact e0
 |1=>exact e0
 |2=>exact e0
 |3=>exact e0
 |4=>exact e1
 |k+5=>exact e0
theorem N1 (x y z:AO)(T:Tb)(C:AV)(cost:Nat→Rat)(N m:Nat)(hx:∀ q,6≤q→XX q x)(hy:∀ q,6≤q→XX q y)(hz:∀ q,6≤q→XX q z)(hN:N<100000)(hm:m<1000000)
  (hq1:∀i j,i<m→j<N+1→qb (T.t i j)≤5000000) (hq2:∀j,j<N→qb (cost j)≤5000000) (hb:∀i,i<m→T.b i<N∧cost (T.b i)=0) (hc:cost N=0) :
  G' Tryz.prog 171 [.ref 3 0 0,Q0 (Qc cost N)] (TH x y z C (Kx T.t (N+1) m) T.b m) (.tup []) (TT x y z (N+1) m { T with c:=cost }):=by
 have z0:qb 0≤5000000:=by decide +kernel
 have cw:∀i,i<m→Fn Tryz.prog 220 [Q0 (Qc cost (N+1)),Q0 (Qc (T.t i) (N+1)),I (T.b i:Nat)] (Q0 (Qc cost (N+1))):=fun i hi=>by
  have:=NE cost (T.t i) (N+1) (T.b i) 5000000 (by have:=(hb i hi).1;omega) (by omega) (by omega) (fun j hj=>by
   by_cases h:j<N
   ·exact hq2 j h
   ·obtain rfl:j=N:=by omega
    rw[hc];exact z0) (fun j hj=>hq1 i j hi hj)
  rwa[show Qc (fun j=>cost j-cost (T.b i)*T.t i j) (N+1)=Qc cost (N+1)from DZ fun j _=>by rw[(hb i hi).2];grind]at this
 refine G'.TAo (fn:=Tryz.f171) Tryz.call171 Tryz.func171 rfl mixed 5 [] [] [] (by kernel_rfl) (L' rfl) (X4 (Z0 (by simp))) (fun o ho=>DF x y z (N+1) m _ (N' _) (hx _ (N' _)) (hy _ (N' _)) (hz _ (N' _)) o ho) (Xk ?_);have one:∀j,(Xl (fun i=>(Qc cost N).getD i 0) j).one=true:=fun j=>by unfold Xl;exact Cr _ _ (z_ _ (by omega))
 simp(disch:=omega)only[P',TT,TH,HG,L4,IZ,Qi,↓Xd,wG,seval];refine⟨fun j _=>one j,?_⟩;obtain⟨A,hA⟩:∃A:Nat→AV,A=Q1 (N*4) (Q1 0 (Xf []) (N*4) (Xl fun i=>(Qc cost N).getD i 0)) 4 (Xf [.bool false,.sl 0 0 (fun _=>.any) false,.bool false,.sl 0 0 (fun _=>.any) false]):=⟨_,rfl⟩
 have w0:=Jj false;have hw:∀j,j<(N+1)*4→B_ (A j) (Xl (fun i=>(Qc cost (N+1)).getD i 0) j):=fun j hj=>by
  have e1:Xl (fun i=>(Qc cost (N+1)).getD i 0) j=Xl cost j:=Ka (N:=N+1) (fun i hi=>Kj cost hi) j hj;rw[e1,hA];unfold Q1;by_cases h:j<N*4
  ·rw[N_ h]
   rw[M_ (by omega),N_ (by omega),ZC0,Ka (N:=N) (fun i hi=>Kj cost hi) j h];exact X' _
  ·rw[M_ h,N_ (by omega)]
   obtain⟨i,rfl⟩:∃i,j=N*4+i:=⟨j-N*4,by omega⟩
   rw[QA _ _ _ (by omega),hc,ZAr];have hi:i<4:=by omega
   match i,hi with
   |0,_=>exact w0.1
   |1,_=>exact w0.2.1
   |2,_=>exact w0.2.2.1
   |3,_=>exact w0.2.2.2.1
   |i+4,h=>omega
 rw[←hA];refine⟨fun j hj=>by
  match j,hj with
  |0,_ |1,_ |2,_ |3,_=>rfl
  |j+4,h=>omega,?_⟩
 clear hA;have bC:∀q,J9 q (Q0 (Qc cost (N+1))):=fun q=>X4 (Xn _)
 have bH:∀q,6≤q→∀o∈TH x y z (Q0 (Qc cost (N+1))) (Kx T.t (N+1) m) T.b m,XX q o:=fun q hq=>PN x y z _ _ _ hq (hx q hq) (hy q hq) (hz q hq) (bC q) fun i=>Fb _ _ _ _ i
 refine Xi (fun i:Nat=>⟨5,[],[.ref 3 0 0,.any,.any,.any,I i],[],TH x y z (Q0 (Qc cost (N+1))) (Kx T.t (N+1) m) T.b m⟩) (fun i=>i≤m) (fun i=>m-i) 0 (by omega)
  ((XB 6 rfl).trans ((Qh 3 (Xf [.osl 4 m 1 0 m,Q0 (Qc cost (N+1)),.osl 5 m 1 0 m]) rfl (fun j hj=>by
   match j,hj with
   |0,_=>exact XC _ _
   |1,_=>show Ko _ _ (Q0 (Qc cost (N+1)));rw[Qi];exact Kh rfl (N' _) (by omega) fun j hj=>XI (hw j hj)
   |2,_=>exact XC _ _
   |j+3,h=>omega)).trans (XD (m:=6) (N' _) rfl ⟨.inr rfl,.inl rfl,.inl rfl,.inl rfl,.inr rfl,trivial⟩ (by simp[Xu]) rfl (by simp[XK]) (by simp[XK]) (bH 6 (N' _))))) ?_
 intro i hi next
 have w1:=wj i (by omega);by_cases hi2:i<m
 ·have nx:=next (i+1)
  have f1:(i<m)=True:=K_ hi2;have ei:=EQ T.t (N:=N+1) hi2;have ci:=cw i hi2;refine Xk ?_;simp(disch:=omega)only[TH,HG,L4,IZ,f1,w1,ei,↓Xd,wG,seval];refine X0 ci (X1 _) ?_;simp(disch:=omega)only[TH,HG,L4,IZ,f1,w1,ei,Q7,XL,KE,ZBV,ZB3,ZAF,ZAc,ZDL,ZDW,ZDM,↓Xd,wG,seval];exact nx _ (by omega) (by omega) (ZS (by simp[Xm,I]) rfl)
 ·obtain rfl:i=m:=by omega
  refine Xk ?_;simp(disch:=omega)only[TH,HG,L4,IZ,↓Xd,wG,seval];exact Rq rfl rfl
theorem Dg (x y z:AO)(c c':AV)(f f':Nat→AV)(b b':Nat→Nat)(m:Nat):K1 (TH x y z c f b m) (TH x y z c' f' b' m):=fun a ver n g=>by
 match a with
 |0=>exact ZCj
 |1=>exact ZCj
 |2=>exact ZCj
 |3=>exact⟨fun h=>(by cases h),fun h=>(by cases h)⟩
 |4=>exact⟨fun h=>(by cases h),fun h=>(by cases h)⟩
 |5=>exact⟨fun h=>(by cases h),fun h=>(by cases h)⟩
 |a+6=>exact⟨fun h=>(by cases h),fun h=>(by cases h)⟩
theorem CI {x y z:AO}(hux:x≠.D_)(huy:y≠.D_)(huz:z≠.D_)(c:AV)(f:Nat→AV)(b:Nat→Nat)(m:Nat):QY (TH x y z c f b m):=fun o ho=>by
 simp only[TH,b_,V',or_false]at ho;rcases ho with rfl |rfl |rfl |rfl |rfl |rfl
 ·exact hux
 ·exact huy
 ·exact huz
 ·simp[HG]
 ·simp[L4]
 ·simp[IZ]
theorem TN (x y z:AO)(n m E K:Nat)(S:Nat→Tb)(hx:∀ q,6≤q→XX q x)(hy:∀ q,6≤q→XX q y)(hz:∀ q,6≤q→XX q z)(hux:x≠.D_)(huy:y≠.D_)(huz:z≠.D_)(hE:E≤n)(hN:n<100000)(hm:m<100000)
  (hq1:∀k,k≤K→∀i j,i<m→j<n+1→qb ((S k).t i j)≤5000000) (hq2:∀k,k≤K→∀j,j<n+1→qb ((S k).c j)≤20000000)
  (hs:∀k,k<K→∃p r,I5 E (S k) p∧JA (S k) n p m=some r∧S (k+1)=C2 (S k) r p) (TAn:∀j,j<E→0≤(S K).c j) :
  G' Tryz.prog 172 [.ref 3 0 0,I E] (TT x y z (n+1) m (S 0)) (I (-1)) (TT x y z (n+1) m (S K)):=by
 refine G'.TAo (fn:=Tryz.f172) Tryz.call172 Tryz.func172 rfl mixed 7 [] [] [6,9] (by kernel_rfl) (L' rfl) (X4 (X9 _)) (fun o ho=>DF x y z (n+1) m _ (N' _) (hx _ (N' _)) (hy _ (N' _)) (hz _ (N' _)) o ho) (Xk ?_);simp(disch:=omega)only[P',↓Xd,wG,seval];refine Xi (fun k:Nat=>⟨7,[],[.ref 3 0 0,I E,.any,.any,.any,.any,.any],[],TT x y z (n+1) m (S k)⟩) (fun k=>k≤K) (fun k=>K-k) 0 (by omega)
  (ZS (by simp[Xm,I]) rfl) ?_
 intro k hk next
 have at0:∀ (h:Nat→Rat) i,i<n+1→Xl (fun i=>(Qc h (n+1)).getD i 0) (i*4)=(qC (h i)).getD 0 .any:=fun h i hi=>by rw[Jt];simp only[Kj h hi]
 have at1:∀ (h:Nat→Rat) i j,i<n+1→j<4→Xl (fun i=>(Qc h (n+1)).getD i 0) (i*4+j)=(qC (h i)).getD j .any:=fun h i j hi hj=>by rw[QA _ _ _ hj];simp only[Kj h hi]
 refine Xk ?_;simp(disch:=omega)only[↓Xd,wG,seval];refine Xi (fun j:Nat=>⟨7,[],[.ref 3 0 0,I E,.any,.any,.any,I j,.any],[],TT x y z (n+1) m (S k)⟩) (fun j=>j≤E∧∀i,i<j→0≤(S k).c i) (fun j=>E-j) 0 ⟨by omega,fun i hi=>absurd hi (ZAG _)⟩
  (ZS (by simp[Xm,I]) rfl) ?_
 rintro j ⟨hj,hj0⟩ nx;have w1:=wj j (by omega);by_cases hjE:j<E
 rotate_left
 ·obtain rfl:j=E:=by omega
  have hkK:k=K:=by
   refine ZEZ hk (ZDZ.1 fun h=>?_);obtain⟨p,r,he,_,_⟩:=hs k h;exact absurd (hj0 p he.1) (ZBA.2 he.2.1)
  subst hkK;refine Xk ?_;simp(disch:=omega)only[↓Xd,wG,seval];exact mj rfl rfl rfl
 have f1:(j<E)=True:=K_ hjE;have f2:(j<n+1)=True:=K_ (by omega);have a0:=at0 (S k).c j (by omega);have a1:=fun i hi=>at1 (S k).c j i (by omega) hi
 have q1:=hq2 k hk j (by omega);have d1:=Qz ((S k).c j) (by unfold rm;omega);have rl:=Qi (S k).c (n+1);refine Xk ?_;simp(disch:=omega)only[TT,TH,HG,L4,IZ,f1,f2,w1,rl,a0,a1,qC,↓Xd,wG,seval];refine X0 d1 (X1 _) ?_;by_cases hc:0≤(S k).c j
 ·have fs:(0≤((S k).c j).num.sign)=True:=K_ (by rwa[ZD])
  simp(disch:=omega)only[fs,f1,w1,↓Xd,wG,seval];refine nx (j+1) _ ⟨by omega,fun i hi=>?_⟩ (by omega) (ZS (by simp[Xm,I]) (by unfold TT TH HG;rw[rl];rfl));by_cases e:i=j
  ·rw[e];exact hc
  ·exact hj0 i (by omega)
 ·have fs:(0≤((S k).c j).num.sign)=False:=Q' (by rwa[ZD])
  have hkK:k<K:=by
   refine Nat.lt_of_le_of_ne hk fun h=>?_
   subst h;exact hc (TAn j hjE)
  obtain⟨p,r,he,hl,hS⟩:=hs k hkK;obtain rfl:p=j:=by
   refine ZEZ (ZDZ.1 fun h=>?_) (ZDZ.1 fun h=>?_)
   ·exact hc (he.2.2 j h)
   ·exact absurd (hj0 p h) (ZBA.2 he.2.1)
  obtain⟨hr,_,_⟩:=ZA hl;have c1:=Rg x y z (S k) n m p hx hy hz (by omega) (by omega) (by omega) (hq1 k hk);rw[show Ah (S k) n p m=(r:Int)by unfold Ah;rw[hl]]at c1;have c2:=VR x y z (S k) (n+1) m r p 5000000 hx hy hz hr (by omega) (by omega) (by omega) (N' _) (hq1 k hk) (hq2 k hk);rw[←hS]at c2;have wE:((p:Int)=E)=False:=Q' (by omega);have wE':(p=E)=False:=Q' (by omega);simp(disch:=omega)only[fs,f1,w1,wE,wE',↓Xd,wG,seval];rw[←rl];refine Xz rfl c1 (Dg x y z _ _ _ _ _ _ m) (Qg (CI hux huy huz _ _ _ m)) (X1 _) ?_;simp(disch:=omega)only[↓Xd,wG,seval];refine Xz rfl c2 (Dg x y z _ _ _ _ _ _ m) (Qg (CI hux huy huz _ _ _ m)) (X1 _) ?_;simp(disch:=omega)only[↓Xd,wG,seval];exact next (k+1) _ (by omega) (by omega) (ZS (by simp[Xm,I]) rfl)
theorem fo (t:Nat→Nat→Rat)(N i:Nat):∀j,Q1 i (Kx t N i) 1 (Xf [Q0 (Qc (t i) N)]) j=Kx t N (i+1) j:=fun j=>by
 unfold Q1 Kx;by_cases h:j<i
 ·rw[N_ h,N_ h,N_ (by omega)]
 ·rw[M_ h]
  by_cases h2:j<i+1
  ·obtain rfl:j=i:=by omega
   rw[N_ (by omega),N_ h2,ZB4];rfl
  ·rw[M_ (by omega),M_ h,M_ h2]
theorem Ns {P:Program}{K:AV×List AO→Prop}{u u':TypeId}{a y:AV}{h:List AO}{e s b id ver N n k:Nat}{z:List AV}{f:Nat→AV}(he:AK P u=some (e,s,b)) (hi:Vx P u'=some .i64) (hz:Qj P e=some z)
  (ha:a=.osl id ver s 0 N) (hy:y=.int .i64 ((n:Nat):Int)) (ho:h[id]?=some (.row ver k f)) (hn:0<n) (hN:0<N) (hk:N*s≤k) (h1:z.all AV.one=true) (hb:b*(N+n)≤140737488355328) (h63:N+n≤9223372036854775807)
  (hK:K (.osl id (ver+1) s 0 (N+n),h.set id (.row (ver+1) ((N+n)*s) (Q1 (N*s) f (n*s) (KT z))))):Q3 (K3 P u u' a y h) K:=by
 subst ha hy;rw[F9,he,hi,M3 _ _ _ _ _ _ _ _ _ hz ho,M_ (by omega)];unfold Qd;rw[N_ ⟨by omega,hN,rfl,rfl,rfl,hk,h1,by exact Int.ofNat_le.2 hb,by omega⟩,T_];show Q3 (some _) K;rw[TAu];exact hK
theorem Yt (l:List Rat){k:Nat}(h:k<l.length):(C1 l).getD k 0 = -(l.getD k 0):=by
 unfold C1;rw[K',ZAi,U_ h,K',U_ h];rfl
def Sf (v p M:Nat)(f g:Nat→Rat)(B:Rat)(k:Nat):Rat:=if k<v then f k else if k<2*v then g (k-v)else if k=p then 1 else if k=M then B else 0
theorem b9 (v n p:Nat)(f g:Nat→Rat)(B:Rat)(hp:v+v≤p)(hp2:p<v+v+n)(Z:List AV)(hZ:∀j,B_ (KT Z j) (Xl (fun _=>0) j)) (j:Nat) (hj:j<(v+v+n+1)*4) :
  B_ (Q1 ((v+v+n)*4) (CE (Q1 ((v+v)*4) (Q1 (v*4) (Q1 0 (Xf []) (v*4) (Xl f)) (v*4) (Xl g)) (n*4) (KT Z)) (p*4) (qC 1)) 4 (Xf (qC B)) j) (Xl (Sf v p (v+v+n) f g B) j):=by
 obtain⟨k,r,hr,rfl⟩:∃k r,r<4∧j=k*4+r:=⟨j/4,j%4,z_ _ (by omega),by omega⟩
 rw[QA _ _ _ hr];by_cases h1:k=v+v+n
 ·subst h1
  unfold Q1;rw[M_ (by omega),N_ (by omega),ZAr];unfold Sf;rw[M_ (by omega),M_ (by omega),M_ (by omega),N_ rfl];exact X' _
 ·have e1:∀ (F:Nat→AV) (q:Nat→AV),Q1 ((v+v+n)*4) F 4 q (k*4+r)=F (k*4+r):=fun F q=>by unfold Q1;rw[N_ (by omega)]
  rw[e1,ZH];by_cases h2:k=p
  ·subst h2
   rw[N_ ⟨by omega,by show k*4+r<k*4+4;omega⟩,ZAr];unfold Sf;rw[M_ (by omega),M_ (by omega),N_ rfl];exact X' _
  ·rw[M_ (fun h=>h2 (by have h3:k*4+r<p*4+4:=h.2;omega))]
   by_cases h3:k<v
   ·unfold Q1
    rw[N_ (by omega),N_ (by omega),M_ (by omega),N_ (by omega),ZC0,QA _ _ _ hr];unfold Sf;rw[N_ h3];exact X' _
   ·by_cases h4:k<2*v
    ·unfold Q1
     rw[N_ (by omega),M_ (by omega),N_ (by omega),show k*4+r-v*4=(k-v)*4+r by omega,QA _ _ _ hr];unfold Sf;rw[M_ h3,N_ h4];exact X' _
    ·unfold Q1
     rw[M_ (by omega),N_ (by omega)];have:=hZ (k*4+r-(v+v)*4);rw[show k*4+r-(v+v)*4=(k-(v+v))*4+r by omega,QA _ _ _ hr]at this;rw[show k*4+r-(v+v)*4=(k-(v+v))*4+r by omega];unfold Sf;rw[M_ h3,M_ h4,M_ h2,M_ h1];exact this
theorem iH (x y:AO)(v:Nat)(L:List Ln)(G:List Rat)(t:Nat→Nat→Rat)(b:Nat→Nat)(N:Nat)(hx:∀ q,2≤q→XX q x)(hy:∀ q,2≤q→XX q y)(hN:N=2*v+2*L.length)(hv:v<10000)(hm:L.length<10000)(hv0:0<v)(ha:∀i,i<L.length→(L.getD i KK).a.length=v) (hB:∀i,i<L.length→0≤lB L i)
  (hT:∀i k,i<L.length→t i k=if k<v then lA L i k else if k<2*v then -lA L i (k-v)else if k=2*v+i then 1 else if k=2*v+2*L.length then lB L i else 0) (hb:∀i,b i=2*v+i) (hq:∀i k,qb (lA L i k)≤5000000) (hq2:∀i,qb (lB L i)≤5000000) :
  G' Tryz.prog 170 [P6 v L G] [x,y] (.ref 3 0 0) (TH x y .dead (.sl 0 0 (fun _=>.any) true) (Kx t (N+1) L.length) b L.length):=by
 obtain⟨m,hm0⟩:∃m,m=L.length:=⟨_,rfl⟩
 have eP:(AO.row 0 3 (Xf [I v,.sl m (m*5) (Xv KR 5 KK L) false,Q0 G]):AO)=.row 0 3 (Xf (Zt v L G)):=by unfold Zt;rw[XE,hm0]
 refine G'.intro (fn:=Tryz.f170) Tryz.call170 Tryz.func170 rfl mixed 9 [] [] [] (by kernel_rfl) (L' rfl) (Xk ?_);simp(disch:=omega)only[P',P6,XE,Xt,↓Xd,wG,seval];rw[←hm0];refine e_ (s':=⟨9,[],[.any,.ref 2 0 0,.any,I m,.ref 3 0 0,I 0,.any,.any,.any],[],[x,y,.row 0 3 (Xf (Zt v L G)),.row 0 3 (Xf [.sl 0 0 (fun _=>.any) true,.sl 0 0 (fun _=>.any) true,.sl 0 0 (fun _=>.any) true])]⟩) ?_ (Xh rfl ⟨.inl rfl,.inr rfl,.inl rfl,.inr rfl,.inr rfl,.inr rfl,.inl rfl,.inl rfl,.inl rfl,trivial⟩ trivial (by rw[←eP,Xt];rfl));refine e_ ?_ (XB 2 rfl);refine e_ ?_ (XH 1 rfl rfl (by omega));refine e_ ?_ (FF (Kx t (N+1) 0));refine e_ ?_ (FF (fun j=>I (b j:Nat)));refine e_ ?_ (Qh 3 (Xf [.osl 4 0 1 0 0,.sl 0 0 (fun _=>.any) true,.osl 5 0 1 0 0]) rfl (fun j hj=>by
  match j,hj with
  |0,_=>exact ZU (f:=Kx t (N+1) 0) (n:=0) rfl
  |1,_=>exact XC _ _
  |2,_=>exact ZU (f:=fun j=>I (b j:Nat)) (n:=0) rfl
  |j+3,h=>omega))
 have bP:∀q,J9 q (.ptr 3 (Xf (Zt v L G)) 0)=True:=fun q=>K_ (X4 (XP fun j _=>Xe (l:=Zt v L G) (by simp[Zt,X9,QS,Xn]) j))
 refine Xi (fun i:Nat=>⟨9,[],[.any,.ptr 3 (Xf (Zt v L G)) 0,.any,I m,.ref 3 0 0,I i,.any,.any,.any],[],[x,y,.con 0 3 (Xf (Zt v L G)),.row 0 3 (Xf [.osl 4 i 1 0 i,.sl 0 0 (fun _=>.any) true,.osl 5 i 1 0 i]),.row i i (Kx t (N+1) i),.row i i (fun j=>I (b j:Nat))]⟩) (fun i=>i≤m) (fun i=>m-i) 0 (by omega)
  (ZS (by simp[Xm,I,ZAm]) (by simp[ZAm])) ?_
 intro i hi next
 have w1:=wj i (by omega);by_cases hi2:i<m
 rotate_left
 ·obtain rfl:i=m:=by omega
  refine e_ ?_ (Nw 2 rfl);refine Xk ?_;simp(disch:=omega)only[↓Xd,wG,seval];exact Pd rfl rfl (by rw[hm0];rfl)
 have nx:=next (i+1)
 clear next
 have f1:(i<m)=True:=K_ hi2;obtain⟨v1,v2,v3,v4,v5⟩:=z6 L i;have hiL:i<L.length:=by omega
 have la:=ha i hiL;have c1:=MU (L.getD i KK).a (by omega) (fun r hr=>by
  obtain⟨k,hk,rfl⟩:=ZAI hr;have:=hq i k;unfold lA at this;rw[K' (i:=k),U_ hk]at this;have h2:qb ((L.getD i KK).a[k])≤5000000:=this;unfold rm;omega)
 have c2:=XS 1 1 ⟨by omega,by omega⟩ ⟨by omega,by omega⟩;rw[show O_ 1 1=1 by decide +kernel]at c2;have c3:=Qz (lB L i) (by have:=hq2 i;unfold rm;omega);have fs:((lB L i).num.sign<0)=False:=Q' (by have:=hB i hiL;rw[←ZD]at this;omega);have m2:2*(m:Int)=((2*m:Nat):Int):=by omega
 have v2i:2*(v:Int)+(i:Int)=((2*v+i:Nat):Int):=by omega
 have f2:((2*v+i:Nat):Int).toNat=2*v+i:=by omega
 have one:∀j,(Xl (fun i_1=>(L.getD i KK).a.getD i_1 0) j).one=true:=fun j=>Cr _ _ (z_ _ (by omega))
 have TFh:∀j,(Xl (fun i_1=>(C1 (L.getD i KK).a).getD i_1 0) j).one=true:=fun j=>Cr _ _ (z_ _ (by omega))
 refine XF 130 ?_;have en:Q0 (C1 (L.getD i KK).a)=.sl v (v*4) (Xl fun k=>(C1 (L.getD i KK).a).getD k 0) false:=by rw[Xt];unfold C1;rw[ZBp,la]
 simp(disch:=omega)only[Zt,XE,←hm0,f1,w1,v1,v2,v3,v4,v5,Xt,la,↓Xd,wG,seval];refine⟨fun j _=>one j,?_⟩;refine X0 c1 ⟨by rw[Xt,la];exact X' _,trivial⟩ ?_;simp(disch:=omega)only[en,Zt,XE,←hm0,m2,↓Xd,wG,seval];refine⟨fun j _=>TFh j,?_⟩;have n0:(((2*m:Nat):Int)=0)=False:=Q' (by omega);have n0':(2*m=0)=False:=Q' (by omega);rw[En (hne:=by decide)];refine Ns FV Vy Ec rfl rfl rfl (by omega) (by omega) (N' _) rfl (by omega) (by omega) ?_;have g1:(2*v+i<v+v+2*m)=True:=K_ (by omega);have g2:((2*v+i:Nat):Int).toNat=2*v+i:=by omega
 simp(disch:=omega)only[v2i,↓Xd,wG,seval];refine X0 c2 (X1 _) ?_;simp(disch:=omega)only[v2i,g1,qA,qC,↓Xd,wG,seval];refine⟨Cr (lB L i),?_⟩;refine X0 c3 (X1 _) ?_;simp(disch:=omega)only[fs,v2i,↓Xd,wG,seval];have hF:∀j,j<(v+v+2*m+1)*4→B_ (Q1 ((v+v+2*m)*4) (CE (Q1 ((v+v)*4) (Q1 (v*4) (Q1 0 (Xf []) (v*4) (Xl fun k=>(L.getD i KK).a.getD k 0)) (v*4) (Xl fun k=>(C1 (L.getD i KK).a).getD k 0)) (2*m*4) (KT [.bool false,.sl 0 0 (fun _=>.any) true,.bool false,.sl 0 0 (fun _=>.any) true])) ((2*v+i)*4) (qC 1)) 4 (Xf (qC (lB L i))) j) (Xl (fun k=>(Qc (t i) (N+1)).getD k 0) j):=fun j hj=>by
  have h:=b9 v (2*m) (2*v+i) (fun k=>(L.getD i KK).a.getD k 0) (fun k=>(C1 (L.getD i KK).a).getD k 0) (lB L i) (by omega) (by omega) [.bool false,.sl 0 0 (fun _=>.any) true,.bool false,.sl 0 0 (fun _=>.any) true] (fun j c' v' h=>CX 0 j c' v' h) j hj;have e:=Ka (f:=Sf v (2*v+i) (v+v+2*m) (fun k=>(L.getD i KK).a.getD k 0) (fun k=>(C1 (L.getD i KK).a).getD k 0) (lB L i)) (g:=fun k=>(Qc (t i) (N+1)).getD k 0) (N:=N+1) (fun k hk=>by
   show _=(Qc (t i) (N+1)).getD k 0;rw[Kj (t i) hk,hT i k hiL];unfold Sf;by_cases h1:k<v
   ·rw[N_ h1,N_ h1];rfl
   ·rw[M_ h1,M_ h1]
    by_cases h2:k<2*v
    ·rw[N_ h2,N_ h2]
     exact Yt _ (by omega)
    ·rw[M_ h2,M_ h2]
     by_cases h3:k=2*v+i
     ·rw[N_ h3,N_ h3]
     ·rw[M_ h3,M_ h3]
      by_cases h4:k=2*v+2*L.length
      ·rw[N_ h4,N_ (by omega)]
      ·rw[M_ h4,M_ (by omega)]) j (by omega)
  rwa[e]at h
 refine e_ ?_ (ZA8 (XB 7 rfl) (HE (M:=(v+v+2*m+1)*4) 7 rfl rfl (by omega) (by omega)));refine e_ ?_ (Au 7 (Q0 (Qc (t i) (N+1))) (show 7<9 by omega) (XI (by rw[Qi];exact JJ (by omega) (by omega) (fun j hj=>by rw[x_];exact hF j (by omega)))));have wb:Q0 (Qc (t i) (N+1))=Q0 (Qc (t i) (N+1)):=rfl;refine Xk ?_;simp(disch:=omega)only[ZAm,List.set,Q7,XL,KE,ZBV,ZB3,ZAF,ZAc,ZDL,ZDW,ZDM,↓Xd,wG,seval];have TBx:Q1 i (Kx t (N+1) i) 1 (Xf [Q0 (Qc (t i) (N+1))])=Kx t (N+1) (i+1):=funext (fo t (N+1) i);have TFi:Q1 i (fun j=>I (b j:Nat)) 1 (Xf [I ((2*v+i:Nat):Int)])=fun j=>I (b j:Nat):=funext fun j=>by
  unfold Q1;by_cases h:j<i
  ·rw[N_ h]
  ·rw[M_ h]
   by_cases h2:j<i+1
   ·obtain rfl:j=i:=by omega
    rw[N_ h2,ZB4,hb];rfl
   ·rw[M_ h2]
 refine nx _ (by omega) (by omega) (XD (m:=6) (by show 2≤6;omega) rfl (by simp[Xm,I,Zt,XE,Xt,←hm0]) (by simp[Xu]) (by rw[←TBx,←TFi];simp[Zt,XE,Xt,←hm0,I]) (by simp[XK,bP]) (by simp[XK]) (fun o ho=>by
  simp only[b_,V',or_false]at ho;rcases ho with rfl |rfl |rfl |rfl |rfl |rfl
  ·exact hx 6 (by omega)
  ·exact hy 6 (by omega)
  ·exact fun j _=>X4 (Xe (l:=Zt v L G) (by simp[Zt,X9,QS,Xn]) j)
  ·exact fun j _=>BV 6 (by
    intro a ha;simp only[b_,V',or_false]at ha;rcases ha with rfl |rfl |rfl
    ·exact JB (by omega)
    ·exact X4 (J7 _ _)
    ·exact JB (by omega)) j
  ·exact fun j _=>Fb _ _ _ _ _
  ·exact fun j _=>X4 (X9 _)))
def nH (m n:Nat)(T:Tb):List AV:=[.sl m m (Kx T.t (n+1) m) false,Q0 (Qc T.c (n+1)),.sl m m (fun i=>I (T.b i:Nat)) false]
def xT (m n:Nat)(T:Tb):AV:=.ptr 3 (Xf (nH m n T)) 0
theorem U1 (m n:Nat)(T:Tb):∀a∈nH m n T,A_ a:=by
 have h1:A_ (.sl m m (Kx T.t (n+1) m) false):=QF fun j hj=>by rw[EQ T.t hj];exact Xn _
 have h2:A_ (.sl m m (fun i=>I (T.b i:Nat)) false):=QF fun j _=>X9 _
 simp[nH,h1,h2,Xn]
theorem E5 (m n:Nat)(T:Tb):A_ (xT m n T):=XP fun j _=>Xe (U1 m n T) j
theorem NB {m n e:Nat}{T:Tb}(h:T.Ok m n e)(k:Nat)(hk:k<1000000)(hm:m<100000)(hn:n<100000):Fn Tryz.prog 222 [xT m n T,I k,I (-1)] (qA (Jg m n T k)):=by
 obtain⟨R,hR⟩:∃R,R=qA (Jg m n T k):=⟨_,rfl⟩
 have sR:A_ R:=hR▸Xa _;rw[←hR];have at0:∀ (h:Nat→Rat) i,i<n+1→Xl (fun i=>(Qc h (n+1)).getD i 0) (i*4)=(qC (h i)).getD 0 .any:=fun h i hi=>by rw[Jt];simp only[Kj h hi]
 have at1:∀ (h:Nat→Rat) i j,i<n+1→j<4→Xl (fun i=>(Qc h (n+1)).getD i 0) (i*4+j)=(qC (h i)).getD j .any:=fun h i j hi hj=>by rw[QA _ _ _ hj];simp only[Kj h hi]
 have k1:((k:Int) = -1)=False:=Q' (by omega);refine y_ (fn:=Tryz.f222) Tryz.call222 Tryz.func222 rfl mixed 8 [] [] [] (by kernel_rfl) (L' rfl) (by
  intro a ha;simp only[b_,V',or_false]at ha;rcases ha with rfl |rfl |rfl
  ·exact E5 m n T
  ·exact X9 _
  ·exact X9 _) (Xk ?_)
 simp(disch:=omega)only[P',xT,nH,k1,↓Xd,wG,seval];refine Xi (fun i:Nat=>⟨8,[],[xT m n T,I k,I (-1),.any,.any,.any,.ref 0 0 0,I i],[],[.row 0 4 (Xf TAD)]⟩) (fun i=>i≤m∧∀j,j<i→T.b j≠k) (fun i=>m-i) 0 ⟨by omega,fun j hj=>absurd hj (ZAG _)⟩
  (ZS (by simp[Xm,I,xT,nH]) (by simp[TAD])) ?_
 rintro i ⟨hi,hno⟩ next
 have w1:=wj i (by omega);by_cases hi2:i<m
 rotate_left
 ·obtain rfl:i=m:=by omega
  have e0:Jg i n T k=0:=Ks fun j hj=>M_ (hno j hj)
  refine Xk ?_;simp(disch:=omega)only[xT,nH,TAD,↓Xd,wG,seval];exact Cv (L:=[.bool false,.sl 0 0 (fun _=>.any) false,.bool false,.sl 0 0 (fun _=>.any) false]) rfl XY rfl rfl rfl (Xw sR (by rw[hR,e0];exact JX (Jj false)))
 have f1:(i<m)=True:=K_ hi2;have er:=Ph T.t (N:=n+1) hi2;have b0:=at0 (T.t i) n (by omega);have b1:=fun j hj=>at1 (T.t i) n j (by omega) hj
 have en:(((n+1:Nat):Int)-1).toNat=n:=by omega
 have en2:((n+1:Nat):Int)-1=(n:Int):=by omega
 have fn':(n<n+1)=True:=K_ (by omega);by_cases hb:T.b i=k
 ·have e0:Jg m n T k=T.t i n:=hb▸(Lu h hi2).1
  have fb:((T.b i:Int)=k)=True:=K_ (by omega);have fb':(T.b i=k)=True:=K_ hb;refine Xk ?_;simp(disch:=omega)only[xT,nH,f1,w1,fb,fb',er,b0,b1,en,en2,fn',TAD,qC,↓Xd,wG,seval];exact Jh rfl XY rfl rfl rfl sR (hR.trans (by rw[e0];rfl))
 ·have fb:((T.b i:Int)=k)=False:=Q' (by omega)
  have fb':(T.b i=k)=False:=Q' hb;refine Xk ?_;simp(disch:=omega)only[xT,nH,f1,w1,fb,fb',↓Xd,wG,seval];exact next (i+1) _ ⟨by omega,fun j hj=>by
   by_cases e:j=i
   ·rw[e];exact hb
   ·exact hno j (by omega)⟩ (by omega) (ZS (by simp[Xm,I,xT,nH]) rfl)
theorem VS {m n e:Nat}{T:Tb}(v:Nat)(h:T.Ok m n e)(hv:v<10000)(hm:m<100000)(hn:n<100000)(hq:∀k,qb (Jg m n T k)≤10000000):Fn Tryz.prog 174 [xT m n T,I v,I (-1)] (Q0 (JT v m n T)):=by
 obtain⟨f,hf⟩:∃f:Nat→Rat,f=fun k=>Jg m n T k-Jg m n T (v+k):=⟨_,rfl⟩
 have eL:JT v m n T=Qc f v:=by unfold JT Qc;rw[hf]
 rw[eL];have bX:∀q,J9 q (xT m n T)=True:=fun q=>K_ (X4 (E5 m n T))
 have bR:∀q i n x,XX q (.row i n (Xv qC 4 0 x))=True:=fun q i n x=>K_ fun j _=>X4 (Xe (XV _) _)
 refine y_ (fn:=Tryz.f174) Tryz.call174 Tryz.func174 rfl mixed 9 [] [] [] (by kernel_rfl) (L' rfl) (by
  intro a ha;simp only[b_,V',or_false]at ha;rcases ha with rfl |rfl |rfl
  ·exact E5 m n T
  ·exact X9 _
  ·exact X9 _) (Xk ?_)
 simp(disch:=omega)only[P',↓Xd,wG,seval];refine Xi (fun i:Nat=>⟨9,[],[xT m n T,I v,I (-1),.any,.any,.any,.any,.osl 0 i 4 0 i,I i],[],[.row i (i*4) (Xv qC 4 0 (Qc f i))]⟩) (fun i=>i≤v) (fun i=>v-i) 0 (by omega)
  (ZA8 (JM 7 4 (Xv qC 4 0 []) rfl) (Xh rfl (by simp[ZAm,Xm,I]) (by simp[ZAm,Xu]) (by simp[ZAm,Qc]))) ?_
 intro i hi next
 have w1:=wj i (by omega);by_cases hi2:i<v
 ·have f1:(i<v)=True:=K_ hi2
  have c1:=NB h i (by omega) hm hn;have c2:=NB h (v+i) (by omega) hm hn;have q1:=hq i;have q2:=hq (v+i);have c3:=Bm (Jg m n T i) (Jg m n T (v+i)) (by unfold rm;omega) (by unfold rm;omega);have hap:=Zj qC 4 0 (Qc f i) (f i) (by omega);rw[Dr]at hap;have nx:=next (i+1)
  rw[Pg]at nx;have vi:(v:Int)+(i:Int)=((v+i:Nat):Int):=by omega
  have fk:f i=Jg m n T i-Jg m n T (v+i):=by rw[hf]
  rw[←fk]at c3;refine Xk ?_;simp(disch:=omega)only[f1,w1,vi,↓Xd,wG,seval];refine X0 c1 (X1 _) ?_;simp(disch:=omega)only[f1,w1,vi,qA,qC,↓Xd,wG,seval];refine X0 c2 (X1 _) ?_;simp(disch:=omega)only[f1,w1,vi,qA,qC,↓Xd,wG,seval];refine X0 c3 (X1 _) ?_;simp(disch:=omega)only[f1,w1,vi,qA,qC,↓Xd,wG,seval];exact⟨fun j hj=>Cr (f i) j hj,nx _ (by omega) (by omega) (mD (m:=1) (by simp[Xm,I]) (by rw[←hap];rfl) (by simp[XK,bX]) (by simp[bR]))⟩
 ·obtain rfl:i=v:=by omega
  refine Xk ?_;simp(disch:=omega)only[↓Xd,wG,seval];refine A9 rfl ?_;show Zs _ (.osl 0 i 4 0 i) (Q0 (Qc f i));rw[Xt,Dr];refine Kc (.inl rfl) (by omega) (fun h=>by rw[h]) fun j hj=>?_
  rw[x_];exact(Xe (XV _) _).TBH _
end
end Go.Ab.N
