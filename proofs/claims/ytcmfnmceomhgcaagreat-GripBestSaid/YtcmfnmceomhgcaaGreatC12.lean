/- Contracts of functions, for every argument that fits. -/
import Derived.Test.YtcmfnmceomhgcaaGreatC11
import Derived.Test.YtcmfnmceomhgcaaGreatC10
set_option linter.unusedSimpArgs false
set_option linter.unusedVariables false
open Go.Ab.AS renaming start→P',put→ZAm
open Int renaming le_of_lt→ZC4,ediv_le_self→ZEO
open List renaming range→ZAD
open Option renaming map→zV
open Rat renaming divInt→O_
namespace Go.Ab.N
open Go Go.RowKit Go.Proofs
noncomputable section
set_option maxRecDepth 10000
set_option maxHeartbeats 4000000
open Classical
theorem Pf (a b:Rat)(ha:qb a≤rm)(hb:qb b≤rm):Fn Tryz.prog 120 [qA a,qA b] (qA (O2 a b)):=by
 have c:=K9 a b ha hb;obtain⟨R,hR⟩:∃R,R=qA (O2 a b):=⟨_,rfl⟩
 have sR:A_ R:=hR▸Xa _;rw[←hR];unfold O2 at hR;refine y_ (fn:=Tryz.f120) Tryz.call120 Tryz.func120 rfl mixed 5 [] [] [] (by kernel_rfl) (L' rfl) (KS (Xa a) (Xa b)) (Xk ?_);simp(disch:=omega)only[P',qA,qC,↓Xd,wG,seval];refine X0 c (X1 _) ?_;simp(disch:=omega)only[KL,↓Xd,wG,seval];refine⟨fun h=>?_,fun h=>?_⟩
 ·rw[M_ (ZAW.2 h)]at hR
  exact Jh rfl XY rfl rfl rfl sR (hR.trans rfl)
 ·rw[N_ (ZBA.1 h)]at hR
  exact Jh rfl XY rfl rfl rfl sR (hR.trans rfl)
theorem Pe (a b:Rat)(ha:qb a≤rm)(hb:qb b≤rm):Fn Tryz.prog 119 [qA a,qA b] (qA (NH a b)):=by
 have c:=K9 a b ha hb;obtain⟨R,hR⟩:∃R,R=qA (NH a b):=⟨_,rfl⟩
 have sR:A_ R:=hR▸Xa _;rw[←hR];unfold NH at hR;refine y_ (fn:=Tryz.f119) Tryz.call119 Tryz.func119 rfl mixed 5 [] [] [] (by kernel_rfl) (L' rfl) (KS (Xa a) (Xa b)) (Xk ?_);simp(disch:=omega)only[P',qA,qC,↓Xd,wG,seval];refine X0 c (X1 _) ?_;simp(disch:=omega)only[Hl,↓Xd,wG,seval];refine⟨fun h=>?_,fun h=>?_⟩
 ·by_cases h2:b<a
  ·rw[N_ h2]at hR
   exact Jh rfl XY rfl rfl rfl sR (hR.trans rfl)
  ·have e:a=b:=by grind
   subst e;rw[M_ h2]at hR;exact Jh rfl XY rfl rfl rfl sR (hR.trans rfl)
 ·rw[M_ fun h2=>h (ZAy h2)]at hR
  exact Jh rfl XY rfl rfl rfl sR (hR.trans rfl)
theorem D8 {c:Nat}(a d x:V2)(ha:vb a≤c)(hd:vb d≤2*c+1)(hx:vb x≤c):qb (JP a d x)≤16*c+10:=by
 have h1:=J3 x a;have h2:=Zn (x.sub a) d;have h3:=Zn d d;have h4:=BR (Qb (x.sub a) d) (Qb d d);unfold JP;omega
theorem P9 {c:Nat}(L:List V2)(i:Nat)(p:V2)(h:Qw L c)(hc:c≤18)(hl:L.length<1000000)(hi:i<L.length)(hp:vb p≤c):Fn Tryz.prog 118 [Qm L,I i,vA p] (qA (JP (L.getD i v0) ((Ze L i).sub (L.getD i v0)) p)):=by
 have hb1:=h i;have hb2:vb (Ze L i)≤c:=h ((i+1)%L.length);have c1:=Ft L i hl hi;have e:L.getD ((i+1)%L.length) v0=Ze L i:=rfl;rw[e]at c1;have v1:=vF L i;have f2:(i<L.length)=True:=K_ hi;obtain⟨R,hR⟩:∃R,R=qA (JP (L.getD i v0) ((Ze L i).sub (L.getD i v0)) p):=⟨_,rfl⟩
 have sR:A_ R:=hR▸Xa _;rw[←hR];unfold JP at hR;generalize L.getD i v0=a at *;generalize Ze L i=b at *;have s1:=J3 b a;have s2:=J3 p a;have c2:=J1 b a (by unfold rm;omega) (by unfold rm;omega);have c3:=J1 p a (by unfold rm;omega) (by unfold rm;omega);generalize b.sub a=d at *;generalize p.sub a=x at *;have c4:=KF x d (by unfold vm;omega) (by unfold vm;omega);have c5:=KF d d (by unfold vm;omega) (by unfold vm;omega);have q1:=Zn x d;have q2:=Zn d d;have c6:=Bl (Qb x d) (Qb d d) (by unfold vm;omega) (by unfold vm;omega);rw[←hR]at c6;refine Fq Tryz.call118 Tryz.func118 8 [] [1] [] (by simp[Xq,X9,Xx]) (Xk ?_);simp(disch:=omega)only[P',X7,vA,vC,↓Xd,wG,seval];refine X0 c1 ⟨by rw[X7];exact X' _,X' _,trivial⟩ ?_;simp(disch:=omega)only[vA,vC,v1,f2,↓Xd,wG,seval];refine X0 c2 (X1 _) ?_;simp(disch:=omega)only[vA,vC,v1,f2,↓Xd,wG,seval];refine X0 c3 (X1 _) ?_;simp(disch:=omega)only[vA,vC,v1,f2,↓Xd,wG,seval];refine X0 c4 (X1 _) ?_;simp(disch:=omega)only[qA,qC,↓Xd,wG,seval];refine X0 c5 (X1 _) ?_;simp(disch:=omega)only[qA,qC,↓Xd,wG,seval];refine X0 c6 (X1 _) ?_;simp(disch:=omega)only[hR,qA,qC,↓Xd,wG,seval];exact Jh rfl XY rfl rfl rfl sR (hR.trans rfl)
def gZ:GG:=⟨v0,v0,v0,0,0⟩
def O0 (l:List GG):AV:=g8 gC 32 gZ l
theorem XR (l:List GG):O0 l=.sl l.length (l.length*32) (Xv gC 32 gZ l) false:=C_ rfl
theorem AF (l:List GG):A_ (O0 l):=KZ fun a x hx=>Ke a x hx
theorem kv (g:GG):∀j,j<32→((gC g).getD j .any).one=true:=fun j hj=>by
 rw[QZ]
 match j,hj with
 |0,_ |1,_ |2,_ |3,_ |4,_ |5,_ |6,_ |7,_ |8,_ |9,_ |10,_ |11,_ |12,_ |13,_ |14,_ |15,_ |16,_ |17,_ |18,_ |19,_ |20,_ |21,_ |22,_ |23,_ |24,_ |25,_ |26,_ |27,_ |28,_ |29,_ |30,_ |31,_=>rfl
 |j+32,h=>omega
def Mz (L:List V2)(f r:Rat)(i j:Nat):List GG:=((GQ (JL L i) (JL L j)).toList).map fun x=>⟨x.1,x.2,FN (L.getD i v0) (Ze L i),f,r⟩
def Zg (L:List V2)(f r:Rat)(i:Nat):Nat→List GG
 |0=>[]
 |k+1=>Zg L f r i k ++ Mz L f r i (i+1+k)
def Bb (L:List V2)(f r:Rat):Nat→List GG
 |0=>[]
 |i+1=>Bb L f r i ++ Zg L f r i (L.length-(i+1))
def Eg (L:List V2)(f r:Rat):List GG:=Bb L f r L.length
def Zr (L:List V2)(f r:Rat):List GG:=if ZQ L∧AQ f r=true then Eg L f r else []
theorem qv (L:List V2)(f r:Rat)(i j:Nat):(Mz L f r i j).length≤1:=by
 unfold Mz;rw[ZBp];cases GQ (JL L i) (JL L j) <;> simp
theorem Ht (L:List V2)(f r:Rat)(i:Nat):∀k,(Zg L f r i k).length≤k
 |0=>by simp[Zg]
 |k+1=>by
  have h1:=Ht L f r i k;have h2:=qv L f r i (i+1+k);show(Zg L f r i k ++ Mz L f r i (i+1+k)).length≤_;rw[f_];omega
theorem Di (L:List V2)(f r:Rat):∀i,(Bb L f r i).length≤L.length*i
 |0=>by simp[Bb]
 |i+1=>by
  have h1:=Di L f r i;have h2:=Ht L f r i (L.length-(i+1));show(Bb L f r i ++ Zg L f r i (L.length-(i+1))).length≤_;rw[f_,Nat.mul_succ];omega
def WZ (c:Nat)(f r:Rat)(g:GG):Prop:=vb g.p≤35*c+24∧vb g.q≤121*c+84∧vb g.n≤2*c+1∧g.n≠v0∧g.force=f∧g.E_=r
theorem Ya {c K:Nat}{a d:V2}{lo hi:Rat}(ha:vb a≤c)(hd:vb d≤2*c+1)(hl:qb lo≤K)(hh:qb hi≤K):vb (Mu a d lo hi)≤3*c+2*K+4:=by
 have h1:=A8 lo hi;have h2:=Qo (lo+hi) (O_ 1 2);have h3:=Fz 1 2 (by omega) (by omega);have h4:=F0 d ((lo+hi)*O_ 1 2);have h5:=Z8 a (d.scale ((lo+hi)*O_ 1 2));unfold Mu;omega
theorem Yb {c P:Nat}{p n b:V2}(hp:vb p≤P)(hn:vb n≤2*c+1)(hb:vb b≤c):vb (Rb p n b)≤16*c+3*P+12:=by
 have h1:=J3 b p;have h2:=Zn (b.sub p) n;have h3:=Zn n n;have h4:=BR (Qb (b.sub p) n) (Qb n n);have h5:=F0 n (Qb (b.sub p) n/Qb n n);have h6:=Z8 p (n.scale (Qb (b.sub p) n/Qb n n));unfold Rb;omega
theorem kY {K:Nat}{s t:Rat}(hs:qb s≤K)(ht:qb t≤K)(hK:2≤K):qb (OM s t)≤K∧qb (OH s t)≤K∧qb (O2 s t)≤K∧qb (NH s t)≤K:=by
 have z:=Bz;have o:qb 1≤2:=by decide +kernel
 have h1:qb (O2 s t)≤K:=by unfold O2;split <;> assumption
 have h2:qb (NH s t)≤K:=by unfold NH;split <;> assumption
 refine⟨?_,?_,h1,h2⟩
 ·unfold OM;split
  ·omega
  ·exact h1
 ·unfold OH;split
  ·omega
  ·exact h2
theorem vI {c:Nat}(L:List V2)(h:Qw L c)(f r:Rat)(i j:Nat):∀g∈Mz L f r i j,WZ c f r g:=by
 intro g hg;unfold Mz GQ at hg;obtain⟨x,hx,rfl⟩:=ZA3.1 hg;have h1:=h i;have h2:vb (Ze L i)≤c:=h ((i+1)%L.length);have h3:=h j;have h4:vb (Ze L j)≤c:=h ((j+1)%L.length);have hn:=Um (L.getD i v0) (Ze L i);have hd:=J3 (Ze L i) (L.getD i v0)
 split at hx
 ·rename_i hc
  split at hx
  ·rw[Option.mem_toList]at hx
   cases hx;have s1:=D8 (L.getD i v0) ((Ze L i).sub (L.getD i v0)) (L.getD j v0) h1 (by omega) h3;have s2:=D8 (L.getD i v0) ((Ze L i).sub (L.getD i v0)) (Ze L j) h1 (by omega) h4;obtain⟨l1,l2,_,_⟩:=kY s1 s2 (by omega);have hd2:vb ((Ze L i).sub (L.getD i v0))≤2*c+1:=by omega
   have hn2:vb (FN (L.getD i v0) (Ze L i))≤2*c+1:=by omega
   have hp:=Ya (a:=L.getD i v0) (d:=(Ze L i).sub (L.getD i v0)) h1 hd2 l1 l2;have hq:=Yb (c:=c) (n:=FN (L.getD i v0) (Ze L i)) hp hn2 h3;refine⟨k_ hp (by omega),k_ hq (by omega),hn2,fun e=>?_,rfl,rfl⟩;have e:FN (L.getD i v0) (Ze L i)=v0:=e;have:=hc.2;have e2:(JL L i).i=v0:=e;rw[e2]at this;unfold Qb v0 at this;grind
  ·simp at hx
 ·simp at hx
theorem YU {c:Nat}(L:List V2)(h:Qw L c)(f r:Rat)(i:Nat):∀k,∀g∈Zg L f r i k,WZ c f r g
 |0,g,hg=>by simp[Zg]at hg
 |k+1,g,hg=>by
  rcases m_.1 (show g∈Zg L f r i k ++ Mz L f r i (i+1+k)from hg)with hg |hg
  ·exact YU L h f r i k g hg
  ·exact vI L h f r i _ g hg
theorem Yc {c:Nat}(L:List V2)(h:Qw L c)(f r:Rat):∀i,∀g∈Bb L f r i,WZ c f r g
 |0,g,hg=>by simp[Bb]at hg
 |i+1,g,hg=>by
  rcases m_.1 (show g∈Bb L f r i ++ Zg L f r i (L.length-(i+1))from hg)with hg |hg
  ·exact Yc L h f r i g hg
  ·exact YU L h f r i _ g hg
theorem GU {c:Nat}(L:List V2)(h:Qw L c)(f r:Rat):∀g∈Zr L f r,WZ c f r g:=by
 unfold Zr
 split
 ·exact Yc L h f r _
 ·intro g hg;simp at hg
theorem NC {α:Type}(e:α→List AV)(s:Nat)(d:α)(f:Nat→AV)(t:Bool):B_ (.sl 0 0 f t) (g8 e s d []):=JJ rfl (by simp) fun j hj=>absurd hj (by simp)
theorem qB (x:Rat):x/O_ 2 1=x*O_ 1 2:=by
 rw[ZAS,show(O_ 2 1)⁻¹=O_ 1 2 by decide +kernel]
theorem wq:O_ 1 1=1:=by decide +kernel
theorem yq (m:Rat):NH m 0=if m<0 then 0 else m:=by
 unfold NH;by_cases h:m<0
 ·rw[N_ h,M_ (by grind)]
 ·rw[M_ h]
  by_cases h2:0<m
  ·rw[N_ h2]
  ·rw[M_ h2];grind
theorem yi (m:Rat):O2 m 1=if 1<m then 1 else m:=rfl
theorem Oz (L:List V2)(f r:Rat)(i:Nat):Bb L f r (i+1)=Bb L f r i ++ Zg L f r i (L.length-(i+1)):=rfl
theorem TV {H:List AO}{id ver n:Nat}(l:List GG)(ho:H[id]?=some (.row ver (l.length*32) (Xv gC 32 gZ l))) (hn:n=l.length):Zs H (.osl id ver 32 0 n) (O0 l):=by
 subst hn;rw[XR];refine Kc (.inl ho) (by omega) (fun h=>by rw[h]) fun j hj=>?_
 rw[x_];exact(Xe (Ke _) _).TBH _
theorem TE {c:Nat}(L:List V2)(f r:Rat)(h:Qw L c)(hc:c≤18)(hl:L.length≤13)(hf:qb f≤40)(hr:qb r≤40):Fn Tryz.prog 47 [Qm L,qA f,qA r] (O0 (Zr L f r)):=by
 have c1:=DV L (fun i=>k_ (h i) (by omega)) (by omega);have c2:=TG f r (by unfold rm;omega) (by unfold rm;omega);obtain⟨R,hR⟩:∃R,R=Zr L f r:=⟨_,rfl⟩
 have sR:=AF R;rw[←hR];unfold Zr at hR;generalize AQ f r=J at *;refine Fq Tryz.call47 Tryz.func47 18 [] [18,19012,19,20004,20006,20008,20009] [] (by simp[Xq,Xa]) (Xk ?_);simp(disch:=omega)only[P',X7,qA,qC,↓Xd,wG,seval];refine X0 c1 ⟨by rw[X7];exact X' _,trivial⟩ ?_;simp(disch:=omega)only[↓Xd,wG,seval];have nil:∀ (s:AS),s.get 6=.sl 0 0 (fun _=>.any) true→R=[]→TAC (JK Tryz.prog Tryz.f47 [18,19012,19,20004,20006,20008,20009] [] (O0 R)) s:=fun s hs e=>A9 rfl (by rw[hs];exact Xw sR (by rw[e];exact NC gC 32 gZ _ _))
 refine⟨fun hp=>nil _ rfl (by rw[hR,M_ fun h=>hp h.1]),fun hp=>?_⟩;refine X0 c2 (X1 _) ?_;simp(disch:=omega)only[↓Xd,wG,seval];refine⟨fun hj=>nil _ rfl (by rw[hR,M_ fun h=>by rw[h.2]at hj;exact absurd hj (by simp)]),fun hj=>?_⟩;have hj:J=true:=by simpa using hj
 rw[N_ ⟨hp,hj⟩]at hR;have bV:∀q,J9 q (Qm L)=True:=fun q=>K_ (X4 (Xq L))
 have bP:∀q x,J9 q (Jo x)=True:=fun q x=>K_ (X4 (XP fun j _=>Xe (XV x) j))
 have bO:∀q i x,XX q (.con i 4 (Xf (qC x)))=True:=fun q i x=>K_ fun j _=>X4 (Xe (XV x) j)
 have bR:∀q i n l,XX q (.row i n (Xv gC 32 gZ l))=True:=fun q i n l=>K_ fun j _=>X4 (Xe (Ke _) _)
 have fl:=fun i=>Di L f r i
 refine e_ ?_ (XB 0 rfl);refine e_ ?_ (XB 1 rfl);refine e_ ?_ (XH 4 rfl rfl (by omega));refine e_ ?_ (XH 5 rfl rfl (by omega));refine e_ ?_ (JM 7 32 (Xv gC 32 gZ []) rfl);refine Xi (fun i:Nat=>⟨18,[],[Qm L,.any,.any,.any,Jo f,Jo r,.any,.osl 2 (Bb L f r i).length 32 0 (Bb L f r i).length,I i,.any,.any,.any,.any,.any,.any,.any,.any,.any],[],[.con 0 4 (Xf (qC f)),.con 0 4 (Xf (qC r)),.row (Bb L f r i).length ((Bb L f r i).length*32) (Xv gC 32 gZ (Bb L f r i))]⟩) (fun i=>i≤L.length) (fun i=>L.length-i) 0 (by omega)
  (Xh rfl ⟨.inr (X7 L).symm,.inl rfl,.inl rfl,.inl rfl,.inr rfl,.inr rfl,.inl rfl,.inr rfl,.inr rfl,.inl rfl,.inl rfl,.inl rfl,.inl rfl,.inl rfl,.inl rfl,.inl rfl,.inl rfl,.inl rfl,trivial⟩ trivial rfl) ?_
 intro i hi next
 have w1:=wj i (by omega);by_cases hi2:i<L.length
 rotate_left
 ·obtain rfl:i=L.length:=by omega
  refine Xk ?_;simp(disch:=omega)only[X7,↓Xd,wG,seval];exact A9 rfl (by rw[hR];exact TV _ rfl rfl)
 have nx:=next (i+1)
 rw[Oz]at nx;have f1:(i<L.length)=True:=K_ hi2;refine Xk ?_;simp(disch:=omega)only[X7,w1,f1,↓Xd,wG,seval];generalize hF:Bb L f r i=F at *;refine Xi (fun k:Nat=>⟨18,[],[Qm L,.any,.any,.any,Jo f,Jo r,.any,.osl 2 (F ++ Zg L f r i k).length 32 0 (F ++ Zg L f r i k).length,I i,I (i+1+k:Nat),.any,.any,.any,.any,.any,.any,.any,.any],[],[.con 0 4 (Xf (qC f)),.con 0 4 (Xf (qC r)),.row (F ++ Zg L f r i k).length ((F ++ Zg L f r i k).length*32) (Xv gC 32 gZ (F ++ Zg L f r i k))]⟩) (fun k=>k≤L.length-(i+1)) (fun k=>L.length-k) 0 (by omega)
  (Xh rfl ⟨.inr (X7 L).symm,.inl rfl,.inl rfl,.inl rfl,.inr rfl,.inr rfl,.inl rfl,.inr (by simp[Zg]),.inr rfl,.inr rfl,.inl rfl,.inl rfl,.inl rfl,.inl rfl,.inl rfl,.inl rfl,.inl rfl,.inl rfl,trivial⟩ trivial (by simp only[Zg,ZAK];rfl)) ?_
 intro k hk TBE;have w2:=wj (i+1+k) (by omega);by_cases hk2:i+1+k<L.length
 rotate_left
 ·obtain rfl:k=L.length-(i+1):=by omega
  refine Xk ?_;simp(disch:=omega)only[X7,w1,w2,↓Xd,wG,seval];exact nx _ (by omega) (by omega) (ZS (by simp[Xm,I,X7]) rfl)
 have nk:=TBE (k+1);rw[show Zg L f r i (k+1)=Zg L f r i k ++ Mz L f r i (i+1+k)from rfl,←P_]at nk;have hln:(F ++ Zg L f r i k).length≤1000:=by
  have g1:=fl i;have g2:=Ht L f r i k;rw[hF]at g1;have g3:L.length*i≤13*13:=ZAx hl (by omega);rw[f_];omega
 generalize F ++ Zg L f r i k=G at *;clear hF next TBE fl
 have hk3:i+1+k<1000:=by omega
 generalize hj':i+1+k=j at *;have f2:(j<L.length)=True:=K_ hk2;have hg:Mz L f r i j=((GQ (JL L i) (JL L j)).toList).map fun x=>⟨x.1,x.2,FN (L.getD i v0) (Ze L i),f,r⟩:=rfl
 have v1:=vF L i;have v2:=vF L j;have h7:Qw L 1000:=fun i=>k_ (h i) (by omega)
 have d1:=Ng L i h7 (by omega) hi2;have d2:=Ng L j h7 (by omega) hk2;have d3:=P9 L i (L.getD j v0) h hc (by omega) hi2 (h j);have d4:=P9 L i (Ze L j) h hc (by omega) hi2 (h _);have d5:=Ft L j (by omega) hk2;have d6:=Ft L i (by omega) hi2;have e1:L.getD ((i+1)%L.length) v0=Ze L i:=rfl;have e2:L.getD ((j+1)%L.length) v0=Ze L j:=rfl;rw[e2]at d5;rw[e1]at d6;have h1:=h i;have h2:vb (Ze L i)≤c:=h ((i+1)%L.length);have h3:=h j;have h4:vb (Ze L j)≤c:=h ((j+1)%L.length);have hs1:JL L i=⟨L.getD i v0,Ze L i,FN (L.getD i v0) (Ze L i)⟩:=rfl;have hs2:JL L j=⟨L.getD j v0,Ze L j,FN (L.getD j v0) (Ze L j)⟩:=rfl;rw[hs1,hs2]at hg;unfold GQ Gf Gg Ra at hg;simp only at hg;generalize L.getD i v0=a at *;generalize Ze L i=a' at *;generalize L.getD j v0=b at *;generalize Ze L j=b' at *;have m1:=Um a a';have m2:=Um b b';generalize FN a a'=n at *;generalize FN b b'=m at *;have m3:=J3 a' a;have m4:=J3 b a;have u1:=rn m n (by omega) (by omega);have u2:=J1 b a (by unfold rm;omega) (by unfold rm;omega);have u3:=KF (b.sub a) n (by unfold vm;omega) (by unfold vm;omega);have m5:=Zn (b.sub a) n;have u4:=Qz (Qb (b.sub a) n) (by unfold rm;omega);have s5:(Qb (b.sub a) n).num.sign≤0↔Qb (b.sub a) n≤0:=by
  have:=Rw (Qb (b.sub a) n);rw[←Int.not_lt,this,ZAW]
 have u5:=J1 a' a (by unfold rm;omega) (by unfold rm;omega);have k1:=D8 a (a'.sub a) b h1 (by omega) h3;have k2:=D8 a (a'.sub a) b' h1 (by omega) h4;generalize hD:a'.sub a=D at *;refine Xk ?_;simp(disch:=omega)only[X7,w1,w2,f1,f2,v1,v2,↓Xd,wG,seval];refine X0 d1 ⟨by rw[X7];exact X' _,X' _,trivial⟩ ?_;simp(disch:=omega)only[vA,vC,X7,w1,w2,f1,f2,v1,v2,↓Xd,wG,seval];refine X0 d2 ⟨by rw[X7];exact X' _,X' _,trivial⟩ ?_;simp(disch:=omega)only[vA,vC,X7,w1,w2,f1,f2,v1,v2,↓Xd,wG,seval];refine X0 u1 (X1 _) ?_;simp(disch:=omega)only[vA,vC,qA,qC,X7,w1,w2,f1,f2,v1,v2,↓Xd,wG,seval];refine⟨fun ho=>?_,fun ho=>?_⟩
 ·rw[M_ fun q=>ho q.1]at hg
  replace hg:Mz L f r i j=[]:=hg;rw[hg,ZAK]at nk;exact nk _ (by omega) (by omega) (mD (m:=3) (by simp[X7,Xm,I];omega) rfl (by simp[XK,bV,bP]) (by simp[bO,bR]))
 refine X0 u2 (X1 _) ?_;simp(disch:=omega)only[vA,vC,qA,qC,X7,w1,w2,f1,f2,v1,v2,↓Xd,wG,seval];refine X0 u3 (X1 _) ?_;simp(disch:=omega)only[vA,vC,qA,qC,X7,w1,w2,f1,f2,v1,v2,↓Xd,wG,seval];refine X0 u4 (X1 _) ?_;simp(disch:=omega)only[vA,vC,qA,qC,X7,w1,w2,f1,f2,v1,v2,↓Xd,wG,seval];refine⟨fun ho2=>?_,fun ho2=>?_⟩
 ·rw[M_ fun q=>by rw[s5]at ho2;exact absurd q.2 (ZAW.2 ho2)]at hg
  replace hg:Mz L f r i j=[]:=hg;rw[hg,ZAK]at nk;exact nk _ (by omega) (by omega) (mD (m:=3) (by simp[X7,Xm,I];omega) rfl (by simp[XK,bV,bP]) (by simp[bO,bR]))
 rw[N_ ⟨ho,ZBA.1 fun q=>ho2 (s5.2 q)⟩]at hg;generalize JP a D b=s at *;generalize JP a D b'=t at *;obtain⟨l1,l2,l3,l4⟩:=kY k1 k2 (by omega);have u6:=Pf s t (by unfold rm;omega) (by unfold rm;omega);have u8:=Pe s t (by unfold rm;omega) (by unfold rm;omega);have u7:=Pe (O2 s t) 0 (by unfold rm;omega) (by unfold rm;exact k_ Bz (by omega));rw[yq,show(if O2 s t<0 then 0 else O2 s t)=OM s t from rfl]at u7;have o1:=XS 1 1 ⟨by omega,by omega⟩ ⟨by omega,by omega⟩;rw[wq]at o1;have u9:=Pf (NH s t) 1 (by unfold rm;omega) (by unfold rm;decide +kernel);rw[yi,show(if 1<NH s t then 1 else NH s t)=OH s t from rfl]at u9;have u10:=K9 (OM s t) (OH s t) (by unfold rm;omega) (by unfold rm;omega);refine X0 d3 ⟨by rw[X7];exact X' _,X' _,X' _,trivial⟩ ?_;simp(disch:=omega)only[vA,vC,qA,qC,X7,w1,w2,f1,f2,v1,v2,↓Xd,wG,seval];refine X0 d5 ⟨by rw[X7];exact X' _,X' _,trivial⟩ ?_;simp(disch:=omega)only[vA,vC,qA,qC,X7,w1,w2,f1,f2,v1,v2,↓Xd,wG,seval];refine X0 d4 ⟨by rw[X7];exact X' _,X' _,X' _,trivial⟩ ?_;simp(disch:=omega)only[vA,vC,qA,qC,X7,w1,w2,f1,f2,v1,v2,↓Xd,wG,seval];refine X0 u6 (X1 _) ?_;simp(disch:=omega)only[vA,vC,qA,qC,X7,w1,w2,f1,f2,v1,v2,↓Xd,wG,seval];refine X0 u7 ⟨X' _,JX (Jj _),trivial⟩ ?_;simp(disch:=omega)only[vA,vC,qA,qC,X7,w1,w2,f1,f2,v1,v2,↓Xd,wG,seval];refine X0 u8 (X1 _) ?_;simp(disch:=omega)only[vA,vC,qA,qC,X7,w1,w2,f1,f2,v1,v2,↓Xd,wG,seval];refine X0 o1 (X1 _) ?_;simp(disch:=omega)only[vA,vC,qA,qC,X7,w1,w2,f1,f2,v1,v2,↓Xd,wG,seval];refine X0 u9 (X1 _) ?_;simp(disch:=omega)only[vA,vC,qA,qC,X7,w1,w2,f1,f2,v1,v2,↓Xd,wG,seval];refine X0 u10 (X1 _) ?_;simp(disch:=omega)only[vA,vC,qA,qC,X7,w1,w2,f1,f2,v1,v2,↓Xd,wG,seval];have s6:=Hl (OM s t) (OH s t);refine⟨fun ho3=>?_,fun ho3=>?_⟩
 ·rw[M_ fun q=>absurd (s6.1 ho3) (ZBA.2 q)]at hg
  replace hg:Mz L f r i j=[]:=hg;rw[hg,ZAK]at nk;exact nk _ (by omega) (by omega) (mD (m:=3) (by simp[X7,Xm,I];omega) rfl (by simp[XK,bV,bP]) (by simp[bO,bR]))
 have hlt:OM s t<OH s t:=ZBA.1 fun q=>ho3 (s6.2 q)
 rw[N_ hlt]at hg;generalize OM s t=lo at *;generalize OH s t=hi at *;have u11:=JU lo hi (by unfold rm;omega) (by unfold rm;omega);have o2:=XS 2 1 ⟨by omega,by omega⟩ ⟨by omega,by omega⟩;have q2:=Fz 2 1 (by omega) (by omega);have q3:=A8 lo hi;have u12:=Bl (lo+hi) (O_ 2 1) (by unfold vm;omega) (by unfold vm;omega);rw[qB]at u12;have q4:=Qo (lo+hi) (O_ 1 2);have q5:=Fz 1 2 (by omega) (by omega);have hp:=Ya (a:=a) (d:=D) h1 (by omega) l1 l2;have hq:=Yb (p:=Mu a D lo hi) (n:=n) (b:=b) hp (by omega) h3;have u13:=AZ D ((lo+hi)*O_ 1 2) (by unfold vm;omega) (by unfold vm;omega);have q6:=F0 D ((lo+hi)*O_ 1 2);have u14:=Jw a (D.scale ((lo+hi)*O_ 1 2)) (by unfold vm;omega) (by unfold vm;omega);rw[show a.add (D.scale ((lo+hi)*O_ 1 2))=Mu a D lo hi from rfl]at u14;generalize Mu a D lo hi=p at *;have q7:=J3 b p;have u15:=J1 b p (by unfold rm;omega) (by unfold rm;omega);have u16:=KF (b.sub p) n (by unfold vm;omega) (by unfold vm;omega);have u17:=KF n n (by unfold vm;omega) (by unfold vm;omega);have q8:=Zn (b.sub p) n;have q9:=Zn n n;have u18:=Bl (Qb (b.sub p) n) (Qb n n) (by unfold vm;omega) (by unfold vm;omega);have q10:=BR (Qb (b.sub p) n) (Qb n n);have u19:=AZ n (Qb (b.sub p) n/Qb n n) (by unfold vm;omega) (by unfold vm;omega);have q11:=F0 n (Qb (b.sub p) n/Qb n n);have u20:=Jw p (n.scale (Qb (b.sub p) n/Qb n n)) (by unfold vm;omega) (by unfold vm;omega);rw[show p.add (n.scale (Qb (b.sub p) n/Qb n n))=Rb p n b from rfl]at u20;generalize Rb p n b=q at *;generalize Qb (b.sub p) n/Qb n n=far at *;generalize (lo+hi)*O_ 1 2=mid at *;refine X0 u11 (X1 _) ?_;simp(disch:=omega)only[vA,vC,qA,qC,X7,w1,w2,f1,f2,v1,v2,↓Xd,wG,seval];refine X0 o2 (X1 _) ?_;simp(disch:=omega)only[vA,vC,qA,qC,X7,w1,w2,f1,f2,v1,v2,↓Xd,wG,seval];refine X0 u12 (X1 _) ?_;simp(disch:=omega)only[vA,vC,qA,qC,X7,w1,w2,f1,f2,v1,v2,↓Xd,wG,seval];refine X0 d6 ⟨by rw[X7];exact X' _,X' _,trivial⟩ ?_;simp(disch:=omega)only[vA,vC,qA,qC,X7,w1,w2,f1,f2,v1,v2,↓Xd,wG,seval];refine X0 u5 (X1 _) ?_;simp(disch:=omega)only[vA,vC,qA,qC,X7,w1,w2,f1,f2,v1,v2,↓Xd,wG,seval];refine X0 u13 (X1 _) ?_;simp(disch:=omega)only[vA,vC,qA,qC,X7,w1,w2,f1,f2,v1,v2,↓Xd,wG,seval];refine X0 u14 (X1 _) ?_;simp(disch:=omega)only[vA,vC,qA,qC,X7,w1,w2,f1,f2,v1,v2,↓Xd,wG,seval];refine X0 u15 (X1 _) ?_;simp(disch:=omega)only[vA,vC,qA,qC,X7,w1,w2,f1,f2,v1,v2,↓Xd,wG,seval];refine X0 u16 (X1 _) ?_;simp(disch:=omega)only[vA,vC,qA,qC,X7,w1,w2,f1,f2,v1,v2,↓Xd,wG,seval];refine X0 u17 (X1 _) ?_;simp(disch:=omega)only[vA,vC,qA,qC,X7,w1,w2,f1,f2,v1,v2,↓Xd,wG,seval];refine X0 u18 (X1 _) ?_;simp(disch:=omega)only[vA,vC,qA,qC,X7,w1,w2,f1,f2,v1,v2,↓Xd,wG,seval];refine X0 u19 (X1 _) ?_;simp(disch:=omega)only[vA,vC,qA,qC,X7,w1,w2,f1,f2,v1,v2,↓Xd,wG,seval];refine X0 u20 (X1 _) ?_;simp(disch:=omega)only[vA,vC,qA,qC,X7,w1,w2,f1,f2,v1,v2,Jo,↓Xd,wG,seval];replace hg:Mz L f r i j=[⟨p,q,n,f,r⟩]:=hg;have hap:=Zj gC 32 gZ G ⟨p,q,n,f,r⟩ (by omega);rw[hg]at nk;rw[show(G ++ [(⟨p,q,n,f,r⟩:GG)]).length=G.length+1 by simp]at nk;exact⟨fun j hj=>kv ⟨p,q,n,f,r⟩ j hj,nk _ (by omega) (by omega) (mD (m:=3) (by simp[X7,Xm,I,Jo];exact⟨rfl,rfl,by omega⟩) (by rw[←hap];rfl) (by simp[XK,bV,bP]) (by simp[bO,bR]))⟩
def FY (L:List V2)(g:GG):Int :=
 if AW L∧Zc g=true then(if(Kf L).any (CZ g)=true∧(Kf L).any (BA g)=true then 0 else 17)else 1
theorem wK (L:List V2)(h:Qw L 1000)(i:Nat):wL (JL L i) 10000:=by
 have h1:=h i;have h2:vb (Ze L i)≤1000:=h ((i+1)%L.length);have h3:=Um (L.getD i v0) (Ze L i);refine⟨?_,?_,?_⟩
 ·show vb (L.getD i v0)≤_;omega
 ·show vb (Ze L i)≤_;omega
 ·show vb (FN (L.getD i v0) (Ze L i))≤_;omega
theorem ST (L:List V2)(g:GG)(h:Qw L 1000)(hl:L.length<1000000)(hg:yJ g)(hv:vb g.p≤10000∧vb g.q≤10000∧vb g.n≤10000):Fn Tryz.prog 15 [Qm L,gA g] (I (FY L g)):=by
 obtain⟨g1,g2,g3⟩:=id hv;have c1:=Ij L h hl;have c2:=MC g hg;have c3:=OG L h hl;have hm:∀x∈Kf L,wL x 10000:=fun x hx=>by
  unfold Kf B9 at hx;obtain⟨i,_,rfl⟩:=ZA3.1 hx;exact wK L h i
 have hlen:(Kf L).length<1000000:=by unfold Kf;rw[E6];exact hl
 have c4:=GJ (Kf L) 65 [gP g] (CZ g) hlen (fun a ha=>a_.1 ha▸E4 g) fun x hx=>jO g x (hm x hx) ⟨by omega,by omega⟩
 have c5:=GJ (Kf L) 68 [gP g] (BA g) hlen (fun a ha=>a_.1 ha▸E4 g) fun x hx=>fD g x (hm x hx) ⟨by omega,by omega⟩
 have hd:FY L g=if AW L∧Zc g=true then(if(Kf L).any (CZ g)=true∧(Kf L).any (BA g)=true then 0 else 17)else 1:=rfl;generalize FY L g=R at *;generalize (Kf L).any (CZ g)=b1 at *;generalize (Kf L).any (BA g)=b2 at *;have gf:=gF g;refine y_ (fn:=Tryz.f15) Tryz.call15 Tryz.func15 rfl mixed 8 [] [] [] (by kernel_rfl) (L' rfl) (KS (Xq L) (J2 g)) (XF 8 ?_);simp(disch:=omega)only[P',gA,QZ,X7,↓Xd,wG,seval];refine e_ ?_ (XB 0 rfl);refine e_ ?_ (XH 3 rfl rfl (by omega));refine Xk ?_;simp(disch:=omega)only[ZAm,List.set,↓Xd,wG,seval];refine X0 c1 ⟨by rw[X7];exact X' _,trivial⟩ ?_;simp(disch:=omega)only[↓Xd,wG,seval];refine⟨fun h1=>?_,fun h1=>?_⟩
 ·exact Xp (v:=I 1) rfl rfl (X9 _) (by rw[hd,M_ fun h=>h1 h.1])
 refine X0 c2 (X1 _) ?_;simp(disch:=omega)only[↓Xd,wG,seval];refine⟨fun h2=>?_,fun h2=>?_⟩
 ·exact Xp (v:=I 1) rfl rfl (X9 _) (by rw[hd,M_ fun h=>by rw[h.2]at h2;exact absurd h2 (by simp)])
 have h2:Zc g=true:=by simpa using h2
 rw[N_ ⟨h1,h2⟩]at hd;refine X0 c3 ⟨by rw[X7];exact X' _,trivial⟩ ?_;simp(disch:=omega)only[↓Xd,wG,seval];cases b1
 ·refine X0 c4 (X1 _) ?_
  simp(disch:=omega)only[↓Xd,wG,seval];exact Xp (v:=I 17) rfl rfl (X9 _) (by rw[hd];rfl)
 ·refine X0 c4 (X1 _) ?_
  simp(disch:=omega)only[↓Xd,wG,seval];cases b2
  ·refine X0 c5 (X1 _) ?_
   simp(disch:=omega)only[↓Xd,wG,seval];exact Xp (v:=I 17) rfl rfl (X9 _) (by rw[hd];rfl)
  ·refine X0 c5 (X1 _) ?_
   simp(disch:=omega)only[↓Xd,wG,seval];exact Xp (v:=I 0) rfl rfl (X9 _) (by rw[hd];rfl)
theorem Yi (L:List V2)(g:GG)(h:Qw L 1000)(hl:L.length<1000000)(hg:gS g):Fn Tryz.prog 15 [Qm L,gA g] (I (FY L g)):=by
 obtain⟨g1,g2,g3,g4,g5⟩:=id hg;exact ST L g h hl hg.ok ⟨by omega,by omega,by omega⟩
theorem cR (L:List V2)(g:GG)(i:Nat):CZ g (JL L i)=(decide (FN (L.getD i v0) (Ze L i)=g.n) && lH (L.getD i v0) (Ze L i) g.p):=by
 rw[←Rf _ _ (FN (L.getD i v0) (Ze L i))];rfl
theorem W9 (L:List V2)(g:GG)(i:Nat):BA g (JL L i)=(decide (Ig (FN (L.getD i v0) (Ze L i)) g.n) && lH (L.getD i v0) (Ze L i) g.q):=by
 rw[←Rf _ _ (FN (L.getD i v0) (Ze L i))];rfl
theorem Kp {P:Program}{T id n:Nat}{Z:List AV}{H:List AO}(hk:CD P T=some (some n)) (ho:H[id]?=some (.row 0 n (Xf Z))) (hn:Z.length=n):Qx P false T (.ref id 0 0) H=some (.agg Z):=by
 subst hn;rw[Bu,hk,KA,ho,KB,eJ,I0 Z _ _ (by omega)];simp[Qd]
theorem ng {Z W:List AV}(h:W.length=Z.length):CE (Xf Z) 0 W=Xf W:=funext fun j=>by
 rw[ZH];by_cases hj:j<W.length
 ·rw[N_ ⟨p_ _,by omega⟩,ZC0];rfl
 ·rw[M_ (by omega)]
  unfold Xf;rw[K',K',j_ (by omega),j_ (by omega)]
theorem JQ {P:Program}{T id n:Nat}{Z W:List AV}{H:List AO}(ht:Zi P T=some n)(ho:H[id]?=some (.row 0 n (Xf Z))) (hz:Z.length=n) (hw:W.length=n) (h0:n≠0) (h1:W.all AV.one=true):Zv P false T (.ref id 0 0) (.agg W) H=some (H.set id (.row 0 n (Xf (W.map AV.loose)))):=by
 subst hz;have e:ZF false (.agg W)=W.map AV.loose:=rfl;have hc:(AV.agg W).cells=W:=rfl;unfold Zv;simp only[ho];unfold Qd;rw[N_ ⟨trivial,by rw[ht,hc,hw],by rw[hc];exact fun g=>by rw[g]at hw;exact h0 hw.symm,by rw[hc,hw];omega,by rw[hc];exact h1⟩,e,ng (by rw[ZBp,hw])]
def zC (t:Bool):List AV:=[.bool false,.sl 0 0 (fun _=>.any) t,.bool false,.sl 0 0 (fun _=>.any) t,.bool false,.sl 0 0 (fun _=>.any) t,.bool false,.sl 0 0 (fun _=>.any) t]
def zO (t:Bool):AO:=.row 0 8 (Xf (zC t))
def vG (o:Option (V2×V2)):AV:=.tup [vA (o.getD (v0,v0)).1,vA (o.getD (v0,v0)).2,.bool o.isSome]
def sW (a b:Sd)(D:V2)(mn mx lo hi:Rat):AS:=⟨14,[],[.any,.any,rz a,rz b,.ref 2 0 0,.ref 3 0 0,.bool false,vP D,.any,.any,.ref 6 0 0,.ref 7 0 0,.any,.any],[],[.con 0 24 (Xf (Bo a)),.con 0 24 (Xf (Bo b)),zO true,zO true,.con 0 8 (Xf (vC D)),.con 0 8 (Xf (qC mn ++ qC mx)),.row 0 4 (Xf (qC lo)),.row 0 4 (Xf (qC hi))]⟩
theorem qR:O_ 1 1=1:=by decide +kernel
def sY (a b:Sd)(D:V2)(mn mx lo hi:Rat):AS:=⟨14,[],[.any,.any,rz a,rz b,.ref 2 0 0,.ref 3 0 0,.bool false,vP D,.any,.any,.ref 6 0 0,.ref 7 0 0,.any,.any],[],[.con 0 24 (Xf (Bo a)),.con 0 24 (Xf (Bo b)),zO true,zO true,.con 0 8 (Xf (vC D)),.con 0 8 (Xf (qC mn ++ qC mx)),.row 0 4 (Xf (qC lo)),.row 0 4 (Xf (qC hi)),.row 0 4 (Xf (qC 1))]⟩
theorem tf {α:Type}{X:Env}{K:List Item}{Q:Prop}(P:α→Prop)(st:α→AS)(h1:(∀a,P a→Run X K (st a))→Q) (h2:∀a,P a→Run X K (st a)):Q:=h1 h2
theorem Uc {m:Nat}{s:AS}(id:Nat){ver n:Nat}{l:List AV}(l':List AV)(ho:s.h[id]?=some (.row ver n (Xf l))) (hn:n=l.length) (h:TAR l l'):Sub m s { s with h:=s.h.set id (.row ver n (Xf l')) } :=
 Qh id (Xf l') ho fun j hj c v _ _ hv=>(TAR.spec h).2 j (by omega) v hv
theorem cP {c:Nat}(a b:Sd)(hc:c≤18)(a1:vb a.a≤c)(a2:vb a.b≤c)(a3:vb a.i≤2*c+1)(b1:vb b.a≤c)(b2:vb b.b≤c)(b3:vb b.i≤2*c+1)(h0:a.a≠a.b):Fn Tryz.prog 116 [W7 a,W7 b] (vG (GQ a b)):=by
 have m1:=J3 b.a a.a;have hDv:=J3 a.b a.a;have hd0:Qb (a.b.sub a.a) (a.b.sub a.a)≠0:=fun e=>h0 (by
  unfold Qb V2.sub at e;obtain⟨e1,e2⟩:=yO e;cases ha:a.a;cases hb:a.b;rw[ha,hb]at e1 e2;simp only[V2.mk.injEq]at *;exact⟨by grind,by grind⟩)
 have u1:=Yh b.i a.i (by unfold vm;omega) (by unfold vm;omega);have u2:=Bx b.a a.a (by unfold rm;omega) (by unfold rm;omega);have u3:=DR (b.a.sub a.a) a.i (by unfold vm;omega) (by unfold vm;omega);have u4:=Qv (Qb (b.a.sub a.a) a.i);obtain⟨R,hR⟩:∃R,R=vG (GQ a b):=⟨_,rfl⟩
 rw[←hR];have u5:=Bx a.b a.a (by unfold rm;omega) (by unfold rm;omega);have u6:=Mv a (a.b.sub a.a) b.a (by omega) (by omega) (by omega) hd0;have u7:=Mv a (a.b.sub a.a) b.b (by omega) (by omega) (by omega) hd0;unfold GQ at hR;unfold Gf Gg Ra at hR;have k1:=D8 a.a (a.b.sub a.a) b.a a1 (by omega) b1;have k2:=D8 a.a (a.b.sub a.a) b.b a1 (by omega) b2;generalize JP a.a (a.b.sub a.a) b.a=s at *;generalize JP a.a (a.b.sub a.a) b.b=t at *;obtain⟨l1,l2,l3,l4⟩:=kY k1 k2 (by omega);generalize hD:a.b.sub a.a=D at *;have s5:(Qb (b.a.sub a.a) a.i).num.sign≤0↔Qb (b.a.sub a.a) a.i≤0:=by
  have:=Rw (Qb (b.a.sub a.a) a.i);rw[←Int.not_lt,this,ZAW]
 by_cases ho:Ig b.i a.i
 ·have tA:=KS (Ky a) (Ky b)
  refine y_ (fn:=Tryz.f116) Tryz.call116 Tryz.func116 rfl mixed 14 [] [3000000000001,3000000000002,5,7,80000009,15000000000001,15000000000002,16,17002] [6] (by kernel_rfl) (L' rfl) (KS (Ky a) (Ky b)) (XF 54 ?_);simp(disch:=omega)only[P',W7,B7,↓Xd,wG,seval];refine X0 u1 (X1 _) ?_;simp(disch:=omega)only[↓Xd,wG,seval];simp only[ho,decide_true];simp(disch:=omega)only[↓Xd,wG,seval];refine X0 u2 (X1 _) ?_;simp(disch:=omega)only[vA,vC,↓Xd,wG,seval];refine X0 u3 (X1 _) ?_;simp(disch:=omega)only[qA,qC,↓Xd,wG,seval];refine X0 u4 (X1 _) ?_;simp(disch:=omega)only[↓Xd,wG,seval];refine⟨fun ho2=>?_,fun ho2=>?_⟩
  ·rw[M_ fun q=>absurd q.2 (ZAW.2 (s5.1 ho2))]at hR
   rw[hR];refine XF 1 ?_;simp(disch:=omega)only[↓Xd,wG,seval];show Run _ (_ :: _) _;refine AD (fun x=>x=3) ?_;obtain⟨A,hA⟩:∃A:AO,A=.row 0 24 (Xf (Bo a)):=⟨_,rfl⟩
   obtain⟨B,hB⟩:∃B:AO,B=.row 0 24 (Xf (Bo b)):=⟨_,rfl⟩
   have l0:=Kp (P:=Tryz.prog) (T:=30) (id:=2) (Z:=zC true) (H:=[A,B,zO true,zO true]) JH rfl rfl;have l1:=Kp (P:=Tryz.prog) (T:=30) (id:=3) (Z:=zC true) (H:=[A,B,zO true,zO true]) JH rfl rfl;have l2:=JQ (P:=Tryz.prog) (T:=30) (id:=2) (Z:=zC true) (W:=zC true) (H:=[A,B,zO true,zO true]) E9 rfl rfl rfl (by decide) rfl;have l3:=JQ (P:=Tryz.prog) (T:=30) (id:=3) (Z:=zC true) (W:=zC true) (H:=[A,B,zO false,zO true]) E9 rfl rfl rfl (by decide) rfl;rw[hA,hB]at l0 l1 l2 l3;show ∃s',TAW _ _ _ _ _ _ _ _ _ _ s'∧_;refine⟨_,⟨HO rfl,_,Qr rfl rfl rfl rfl (t_ (zV fun w=>(w,_)) l0),vJ rfl rfl (fun o' va off e=>by cases e;rfl),_,Qr rfl rfl rfl rfl (t_ (zV fun w=>(w,_)) l1),
    xp rfl rfl (fun o' va off e=>by cases e;decide),_,Qr rfl rfl rfl rfl (t_ (zV fun w=>(XW,w)) l2),HO rfl,_,Qr rfl rfl rfl rfl (t_ (zV fun w=>(XW,w)) l3),HO rfl,_,Qr (v:=.bool false) (h':=[.row 0 24 (Xf (Bo a)),.row 0 24 (Xf (Bo b)),zO false,zO false]) rfl rfl rfl rfl rfl,rfl⟩,?fin⟩
   refine e_ (s':=⟨14,[],[.any,.any,.any,.any,.ref 2 0 0,.ref 3 0 0,.bool false,.any,.any,.any,.any,.any,.any,.any],[],[A,B,zO false,zO false]⟩) ?_ (Xh rfl ⟨.inl rfl,.inl rfl,.inl rfl,.inl rfl,.inr rfl,.inr rfl,.inr rfl,.inl rfl,.inl rfl,.inl rfl,.inl rfl,.inl rfl,.inl rfl,.inl rfl,trivial⟩ trivial (by rw[hA,hB];rfl));refine Xk ?_;simp(disch:=omega)only[↓Xd,wG,seval];exact B0 (r1:=.cell 4 30) (r2:=.cell 5 30) (r3:=.tmp 6) rfl (Xs JH rfl rfl rfl) (Xs JH rfl rfl rfl) rfl (Xw (Xx _) (Eb _)) (Xw (Xx _) (Eb _)) (XU (X5 _) rfl)
  ·have hi0:a.i≠v0:=fun e=>by
    have:=ho.2;rw[e]at this;unfold Qb v0 at this;grind
   refine XF 18 ?_;simp(disch:=omega)only[↓Xd,wG,seval];refine X0 u5 (X1 _) ?_;simp(disch:=omega)only[vA,vC,↓Xd,wG,seval];refine e_ ?_ (XB 0 rfl);refine e_ ?_ (XB 1 rfl);refine e_ ?_ (XB 4 rfl);refine e_ ?_ (XH 2 rfl rfl (by omega));refine e_ ?_ (XH 3 rfl rfl (by omega));refine e_ ?_ (XH 7 rfl rfl (by omega));refine XF 71 ?_;simp(disch:=omega)only[ZAm,List.set,↓Xd,wG,seval];refine X0 u6 (X1 _) ?_;simp(disch:=omega)only[vA,vC,qA,qC,↓Xd,wG,seval];refine X0 u7 (X1 _) ?_;simp(disch:=omega)only[vA,vC,qA,qC,↓Xd,wG,seval];have hu:∀o∈[AO.con 0 24 (Xf (Bo a)),.con 0 24 (Xf (Bo b)),zO true,zO true,.con 0 8 (Xf (vC D))],o≠.D_:=by simp[zO]
   have cs:=mJ (.con 0 24 (Xf (Bo a))) (.con 0 24 (Xf (Bo b))) (zO true) (zO true) (.con 0 8 (Xf (vC D))) hu 0 s t (by unfold rm;omega) (by unfold rm;omega);refine Xz rfl cs (QT (id:=5) (o:=Pk 0 s t) rfl (by simp[Pk]) (by simp[Pk])) (x6 hu (by simp[Pk])) (X1 _) ?_;have us:=Qv (O2 s t);have uc:=J6 (NH s t) 1 (by unfold rm;omega) (by decide +kernel);have uo:=D3 1 1 ⟨by omega,by omega⟩ ⟨by omega,by omega⟩;rw[qR]at uo;have uf:=J6 (OM s t) (OH s t) (by unfold rm;omega) (by unfold rm;omega);have hlo:OM s t=if O2 s t<0 then 0 else O2 s t:=rfl
   have hhi:OH s t=if 1<NH s t then 1 else NH s t:=rfl
   generalize OM s t=lo at *;generalize OH s t=hi at *;generalize O2 s t=mn at *;generalize NH s t=mx at *;simp(disch:=omega)only[Pk,qC,zO,zC,B7,vC,↓Xd,wG,seval];refine X0 us (X1 _) ?_;simp(disch:=omega)only[BC,↓Xd,wG,seval];apply tf (X:=JK Tryz.prog Tryz.f116 [3000000000001,3000000000002,5,7,80000009,15000000000001,15000000000002,16,17002] [6] R) (fun _:Unit=>True) (fun _=>sW a b D mn mx lo mx)
   case h1 =>
    intro key;refine⟨fun hm=>?_,fun hm=>?_⟩
    ·rw[N_ hm]at hlo
     refine XF 6 ?_;simp(disch:=omega)only[↓Xd,wG,seval];rw[hlo]at key;refine(key () trivial).sub (ZA8 (Uc 6 (qC 0) rfl rfl (Jj false)) (Xh rfl ⟨.inl rfl,.inl rfl,.inr rfl,.inr rfl,.inr rfl,.inr rfl,.inr rfl,.inr rfl,.inl rfl,.inl rfl,.inr rfl,.inr rfl,.inl rfl,.inl rfl,trivial⟩ trivial rfl))
    ·rw[M_ hm]at hlo
     rw[hlo]at key;refine XF 1 ?_;simp(disch:=omega)only[↓Xd,wG,seval];exact(key () trivial).sub (Xh rfl ⟨.inl rfl,.inl rfl,.inr rfl,.inr rfl,.inr rfl,.inr rfl,.inr rfl,.inr rfl,.inl rfl,.inl rfl,.inr rfl,.inr rfl,.inl rfl,.inl rfl,trivial⟩ trivial rfl)
   case h2 =>
    intro _ _;refine XF 22 ?_;simp(disch:=omega)only[sW,rz,vP,↓Xd,wG,seval];refine X0 uo (X1 _) ?_;simp(disch:=omega)only[qA,qC,↓Xd,wG,seval];refine X0 uc (X1 _) ?_;simp(disch:=omega)only[Ap,↓Xd,wG,seval];apply tf (X:=JK Tryz.prog Tryz.f116 [3000000000001,3000000000002,5,7,80000009,15000000000001,15000000000002,16,17002] [6] R) (fun _:Unit=>True) (fun _=>sY a b D mn mx lo hi)
    case h1 =>
     intro key;refine⟨fun hm=>?_,fun hm=>?_⟩
     ·rw[N_ hm]at hhi
      rw[hhi]at key;refine XF 6 ?_;simp(disch:=omega)only[↓Xd,wG,seval];exact(key () trivial).sub (Xh rfl ⟨.inl rfl,.inl rfl,.inr rfl,.inr rfl,.inr rfl,.inr rfl,.inr rfl,.inr rfl,.inl rfl,.inl rfl,.inr rfl,.inr rfl,.inl rfl,.inl rfl,trivial⟩ trivial rfl)
     ·rw[M_ hm]at hhi
      rw[hhi]at key;refine XF 1 ?_;simp(disch:=omega)only[↓Xd,wG,seval];exact(key () trivial).sub (Xh rfl ⟨.inl rfl,.inl rfl,.inr rfl,.inr rfl,.inr rfl,.inr rfl,.inr rfl,.inr rfl,.inl rfl,.inl rfl,.inr rfl,.inr rfl,.inl rfl,.inl rfl,trivial⟩ trivial rfl)
    case h2 =>
     intro _ _;refine XF 13 ?_;simp(disch:=omega)only[sY,rz,vP,↓Xd,wG,seval];refine X0 uf (X1 _) ?_;simp(disch:=omega)only[Hl,↓Xd,wG,seval];refine⟨fun hc=>?_,fun hc=>?_⟩
     ·rw[M_ (ZAW.2 hc),ite_self]at hR
      rw[hR];refine XF 1 ?_;simp(disch:=omega)only[↓Xd,wG,seval];show Run _ (_ :: _) _;refine AD (fun x=>x=3) ?_;obtain⟨A,hA⟩:∃A:AO,A=.con 0 24 (Xf (Bo a)):=⟨_,rfl⟩
      obtain⟨B,hB⟩:∃B:AO,B=.con 0 24 (Xf (Bo b)):=⟨_,rfl⟩
      obtain⟨C,hC⟩:∃C:AO,C=.con 0 8 (Xf (vC D)):=⟨_,rfl⟩
      obtain⟨E,hE⟩:∃E:AO,E=.con 0 8 (Xf (qC mn ++ qC mx)):=⟨_,rfl⟩
      obtain⟨F,hF⟩:∃F:AO,F=.row 0 4 (Xf (qC lo)):=⟨_,rfl⟩
      obtain⟨G,hG⟩:∃G:AO,G=.row 0 4 (Xf (qC hi)):=⟨_,rfl⟩
      obtain⟨J,hJ⟩:∃J:AO,J=.row 0 4 (Xf (qC 1)):=⟨_,rfl⟩
      have l0:=Kp (P:=Tryz.prog) (T:=30) (id:=2) (Z:=zC true) (H:=[A,B,zO true,zO true,C,E,F,G,J]) JH rfl rfl;have l1:=Kp (P:=Tryz.prog) (T:=30) (id:=3) (Z:=zC true) (H:=[A,B,zO true,zO true,C,E,F,G,J]) JH rfl rfl;have l2:=JQ (P:=Tryz.prog) (T:=30) (id:=2) (Z:=zC true) (W:=zC true) (H:=[A,B,zO true,zO true,C,E,F,G,J]) E9 rfl rfl rfl (by decide) rfl;have l3:=JQ (P:=Tryz.prog) (T:=30) (id:=3) (Z:=zC true) (W:=zC true) (H:=[A,B,zO false,zO true,C,E,F,G,J]) E9 rfl rfl rfl (by decide) rfl;rw[hA,hB,hC,hE,hF,hG,hJ]at l0 l1 l2 l3;show ∃s',TAW _ _ _ _ _ _ _ _ _ _ s'∧_;refine⟨_,⟨HO rfl,_,Qr rfl rfl rfl rfl (t_ (zV fun w=>(w,_)) l0),vJ rfl rfl (fun o' va off e=>by cases e;rfl),_,Qr rfl rfl rfl rfl (t_ (zV fun w=>(w,_)) l1),
       xp rfl rfl (fun o' va off e=>by cases e;decide),_,Qr rfl rfl rfl rfl (t_ (zV fun w=>(XW,w)) l2),HO rfl,_,Qr rfl rfl rfl rfl (t_ (zV fun w=>(XW,w)) l3),HO rfl,_,Qr (v:=.bool false) (h':=[.con 0 24 (Xf (Bo a)),.con 0 24 (Xf (Bo b)),zO false,zO false,.con 0 8 (Xf (vC D)),.con 0 8 (Xf (qC mn ++ qC mx)),.row 0 4 (Xf (qC lo)),.row 0 4 (Xf (qC hi)),.row 0 4 (Xf (qC 1))]) rfl rfl rfl rfl rfl,rfl⟩,?TFe⟩
      refine e_ (s':=⟨14,[],[.any,.any,.any,.any,.ref 2 0 0,.ref 3 0 0,.bool false,.any,.any,.any,.any,.any,.any,.any],[],[A,B,zO false,zO false,C,E,F,G,J]⟩) ?_ (Xh rfl ⟨.inl rfl,.inl rfl,.inl rfl,.inl rfl,.inr rfl,.inr rfl,.inr rfl,.inl rfl,.inl rfl,.inl rfl,.inl rfl,.inl rfl,.inl rfl,.inl rfl,trivial⟩ trivial (by rw[hA,hB,hC,hE,hF,hG,hJ];rfl));refine Xk ?_;simp(disch:=omega)only[↓Xd,wG,seval];exact B0 (r1:=.cell 4 30) (r2:=.cell 5 30) (r3:=.tmp 6) rfl (Xs JH rfl rfl rfl) (Xs JH rfl rfl rfl) rfl (Xw (Xx _) (Eb _)) (Xw (Xx _) (Eb _)) (XU (X5 _) rfl)
     ·rw[N_ ⟨ho,ZBA.1 fun q=>ho2 (s5.2 q)⟩,N_ (ZBA.1 hc)]at hR
      unfold Rb Mu at hR;have hf:qb (O_ 1 2)≤3:=by decide +kernel
      have e1:=A8 lo hi;have w1:=C5 lo hi (by unfold rm;omega) (by unfold rm;omega);have w2:=D3 1 2 ⟨by omega,by omega⟩ ⟨by omega,by omega⟩;have e2:=Qo (lo+hi) (O_ 1 2);have w3:=B5 (lo+hi) (O_ 1 2) (by unfold rm;omega) (by unfold rm;omega);generalize (lo+hi)*O_ 1 2=h at *;have e4:=Un D h;have w4:=P7 D h (by unfold vm;omega) (by unfold vm;omega);have e5:=Z8 a.a (D.scale h);have w5:=YE a.a (D.scale h) (by unfold vm;omega) (by unfold vm;omega);generalize a.a.add (D.scale h)=p at *;have e6:=J3 b.a p;have w6:=Bx b.a p (by unfold rm;omega) (by unfold rm;omega);have e7:=Zn (b.a.sub p) a.i;have e8:=Zn a.i a.i;have w7:=DR (b.a.sub p) a.i (by unfold vm;omega) (by unfold vm;omega);have w8:=DR a.i a.i (by unfold vm;omega) (by unfold vm;omega);have w9:=LB (Qb (b.a.sub p) a.i) (Qb a.i a.i) (fun e=>hi0 (by
       unfold Qb at e;obtain⟨x1,x2⟩:=yO e;cases hz:a.i;rw[hz]at x1 x2;unfold v0;rw[V2.mk.injEq];exact⟨x1,x2⟩)) (by unfold rm;omega) (by unfold rm;omega)
      have e9:qb (Qb (b.a.sub p) a.i/Qb a.i a.i)≤qb (Qb (b.a.sub p) a.i)+qb (Qb a.i a.i):=by
       rw[ZAS];have:=Qo (Qb (b.a.sub p) a.i) (Qb a.i a.i)⁻¹;have:=VX (Qb a.i a.i);omega
      generalize Qb (b.a.sub p) a.i/Qb a.i a.i=k at *;have e10:=Un a.i k;have w10:=P7 a.i k (by unfold vm;omega) (by unfold vm;omega);have w11:=YE p (a.i.scale k) (by unfold vm;omega) (by unfold vm;omega);generalize p.add (a.i.scale k)=qq at *;rw[hR];refine Xk ?_;simp(disch:=omega)only[↓Xd,wG,seval];refine X0 w1 (X1 _) ?_;simp(disch:=omega)only[qA,qC,↓Xd,wG,seval];refine X0 w2 (X1 _) ?_;simp(disch:=omega)only[qA,qC,↓Xd,wG,seval];refine X0 w3 (X1 _) ?_;simp(disch:=omega)only[qA,qC,↓Xd,wG,seval];refine X0 w4 (X1 _) ?_;simp(disch:=omega)only[vA,vC,↓Xd,wG,seval];refine X0 w5 (X1 _) ?_;simp(disch:=omega)only[vA,vC,zO,zC,B7,↓Xd,wG,seval];refine X0 w6 (X1 _) ?_;simp(disch:=omega)only[vA,vC,zO,zC,B7,↓Xd,wG,seval];refine X0 w7 (X1 _) ?_;simp(disch:=omega)only[qA,qC,zO,zC,B7,↓Xd,wG,seval];refine X0 w8 (X1 _) ?_;simp(disch:=omega)only[qA,qC,zO,zC,B7,↓Xd,wG,seval];refine X0 w9 (X1 _) ?_;simp(disch:=omega)only[qA,qC,zO,zC,B7,↓Xd,wG,seval];refine X0 w10 (X1 _) ?_;simp(disch:=omega)only[vA,vC,zO,zC,B7,↓Xd,wG,seval];refine X0 w11 (X1 _) ?_;simp(disch:=omega)only[vA,vC,zO,zC,B7,↓Xd,wG,seval];exact B0 (r1:=.cell 4 30) (r2:=.cell 5 30) (r3:=.tmp 6) rfl (Xs JH rfl rfl rfl) (Xs JH rfl rfl rfl) rfl (XU (Xx _) rfl) (XU (Xx _) rfl) (XU (X5 _) rfl)
 ·simp only[ho,decide_false]at u1
  refine y_ (fn:=Tryz.f116) Tryz.call116 Tryz.func116 rfl mixed 14 [] [3000000000001,3000000000002,5,7,80000009,15000000000001,15000000000002,16,17002] [6] (by kernel_rfl) (L' rfl) (KS (Ky a) (Ky b)) (XF 44 ?_);simp(disch:=omega)only[P',W7,B7,↓Xd,wG,seval];refine X0 u1 (X1 _) ?_;simp(disch:=omega)only[↓Xd,wG,seval];rw[M_ fun q=>absurd q.1 ho]at hR;rw[hR];refine XF 1 ?_;simp(disch:=omega)only[↓Xd,wG,seval];show Run _ (_ :: _) _;refine AD (fun x=>x=3) ?_;obtain⟨A,hA⟩:∃A:AO,A=.row 0 24 (Xf (Bo a)):=⟨_,rfl⟩
  obtain⟨B,hB⟩:∃B:AO,B=.row 0 24 (Xf (Bo b)):=⟨_,rfl⟩
  have l0:=Kp (P:=Tryz.prog) (T:=30) (id:=2) (Z:=zC true) (H:=[A,B,zO true,zO true]) JH rfl rfl;have l1:=Kp (P:=Tryz.prog) (T:=30) (id:=3) (Z:=zC true) (H:=[A,B,zO true,zO true]) JH rfl rfl;have l2:=JQ (P:=Tryz.prog) (T:=30) (id:=2) (Z:=zC true) (W:=zC true) (H:=[A,B,zO true,zO true]) E9 rfl rfl rfl (by decide) rfl;have l3:=JQ (P:=Tryz.prog) (T:=30) (id:=3) (Z:=zC true) (W:=zC true) (H:=[A,B,zO false,zO true]) E9 rfl rfl rfl (by decide) rfl;rw[hA,hB]at l0 l1 l2 l3;show ∃s',TAW _ _ _ _ _ _ _ _ _ _ s'∧_;refine⟨_,⟨HO rfl,_,Qr rfl rfl rfl rfl (t_ (zV fun w=>(w,_)) l0),vJ rfl rfl (fun o' va off e=>by cases e;rfl),_,Qr rfl rfl rfl rfl (t_ (zV fun w=>(w,_)) l1),
   xp rfl rfl (fun o' va off e=>by cases e;decide),_,Qr rfl rfl rfl rfl (t_ (zV fun w=>(XW,w)) l2),HO rfl,_,Qr rfl rfl rfl rfl (t_ (zV fun w=>(XW,w)) l3),HO rfl,_,Qr (v:=.bool false) (h':=[.row 0 24 (Xf (Bo a)),.row 0 24 (Xf (Bo b)),zO false,zO false]) rfl rfl rfl rfl rfl,rfl⟩,?TGc⟩
  refine e_ (s':=⟨14,[],[.any,.any,.any,.any,.ref 2 0 0,.ref 3 0 0,.bool false,.any,.any,.any,.any,.any,.any,.any],[],[A,B,zO false,zO false]⟩) ?_ (Xh rfl ⟨.inl rfl,.inl rfl,.inl rfl,.inl rfl,.inr rfl,.inr rfl,.inr rfl,.inl rfl,.inl rfl,.inl rfl,.inl rfl,.inl rfl,.inl rfl,.inl rfl,trivial⟩ trivial (by rw[hA,hB];rfl));refine Xk ?_;simp(disch:=omega)only[↓Xd,wG,seval];exact B0 (r1:=.cell 4 30) (r2:=.cell 5 30) (r3:=.tmp 6) rfl (Xs JH rfl rfl rfl) (Xs JH rfl rfl rfl) rfl (Xw (Xx _) (Eb _)) (Xw (Xx _) (Eb _)) (XU (X5 _) rfl)
def gT (g:GG):Prop:=vb g.p≤1000∧vb g.q≤1000∧vb g.n≤16∧qb g.force≤1∧qb g.E_≤1
theorem gT.s {g:GG}(h:gT g):gS g:=by obtain⟨h1,h2,h3,h4,h5⟩:=h;unfold gS;omega
end
end Go.Ab.N
namespace Go.Ab.N
open Go Go.RowKit Go.Proofs
noncomputable section
set_option maxRecDepth 10000
set_option maxHeartbeats 4000000
def yh (L:List V2)(i k:Nat):Bool:=decide (1<(k+L.length-i)%L.length) && decide ((k+L.length-i)%L.length<L.length-1) &&
 (ZAD 5).all fun j=>!Za (El (atF L i) (atF L (i+1)) (atF L k) (atF L (k+1)) j) (atF L i) (atF L (i+1)) (atF L k) (atF L (k+1))
def Tv (L:List V2):Bool:=decide (3≤L.length) && decide (L.length≤12) && ((ZAD L.length).all fun i=>!decide (Kz (atF L i) (atF L (i+1)) (atF L (i+2))=0) && (ZAD L.length).all fun k=>!yh L i k) && decide (0<(Zu L).num.sign)
theorem Tw (L:List V2)(h:Tv L=true):ZQ L:=by
 unfold Tv at h;simp only[w_,decide_eq_true_eq,ZA1,ZBc,ZDQ,decide_eq_false_iff_not]at h;obtain⟨⟨⟨h1,h2⟩,h3⟩,h4⟩:=h;refine⟨⟨h1,h2⟩,fun i hi=>⟨(h3 i hi).1,fun k hk hg=>?_⟩,h4⟩;have:=(h3 i hi).2 k hk;obtain⟨q1,q2,q3⟩:=hg;unfold yh at this;rw[Y' q1,Y' q2,ZBF,ZBF]at this;rw[ZA1.2]at this
 ·cases this
 ·intro j hj
  rw[q3 j (ZBc.1 hj)];rfl
theorem HA:ZQ sqV:=Tw _ (by decide +kernel)
theorem mO:Wv sqV:=by
 have z:vb v0≤1:=by decide +kernel
 refine⟨by simp[sqV],Z7 (fun x hx=>?_) (by omega),fun i hi=>?_⟩
 ·simp only[sqV,b_,V',or_false]at hx
  rcases hx with rfl |rfl |rfl |rfl
  ·omega
  all_goals exact k_ (Ea _ _ (by omega) (by omega)) (by omega)
 ·have h:=LC (HA.2.1 i hi).1
  unfold atF at h;rw[ZAB hi]at h;exact h
def R9 (a b:Sd):Option (V2×V2) :=
 if Xr b.i a.i=0∧Qb b.i a.i<0∧0<Qb (b.a.sub a.a) a.i then
  if OM (Gf a b) (Gg a b)<OH (Gf a b) (Gg a b)then
   some (Mu a.a (Ra a b) (OM (Gf a b) (Gg a b)) (OH (Gf a b) (Gg a b)),Rb (Mu a.a (Ra a b) (OM (Gf a b) (Gg a b)) (OH (Gf a b) (Gg a b))) a.i b.a)
  else none
 else none
theorem vE (a b:Sd):GQ a b=R9 a b:=by
 unfold GQ R9;by_cases h:Ig b.i a.i∧0<Qb (b.a.sub a.a) a.i
 ·rw[N_ h,N_ (show Xr b.i a.i=0∧Qb b.i a.i<0∧0<Qb (b.a.sub a.a) a.i from⟨h.1.1,h.1.2,h.2⟩)]
 ·rw[M_ h,M_ fun q=>h ⟨⟨q.1,q.2.1⟩,q.2.2⟩]
def eg1:GG:=⟨pI 1 0,pI 1 2,pI 0 2,O_ 8 1,O_ 1 2⟩
def eg2:GG:=⟨pI 2 1,pI 0 1,pI (-2) 0,O_ 8 1,O_ 1 2⟩
def xo (a b:V2):Bool:=decide (a.x=b.x) && decide (a.y=b.y)
theorem Mt {a b:V2}(h:xo a b=true):a=b:=by
 unfold xo at h;simp only[w_,decide_eq_true_eq]at h;cases a;cases b;simp only[V2.mk.injEq]at *;exact h
def GR (o:Option (V2×V2)) (w:Option (V2×V2)):Bool:=match o,w with
 |none,none=>true
 |some x,some y=>xo x.1 y.1 && xo x.2 y.2
 |_,_=>false
theorem jM {o w:Option (V2×V2)} (h:GR o w=true):o=w:=by
 cases o <;> cases w <;> simp only[GR,w_]at h <;> try(first |rfl | (cases h;done))
 exact t_ some (Prod.ext (Mt h.1) (Mt h.2))
theorem wV:GR (R9 (JL sqV 0) (JL sqV 1)) none=true∧GR (R9 (JL sqV 0) (JL sqV 2)) (some (pI 1 0,pI 1 2))=true∧GR (R9 (JL sqV 0) (JL sqV 3)) none=true∧GR (R9 (JL sqV 1) (JL sqV 2)) none=true∧GR (R9 (JL sqV 1) (JL sqV 3)) (some (pI 2 1,pI 0 1))=true∧GR (R9 (JL sqV 2) (JL sqV 3)) none=true∧xo (FN (sqV.getD 0 v0) (Ze sqV 0)) (pI 0 2)=true∧xo (FN (sqV.getD 1 v0) (Ze sqV 1)) (pI (-2) 0)=true:=by
 refine⟨?_,?_,?_,?_,?_,?_,?_,?_⟩ <;> decide +kernel
theorem Rx:AQ (O_ 8 1) (O_ 1 2)=true:=by unfold AQ;decide +kernel
theorem ah:Zr sqV (O_ 8 1) (O_ 1 2)=[eg1,eg2]:=by
 obtain⟨h1,h2,h3,h4,h5,h6,h7,h8⟩:=wV;unfold Zr;rw[N_ ⟨HA,Rx⟩];have g:∀i j o,GR (R9 (JL sqV i) (JL sqV j)) o=true→Mz sqV (O_ 8 1) (O_ 1 2) i j=o.toList.map fun x=>⟨x.1,x.2,FN (sqV.getD i v0) (Ze sqV i),O_ 8 1,O_ 1 2⟩:=fun i j o h=>by
  unfold Mz;rw[vE,jM h]
 have g01:=g _ _ _ h1;have g02:=g _ _ _ h2;have g03:=g _ _ _ h3;have g12:=g _ _ _ h4;have g13:=g _ _ _ h5;have g23:=g _ _ _ h6;rw[Mt h7]at g02;rw[Mt h8]at g13;show Bb sqV _ _ 4=_;simp only[Bb,show sqV.length=4 from rfl,Nat.reduceAdd,Nat.reduceSub,Zg,ZAn,g01,g02,g03,g12,g13,g23];rfl
theorem iK (n:Int)(h:1≤n∧n≤1000):bS (Fc n)∧Zb (Fc n)=true:=by
 refine⟨⟨?_,?_,?_,?_⟩,?_⟩
 ·exact k_ (Ea 1 1 (by omega) (by omega)) (by omega)
 ·exact k_ (Fz 1 1 (by omega) (by omega)) (by omega)
 ·exact k_ (Fz 2 1 (by omega) (by omega)) (by omega)
 ·exact k_ (Fz n 1 (by omega) (by omega)) (by omega)
 ·rw[Fd]
  exact⟨by show 0<O_ 1 1;decide +kernel,by show O_ 1 1≤O_ 2 1;decide +kernel,Vi (by omega) (by omega)⟩
theorem y9:(gS eg1∧Zc eg1=true)∧gS eg2∧Zc eg2=true:=by
 have q:=Fz 8 1 (by omega) (by omega);have r:=Fz 1 2 (by omega) (by omega);have v:∀x y:Int,-5≤x∧x≤5→-5≤y∧y≤5→vb (pI x y)≤40:=fun x y hx hy=>k_ (Ea x y (by omega) (by omega)) (by omega)
 have m:∀x y:Int,-5≤x∧x≤5→-5≤y∧y≤5→vb (pI x y)≤1400:=fun x y hx hy=>k_ (v x y hx hy) (by omega)
 refine⟨⟨⟨m _ _ (by omega) (by omega),m _ _ (by omega) (by omega),v _ _ (by omega) (by omega),k_ q (by omega),k_ r (by omega)⟩,?_⟩,⟨m _ _ (by omega) (by omega),m _ _ (by omega) (by omega),v _ _ (by omega) (by omega),k_ q (by omega),k_ r (by omega)⟩,?_⟩
 ·rw[Dk];decide +kernel
 ·rw[Dk];decide +kernel
theorem qD:QM eg1.n=2∧QM eg2.n=2:=by decide +kernel
theorem sV (n:Int)(k:Rat)(h:(k=4∧n=100)∨(k=3∧n=6)):kM (Fc n) eg1 k:=by
 have e1:((0:Int):Rat)=0:=rfl;have e2:((2:Int):Rat)=2:=rfl;have e3:((1:Int):Rat)=1:=rfl;have d2:O_ 2 1=2:=by decide +kernel
 have d8:O_ 8 1=8:=by decide +kernel
 have dh:O_ 1 2=1/2:=by decide +kernel
 have hs:(k=4∧O_ n 1=100)∨(k=3∧O_ n 1=6):=by
  rcases h with⟨rfl,rfl⟩ | ⟨rfl,rfl⟩
  ·exact .inl ⟨rfl,by decide +kernel⟩
  ·exact .inr ⟨rfl,by decide +kernel⟩
 constructor
 ·refine⟨k,0,0,0,?_⟩
  have l:=qD.1;constructor
  all_goals
   try simp only[l]
   try simp only[eg1,Fc,pI,Xr,V2.sub,e1,e2,e3,d2,d8,dh]
   grind
 ·intro a0 c0 a1 c1 k' hk
  obtain⟨n0,n1,r0,r1,s0,s1,f0,f1,st,k0,k1,ex,ey,et⟩:=hk;rw[qD.1]at f0 f1 st;simp only[eg1,Fc,pI,e1,e2,e3,d2,d8,dh]at *;grind
theorem jt (n:Int)(k:Rat)(h:(k=4∧n=100)∨(k=O_ 3 2∧n=6)):kM (Fc n) eg2 k:=by
 have e1:((0:Int):Rat)=0:=rfl;have e2:((2:Int):Rat)=2:=rfl;have e3:((1:Int):Rat)=1:=rfl;have e4:((-2:Int):Rat) = -2:=rfl;have d2:O_ 2 1=2:=by decide +kernel
 have d8:O_ 8 1=8:=by decide +kernel
 have dh:O_ 1 2=1/2:=by decide +kernel
 have d3:O_ 3 2=3/2:=by decide +kernel
 have hs:(k=4∧O_ n 1=100)∨(k=3/2∧O_ n 1=6):=by
  rcases h with⟨rfl,rfl⟩ | ⟨rfl,rfl⟩
  ·exact .inl ⟨rfl,by decide +kernel⟩
  ·exact .inr ⟨d3,by decide +kernel⟩
 constructor
 ·refine⟨k,-(k/2),k,k/2,?_⟩
  have l:=qD.2;constructor
  all_goals
   try simp only[l]
   try simp only[eg2,Fc,pI,Xr,V2.sub,e1,e2,e3,e4,d2,d8,dh]
   grind
 ·intro a0 c0 a1 c1 k' hk
  obtain⟨n0,n1,r0,r1,s0,s1,f0,f1,st,k0,k1,ex,ey,et⟩:=hk;rw[qD.2]at f0 f1 st;simp only[eg2,Fc,pI,e1,e2,e3,e4,d2,d8,dh]at *;grind
end
end Go.Ab.N
namespace Go.Ab.N
open Go Go.RowKit Go.Proofs
noncomputable section
set_option maxRecDepth 10000
set_option maxHeartbeats 4000000
open Classical
def BP (b:BB)(g:GG):Rat:=if h:∃k,kM b g k then Classical.choose h else 0
theorem Gk {b:BB}{g:GG}{k:Rat}(h:kM b g k):BP b g=k:=by
 unfold BP;have hx:∃k,kM b g k:=⟨k,h⟩
 rw[dif_pos hx];exact kN (Classical.choose_spec hx) h
structure Mg (b:BB)(g:GG)(p q:Rat×Rat):Prop where
 fn:Fn Tryz.prog 22 [bA b,gA g] (.tup [qA (BP b g),VU [p,q],I 0])
 m:kM b g (BP b g)
 ok:okP b g p.1 p.2 q.1 q.2 (BP b g)
 z:qb p.1≤1356773∧qb p.2≤1356773∧qb q.1≤1356773∧qb q.2≤1356773∧qb (BP b g)≤1356773
theorem OQ (b:BB)(g:GG)(hb:bS b)(hg:gS g)(h1:Zb b=true)(h2:Zc g=true):∃p q,Mg b g p q:=by
 obtain⟨x0,x1,x2,x3,m,c,hm,ho,z0,z1,z2,z3,z4⟩:=Vt b g hb hg h1 h2;have e:=Gk hm;exact⟨(x0,x1),(x2,x3),e▸c,e▸hm,e▸ho,z0,z1,z2,z3,e▸z4⟩
theorem SW {b:Int}(hb:ZO b){m:Int}(hm:0<m):ZO (b.tdiv m):=by
 unfold ZO at hb ⊢;rcases Int.le_total 0 b with h |h
 ·rw[q_ h]
  have:=ZEO m h;have:=ZEF h (ZC4 hm);omega
 ·have e:b.tdiv m = -((-b).tdiv m):=by rw[Int.neg_tdiv];omega
  rw[e,q_ (by omega)];have:=ZEO m (show 0≤-b by omega);have:=ZEF (show 0≤-b by omega) (ZC4 hm);omega
theorem nm {c:Nat}{a b:V2}(ha:vb a≤c)(hb:vb b≤c):vb (FN a b)≤2*c+1:=by
 have:=Um a b;omega
theorem eg {L:List V2}(h:AW L){i:Nat}(hi:i<L.length):(JL L i).a≠(JL L i).b:=by
 have:=LC (h.2.1 i hi).1;unfold atF at this;rw[ZAB hi]at this;exact this
theorem MB {c:Nat}(L:List V2)(f r:Rat)(h:Qw L c)(hc:c≤18)(hl:L.length≤13)(hf:qb f≤40)(hr:qb r≤40):Fn Tryz.prog 45 [Qm L,qA f,qA r] (O0 (Zr L f r)):=by
 have c1:=Ij L (fun i=>k_ (h i) (by omega)) (by omega);have c2:=MD f r (by unfold rm;omega) (by unfold rm;omega);have c3:=OG L (fun i=>k_ (h i) (by omega)) (by omega);obtain⟨R,hR⟩:∃R,R=Zr L f r:=⟨_,rfl⟩
 have sR:=AF R;rw[←hR];unfold Zr at hR;rw[BI]at hR;generalize AQ f r=J at *;obtain⟨S,hS⟩:∃S,S=Kf L:=⟨_,rfl⟩
 rw[←hS]at c3;have hSl:S.length=L.length:=by rw[hS];exact E6 L L.length
 have hSa:∀i,i<L.length→S.getD i Lh=JL L i:=fun i hi=>by rw[hS];exact fF L hi
 refine Fq Tryz.call45 Tryz.func45 16 [27,28,29,37,38,39] [] [] (by simp[Xq,Xa]) (Xk ?_);simp(disch:=omega)only[P',X7,qA,qC,↓Xd,wG,seval];refine X0 c1 ⟨by rw[X7];exact X' _,trivial⟩ ?_;simp(disch:=omega)only[↓Xd,wG,seval];have nil:∀ (s:AS),s.get 6=.sl 0 0 (fun _=>.any) true→R=[]→TAC (JK Tryz.prog Tryz.f45 [] [] (O0 R)) s:=fun s hs e=>A9 rfl (by rw[hs];exact Xw sR (by rw[e];exact NC gC 32 gZ _ _))
 refine⟨fun hp=>nil _ rfl (by rw[hR,M_ fun h=>hp h.1]),fun hp=>?_⟩;refine X0 c2 (X1 _) ?_;simp(disch:=omega)only[↓Xd,wG,seval];refine⟨fun hj=>nil _ rfl (by rw[hR,M_ fun h=>by rw[h.2]at hj;exact absurd hj (by simp)]),fun hj=>?_⟩;have hj:J=true:=by simpa using hj
 rw[N_ ⟨hp,hj⟩]at hR;have bV:∀q,J9 q (W8 S)=True:=fun q=>K_ (X4 (ET S))
 have bL:∀q,J9 q (Qm L)=True:=fun q=>K_ (X4 (Xq L))
 have bP:∀q x,J9 q (Jo x)=True:=fun q x=>K_ (X4 (XP fun j _=>Xe (XV x) j))
 have bO:∀q i x,XX q (.con i 4 (Xf (qC x)))=True:=fun q i x=>K_ fun j _=>X4 (Xe (XV x) j)
 have bR:∀q i n l,XX q (.row i n (Xv gC 32 gZ l))=True:=fun q i n l=>K_ fun j _=>X4 (Xe (Ke _) _)
 have fl:=fun i=>Di L f r i
 refine X0 c3 ⟨by rw[X7];exact X' _,trivial⟩ ?_;simp(disch:=omega)only[Jr,hSl,↓Xd,wG,seval];refine e_ ?_ (XB 0 rfl);refine e_ ?_ (XB 1 rfl);refine e_ ?_ (XH 4 rfl rfl (by omega));refine e_ ?_ (XH 5 rfl rfl (by omega));refine e_ ?_ (JM 7 32 (Xv gC 32 gZ []) rfl);have dS:AV.sl L.length (L.length*24) (Xv Bo 24 Lh S) false=W8 S:=by rw[Jr,hSl]
 rw[dS];refine Xi (fun i:Nat=>⟨16,[27,28,29,37,38,39],[.any,.any,.any,.any,Jo f,Jo r,.any,.osl 2 (Bb L f r i).length 32 0 (Bb L f r i).length,W8 S,.any,.any,.any,.any,.any,.any,.any],[(27,W8 S),(28,I L.length),(29,I i)],[.con 0 4 (Xf (qC f)),.con 0 4 (Xf (qC r)),.row (Bb L f r i).length ((Bb L f r i).length*32) (Xv gC 32 gZ (Bb L f r i))]⟩) (fun i=>i≤L.length) (fun i=>L.length-i) 0 (by omega)
  (Xh rfl (by simp[ZAm,Xm,Jo,qC,Bb];exact⟨rfl,rfl⟩) (by simp[ZAm,Xu,XJ,I]) rfl) ?_
 intro i hi next
 have w1:=wj i (by omega);by_cases hi2:i<L.length
 rotate_left
 ·obtain rfl:i=L.length:=by omega
  refine Xk ?_;simp(disch:=omega)only[Jr,hSl,↓Xd,wG,seval];exact A9 rfl (by rw[hR];exact TV _ rfl rfl)
 have nx:=next (i+1)
 rw[Oz]at nx;have f1:(i<L.length)=True:=K_ hi2;have f3:(i+1≤L.length)=True:=K_ hi2;have f4:(i<1000000)=True:=K_ (by omega);obtain⟨M,hM⟩:∃M,M=L.length-(i+1):=⟨_,rfl⟩
 have e1:((L.length:Int)-((i+1:Nat):Int)).toNat=M:=by omega
 have e2:min (M*24) (L.length*24-(i+1)*24)=M*24:=by omega
 have l0:=Kg Bo 24 Lh S i (by omega);have l1:=JE Bo 24 Lh S i;have hx:=hSa i hi2;rw[hx]at l0 l1;obtain⟨x,hX⟩:∃x,x=JL L i:=⟨_,rfl⟩
 rw[←hX]at l0 l1 hx;have bX:∀q x,XX q (.row 0 24 (Xf (Bo x)))=True:=fun q x=>K_ fun j _=>X4 (Xe (ZC x) j)
 have bT:∀q,J9 q (.sl M (M*24) (fun j=>Xv Bo 24 Lh S ((i+1)*24+j)) false)=True:=fun q=>K_ (X4 (QF fun j _=>Xe (ZC _) _))
 refine Xk ?_;simp(disch:=omega)only[Jr,hSl,w1,f1,f3,l0,l1,B7,e1,e2,↓Xd,wG,seval];generalize hF:Bb L f r i=F at *;refine Xi (fun k:Nat=>⟨16,[27,28,29,37,38,39],[.any,.any,.any,.any,Jo f,Jo r,.any,.osl 2 (F ++ Zg L f r i k).length 32 0 (F ++ Zg L f r i k).length,W8 S,.any,.ref 3 0 0,.any,.any,.any,.any,.any],[(27,W8 S),(28,I L.length),(29,I i),(37,.sl M (M*24) (fun j=>Xv Bo 24 Lh S ((i+1)*24+j)) false),(38,I M),(39,I k)],[.con 0 4 (Xf (qC f)),.con 0 4 (Xf (qC r)),.row (F ++ Zg L f r i k).length ((F ++ Zg L f r i k).length*32) (Xv gC 32 gZ (F ++ Zg L f r i k)),.row 0 24 (Xf (Bo x))]⟩) (fun k=>k≤M) (fun k=>M-k) 0 (by omega)
  (Xh rfl (by simp[Xm,Zg,Jr,hSl]) (by simp[Xu,XJ,I,Jr,hSl]) (by simp only[Zg,ZAK];rfl)) ?_
 intro k hk TBE;have w2:=wj k (by omega);by_cases hk2:k<M
 rotate_left
 ·obtain rfl:k=M:=by omega
  refine Xk ?_;simp(disch:=omega)only[Jr,hSl,w1,w2,↓Xd,wG,seval];rw[←hM]at nx;exact nx _ (by omega) (by omega) (XD (m:=3) (p_ _) rfl (by simp[Jr,hSl,Xm,I]) (by simp[Xu,XJ,Jr,hSl,I]) rfl (by simp[XK,bV,bP]) (by simp[XK,bV]) (by simp[bO,bR]))
 have nk:=TBE (k+1);rw[show Zg L f r i (k+1)=Zg L f r i k ++ Mz L f r i (i+1+k)from rfl,←P_]at nk;have hln:(F ++ Zg L f r i k).length≤1000:=by
  have g1:=fl i;have g2:=Ht L f r i k;rw[hF]at g1;have g3:L.length*i≤13*13:=ZAx hl (by omega);rw[f_];omega
 generalize F ++ Zg L f r i k=G at *;clear hF next TBE fl
 have f2:(k<M)=True:=K_ hk2;have y0:Xv Bo 24 Lh S ((i+1)*24+k*24)=(Bo (S.getD (i+1+k) Lh)).getD 0 .any:=by
  rw[show(i+1)*24+k*24=(i+1+k)*24 by omega];exact Kg Bo 24 Lh S _ (by omega)
 have y1:∀j,j<24→Xv Bo 24 Lh S ((i+1)*24+(k*24+j))=(Bo (S.getD (i+1+k) Lh)).getD j .any:=fun j hj=>by
  rw[show(i+1)*24+(k*24+j)=(i+1+k)*24+j by omega];exact JE Bo 24 Lh S _ _ hj
 have hg:Mz L f r i (i+1+k)=((GQ (JL L i) (JL L (i+1+k))).toList).map fun x=>⟨x.1,x.2,FN (L.getD i v0) (Ze L i),f,r⟩:=rfl
 have hn:FN (L.getD i v0) (Ze L i)=x.i:=by rw[hX];rfl
 rw[hn]at hg;have hy:=hSa (i+1+k) (by omega);rw[hy]at y0 y1;have uf:=cP (JL L i) (JL L (i+1+k)) hc (h _) (h _) (nm (h _) (h _)) (h _) (h _) (nm (h _) (h _)) (eg hp hi2);unfold vG at uf;rw[←hX]at hg uf;generalize JL L (i+1+k)=y at *;refine Xk ?_;simp(disch:=omega)only[Jr,hSl,w1,w2,f1,f2,y0,y1,B7,↓Xd,wG,seval];refine X0 uf ⟨by rw[W7,B7];exact X' _,by rw[W7,B7];exact X' _,trivial⟩ ?_;generalize GQ x y=o at *;rcases o with _ | ⟨p,q⟩
 ·replace hg:Mz L f r i (i+1+k)=[]:=hg
  rw[hg,ZAK]at nk;simp(disch:=omega)only[vA,vC,Option.getD_none,Option.isSome_none,↓Xd,wG,seval];exact nk _ (by omega) (by omega) (XD (m:=4) (p_ _) rfl (by simp[Jr,hSl,Xm,I]) (by simp[Xu,XJ,Jr,hSl,I]) rfl (by simp[XK,bV,bP]) (by simp[XK,bV,bT]) (by simp[bO,bR,bX]))
 ·replace hg:Mz L f r i (i+1+k)=[⟨p,q,x.i,f,r⟩]:=hg
  have hap:=Zj gC 32 gZ G ⟨p,q,x.i,f,r⟩ (by omega);rw[hg]at nk;rw[show(G ++ [(⟨p,q,x.i,f,r⟩:GG)]).length=G.length+1 by simp]at nk;simp(disch:=omega)only[vA,vC,Jo,qC,ZBH,Option.isSome_some,↓Xd,wG,seval];exact⟨fun j hj=>kv ⟨p,q,x.i,f,r⟩ j hj,nk _ (by omega) (by omega) (XD (m:=4) (p_ _) rfl (by simp[Jr,hSl,Xm,I,Jo];exact⟨rfl,rfl⟩) (by simp[Xu,XJ,Jr,hSl,I]) (by rw[←hap];rfl) (by simp[XK,bV,bP]) (by simp[XK,bV,bT]) (by simp[bO,bR,bX]))⟩
 done
end
end Go.Ab.N
