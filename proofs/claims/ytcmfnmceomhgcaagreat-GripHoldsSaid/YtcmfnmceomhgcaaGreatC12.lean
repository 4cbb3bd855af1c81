/- Contracts of functions, for every argument that fits. -/
import Derived.Test.YtcmfnmceomhgcaaGreatC11
import Derived.Test.YtcmfnmceomhgcaaGreatC10
set_option linter.unusedSimpArgs false
set_option linter.unusedVariables false
open Go.Ab.AS renaming start→O_,put→ZAt
open Int renaming le_of_lt→ZC9,ediv_le_self→ZEQ
open List renaming range→ZAO
open Option renaming map→ZAF
open Rat renaming divInt→P'
namespace Go.Ab.N
open Go Go.RowKit Go.Proofs
noncomputable section
set_option maxRecDepth 10000
set_option maxHeartbeats 4000000
open Classical
theorem Pj (a b:Rat)(ha:qb a≤rm)(hb:qb b≤rm):Fn Tryz.prog 120 [qA a,qA b] (qA (OP a b)):=by
 have c:=J2 a b ha hb;obtain⟨R,hR⟩:∃R,R=qA (OP a b):=⟨_,rfl⟩
 have sR:A_ R:=hR▸Xb _;rw[←hR];unfold OP at hR;refine q_ (fn:=Tryz.f120) Tryz.call120 Tryz.func120 rfl mixed 5 [] [] [] (by kernel_rfl) (K_ rfl) (Kk (Xb a) (Xb b)) (Xk ?_);simp(disch:=omega)only[O_,qA,qC,↓Xc,wG,seval];refine X0 c (X1 _) ?_;simp(disch:=omega)only[Kt,↓Xc,wG,seval];refine⟨fun h=>?_,fun h=>?_⟩
 ·rw[M_ (ZAf.2 h)]at hR
  exact Jf rfl XT rfl rfl rfl sR (hR.trans rfl)
 ·rw[N_ (ZBD.1 h)]at hR
  exact Jf rfl XT rfl rfl rfl sR (hR.trans rfl)
theorem Ph (a b:Rat)(ha:qb a≤rm)(hb:qb b≤rm):Fn Tryz.prog 119 [qA a,qA b] (qA (O3 a b)):=by
 have c:=J2 a b ha hb;obtain⟨R,hR⟩:∃R,R=qA (O3 a b):=⟨_,rfl⟩
 have sR:A_ R:=hR▸Xb _;rw[←hR];unfold O3 at hR;refine q_ (fn:=Tryz.f119) Tryz.call119 Tryz.func119 rfl mixed 5 [] [] [] (by kernel_rfl) (K_ rfl) (Kk (Xb a) (Xb b)) (Xk ?_);simp(disch:=omega)only[O_,qA,qC,↓Xc,wG,seval];refine X0 c (X1 _) ?_;simp(disch:=omega)only[Hv,↓Xc,wG,seval];refine⟨fun h=>?_,fun h=>?_⟩
 ·by_cases h2:b<a
  ·rw[N_ h2]at hR
   exact Jf rfl XT rfl rfl rfl sR (hR.trans rfl)
  ·have e:a=b:=by grind
   subst e;rw[M_ h2]at hR;exact Jf rfl XT rfl rfl rfl sR (hR.trans rfl)
 ·rw[M_ fun h2=>h (ZBI h2)]at hR
  exact Jf rfl XT rfl rfl rfl sR (hR.trans rfl)
theorem Df {c:Nat}(a d x:V2)(ha:vb a≤c)(hd:vb d≤2*c+1)(hx:vb x≤c):qb (AM a d x)≤16*c+10:=by
 have h1:=J4 x a;have h2:=Zu (x.sub a) d;have h3:=Zu d d;have h4:=C2 (Qn (x.sub a) d) (Qn d d);unfold AM;omega
theorem Pa {c:Nat}(L:List V2)(i:Nat)(p:V2)(h:J3 L c)(hc:c≤18)(hl:L.length<1000000)(hi:i<L.length)(hp:vb p≤c):Fn Tryz.prog 118 [Qx L,I i,vA p] (qA (AM (L.getD i v0) ((Za L i).sub (L.getD i v0)) p)):=by
 have hb1:=h i;have hb2:vb (Za L i)≤c:=h ((i+1)%L.length);have c1:=Cc L i hl hi;have e:L.getD ((i+1)%L.length) v0=Za L i:=rfl;rw[e]at c1;have v1:=vF L i;have f2:(i<L.length)=True:=L' hi;obtain⟨R,hR⟩:∃R,R=qA (AM (L.getD i v0) ((Za L i).sub (L.getD i v0)) p):=⟨_,rfl⟩
 have sR:A_ R:=hR▸Xb _;rw[←hR];unfold AM at hR;generalize L.getD i v0=a at *;generalize Za L i=b at *;have s1:=J4 b a;have s2:=J4 p a;have c2:=QS b a;have c3:=QS p a;generalize b.sub a=d at *;generalize p.sub a=x at *;have c4:=KG x d;have c5:=KG d d;have q1:=Zu x d;have q2:=Zu d d;have c6:=Bl (Qn x d) (Qn d d);rw[←hR]at c6;refine Fq Tryz.call118 Tryz.func118 8 [] [1] [] (by simp[Xs,X8,Xv]) (Xk ?_);simp(disch:=omega)only[O_,X7,vA,vC,↓Xc,wG,seval];refine X0 c1 ⟨by rw[X7];exact U_ _,U_ _,trivial⟩ ?_;simp(disch:=omega)only[vA,vC,v1,f2,↓Xc,wG,seval];refine X0 c2 (X1 _) ?_;simp(disch:=omega)only[vA,vC,v1,f2,↓Xc,wG,seval];refine X0 c3 (X1 _) ?_;simp(disch:=omega)only[vA,vC,v1,f2,↓Xc,wG,seval];refine X0 c4 (X1 _) ?_;simp(disch:=omega)only[qA,qC,↓Xc,wG,seval];refine X0 c5 (X1 _) ?_;simp(disch:=omega)only[qA,qC,↓Xc,wG,seval];refine X0 c6 (X1 _) ?_;simp(disch:=omega)only[hR,qA,qC,↓Xc,wG,seval];exact Jf rfl XT rfl rfl rfl sR (hR.trans rfl)
def gZ:GG:=⟨v0,v0,v0,0,0⟩
def VN (l:List GG):AV:=gE gC 32 gZ l
theorem Q9 (l:List GG):VN l=.sl l.length (l.length*32) (Xw gC 32 gZ l) false:=C_ rfl
theorem Fd (l:List GG):A_ (VN l):=Z4 fun a x hx=>Kh a x hx
theorem kR (g:GG):∀j,j<32→((gC g).getD j .any).one=true:=fun j hj=>by
 rw[Jd]
 match j,hj with
 |0,_ |1,_ |2,_ |3,_ |4,_ |5,_ |6,_ |7,_ |8,_ |9,_ |10,_ |11,_ |12,_ |13,_ |14,_ |15,_ |16,_ |17,_ |18,_ |19,_ |20,_ |21,_ |22,_ |23,_ |24,_ |25,_ |26,_ |27,_ |28,_ |29,_ |30,_ |31,_=>rfl
 |j+32,h=>omega
def Rk (L:List V2)(f r:Rat)(i j:Nat):List GG:=((Lr (Kf L i) (Kf L j)).toList).map fun x=>⟨x.1,x.2,IU (L.getD i v0) (Za L i),f,r⟩
def ZX (L:List V2)(f r:Rat)(i:Nat):Nat→List GG
 |0=>[]
 |k+1=>ZX L f r i k ++ Rk L f r i (i+1+k)
def BX (L:List V2)(f r:Rat):Nat→List GG
 |0=>[]
 |i+1=>BX L f r i ++ ZX L f r i (L.length-(i+1))
def OB (L:List V2)(f r:Rat):List GG:=BX L f r L.length
def Am (L:List V2)(f r:Rat):List GG:=if Ax L∧BM f r=true then OB L f r else []
theorem qR (L:List V2)(f r:Rat)(i j:Nat):(Rk L f r i j).length≤1:=by
 unfold Rk;rw[ZCz];cases Lr (Kf L i) (Kf L j) <;> simp
theorem HF (L:List V2)(f r:Rat)(i:Nat):∀k,(ZX L f r i k).length≤k
 |0=>by simp[ZX]
 |k+1=>by
  have h1:=HF L f r i k;have h2:=qR L f r i (i+1+k);show(ZX L f r i k ++ Rk L f r i (i+1+k)).length≤_;rw[j_];omega
theorem EM (L:List V2)(f r:Rat):∀i,(BX L f r i).length≤L.length*i
 |0=>by simp[BX]
 |i+1=>by
  have h1:=EM L f r i;have h2:=HF L f r i (L.length-(i+1));show(BX L f r i ++ ZX L f r i (L.length-(i+1))).length≤_;rw[j_,Nat.mul_succ];omega
def Yx (c:Nat)(f r:Rat)(g:GG):Prop:=vb g.p≤35*c+24∧vb g.q≤121*c+84∧vb g.n≤2*c+1∧g.n≠v0∧g.force=f∧g.E_=r
theorem Yy {c K:Nat}{a d:V2}{lo hi:Rat}(ha:vb a≤c)(hd:vb d≤2*c+1)(hl:qb lo≤K)(hh:qb hi≤K):vb (O0 a d lo hi)≤3*c+2*K+4:=by
 have h1:=KE lo hi;have h2:=Qa (lo+hi) (P' 1 2);have h3:=Ew 1 2;have h4:=Bx d ((lo+hi)*P' 1 2);have h5:=KW a (d.scale ((lo+hi)*P' 1 2));unfold O0;omega
theorem Yz {c P:Nat}{p n b:V2}(hp:vb p≤P)(hn:vb n≤2*c+1)(hb:vb b≤c):vb (VG p n b)≤16*c+3*P+12:=by
 have h1:=J4 b p;have h2:=Zu (b.sub p) n;have h3:=Zu n n;have h4:=C2 (Qn (b.sub p) n) (Qn n n);have h5:=Bx n (Qn (b.sub p) n/Qn n n);have h6:=KW p (n.scale (Qn (b.sub p) n/Qn n n));unfold VG;omega
theorem lF {K:Nat}{s t:Rat}(hs:qb s≤K)(ht:qb t≤K)(hK:2≤K):qb (UR s t)≤K∧qb (UQ s t)≤K∧qb (OP s t)≤K∧qb (O3 s t)≤K:=by
 have z:=AX;have o:qb 1≤2:=by decide +kernel
 have h1:qb (OP s t)≤K:=by unfold OP;split <;> assumption
 have h2:qb (O3 s t)≤K:=by unfold O3;split <;> assumption
 refine⟨?_,?_,h1,h2⟩
 ·unfold UR;split
  ·omega
  ·exact h1
 ·unfold UQ;split
  ·omega
  ·exact h2
theorem wa {c:Nat}(L:List V2)(h:J3 L c)(f r:Rat)(i j:Nat):∀g∈Rk L f r i j,Yx c f r g:=by
 intro g hg;unfold Rk Lr at hg;obtain⟨x,hx,rfl⟩:=ZBj.1 hg;have h1:=h i;have h2:vb (Za L i)≤c:=h ((i+1)%L.length);have h3:=h j;have h4:vb (Za L j)≤c:=h ((j+1)%L.length);have hn:=Pv (L.getD i v0) (Za L i);have hd:=J4 (Za L i) (L.getD i v0)
 split at hx
 ·rename_i hc
  split at hx
  ·rw[Option.mem_toList]at hx
   cases hx;have s1:=Df (L.getD i v0) ((Za L i).sub (L.getD i v0)) (L.getD j v0) h1 (by omega) h3;have s2:=Df (L.getD i v0) ((Za L i).sub (L.getD i v0)) (Za L j) h1 (by omega) h4;obtain⟨l1,l2,_,_⟩:=lF s1 s2 (by omega);have hd2:vb ((Za L i).sub (L.getD i v0))≤2*c+1:=by omega
   have hn2:vb (IU (L.getD i v0) (Za L i))≤2*c+1:=by omega
   have hp:=Yy (a:=L.getD i v0) (d:=(Za L i).sub (L.getD i v0)) h1 hd2 l1 l2;have hq:=Yz (c:=c) (n:=IU (L.getD i v0) (Za L i)) hp hn2 h3;refine⟨m_ hp (by omega),m_ hq (by omega),hn2,fun e=>?_,rfl,rfl⟩;have e:IU (L.getD i v0) (Za L i)=v0:=e;have:=hc.2;have e2:(Kf L i).i=v0:=e;rw[e2]at this;unfold Qn v0 at this;grind
  ·simp at hx
 ·simp at hx
theorem aC {c:Nat}(L:List V2)(h:J3 L c)(f r:Rat)(i:Nat):∀k,∀g∈ZX L f r i k,Yx c f r g
 |0,g,hg=>by simp[ZX]at hg
 |k+1,g,hg=>by
  rcases n_.1 (show g∈ZX L f r i k ++ Rk L f r i (i+1+k)from hg)with hg |hg
  ·exact aC L h f r i k g hg
  ·exact wa L h f r i _ g hg
theorem YB {c:Nat}(L:List V2)(h:J3 L c)(f r:Rat):∀i,∀g∈BX L f r i,Yx c f r g
 |0,g,hg=>by simp[BX]at hg
 |i+1,g,hg=>by
  rcases n_.1 (show g∈BX L f r i ++ ZX L f r i (L.length-(i+1))from hg)with hg |hg
  ·exact YB L h f r i g hg
  ·exact aC L h f r i _ g hg
theorem YD {c:Nat}(L:List V2)(h:J3 L c)(f r:Rat):∀g∈Am L f r,Yx c f r g:=by
 unfold Am
 split
 ·exact YB L h f r _
 ·intro g hg;simp at hg
theorem UI {α:Type}(e:α→List AV)(s:Nat)(d:α)(f:Nat→AV)(t:Bool):B' (.sl 0 0 f t) (gE e s d []):=QC rfl (by simp) fun j hj=>absurd hj (by simp)
theorem qV (x:Rat):x/P' 2 1=x*P' 1 2:=by
 rw[ZAr,show(P' 2 1)⁻¹=P' 1 2 by decide +kernel]
theorem wM:P' 1 1=1:=by decide +kernel
theorem yQ (m:Rat):O3 m 0=if m<0 then 0 else m:=by
 unfold O3;by_cases h:m<0
 ·rw[N_ h,M_ (by grind)]
 ·rw[M_ h]
  by_cases h2:0<m
  ·rw[N_ h2]
  ·rw[M_ h2];grind
theorem yF (m:Rat):OP m 1=if 1<m then 1 else m:=rfl
theorem OA (L:List V2)(f r:Rat)(i:Nat):BX L f r (i+1)=BX L f r i ++ ZX L f r i (L.length-(i+1)):=rfl
theorem Ub {H:List AO}{id ver n:Nat}(l:List GG)(ho:H[id]?=some (.row ver (l.length*32) (Xw gC 32 gZ l))) (hn:n=l.length):ZA H (.osl id ver 32 0 n) (VN l):=by
 subst hn;rw[Q9];refine Kw (.inl ho) (by omega) (fun h=>by rw[h]) fun j hj=>?_
 rw[z_];exact(Xe (Kh _) _).TBI _
theorem mJ {c:Nat}(L:List V2)(f r:Rat)(h:J3 L c)(hc:c≤18)(hl:L.length≤13)(hf:qb f≤40)(hr:qb r≤40):Fn Tryz.prog 47 [Qx L,qA f,qA r] (VN (Am L f r)):=by
 have c1:=HA L (fun i=>m_ (h i) (by omega)) (by omega);have c2:=TZ f r;obtain⟨R,hR⟩:∃R,R=Am L f r:=⟨_,rfl⟩
 have sR:=Fd R;rw[←hR];unfold Am at hR;generalize BM f r=J at *;refine Fq Tryz.call47 Tryz.func47 18 [] [18,19012,19,20004,20006,20008,20009] [] (by simp[Xs,Xb]) (Xk ?_);simp(disch:=omega)only[O_,X7,qA,qC,↓Xc,wG,seval];refine X0 c1 ⟨by rw[X7];exact U_ _,trivial⟩ ?_;simp(disch:=omega)only[↓Xc,wG,seval];have nil:∀ (s:AS),s.get 6=.sl 0 0 (fun _=>.any) true→R=[]→TAC (JK Tryz.prog Tryz.f47 [18,19012,19,20004,20006,20008,20009] [] (VN R)) s:=fun s hs e=>C4 rfl (by rw[hs];exact Xp sR (by rw[e];exact UI gC 32 gZ _ _))
 refine⟨fun hp=>nil _ rfl (by rw[hR,M_ fun h=>hp h.1]),fun hp=>?_⟩;refine X0 c2 (X1 _) ?_;simp(disch:=omega)only[↓Xc,wG,seval];refine⟨fun hj=>nil _ rfl (by rw[hR,M_ fun h=>by rw[h.2]at hj;exact absurd hj (by simp)]),fun hj=>?_⟩;have hj:J=true:=by simpa using hj
 rw[N_ ⟨hp,hj⟩]at hR;have bV:∀q,Jl q (Qx L)=True:=fun q=>L' (X4 (Xs L))
 have bP:∀q x,Jl q (JN x)=True:=fun q x=>L' (X4 (XR fun j _=>Xe (XU x) j))
 have bO:∀q i x,Q0 q (.con i 4 (Xf (qC x)))=True:=fun q i x=>L' fun j _=>X4 (Xe (XU x) j)
 have bR:∀q i n l,Q0 q (.row i n (Xw gC 32 gZ l))=True:=fun q i n l=>L' fun j _=>X4 (Xe (Kh _) _)
 have fl:=fun i=>EM L f r i
 refine d_ ?_ (Xz 0 rfl);refine d_ ?_ (Xz 1 rfl);refine d_ ?_ (XK 4 rfl rfl);refine d_ ?_ (XK 5 rfl rfl);refine d_ ?_ (JS 7 32 (Xw gC 32 gZ []) rfl);refine Xj (fun i:Nat=>⟨18,[],[Qx L,.any,.any,.any,JN f,JN r,.any,.osl 2 (BX L f r i).length 32 0 (BX L f r i).length,I i,.any,.any,.any,.any,.any,.any,.any,.any,.any],[],[.con 0 4 (Xf (qC f)),.con 0 4 (Xf (qC r)),.row (BX L f r i).length ((BX L f r i).length*32) (Xw gC 32 gZ (BX L f r i))]⟩) (fun i=>i≤L.length) (fun i=>L.length-i) 0 (by omega)
  (Xh rfl ⟨.inr (X7 L).symm,.inl rfl,.inl rfl,.inl rfl,.inr rfl,.inr rfl,.inl rfl,.inr rfl,.inr rfl,.inl rfl,.inl rfl,.inl rfl,.inl rfl,.inl rfl,.inl rfl,.inl rfl,.inl rfl,.inl rfl,trivial⟩ trivial rfl) ?_
 intro i hi next
 have w1:=wj i;by_cases hi2:i<L.length
 rotate_left
 ·obtain rfl:i=L.length:=by omega
  refine Xk ?_;simp(disch:=omega)only[X7,↓Xc,wG,seval];exact C4 rfl (by rw[hR];exact Ub _ rfl rfl)
 have nx:=next (i+1)
 rw[OA]at nx;have f1:(i<L.length)=True:=L' hi2;refine Xk ?_;simp(disch:=omega)only[X7,w1,f1,↓Xc,wG,seval];generalize hF:BX L f r i=F at *;refine Xj (fun k:Nat=>⟨18,[],[Qx L,.any,.any,.any,JN f,JN r,.any,.osl 2 (F ++ ZX L f r i k).length 32 0 (F ++ ZX L f r i k).length,I i,I (i+1+k:Nat),.any,.any,.any,.any,.any,.any,.any,.any],[],[.con 0 4 (Xf (qC f)),.con 0 4 (Xf (qC r)),.row (F ++ ZX L f r i k).length ((F ++ ZX L f r i k).length*32) (Xw gC 32 gZ (F ++ ZX L f r i k))]⟩) (fun k=>k≤L.length-(i+1)) (fun k=>L.length-k) 0 (by omega)
  (Xh rfl ⟨.inr (X7 L).symm,.inl rfl,.inl rfl,.inl rfl,.inr rfl,.inr rfl,.inl rfl,.inr (by simp[ZX]),.inr rfl,.inr rfl,.inl rfl,.inl rfl,.inl rfl,.inl rfl,.inl rfl,.inl rfl,.inl rfl,.inl rfl,trivial⟩ trivial (by simp only[ZX,ZAQ];rfl)) ?_
 intro k hk TBD;have w2:=wj (i+1+k);by_cases hk2:i+1+k<L.length
 rotate_left
 ·obtain rfl:k=L.length-(i+1):=by omega
  refine Xk ?_;simp(disch:=omega)only[X7,w1,w2,↓Xc,wG,seval];exact nx _ (by omega) (by omega) (ZZ (by simp[Xo,I,X7]) rfl)
 have nk:=TBD (k+1);rw[show ZX L f r i (k+1)=ZX L f r i k ++ Rk L f r i (i+1+k)from rfl,←P_]at nk;have hln:(F ++ ZX L f r i k).length≤1000:=by
  have g1:=fl i;have g2:=HF L f r i k;rw[hF]at g1;have g3:L.length*i≤13*13:=ZBQ hl (by omega);rw[j_];omega
 generalize F ++ ZX L f r i k=G at *;clear hF next TBD fl
 have hk3:i+1+k<1000:=by omega
 generalize hj':i+1+k=j at *;have f2:(j<L.length)=True:=L' hk2;have hg:Rk L f r i j=((Lr (Kf L i) (Kf L j)).toList).map fun x=>⟨x.1,x.2,IU (L.getD i v0) (Za L i),f,r⟩:=rfl
 have v1:=vF L i;have v2:=vF L j;have h7:J3 L 1000:=fun i=>m_ (h i) (by omega)
 have d1:=E9 L i h7 (by omega) hi2;have d2:=E9 L j h7 (by omega) hk2;have d3:=Pa L i (L.getD j v0) h hc (by omega) hi2 (h j);have d4:=Pa L i (Za L j) h hc (by omega) hi2 (h _);have d5:=Cc L j (by omega) hk2;have d6:=Cc L i (by omega) hi2;have e1:L.getD ((i+1)%L.length) v0=Za L i:=rfl;have e2:L.getD ((j+1)%L.length) v0=Za L j:=rfl;rw[e2]at d5;rw[e1]at d6;have h1:=h i;have h2:vb (Za L i)≤c:=h ((i+1)%L.length);have h3:=h j;have h4:vb (Za L j)≤c:=h ((j+1)%L.length);have hs1:Kf L i=⟨L.getD i v0,Za L i,IU (L.getD i v0) (Za L i)⟩:=rfl;have hs2:Kf L j=⟨L.getD j v0,Za L j,IU (L.getD j v0) (Za L j)⟩:=rfl;rw[hs1,hs2]at hg;unfold Lr GZ H3 SW at hg;simp only at hg;generalize L.getD i v0=a at *;generalize Za L i=a' at *;generalize L.getD j v0=b at *;generalize Za L j=b' at *;have m1:=Pv a a';have m2:=Pv b b';generalize IU a a'=n at *;generalize IU b b'=m at *;have m3:=J4 a' a;have m4:=J4 b a;have u1:=rG m n (by omega) (by omega);have u2:=QS b a;have u3:=KG (b.sub a) n;have m5:=Zu (b.sub a) n;have u4:=Q8 (Qn (b.sub a) n);have s5:(Qn (b.sub a) n).num.sign≤0↔Qn (b.sub a) n≤0:=by
  have:=RI (Qn (b.sub a) n);rw[←Int.not_lt,this,ZAf]
 have u5:=QS a' a;have k1:=Df a (a'.sub a) b h1 (by omega) h3;have k2:=Df a (a'.sub a) b' h1 (by omega) h4;generalize hD:a'.sub a=D at *;refine Xk ?_;simp(disch:=omega)only[X7,w1,w2,f1,f2,v1,v2,↓Xc,wG,seval];refine X0 d1 ⟨by rw[X7];exact U_ _,U_ _,trivial⟩ ?_;simp(disch:=omega)only[vA,vC,X7,w1,w2,f1,f2,v1,v2,↓Xc,wG,seval];refine X0 d2 ⟨by rw[X7];exact U_ _,U_ _,trivial⟩ ?_;simp(disch:=omega)only[vA,vC,X7,w1,w2,f1,f2,v1,v2,↓Xc,wG,seval];refine X0 u1 (X1 _) ?_;simp(disch:=omega)only[vA,vC,qA,qC,X7,w1,w2,f1,f2,v1,v2,↓Xc,wG,seval];refine⟨fun ho=>?_,fun ho=>?_⟩
 ·rw[M_ fun q=>ho q.1]at hg
  replace hg:Rk L f r i j=[]:=hg;rw[hg,ZAQ]at nk;exact nk _ (by omega) (by omega) (rM (m:=3) (by simp[X7,Xo,I];omega) rfl (by simp[XP,bV,bP]) (by simp[bO,bR]))
 refine X0 u2 (X1 _) ?_;simp(disch:=omega)only[vA,vC,qA,qC,X7,w1,w2,f1,f2,v1,v2,↓Xc,wG,seval];refine X0 u3 (X1 _) ?_;simp(disch:=omega)only[vA,vC,qA,qC,X7,w1,w2,f1,f2,v1,v2,↓Xc,wG,seval];refine X0 u4 (X1 _) ?_;simp(disch:=omega)only[vA,vC,qA,qC,X7,w1,w2,f1,f2,v1,v2,↓Xc,wG,seval];refine⟨fun ho2=>?_,fun ho2=>?_⟩
 ·rw[M_ fun q=>by rw[s5]at ho2;exact absurd q.2 (ZAf.2 ho2)]at hg
  replace hg:Rk L f r i j=[]:=hg;rw[hg,ZAQ]at nk;exact nk _ (by omega) (by omega) (rM (m:=3) (by simp[X7,Xo,I];omega) rfl (by simp[XP,bV,bP]) (by simp[bO,bR]))
 rw[N_ ⟨ho,ZBD.1 fun q=>ho2 (s5.2 q)⟩]at hg;generalize AM a D b=s at *;generalize AM a D b'=t at *;obtain⟨l1,l2,l3,l4⟩:=lF k1 k2 (by omega);have u6:=Pj s t (by unfold rm;omega) (by unfold rm;omega);have u8:=Ph s t (by unfold rm;omega) (by unfold rm;omega);have u7:=Ph (OP s t) 0 (by unfold rm;omega) (by unfold rm;exact m_ AX (by omega));rw[yQ,show(if OP s t<0 then 0 else OP s t)=UR s t from rfl]at u7;have o1:=XL 1 1 ⟨by omega,by omega⟩ ⟨by omega,by omega⟩;rw[wM]at o1;have u9:=Pj (O3 s t) 1 (by unfold rm;omega) (by unfold rm;decide +kernel);rw[yF,show(if 1<O3 s t then 1 else O3 s t)=UQ s t from rfl]at u9;have u10:=J2 (UR s t) (UQ s t);refine X0 d3 ⟨by rw[X7];exact U_ _,U_ _,U_ _,trivial⟩ ?_;simp(disch:=omega)only[vA,vC,qA,qC,X7,w1,w2,f1,f2,v1,v2,↓Xc,wG,seval];refine X0 d5 ⟨by rw[X7];exact U_ _,U_ _,trivial⟩ ?_;simp(disch:=omega)only[vA,vC,qA,qC,X7,w1,w2,f1,f2,v1,v2,↓Xc,wG,seval];refine X0 d4 ⟨by rw[X7];exact U_ _,U_ _,U_ _,trivial⟩ ?_;simp(disch:=omega)only[vA,vC,qA,qC,X7,w1,w2,f1,f2,v1,v2,↓Xc,wG,seval];refine X0 u6 (X1 _) ?_;simp(disch:=omega)only[vA,vC,qA,qC,X7,w1,w2,f1,f2,v1,v2,↓Xc,wG,seval];refine X0 u7 ⟨U_ _,JR (QB _),trivial⟩ ?_;simp(disch:=omega)only[vA,vC,qA,qC,X7,w1,w2,f1,f2,v1,v2,↓Xc,wG,seval];refine X0 u8 (X1 _) ?_;simp(disch:=omega)only[vA,vC,qA,qC,X7,w1,w2,f1,f2,v1,v2,↓Xc,wG,seval];refine X0 o1 (X1 _) ?_;simp(disch:=omega)only[vA,vC,qA,qC,X7,w1,w2,f1,f2,v1,v2,↓Xc,wG,seval];refine X0 u9 (X1 _) ?_;simp(disch:=omega)only[vA,vC,qA,qC,X7,w1,w2,f1,f2,v1,v2,↓Xc,wG,seval];refine X0 u10 (X1 _) ?_;simp(disch:=omega)only[vA,vC,qA,qC,X7,w1,w2,f1,f2,v1,v2,↓Xc,wG,seval];have s6:=Hv (UR s t) (UQ s t);refine⟨fun ho3=>?_,fun ho3=>?_⟩
 ·rw[M_ fun q=>absurd (s6.1 ho3) (ZBD.2 q)]at hg
  replace hg:Rk L f r i j=[]:=hg;rw[hg,ZAQ]at nk;exact nk _ (by omega) (by omega) (rM (m:=3) (by simp[X7,Xo,I];omega) rfl (by simp[XP,bV,bP]) (by simp[bO,bR]))
 have hlt:UR s t<UQ s t:=ZBD.1 fun q=>ho3 (s6.2 q)
 rw[N_ hlt]at hg;generalize UR s t=lo at *;generalize UQ s t=hi at *;have u11:=QT lo hi;have o2:=XL 2 1 ⟨by omega,by omega⟩ ⟨by omega,by omega⟩;have q2:=Ew 2 1;have q3:=KE lo hi;have u12:=Bl (lo+hi) (P' 2 1);rw[qV]at u12;have q4:=Qa (lo+hi) (P' 1 2);have q5:=Ew 1 2;have hp:=Yy (a:=a) (d:=D) h1 (by omega) l1 l2;have hq:=Yz (p:=O0 a D lo hi) (n:=n) (b:=b) hp (by omega) h3;have u13:=Zb D ((lo+hi)*P' 1 2);have q6:=Bx D ((lo+hi)*P' 1 2);have u14:=QR a (D.scale ((lo+hi)*P' 1 2));rw[show a.add (D.scale ((lo+hi)*P' 1 2))=O0 a D lo hi from rfl]at u14;generalize O0 a D lo hi=p at *;have q7:=J4 b p;have u15:=QS b p;have u16:=KG (b.sub p) n;have u17:=KG n n;have q8:=Zu (b.sub p) n;have q9:=Zu n n;have u18:=Bl (Qn (b.sub p) n) (Qn n n);have q10:=C2 (Qn (b.sub p) n) (Qn n n);have u19:=Zb n (Qn (b.sub p) n/Qn n n);have q11:=Bx n (Qn (b.sub p) n/Qn n n);have u20:=QR p (n.scale (Qn (b.sub p) n/Qn n n));rw[show p.add (n.scale (Qn (b.sub p) n/Qn n n))=VG p n b from rfl]at u20;generalize VG p n b=q at *;generalize Qn (b.sub p) n/Qn n n=far at *;generalize (lo+hi)*P' 1 2=mid at *;refine X0 u11 (X1 _) ?_;simp(disch:=omega)only[vA,vC,qA,qC,X7,w1,w2,f1,f2,v1,v2,↓Xc,wG,seval];refine X0 o2 (X1 _) ?_;simp(disch:=omega)only[vA,vC,qA,qC,X7,w1,w2,f1,f2,v1,v2,↓Xc,wG,seval];refine X0 u12 (X1 _) ?_;simp(disch:=omega)only[vA,vC,qA,qC,X7,w1,w2,f1,f2,v1,v2,↓Xc,wG,seval];refine X0 d6 ⟨by rw[X7];exact U_ _,U_ _,trivial⟩ ?_;simp(disch:=omega)only[vA,vC,qA,qC,X7,w1,w2,f1,f2,v1,v2,↓Xc,wG,seval];refine X0 u5 (X1 _) ?_;simp(disch:=omega)only[vA,vC,qA,qC,X7,w1,w2,f1,f2,v1,v2,↓Xc,wG,seval];refine X0 u13 (X1 _) ?_;simp(disch:=omega)only[vA,vC,qA,qC,X7,w1,w2,f1,f2,v1,v2,↓Xc,wG,seval];refine X0 u14 (X1 _) ?_;simp(disch:=omega)only[vA,vC,qA,qC,X7,w1,w2,f1,f2,v1,v2,↓Xc,wG,seval];refine X0 u15 (X1 _) ?_;simp(disch:=omega)only[vA,vC,qA,qC,X7,w1,w2,f1,f2,v1,v2,↓Xc,wG,seval];refine X0 u16 (X1 _) ?_;simp(disch:=omega)only[vA,vC,qA,qC,X7,w1,w2,f1,f2,v1,v2,↓Xc,wG,seval];refine X0 u17 (X1 _) ?_;simp(disch:=omega)only[vA,vC,qA,qC,X7,w1,w2,f1,f2,v1,v2,↓Xc,wG,seval];refine X0 u18 (X1 _) ?_;simp(disch:=omega)only[vA,vC,qA,qC,X7,w1,w2,f1,f2,v1,v2,↓Xc,wG,seval];refine X0 u19 (X1 _) ?_;simp(disch:=omega)only[vA,vC,qA,qC,X7,w1,w2,f1,f2,v1,v2,↓Xc,wG,seval];refine X0 u20 (X1 _) ?_;simp(disch:=omega)only[vA,vC,qA,qC,X7,w1,w2,f1,f2,v1,v2,JN,↓Xc,wG,seval];replace hg:Rk L f r i j=[⟨p,q,n,f,r⟩]:=hg;have hap:=Zp gC 32 gZ G ⟨p,q,n,f,r⟩;rw[hg]at nk;rw[show(G ++ [(⟨p,q,n,f,r⟩:GG)]).length=G.length+1 by simp]at nk;exact⟨fun j hj=>kR ⟨p,q,n,f,r⟩ j hj,nk _ (by omega) (by omega) (rM (m:=3) (by simp[X7,Xo,I,JN];exact⟨rfl,rfl,by omega⟩) (by rw[←hap];rfl) (by simp[XP,bV,bP]) (by simp[bO,bR]))⟩
def IQ (L:List V2)(g:GG):Int :=
 if C1 L∧Ka g=true then(if(KJ L).any (DY g)=true∧(KJ L).any (Ci g)=true then 0 else 17)else 1
theorem x9 (L:List V2)(h:J3 L 1000)(i:Nat):xa (Kf L i) 10000:=by
 have h1:=h i;have h2:vb (Za L i)≤1000:=h ((i+1)%L.length);have h3:=Pv (L.getD i v0) (Za L i);refine⟨?_,?_,?_⟩
 ·show vb (L.getD i v0)≤_;omega
 ·show vb (Za L i)≤_;omega
 ·show vb (IU (L.getD i v0) (Za L i))≤_;omega
theorem kY (L:List V2)(g:GG)(h:J3 L 1000)(hl:L.length<1000000)(hg:yC g)(hv:vb g.p≤10000∧vb g.q≤10000∧vb g.n≤10000):Fn Tryz.prog 15 [Qx L,gA g] (I (IQ L g)):=by
 obtain⟨g1,g2,g3⟩:=id hv;have c1:=Iu L h hl;have c2:=H6 g hg;have c3:=OH L h hl;have hm:∀x∈KJ L,xa x 10000:=fun x hx=>by
  unfold KJ Br at hx;obtain⟨i,_,rfl⟩:=ZBj.1 hx;exact x9 L h i
 have hlen:(KJ L).length<1000000:=by unfold KJ;rw[Ej];exact hl
 have c4:=GQ (KJ L) 65 [gP g] (DY g) hlen (fun a ha=>Y_.1 ha▸Eh g) fun x hx=>ko g x (hm x hx) ⟨by omega,by omega⟩
 have c5:=GQ (KJ L) 68 [gP g] (Ci g) hlen (fun a ha=>Y_.1 ha▸Eh g) fun x hx=>fW g x (hm x hx) ⟨by omega,by omega⟩
 have hd:IQ L g=if C1 L∧Ka g=true then(if(KJ L).any (DY g)=true∧(KJ L).any (Ci g)=true then 0 else 17)else 1:=rfl;generalize IQ L g=R at *;generalize (KJ L).any (DY g)=b1 at *;generalize (KJ L).any (Ci g)=b2 at *;have gf:=gF g;refine q_ (fn:=Tryz.f15) Tryz.call15 Tryz.func15 rfl mixed 8 [] [] [] (by kernel_rfl) (K_ rfl) (Kk (Xs L) (QA g)) (XI 8 ?_);simp(disch:=omega)only[O_,gA,Jd,X7,↓Xc,wG,seval];refine d_ ?_ (Xz 0 rfl);refine d_ ?_ (XK 3 rfl rfl);refine Xk ?_;simp(disch:=omega)only[ZAt,List.set,↓Xc,wG,seval];refine X0 c1 ⟨by rw[X7];exact U_ _,trivial⟩ ?_;simp(disch:=omega)only[↓Xc,wG,seval];refine⟨fun h1=>?_,fun h1=>?_⟩
 ·exact Xn (v:=I 1) rfl rfl (X8 _) (by rw[hd,M_ fun h=>h1 h.1])
 refine X0 c2 (X1 _) ?_;simp(disch:=omega)only[↓Xc,wG,seval];refine⟨fun h2=>?_,fun h2=>?_⟩
 ·exact Xn (v:=I 1) rfl rfl (X8 _) (by rw[hd,M_ fun h=>by rw[h.2]at h2;exact absurd h2 (by simp)])
 have h2:Ka g=true:=by simpa using h2
 rw[N_ ⟨h1,h2⟩]at hd;refine X0 c3 ⟨by rw[X7];exact U_ _,trivial⟩ ?_;simp(disch:=omega)only[↓Xc,wG,seval];cases b1
 ·refine X0 c4 (X1 _) ?_
  simp(disch:=omega)only[↓Xc,wG,seval];exact Xn (v:=I 17) rfl rfl (X8 _) (by rw[hd];rfl)
 ·refine X0 c4 (X1 _) ?_
  simp(disch:=omega)only[↓Xc,wG,seval];cases b2
  ·refine X0 c5 (X1 _) ?_
   simp(disch:=omega)only[↓Xc,wG,seval];exact Xn (v:=I 17) rfl rfl (X8 _) (by rw[hd];rfl)
  ·refine X0 c5 (X1 _) ?_
   simp(disch:=omega)only[↓Xc,wG,seval];exact Xn (v:=I 0) rfl rfl (X8 _) (by rw[hd];rfl)
theorem YJ (L:List V2)(g:GG)(h:J3 L 1000)(hl:L.length<1000000)(hg:gS g):Fn Tryz.prog 15 [Qx L,gA g] (I (IQ L g)):=by
 obtain⟨g1,g2,g3,g4,g5⟩:=id hg;exact kY L g h hl hg.ok ⟨by omega,by omega,by omega⟩
theorem Zo {P:Program}{T id n:Nat}{Z:List AV}{H:List AO}(hk:Cy P T=some (some n)) (ho:H[id]?=some (.row 0 n (Xf Z))) (hn:Z.length=n):Qy P false T (.ref id 0 0) H=some (.agg Z):=by
 subst hn;rw[BA,hk,Kz,ho,KA,fF,I9 Z _ _ (by omega)];simp[Qf]
theorem nD {Z W:List AV}(h:W.length=Z.length):DE (Xf Z) 0 W=Xf W:=funext fun j=>by
 rw[BW];by_cases hj:j<W.length
 ·rw[N_ ⟨p_ _,by omega⟩,Nat.sub_zero];rfl
 ·rw[M_ (by omega)]
  unfold Xf;rw[K',K',k_ (by omega),k_ (by omega)]
theorem KB {P:Program}{T id n:Nat}{Z W:List AV}{H:List AO}(ht:Zn P T=some n)(ho:H[id]?=some (.row 0 n (Xf Z))) (hz:Z.length=n) (hw:W.length=n) (h0:n≠0) (h1:W.all AV.one=true):ZC P false T (.ref id 0 0) (.agg W) H=some (H.set id (.row 0 n (Xf (W.map AV.loose)))):=by
 subst hz;have e:ZP false (.agg W)=W.map AV.loose:=rfl;have hc:(AV.agg W).cells=W:=rfl;unfold ZC;simp only[ho];unfold Qf;rw[N_ ⟨trivial,by rw[ht,hc,hw],by rw[hc];exact fun g=>by rw[g]at hw;exact h0 hw.symm,by rw[hc,hw];omega,by rw[hc];exact h1⟩,e,nD (by rw[ZCz,hw])]
def zC (t:Bool):List AV:=[.bool false,.sl 0 0 (fun _=>.any) t,.bool false,.sl 0 0 (fun _=>.any) t,.bool false,.sl 0 0 (fun _=>.any) t,.bool false,.sl 0 0 (fun _=>.any) t]
def zO (t:Bool):AO:=.row 0 8 (Xf (zC t))
def vY (o:Option (V2×V2)):AV:=.tup [vA (o.getD (v0,v0)).1,vA (o.getD (v0,v0)).2,.bool o.isSome]
def tF (a b:Sd)(D:V2)(mn mx lo hi:Rat):AS:=⟨14,[],[.any,.any,rO a,rO b,.ref 2 0 0,.ref 3 0 0,.bool false,vP D,.any,.any,.ref 6 0 0,.ref 7 0 0,.any,.any],[],[.con 0 24 (Xf (Bp a)),.con 0 24 (Xf (Bp b)),zO true,zO true,.con 0 8 (Xf (vC D)),.con 0 8 (Xf (qC mn ++ qC mx)),.row 0 4 (Xf (qC lo)),.row 0 4 (Xf (qC hi))]⟩
theorem rg:P' 1 1=1:=by decide +kernel
def tG (a b:Sd)(D:V2)(mn mx lo hi:Rat):AS:=⟨14,[],[.any,.any,rO a,rO b,.ref 2 0 0,.ref 3 0 0,.bool false,vP D,.any,.any,.ref 6 0 0,.ref 7 0 0,.any,.any],[],[.con 0 24 (Xf (Bp a)),.con 0 24 (Xf (Bp b)),zO true,zO true,.con 0 8 (Xf (vC D)),.con 0 8 (Xf (qC mn ++ qC mx)),.row 0 4 (Xf (qC lo)),.row 0 4 (Xf (qC hi)),.row 0 4 (Xf (qC 1))]⟩
theorem Tj {α:Type}{X:Env}{K:List Item}{Q:Prop}(P:α→Prop)(st:α→AS)(h1:(∀a,P a→Run X K (st a))→Q) (h2:∀a,P a→Run X K (st a)):Q:=h1 h2
theorem Ut {m:Nat}{s:AS}(id:Nat){ver n:Nat}{l:List AV}(l':List AV)(ho:s.h[id]?=some (.row ver n (Xf l))) (hn:n=l.length) (h:TAF l l'):Sub m s { s with h:=s.h.set id (.row ver n (Xf l')) } :=
 Qe id (Xf l') ho fun j hj c v _ _ hv=>(TAF.spec h).2 j (by omega) v hv
theorem dI {c:Nat}(a b:Sd)(hc:c≤18)(a1:vb a.a≤c)(a2:vb a.b≤c)(a3:vb a.i≤2*c+1)(b1:vb b.a≤c)(b2:vb b.b≤c)(b3:vb b.i≤2*c+1)(h0:a.a≠a.b):Fn Tryz.prog 116 [Ws a,Ws b] (vY (Lr a b)):=by
 have m1:=J4 b.a a.a;have hDv:=J4 a.b a.a;have hd0:Qn (a.b.sub a.a) (a.b.sub a.a)≠0:=fun e=>h0 (by
  unfold Qn V2.sub at e;obtain⟨e1,e2⟩:=sq0 e;cases ha:a.a;cases hb:a.b;rw[ha,hb]at e1 e2;simp only[V2.mk.injEq]at *;exact⟨by grind,by grind⟩)
 have u1:=YI b.i a.i;have u2:=BE b.a a.a;have u3:=E4 (b.a.sub a.a) a.i;have u4:=Qv (Qn (b.a.sub a.a) a.i);obtain⟨R,hR⟩:∃R,R=vY (Lr a b):=⟨_,rfl⟩
 rw[←hR];have u5:=BE a.b a.a;have u6:=MD a (a.b.sub a.a) b.a (by omega) (by omega) (by omega) hd0;have u7:=MD a (a.b.sub a.a) b.b (by omega) (by omega) (by omega) hd0;unfold Lr at hR;unfold GZ H3 SW at hR;have k1:=Df a.a (a.b.sub a.a) b.a a1 (by omega) b1;have k2:=Df a.a (a.b.sub a.a) b.b a1 (by omega) b2;generalize AM a.a (a.b.sub a.a) b.a=s at *;generalize AM a.a (a.b.sub a.a) b.b=t at *;obtain⟨l1,l2,l3,l4⟩:=lF k1 k2 (by omega);generalize hD:a.b.sub a.a=D at *;have s5:(Qn (b.a.sub a.a) a.i).num.sign≤0↔Qn (b.a.sub a.a) a.i≤0:=by
  have:=RI (Qn (b.a.sub a.a) a.i);rw[←Int.not_lt,this,ZAf]
 by_cases ho:O5 b.i a.i
 ·have tA:=Kk (Kx a) (Kx b)
  refine q_ (fn:=Tryz.f116) Tryz.call116 Tryz.func116 rfl mixed 14 [] [3000000000001,3000000000002,5,7,80000009,15000000000001,15000000000002,16,17002] [6] (by kernel_rfl) (K_ rfl) (Kk (Kx a) (Kx b)) (XI 54 ?_);simp(disch:=omega)only[O_,Ws,B7,↓Xc,wG,seval];refine X0 u1 (X1 _) ?_;simp(disch:=omega)only[↓Xc,wG,seval];simp only[ho,decide_true];simp(disch:=omega)only[↓Xc,wG,seval];refine X0 u2 (X1 _) ?_;simp(disch:=omega)only[vA,vC,↓Xc,wG,seval];refine X0 u3 (X1 _) ?_;simp(disch:=omega)only[qA,qC,↓Xc,wG,seval];refine X0 u4 (X1 _) ?_;simp(disch:=omega)only[↓Xc,wG,seval];refine⟨fun ho2=>?_,fun ho2=>?_⟩
  ·rw[M_ fun q=>absurd q.2 (ZAf.2 (s5.1 ho2))]at hR
   rw[hR];refine XI 1 ?_;simp(disch:=omega)only[↓Xc,wG,seval];show Run _ (_ :: _) _;refine Bo (fun x=>x=3) ?_;obtain⟨A,hA⟩:∃A:AO,A=.row 0 24 (Xf (Bp a)):=⟨_,rfl⟩
   obtain⟨B,hB⟩:∃B:AO,B=.row 0 24 (Xf (Bp b)):=⟨_,rfl⟩
   have l0:=Zo (P:=Tryz.prog) (T:=30) (id:=2) (Z:=zC true) (H:=[A,B,zO true,zO true]) Jn rfl rfl;have l1:=Zo (P:=Tryz.prog) (T:=30) (id:=3) (Z:=zC true) (H:=[A,B,zO true,zO true]) Jn rfl rfl;have l2:=KB (P:=Tryz.prog) (T:=30) (id:=2) (Z:=zC true) (W:=zC true) (H:=[A,B,zO true,zO true]) Em rfl rfl rfl (by decide) rfl;have l3:=KB (P:=Tryz.prog) (T:=30) (id:=3) (Z:=zC true) (W:=zC true) (H:=[A,B,zO false,zO true]) Em rfl rfl rfl (by decide) rfl;rw[hA,hB]at l0 l1 l2 l3;show ∃s',TAa _ _ _ _ _ _ _ _ _ _ s'∧_;refine⟨_,⟨Lt rfl,_,QH rfl rfl rfl rfl (y_ (ZAF fun w=>(w,_)) l0),xL rfl rfl (fun o' va off e=>by cases e;rfl),_,QH rfl rfl rfl rfl (y_ (ZAF fun w=>(w,_)) l1),
    yE rfl rfl (fun o' va off e=>by cases e;decide),_,QH rfl rfl rfl rfl (y_ (ZAF fun w=>(XZ,w)) l2),Lt rfl,_,QH rfl rfl rfl rfl (y_ (ZAF fun w=>(XZ,w)) l3),Lt rfl,_,QH (v:=.bool false) (h':=[.row 0 24 (Xf (Bp a)),.row 0 24 (Xf (Bp b)),zO false,zO false]) rfl rfl rfl rfl rfl,rfl⟩,?fin⟩
   refine d_ (s':=⟨14,[],[.any,.any,.any,.any,.ref 2 0 0,.ref 3 0 0,.bool false,.any,.any,.any,.any,.any,.any,.any],[],[A,B,zO false,zO false]⟩) ?_ (Xh rfl ⟨.inl rfl,.inl rfl,.inl rfl,.inl rfl,.inr rfl,.inr rfl,.inr rfl,.inl rfl,.inl rfl,.inl rfl,.inl rfl,.inl rfl,.inl rfl,.inl rfl,trivial⟩ trivial (by rw[hA,hB];rfl));refine Xk ?_;simp(disch:=omega)only[↓Xc,wG,seval];exact B0 (r1:=.cell 4 30) (r2:=.cell 5 30) (r3:=.tmp 6) rfl (Xt Jn rfl rfl rfl) (Xt Jn rfl rfl rfl) rfl (Xp (Xv _) (D5 _)) (Xp (Xv _) (D5 _)) (XY (X5 _) rfl)
  ·have hi0:a.i≠v0:=fun e=>by
    have:=ho.2;rw[e]at this;unfold Qn v0 at this;grind
   refine XI 18 ?_;simp(disch:=omega)only[↓Xc,wG,seval];refine X0 u5 (X1 _) ?_;simp(disch:=omega)only[vA,vC,↓Xc,wG,seval];refine d_ ?_ (Xz 0 rfl);refine d_ ?_ (Xz 1 rfl);refine d_ ?_ (Xz 4 rfl);refine d_ ?_ (XK 2 rfl rfl);refine d_ ?_ (XK 3 rfl rfl);refine d_ ?_ (XK 7 rfl rfl);refine XI 71 ?_;simp(disch:=omega)only[ZAt,List.set,↓Xc,wG,seval];refine X0 u6 (X1 _) ?_;simp(disch:=omega)only[vA,vC,qA,qC,↓Xc,wG,seval];refine X0 u7 (X1 _) ?_;simp(disch:=omega)only[vA,vC,qA,qC,↓Xc,wG,seval];have hu:∀o∈[AO.con 0 24 (Xf (Bp a)),.con 0 24 (Xf (Bp b)),zO true,zO true,.con 0 8 (Xf (vC D))],o≠.D_:=by simp[zO]
   have cs:=ng (.con 0 24 (Xf (Bp a))) (.con 0 24 (Xf (Bp b))) (zO true) (zO true) (.con 0 8 (Xf (vC D))) hu 0 s t (by unfold rm;omega) (by unfold rm;omega);refine XC rfl cs (QY (id:=5) (o:=Pp 0 s t) rfl (by simp[Pp]) (by simp[Pp])) (xu hu (by simp[Pp])) (X1 _) ?_;have us:=Qv (OP s t);have uc:=Ju (O3 s t) 1 (by unfold rm;omega) (by decide +kernel);have uo:=D9 1 1 ⟨by omega,by omega⟩ ⟨by omega,by omega⟩;rw[rg]at uo;have uf:=Ju (UR s t) (UQ s t);have hlo:UR s t=if OP s t<0 then 0 else OP s t:=rfl
   have hhi:UQ s t=if 1<O3 s t then 1 else O3 s t:=rfl
   generalize UR s t=lo at *;generalize UQ s t=hi at *;generalize OP s t=mn at *;generalize O3 s t=mx at *;simp(disch:=omega)only[Pp,qC,zO,zC,B7,vC,↓Xc,wG,seval];refine X0 us (X1 _) ?_;simp(disch:=omega)only[BG,↓Xc,wG,seval];apply Tj (X:=JK Tryz.prog Tryz.f116 [3000000000001,3000000000002,5,7,80000009,15000000000001,15000000000002,16,17002] [6] R) (fun _:Unit=>True) (fun _=>tF a b D mn mx lo mx)
   case h1 =>
    intro key;refine⟨fun hm=>?_,fun hm=>?_⟩
    ·rw[N_ hm]at hlo
     refine XI 6 ?_;simp(disch:=omega)only[↓Xc,wG,seval];rw[hlo]at key;refine(key () trivial).sub (ZAZ (Ut 6 (qC 0) rfl rfl (QB false)) (Xh rfl ⟨.inl rfl,.inl rfl,.inr rfl,.inr rfl,.inr rfl,.inr rfl,.inr rfl,.inr rfl,.inl rfl,.inl rfl,.inr rfl,.inr rfl,.inl rfl,.inl rfl,trivial⟩ trivial rfl))
    ·rw[M_ hm]at hlo
     rw[hlo]at key;refine XI 1 ?_;simp(disch:=omega)only[↓Xc,wG,seval];exact(key () trivial).sub (Xh rfl ⟨.inl rfl,.inl rfl,.inr rfl,.inr rfl,.inr rfl,.inr rfl,.inr rfl,.inr rfl,.inl rfl,.inl rfl,.inr rfl,.inr rfl,.inl rfl,.inl rfl,trivial⟩ trivial rfl)
   case h2 =>
    intro _ _;refine XI 22 ?_;simp(disch:=omega)only[tF,rO,vP,↓Xc,wG,seval];refine X0 uo (X1 _) ?_;simp(disch:=omega)only[qA,qC,↓Xc,wG,seval];refine X0 uc (X1 _) ?_;simp(disch:=omega)only[Zy,↓Xc,wG,seval];apply Tj (X:=JK Tryz.prog Tryz.f116 [3000000000001,3000000000002,5,7,80000009,15000000000001,15000000000002,16,17002] [6] R) (fun _:Unit=>True) (fun _=>tG a b D mn mx lo hi)
    case h1 =>
     intro key;refine⟨fun hm=>?_,fun hm=>?_⟩
     ·rw[N_ hm]at hhi
      rw[hhi]at key;refine XI 6 ?_;simp(disch:=omega)only[↓Xc,wG,seval];exact(key () trivial).sub (Xh rfl ⟨.inl rfl,.inl rfl,.inr rfl,.inr rfl,.inr rfl,.inr rfl,.inr rfl,.inr rfl,.inl rfl,.inl rfl,.inr rfl,.inr rfl,.inl rfl,.inl rfl,trivial⟩ trivial rfl)
     ·rw[M_ hm]at hhi
      rw[hhi]at key;refine XI 1 ?_;simp(disch:=omega)only[↓Xc,wG,seval];exact(key () trivial).sub (Xh rfl ⟨.inl rfl,.inl rfl,.inr rfl,.inr rfl,.inr rfl,.inr rfl,.inr rfl,.inr rfl,.inl rfl,.inl rfl,.inr rfl,.inr rfl,.inl rfl,.inl rfl,trivial⟩ trivial rfl)
    case h2 =>
     intro _ _;refine XI 13 ?_;simp(disch:=omega)only[tG,rO,vP,↓Xc,wG,seval];refine X0 uf (X1 _) ?_;simp(disch:=omega)only[Hv,↓Xc,wG,seval];refine⟨fun hc=>?_,fun hc=>?_⟩
     ·rw[M_ (ZAf.2 hc),ite_self]at hR
      rw[hR];refine XI 1 ?_;simp(disch:=omega)only[↓Xc,wG,seval];show Run _ (_ :: _) _;refine Bo (fun x=>x=3) ?_;obtain⟨A,hA⟩:∃A:AO,A=.con 0 24 (Xf (Bp a)):=⟨_,rfl⟩
      obtain⟨B,hB⟩:∃B:AO,B=.con 0 24 (Xf (Bp b)):=⟨_,rfl⟩
      obtain⟨C,hC⟩:∃C:AO,C=.con 0 8 (Xf (vC D)):=⟨_,rfl⟩
      obtain⟨E,hE⟩:∃E:AO,E=.con 0 8 (Xf (qC mn ++ qC mx)):=⟨_,rfl⟩
      obtain⟨F,hF⟩:∃F:AO,F=.row 0 4 (Xf (qC lo)):=⟨_,rfl⟩
      obtain⟨G,hG⟩:∃G:AO,G=.row 0 4 (Xf (qC hi)):=⟨_,rfl⟩
      obtain⟨J,hJ⟩:∃J:AO,J=.row 0 4 (Xf (qC 1)):=⟨_,rfl⟩
      have l0:=Zo (P:=Tryz.prog) (T:=30) (id:=2) (Z:=zC true) (H:=[A,B,zO true,zO true,C,E,F,G,J]) Jn rfl rfl;have l1:=Zo (P:=Tryz.prog) (T:=30) (id:=3) (Z:=zC true) (H:=[A,B,zO true,zO true,C,E,F,G,J]) Jn rfl rfl;have l2:=KB (P:=Tryz.prog) (T:=30) (id:=2) (Z:=zC true) (W:=zC true) (H:=[A,B,zO true,zO true,C,E,F,G,J]) Em rfl rfl rfl (by decide) rfl;have l3:=KB (P:=Tryz.prog) (T:=30) (id:=3) (Z:=zC true) (W:=zC true) (H:=[A,B,zO false,zO true,C,E,F,G,J]) Em rfl rfl rfl (by decide) rfl;rw[hA,hB,hC,hE,hF,hG,hJ]at l0 l1 l2 l3;show ∃s',TAa _ _ _ _ _ _ _ _ _ _ s'∧_;refine⟨_,⟨Lt rfl,_,QH rfl rfl rfl rfl (y_ (ZAF fun w=>(w,_)) l0),xL rfl rfl (fun o' va off e=>by cases e;rfl),_,QH rfl rfl rfl rfl (y_ (ZAF fun w=>(w,_)) l1),
       yE rfl rfl (fun o' va off e=>by cases e;decide),_,QH rfl rfl rfl rfl (y_ (ZAF fun w=>(XZ,w)) l2),Lt rfl,_,QH rfl rfl rfl rfl (y_ (ZAF fun w=>(XZ,w)) l3),Lt rfl,_,QH (v:=.bool false) (h':=[.con 0 24 (Xf (Bp a)),.con 0 24 (Xf (Bp b)),zO false,zO false,.con 0 8 (Xf (vC D)),.con 0 8 (Xf (qC mn ++ qC mx)),.row 0 4 (Xf (qC lo)),.row 0 4 (Xf (qC hi)),.row 0 4 (Xf (qC 1))]) rfl rfl rfl rfl rfl,rfl⟩,?TFc⟩
      refine d_ (s':=⟨14,[],[.any,.any,.any,.any,.ref 2 0 0,.ref 3 0 0,.bool false,.any,.any,.any,.any,.any,.any,.any],[],[A,B,zO false,zO false,C,E,F,G,J]⟩) ?_ (Xh rfl ⟨.inl rfl,.inl rfl,.inl rfl,.inl rfl,.inr rfl,.inr rfl,.inr rfl,.inl rfl,.inl rfl,.inl rfl,.inl rfl,.inl rfl,.inl rfl,.inl rfl,trivial⟩ trivial (by rw[hA,hB,hC,hE,hF,hG,hJ];rfl));refine Xk ?_;simp(disch:=omega)only[↓Xc,wG,seval];exact B0 (r1:=.cell 4 30) (r2:=.cell 5 30) (r3:=.tmp 6) rfl (Xt Jn rfl rfl rfl) (Xt Jn rfl rfl rfl) rfl (Xp (Xv _) (D5 _)) (Xp (Xv _) (D5 _)) (XY (X5 _) rfl)
     ·rw[N_ ⟨ho,ZBD.1 fun q=>ho2 (s5.2 q)⟩,N_ (ZBD.1 hc)]at hR
      unfold VG O0 at hR;have hf:qb (P' 1 2)≤3:=by decide +kernel
      have e1:=KE lo hi;have w1:=Cf lo hi;have w2:=D9 1 2 ⟨by omega,by omega⟩ ⟨by omega,by omega⟩;have e2:=Qa (lo+hi) (P' 1 2);have w3:=B5 (lo+hi) (P' 1 2) (by unfold rm;omega) (by unfold rm;omega);generalize (lo+hi)*P' 1 2=h at *;have e4:=UD D h;have w4:=P8 D h;have e5:=KW a.a (D.scale h);have w5:=ae a.a (D.scale h);generalize a.a.add (D.scale h)=p at *;have e6:=J4 b.a p;have w6:=BE b.a p;have e7:=Zu (b.a.sub p) a.i;have e8:=Zu a.i a.i;have w7:=E4 (b.a.sub p) a.i;have w8:=E4 a.i a.i;have w9:=LQ (Qn (b.a.sub p) a.i) (Qn a.i a.i) (fun e=>hi0 (by
       unfold Qn at e;obtain⟨x1,x2⟩:=sq0 e;cases hz:a.i;rw[hz]at x1 x2;unfold v0;rw[V2.mk.injEq];exact⟨x1,x2⟩))
      have e9:qb (Qn (b.a.sub p) a.i/Qn a.i a.i)≤qb (Qn (b.a.sub p) a.i)+qb (Qn a.i a.i):=by
       rw[ZAr];have:=Qa (Qn (b.a.sub p) a.i) (Qn a.i a.i)⁻¹;have:=Wh (Qn a.i a.i);omega
      generalize Qn (b.a.sub p) a.i/Qn a.i a.i=k at *;have e10:=UD a.i k;have w10:=P8 a.i k;have w11:=ae p (a.i.scale k);generalize p.add (a.i.scale k)=qq at *;rw[hR];refine Xk ?_;simp(disch:=omega)only[↓Xc,wG,seval];refine X0 w1 (X1 _) ?_;simp(disch:=omega)only[qA,qC,↓Xc,wG,seval];refine X0 w2 (X1 _) ?_;simp(disch:=omega)only[qA,qC,↓Xc,wG,seval];refine X0 w3 (X1 _) ?_;simp(disch:=omega)only[qA,qC,↓Xc,wG,seval];refine X0 w4 (X1 _) ?_;simp(disch:=omega)only[vA,vC,↓Xc,wG,seval];refine X0 w5 (X1 _) ?_;simp(disch:=omega)only[vA,vC,zO,zC,B7,↓Xc,wG,seval];refine X0 w6 (X1 _) ?_;simp(disch:=omega)only[vA,vC,zO,zC,B7,↓Xc,wG,seval];refine X0 w7 (X1 _) ?_;simp(disch:=omega)only[qA,qC,zO,zC,B7,↓Xc,wG,seval];refine X0 w8 (X1 _) ?_;simp(disch:=omega)only[qA,qC,zO,zC,B7,↓Xc,wG,seval];refine X0 w9 (X1 _) ?_;simp(disch:=omega)only[qA,qC,zO,zC,B7,↓Xc,wG,seval];refine X0 w10 (X1 _) ?_;simp(disch:=omega)only[vA,vC,zO,zC,B7,↓Xc,wG,seval];refine X0 w11 (X1 _) ?_;simp(disch:=omega)only[vA,vC,zO,zC,B7,↓Xc,wG,seval];exact B0 (r1:=.cell 4 30) (r2:=.cell 5 30) (r3:=.tmp 6) rfl (Xt Jn rfl rfl rfl) (Xt Jn rfl rfl rfl) rfl (XY (Xv _) rfl) (XY (Xv _) rfl) (XY (X5 _) rfl)
 ·simp only[ho,decide_false]at u1
  refine q_ (fn:=Tryz.f116) Tryz.call116 Tryz.func116 rfl mixed 14 [] [3000000000001,3000000000002,5,7,80000009,15000000000001,15000000000002,16,17002] [6] (by kernel_rfl) (K_ rfl) (Kk (Kx a) (Kx b)) (XI 44 ?_);simp(disch:=omega)only[O_,Ws,B7,↓Xc,wG,seval];refine X0 u1 (X1 _) ?_;simp(disch:=omega)only[↓Xc,wG,seval];rw[M_ fun q=>absurd q.1 ho]at hR;rw[hR];refine XI 1 ?_;simp(disch:=omega)only[↓Xc,wG,seval];show Run _ (_ :: _) _;refine Bo (fun x=>x=3) ?_;obtain⟨A,hA⟩:∃A:AO,A=.row 0 24 (Xf (Bp a)):=⟨_,rfl⟩
  obtain⟨B,hB⟩:∃B:AO,B=.row 0 24 (Xf (Bp b)):=⟨_,rfl⟩
  have l0:=Zo (P:=Tryz.prog) (T:=30) (id:=2) (Z:=zC true) (H:=[A,B,zO true,zO true]) Jn rfl rfl;have l1:=Zo (P:=Tryz.prog) (T:=30) (id:=3) (Z:=zC true) (H:=[A,B,zO true,zO true]) Jn rfl rfl;have l2:=KB (P:=Tryz.prog) (T:=30) (id:=2) (Z:=zC true) (W:=zC true) (H:=[A,B,zO true,zO true]) Em rfl rfl rfl (by decide) rfl;have l3:=KB (P:=Tryz.prog) (T:=30) (id:=3) (Z:=zC true) (W:=zC true) (H:=[A,B,zO false,zO true]) Em rfl rfl rfl (by decide) rfl;rw[hA,hB]at l0 l1 l2 l3;show ∃s',TAa _ _ _ _ _ _ _ _ _ _ s'∧_;refine⟨_,⟨Lt rfl,_,QH rfl rfl rfl rfl (y_ (ZAF fun w=>(w,_)) l0),xL rfl rfl (fun o' va off e=>by cases e;rfl),_,QH rfl rfl rfl rfl (y_ (ZAF fun w=>(w,_)) l1),
   yE rfl rfl (fun o' va off e=>by cases e;decide),_,QH rfl rfl rfl rfl (y_ (ZAF fun w=>(XZ,w)) l2),Lt rfl,_,QH rfl rfl rfl rfl (y_ (ZAF fun w=>(XZ,w)) l3),Lt rfl,_,QH (v:=.bool false) (h':=[.row 0 24 (Xf (Bp a)),.row 0 24 (Xf (Bp b)),zO false,zO false]) rfl rfl rfl rfl rfl,rfl⟩,?TGd⟩
  refine d_ (s':=⟨14,[],[.any,.any,.any,.any,.ref 2 0 0,.ref 3 0 0,.bool false,.any,.any,.any,.any,.any,.any,.any],[],[A,B,zO false,zO false]⟩) ?_ (Xh rfl ⟨.inl rfl,.inl rfl,.inl rfl,.inl rfl,.inr rfl,.inr rfl,.inr rfl,.inl rfl,.inl rfl,.inl rfl,.inl rfl,.inl rfl,.inl rfl,.inl rfl,trivial⟩ trivial (by rw[hA,hB];rfl));refine Xk ?_;simp(disch:=omega)only[↓Xc,wG,seval];exact B0 (r1:=.cell 4 30) (r2:=.cell 5 30) (r3:=.tmp 6) rfl (Xt Jn rfl rfl rfl) (Xt Jn rfl rfl rfl) rfl (Xp (Xv _) (D5 _)) (Xp (Xv _) (D5 _)) (XY (X5 _) rfl)
def Ag (l:List Int):Rat:=P' (1+Ab.atF l 0 20) (1+Ab.atF l 1 2)
def KS (l:List Int):Rat:=P' (Ab.atF l 2 5) (1+Ab.atF l 3 3)
def DB (l:List Int)(L:List V2):GG :=
 if 0<(Am L (Ag l) (KS l)).length∧0<Ab.atF l 4 6 then
  (Am L (Ag l) (KS l)).getD (Ab.atF l 5 (Am L (Ag l) (KS l)).length).toNat gZ
 else⟨Ro (L.getD (Ab.atF l 6 L.length).toNat v0) (Za L (Ab.atF l 6 L.length).toNat),Ro (L.getD (Ab.atF l 7 L.length).toNat v0) (Za L (Ab.atF l 7 L.length).toNat),IU (L.getD (Ab.atF l 6 L.length).toNat v0) (Za L (Ab.atF l 6 L.length).toNat),Ag l,KS l⟩
theorem z6 (l:List Int):qb (Ag l)≤1∧qb (KS l)≤1∧0<Ag l∧0≤KS l∧KS l≤4:=by
 have b0:=XF l 0 20;have b1:=XF l 1 2;have b2:=XF l 2 5;have b3:=XF l 3 3;refine⟨Ew _ _,Ew _ _,Ra,Rat.divInt_nonneg (by omega) (by omega),?_⟩;have hb0:(0:Rat)<((1+Ab.atF l 3 3:Int):Rat):=Rat.intCast_pos.2 (by omega);have e:KS l*((1+Ab.atF l 3 3:Int):Rat)=((Ab.atF l 2 5:Int):Rat):=by unfold KS;rw[Rat.divInt_eq_div,ZCT (by grind)]
 have h1:((Ab.atF l 2 5:Int):Rat)≤((4*(1+Ab.atF l 3 3):Int):Rat):=Rat.intCast_le_intCast.2 (by omega);rw[Rat.intCast_mul]at h1;refine ZAf.1 fun h=>?_
 have:=ZBJ (show 0<KS l-4 by grind) hb0;have h4:((4:Int):Rat)=4:=rfl;grind
theorem we {a b:V2}(h:a≠b):IU a b≠v0:=fun e=>h (by
 unfold IU v0 at e;simp only[V2.mk.injEq]at e;cases a;cases b;simp only[V2.mk.injEq]at *;exact⟨by grind,by grind⟩)
def gT (g:GG):Prop:=vb g.p≤1000∧vb g.q≤1000∧vb g.n≤16∧qb g.force≤1∧qb g.E_≤1
theorem gT.s {g:GG}(h:gT g):gS g:=by obtain⟨h1,h2,h3,h4,h5⟩:=h;unfold gS;omega
theorem rX (l:List Int)(L:List V2)(h:Oe L):gT (DB l L)∧Ka (DB l L)=true:=by
 obtain⟨h1,h2,h3⟩:=h;obtain⟨n1,n2,n3,n4,n5⟩:=z6 l;have key:vb (DB l L).p≤1000∧vb (DB l L).q≤1000∧vb (DB l L).n≤16∧(DB l L).n≠v0∧(DB l L).force=Ag l∧(DB l L).E_=KS l:=by
  unfold DB
  split
  ·rename_i hc
   have b:=XF l 5 (Am L (Ag l) (KS l)).length;obtain⟨a1,a2,a3,a4,a5,a6⟩:=YD L h2 (Ag l) (KS l) _ (Qp gZ (show(Ab.atF l 5 (Am L (Ag l) (KS l)).length).toNat<(Am L (Ag l) (KS l)).length by omega));exact⟨by omega,by omega,by omega,a4,a5,a6⟩
  ·have b6:=XF l 6 L.length
   have hi:(Ab.atF l 6 L.length).toNat<L.length:=by omega
   have m1:=lN (L.getD (Ab.atF l 6 L.length).toNat v0) (Za L (Ab.atF l 6 L.length).toNat);have m2:=lN (L.getD (Ab.atF l 7 L.length).toNat v0) (Za L (Ab.atF l 7 L.length).toNat);have m3:=Pv (L.getD (Ab.atF l 6 L.length).toNat v0) (Za L (Ab.atF l 6 L.length).toNat);have s1:=h2 (Ab.atF l 6 L.length).toNat;have s2:vb (Za L (Ab.atF l 6 L.length).toNat)≤7:=h2 _;have s3:=h2 (Ab.atF l 7 L.length).toNat;have s4:vb (Za L (Ab.atF l 7 L.length).toNat)≤7:=h2 _;exact⟨by show vb (Ro _ _)≤_;omega,by show vb (Ro _ _)≤_;omega,by show vb (IU _ _)≤_;omega,we (h3 _ hi),rfl,rfl⟩
 obtain⟨k1,k2,k3,k4,k5,k6⟩:=key;refine⟨⟨k1,k2,k3,by rw[k5];omega,by rw[k6];omega⟩,?_⟩;rw[Cn,k5,k6,MW];exact⟨⟨n3,n4,n5⟩,k4⟩
theorem rW (l:List Int)(L:List V2)(hl:Eo l)(h:Oe L):Fn Tryz.prog 12 [X9 l,Qx L] (gA (DB l L)):=by
 obtain⟨h1,h2,h3⟩:=h;obtain⟨n1,n2,n3,n4,n5⟩:=z6 l;have h7:J3 L 1000:=fun i=>m_ (h2 i) (by omega)
 have b0:=XF l 0 20;have b1:=XF l 1 2;have b2:=XF l 2 5;have b3:=XF l 3 3;have c0:=QW l 0 20 hl;have c1:=QW l 1 2 hl;have c2:=QW l 2 5 hl;have c3:=QW l 3 3 hl;have c4:=QW l 4 6 hl;have c6:=QW l 6 L.length hl;have c7:=QW l 7 L.length hl;have b6:=XF l 6 L.length;have b7:=XF l 7 L.length;have d1:=XL (1+Ab.atF l 0 20) (1+Ab.atF l 1 2) ⟨by omega,by omega⟩ ⟨by omega,by omega⟩;have d2:=XL (Ab.atF l 2 5) (1+Ab.atF l 3 3) ⟨by omega,by omega⟩ ⟨by omega,by omega⟩;rw[show P' (1+Ab.atF l 0 20) (1+Ab.atF l 1 2)=Ag l from rfl]at d1;rw[show P' (Ab.atF l 2 5) (1+Ab.atF l 3 3)=KS l from rfl]at d2;have d3:=mJ L (Ag l) (KS l) h2 (by omega) (by omega) (by omega) (by omega);have hln:(Am L (Ag l) (KS l)).length≤1000:=by
  unfold Am
  split
  ·have:=EM L (Ag l) (KS l) L.length
   have g3:L.length*L.length≤12*12:=ZBQ (by omega) (by omega);unfold OB;omega
  ·simp
 obtain⟨R,hR⟩:∃R,R=DB l L:=⟨_,rfl⟩
 have sR:=QA R;rw[←hR];unfold DB at hR;generalize Ag l=f at *;generalize KS l=r at *;generalize Am L f r=G at *;refine q_ (fn:=Tryz.f12) Tryz.call12 Tryz.func12 rfl mixed 10 [] [] [] (by kernel_rfl) (K_ rfl) (Kk (Xd l) (Xs L)) (Xk ?_);simp(disch:=omega)only[O_,X7,↓Xc,wG,seval];refine X0 c0 (X1 _) ?_;simp(disch:=omega)only[↓Xc,wG,seval];refine X0 c1 (X1 _) ?_;simp(disch:=omega)only[↓Xc,wG,seval];refine X0 d1 (X1 _) ?_;simp(disch:=omega)only[qA,qC,↓Xc,wG,seval];refine X0 c2 (X1 _) ?_;simp(disch:=omega)only[↓Xc,wG,seval];refine X0 c3 (X1 _) ?_;simp(disch:=omega)only[↓Xc,wG,seval];refine X0 d2 (X1 _) ?_;simp(disch:=omega)only[qA,qC,↓Xc,wG,seval];refine X0 d3 ⟨by rw[X7];exact U_ _,X1 _⟩ ?_;simp(disch:=omega)only[Q9,↓Xc,wG,seval];refine⟨fun hg=>?_,fun hg=>?_⟩
 ·have hg:0<G.length:=by omega
  refine X0 c4 (X1 _) ?_;simp(disch:=omega)only[↓Xc,wG,seval];refine⟨fun hq=>?_,fun hq=>?_⟩
  ·rw[N_ ⟨hg,hq⟩]at hR
   have b5:=XF l 5 G.length;have c5:=QW l 5 G.length hl;obtain⟨k,hk⟩:∃k:Nat,Ab.atF l 5 G.length=k:=⟨(Ab.atF l 5 G.length).toNat,by omega⟩
   rw[hk,U']at hR;rw[hk]at c5;have hkl:k<G.length:=by omega
   have l0:=ZO gC 32 gZ G k;have l1:=Ze gC 32 gZ G k;refine X0 c5 (X1 _) ?_;simp(disch:=omega)only[l0,l1,Jd,hkl,↓Xc,wG,seval];rw[←hR];exact Kc rfl BN rfl rfl rfl (Xp sR (U_ _))
  ·rw[M_ fun h=>hq h.2]at hR
   obtain⟨i,hi⟩:∃i:Nat,Ab.atF l 6 L.length=i:=⟨(Ab.atF l 6 L.length).toNat,by omega⟩
   obtain⟨j,hj⟩:∃j:Nat,Ab.atF l 7 L.length=j:=⟨(Ab.atF l 7 L.length).toNat,by omega⟩
   rw[hi,hj,U',U']at hR;rw[hi]at c6 b6;rw[hj]at c7 b7;have hil:i<L.length:=by omega
   have hjl:j<L.length:=by omega
   have f1:(i<L.length)=True:=L' hil;have f2:(j<L.length)=True:=L' hjl;have v1:=vF L i;have v2:=vF L j;have e1:=Cc L i (by omega) hil;have e2:=Cc L j (by omega) hjl;rw[show L.getD ((i+1)%L.length) v0=Za L i from rfl]at e1;rw[show L.getD ((j+1)%L.length) v0=Za L j from rfl]at e2;have e5:=E9 L i h7 (by omega) hil;have s1:=h2 i;have s2:vb (Za L i)≤7:=h2 _;have s3:=h2 j;have s4:vb (Za L j)≤7:=h2 _;generalize L.getD i v0=a at *;generalize Za L i=a' at *;generalize L.getD j v0=b at *;generalize Za L j=b' at *;have e3:=FE a a';have e4:=FE b b';refine X0 c6 (X1 _) ?_;simp(disch:=omega)only[vA,vC,qA,qC,X7,v1,v2,f1,f2,↓Xc,wG,seval];refine X0 c7 (X1 _) ?_;simp(disch:=omega)only[vA,vC,qA,qC,X7,v1,v2,f1,f2,↓Xc,wG,seval];refine X0 e1 ⟨by rw[X7];exact U_ _,U_ _,trivial⟩ ?_;simp(disch:=omega)only[vA,vC,qA,qC,X7,v1,v2,f1,f2,↓Xc,wG,seval];refine X0 e3 (X1 _) ?_;simp(disch:=omega)only[vA,vC,qA,qC,X7,v1,v2,f1,f2,↓Xc,wG,seval];refine X0 e2 ⟨by rw[X7];exact U_ _,U_ _,trivial⟩ ?_;simp(disch:=omega)only[vA,vC,qA,qC,X7,v1,v2,f1,f2,↓Xc,wG,seval];refine X0 e4 (X1 _) ?_;simp(disch:=omega)only[vA,vC,qA,qC,X7,v1,v2,f1,f2,↓Xc,wG,seval];refine X0 e5 ⟨by rw[X7];exact U_ _,U_ _,trivial⟩ ?_;simp(disch:=omega)only[vA,vC,qA,qC,X7,v1,v2,f1,f2,↓Xc,wG,seval];rw[hR];exact Kc rfl BN rfl rfl rfl (Xp (QA _) (U_ _))
 ·rw[M_ fun h=>hg (by omega)]at hR
  obtain⟨i,hi⟩:∃i:Nat,Ab.atF l 6 L.length=i:=⟨(Ab.atF l 6 L.length).toNat,by omega⟩
  obtain⟨j,hj⟩:∃j:Nat,Ab.atF l 7 L.length=j:=⟨(Ab.atF l 7 L.length).toNat,by omega⟩
  rw[hi,hj,U',U']at hR;rw[hi]at c6 b6;rw[hj]at c7 b7;have hil:i<L.length:=by omega
  have hjl:j<L.length:=by omega
  have f1:(i<L.length)=True:=L' hil;have f2:(j<L.length)=True:=L' hjl;have v1:=vF L i;have v2:=vF L j;have e1:=Cc L i (by omega) hil;have e2:=Cc L j (by omega) hjl;rw[show L.getD ((i+1)%L.length) v0=Za L i from rfl]at e1;rw[show L.getD ((j+1)%L.length) v0=Za L j from rfl]at e2;have e5:=E9 L i h7 (by omega) hil;have s1:=h2 i;have s2:vb (Za L i)≤7:=h2 _;have s3:=h2 j;have s4:vb (Za L j)≤7:=h2 _;generalize L.getD i v0=a at *;generalize Za L i=a' at *;generalize L.getD j v0=b at *;generalize Za L j=b' at *;have e3:=FE a a';have e4:=FE b b';refine X0 c6 (X1 _) ?_;simp(disch:=omega)only[vA,vC,qA,qC,X7,v1,v2,f1,f2,↓Xc,wG,seval];refine X0 c7 (X1 _) ?_;simp(disch:=omega)only[vA,vC,qA,qC,X7,v1,v2,f1,f2,↓Xc,wG,seval];refine X0 e1 ⟨by rw[X7];exact U_ _,U_ _,trivial⟩ ?_;simp(disch:=omega)only[vA,vC,qA,qC,X7,v1,v2,f1,f2,↓Xc,wG,seval];refine X0 e3 (X1 _) ?_;simp(disch:=omega)only[vA,vC,qA,qC,X7,v1,v2,f1,f2,↓Xc,wG,seval];refine X0 e2 ⟨by rw[X7];exact U_ _,U_ _,trivial⟩ ?_;simp(disch:=omega)only[vA,vC,qA,qC,X7,v1,v2,f1,f2,↓Xc,wG,seval];refine X0 e4 (X1 _) ?_;simp(disch:=omega)only[vA,vC,qA,qC,X7,v1,v2,f1,f2,↓Xc,wG,seval];refine X0 e5 ⟨by rw[X7];exact U_ _,U_ _,trivial⟩ ?_;simp(disch:=omega)only[vA,vC,qA,qC,X7,v1,v2,f1,f2,↓Xc,wG,seval];rw[hR];exact Kc rfl BN rfl rfl rfl (Xp (QA _) (U_ _))
end
end Go.Ab.N
namespace Go.Ab.N
open Go Go.RowKit Go.Proofs
noncomputable section
set_option maxRecDepth 10000
set_option maxHeartbeats 4000000
def yD (L:List V2)(i k:Nat):Bool:=decide (1<(k+L.length-i)%L.length) && decide ((k+L.length-i)%L.length<L.length-1) &&
 (ZAO 5).all fun j=>!Zi (Ey (atF L i) (atF L (i+1)) (atF L k) (atF L (k+1)) j) (atF L i) (atF L (i+1)) (atF L k) (atF L (k+1))
def TL (L:List V2):Bool:=decide (3≤L.length) && decide (L.length≤12) && ((ZAO L.length).all fun i=>!decide (Ky (atF L i) (atF L (i+1)) (atF L (i+2))=0) && (ZAO L.length).all fun k=>!yD L i k) && decide (0<(ZB L).num.sign)
theorem TM (L:List V2)(h:TL L=true):Ax L:=by
 unfold TL at h;simp only[x_,decide_eq_true_eq,ZA5,ZDH,ZDW,decide_eq_false_iff_not]at h;obtain⟨⟨⟨h1,h2⟩,h3⟩,h4⟩:=h;refine⟨⟨h1,h2⟩,fun i hi=>⟨(h3 i hi).1,fun k hk hg=>?_⟩,h4⟩;have:=(h3 i hi).2 k hk;obtain⟨q1,q2,q3⟩:=hg;unfold yD at this;rw[c_ q1,c_ q2,ZBt,ZBt]at this;rw[ZA5.2]at this
 ·cases this
 ·intro j hj
  rw[q3 j (ZDH.1 hj)];rfl
theorem HL:Ax sqV:=TM _ (by decide +kernel)
theorem nl:Oe sqV:=by
 have z:vb v0≤1:=by decide +kernel
 refine⟨by simp[sqV],Bt (fun x hx=>?_),fun i hi=>?_⟩
 ·simp only[sqV,b_,V_,or_false]at hx
  rcases hx with rfl |rfl |rfl |rfl
  ·omega
  all_goals exact m_ (GB _ _) (by omega)
 ·have h:=LR (HL.2.1 i hi).1
  unfold atF at h;rw[ZAJ hi]at h;exact h
def Rh (a b:Sd):Option (V2×V2) :=
 if Xq b.i a.i=0∧Qn b.i a.i<0∧0<Qn (b.a.sub a.a) a.i then
  if UR (GZ a b) (H3 a b)<UQ (GZ a b) (H3 a b)then
   some (O0 a.a (SW a b) (UR (GZ a b) (H3 a b)) (UQ (GZ a b) (H3 a b)),VG (O0 a.a (SW a b) (UR (GZ a b) (H3 a b)) (UQ (GZ a b) (H3 a b))) a.i b.a)
  else none
 else none
theorem vX (a b:Sd):Lr a b=Rh a b:=by
 unfold Lr Rh;by_cases h:O5 b.i a.i∧0<Qn (b.a.sub a.a) a.i
 ·rw[N_ h,N_ (show Xq b.i a.i=0∧Qn b.i a.i<0∧0<Qn (b.a.sub a.a) a.i from⟨h.1.1,h.1.2,h.2⟩)]
 ·rw[M_ h,M_ fun q=>h ⟨⟨q.1,q.2.1⟩,q.2.2⟩]
def eg1:GG:=⟨pI 1 0,pI 1 2,pI 0 2,P' 8 1,P' 1 2⟩
def eg2:GG:=⟨pI 2 1,pI 0 1,pI (-2) 0,P' 8 1,P' 1 2⟩
def xK (a b:V2):Bool:=decide (a.x=b.x) && decide (a.y=b.y)
theorem MC {a b:V2}(h:xK a b=true):a=b:=by
 unfold xK at h;simp only[x_,decide_eq_true_eq]at h;cases a;cases b;simp only[V2.mk.injEq]at *;exact h
def GY (o:Option (V2×V2)) (w:Option (V2×V2)):Bool:=match o,w with
 |none,none=>true
 |some x,some y=>xK x.1 y.1 && xK x.2 y.2
 |_,_=>false
theorem kj {o w:Option (V2×V2)} (h:GY o w=true):o=w:=by
 cases o <;> cases w <;> simp only[GY,x_]at h <;> try(first |rfl | (cases h;done))
 exact y_ some (Prod.ext (MC h.1) (MC h.2))
theorem xm:GY (Rh (Kf sqV 0) (Kf sqV 1)) none=true∧GY (Rh (Kf sqV 0) (Kf sqV 2)) (some (pI 1 0,pI 1 2))=true∧GY (Rh (Kf sqV 0) (Kf sqV 3)) none=true∧GY (Rh (Kf sqV 1) (Kf sqV 2)) none=true∧GY (Rh (Kf sqV 1) (Kf sqV 3)) (some (pI 2 1,pI 0 1))=true∧GY (Rh (Kf sqV 2) (Kf sqV 3)) none=true∧xK (IU (sqV.getD 0 v0) (Za sqV 0)) (pI 0 2)=true∧xK (IU (sqV.getD 1 v0) (Za sqV 1)) (pI (-2) 0)=true:=by
 refine⟨?_,?_,?_,?_,?_,?_,?_,?_⟩ <;> decide +kernel
theorem RK:BM (P' 8 1) (P' 1 2)=true:=by unfold BM;decide +kernel
theorem aK:Am sqV (P' 8 1) (P' 1 2)=[eg1,eg2]:=by
 obtain⟨h1,h2,h3,h4,h5,h6,h7,h8⟩:=xm;unfold Am;rw[N_ ⟨HL,RK⟩];have g:∀i j o,GY (Rh (Kf sqV i) (Kf sqV j)) o=true→Rk sqV (P' 8 1) (P' 1 2) i j=o.toList.map fun x=>⟨x.1,x.2,IU (sqV.getD i v0) (Za sqV i),P' 8 1,P' 1 2⟩:=fun i j o h=>by
  unfold Rk;rw[vX,kj h]
 have g01:=g _ _ _ h1;have g02:=g _ _ _ h2;have g03:=g _ _ _ h3;have g12:=g _ _ _ h4;have g13:=g _ _ _ h5;have g23:=g _ _ _ h6;rw[MC h7]at g02;rw[MC h8]at g13;show BX sqV _ _ 4=_;simp only[BX,show sqV.length=4 from rfl,Nat.reduceAdd,Nat.reduceSub,ZX,ZAm,g01,g02,g03,g12,g13,g23];rfl
theorem jc (n:Int)(h:1≤n∧n≤1000):bS (Fr n)∧K9 (Fr n)=true:=by
 refine⟨⟨?_,?_,?_,?_⟩,?_⟩
 ·exact m_ (GB 1 1) (by omega)
 ·exact m_ (Ew 1 1) (by omega)
 ·exact m_ (Ew 2 1) (by omega)
 ·exact m_ (Ew n 1) (by omega)
 ·rw[Fs]
  exact⟨by show 0<P' 1 1;decide +kernel,by show P' 1 1≤P' 2 1;decide +kernel,Ra⟩
theorem yt:(gS eg1∧Ka eg1=true)∧gS eg2∧Ka eg2=true:=by
 have q:=Ew 8 1;have r:=Ew 1 2;have v:∀x y:Int,-5≤x∧x≤5→-5≤y∧y≤5→vb (pI x y)≤40:=fun x y hx hy=>m_ (GB x y) (by omega)
 have m:∀x y:Int,-5≤x∧x≤5→-5≤y∧y≤5→vb (pI x y)≤1400:=fun x y hx hy=>m_ (v x y hx hy) (by omega)
 refine⟨⟨⟨m _ _ (by omega) (by omega),m _ _ (by omega) (by omega),v _ _ (by omega) (by omega),m_ q (by omega),m_ r (by omega)⟩,?_⟩,⟨m _ _ (by omega) (by omega),m _ _ (by omega) (by omega),v _ _ (by omega) (by omega),m_ q (by omega),m_ r (by omega)⟩,?_⟩
 ·rw[Cn];decide +kernel
 ·rw[Cn];decide +kernel
theorem qW:Qj eg1.n=2∧Qj eg2.n=2:=by decide +kernel
theorem tE (n:Int)(k:Rat)(h:(k=4∧n=100)∨(k=3∧n=6)):lh (Fr n) eg1 k:=by
 have e1:((0:Int):Rat)=0:=rfl;have e2:((2:Int):Rat)=2:=rfl;have e3:((1:Int):Rat)=1:=rfl;have d2:P' 2 1=2:=by decide +kernel
 have d8:P' 8 1=8:=by decide +kernel
 have dh:P' 1 2=1/2:=by decide +kernel
 have hs:(k=4∧P' n 1=100)∨(k=3∧P' n 1=6):=by
  rcases h with⟨rfl,rfl⟩ | ⟨rfl,rfl⟩
  ·exact .inl ⟨rfl,by decide +kernel⟩
  ·exact .inr ⟨rfl,by decide +kernel⟩
 constructor
 ·refine⟨k,0,0,0,?_⟩
  have l:=qW.1;constructor
  all_goals
   try simp only[l]
   try simp only[eg1,Fr,pI,Xq,V2.sub,e1,e2,e3,d2,d8,dh]
   grind
 ·intro a0 c0 a1 c1 k' hk
  obtain⟨n0,n1,r0,r1,s0,s1,f0,f1,st,k0,k1,ex,ey,et⟩:=hk;rw[qW.1]at f0 f1 st;simp only[eg1,Fr,pI,e1,e2,e3,d2,d8,dh]at *;grind
theorem jO (n:Int)(k:Rat)(h:(k=4∧n=100)∨(k=P' 3 2∧n=6)):lh (Fr n) eg2 k:=by
 have e1:((0:Int):Rat)=0:=rfl;have e2:((2:Int):Rat)=2:=rfl;have e3:((1:Int):Rat)=1:=rfl;have e4:((-2:Int):Rat) = -2:=rfl;have d2:P' 2 1=2:=by decide +kernel
 have d8:P' 8 1=8:=by decide +kernel
 have dh:P' 1 2=1/2:=by decide +kernel
 have d3:P' 3 2=3/2:=by decide +kernel
 have hs:(k=4∧P' n 1=100)∨(k=3/2∧P' n 1=6):=by
  rcases h with⟨rfl,rfl⟩ | ⟨rfl,rfl⟩
  ·exact .inl ⟨rfl,by decide +kernel⟩
  ·exact .inr ⟨d3,by decide +kernel⟩
 constructor
 ·refine⟨k,-(k/2),k,k/2,?_⟩
  have l:=qW.2;constructor
  all_goals
   try simp only[l]
   try simp only[eg2,Fr,pI,Xq,V2.sub,e1,e2,e3,e4,d2,d8,dh]
   grind
 ·intro a0 c0 a1 c1 k' hk
  obtain⟨n0,n1,r0,r1,s0,s1,f0,f1,st,k0,k1,ex,ey,et⟩:=hk;rw[qW.2]at f0 f1 st;simp only[eg2,Fr,pI,e1,e2,e3,e4,d2,d8,dh]at *;grind
end
end Go.Ab.N
namespace Go.Ab.N
open Go Go.RowKit Go.Proofs
noncomputable section
set_option maxRecDepth 10000
set_option maxHeartbeats 4000000
open Classical
def Gm (b:BB)(g:GG):Rat:=if h:∃k,lh b g k then Classical.choose h else 0
theorem Gn {b:BB}{g:GG}{k:Rat}(h:lh b g k):Gm b g=k:=by
 unfold Gm;have hx:∃k,lh b g k:=⟨k,h⟩
 rw[dif_pos hx];exact li (Classical.choose_spec hx) h
structure Mg (b:BB)(g:GG)(p q:Rat×Rat):Prop where
 fn:Fn Tryz.prog 22 [bA b,gA g] (.tup [qA (Gm b g),C6 [p,q],I 0])
 m:lh b g (Gm b g)
 ok:okP b g p.1 p.2 q.1 q.2 (Gm b g)
 z:qb p.1≤1356773∧qb p.2≤1356773∧qb q.1≤1356773∧qb q.2≤1356773∧qb (Gm b g)≤1356773
theorem Tk (b:BB)(g:GG)(hb:bS b)(hg:gS g)(h1:K9 b=true)(h2:Ka g=true):∃p q,Mg b g p q:=by
 obtain⟨x0,x1,x2,x3,m,c,hm,ho,z0,z1,z2,z3,z4⟩:=VM b g hb hg h1 h2;have e:=Gn hm;exact⟨(x0,x1),(x2,x3),e▸c,e▸hm,e▸ho,z0,z1,z2,z3,e▸z4⟩
theorem MS {b:Int}(hb:Ap b){m:Int}(hm:0<m):Ap (b.tdiv m):=by
 unfold Ap at hb ⊢;rcases Int.le_total 0 b with h |h
 ·rw[r_ h]
  have:=ZEQ m h;have:=ZEH h (ZC9 hm);omega
 ·have e:b.tdiv m = -((-b).tdiv m):=by rw[Int.neg_tdiv];omega
  rw[e,r_ (by omega)];have:=ZEQ m (show 0≤-b by omega);have:=ZEH (show 0≤-b by omega) (ZC9 hm);omega
theorem nF {c:Nat}{a b:V2}(ha:vb a≤c)(hb:vb b≤c):vb (IU a b)≤2*c+1:=by
 have:=Pv a b;omega
theorem fu {L:List V2}(h:C1 L){i:Nat}(hi:i<L.length):(Kf L i).a≠(Kf L i).b:=by
 have:=LR (h.2.1 i hi).1;unfold atF at this;rw[ZAJ hi]at this;exact this
theorem T2 {c:Nat}(L:List V2)(f r:Rat)(h:J3 L c)(hc:c≤18)(hl:L.length≤13)(hf:qb f≤40)(hr:qb r≤40):Fn Tryz.prog 45 [Qx L,qA f,qA r] (VN (Am L f r)):=by
 have c1:=Iu L (fun i=>m_ (h i) (by omega)) (by omega);have c2:=MH f r;have c3:=OH L (fun i=>m_ (h i) (by omega)) (by omega);obtain⟨R,hR⟩:∃R,R=Am L f r:=⟨_,rfl⟩
 have sR:=Fd R;rw[←hR];unfold Am at hR;rw[Hr]at hR;generalize BM f r=J at *;obtain⟨S,hS⟩:∃S,S=KJ L:=⟨_,rfl⟩
 rw[←hS]at c3;have hSl:S.length=L.length:=by rw[hS];exact Ej L L.length
 have hSa:∀i,i<L.length→S.getD i Lv=Kf L i:=fun i hi=>by rw[hS];exact fY L hi
 refine Fq Tryz.call45 Tryz.func45 16 [27,28,29,37,38,39] [] [] (by simp[Xs,Xb]) (Xk ?_);simp(disch:=omega)only[O_,X7,qA,qC,↓Xc,wG,seval];refine X0 c1 ⟨by rw[X7];exact U_ _,trivial⟩ ?_;simp(disch:=omega)only[↓Xc,wG,seval];have nil:∀ (s:AS),s.get 6=.sl 0 0 (fun _=>.any) true→R=[]→TAC (JK Tryz.prog Tryz.f45 [] [] (VN R)) s:=fun s hs e=>C4 rfl (by rw[hs];exact Xp sR (by rw[e];exact UI gC 32 gZ _ _))
 refine⟨fun hp=>nil _ rfl (by rw[hR,M_ fun h=>hp h.1]),fun hp=>?_⟩;refine X0 c2 (X1 _) ?_;simp(disch:=omega)only[↓Xc,wG,seval];refine⟨fun hj=>nil _ rfl (by rw[hR,M_ fun h=>by rw[h.2]at hj;exact absurd hj (by simp)]),fun hj=>?_⟩;have hj:J=true:=by simpa using hj
 rw[N_ ⟨hp,hj⟩]at hR;have bV:∀q,Jl q (Wt S)=True:=fun q=>L' (X4 (Ff S))
 have bL:∀q,Jl q (Qx L)=True:=fun q=>L' (X4 (Xs L))
 have bP:∀q x,Jl q (JN x)=True:=fun q x=>L' (X4 (XR fun j _=>Xe (XU x) j))
 have bO:∀q i x,Q0 q (.con i 4 (Xf (qC x)))=True:=fun q i x=>L' fun j _=>X4 (Xe (XU x) j)
 have bR:∀q i n l,Q0 q (.row i n (Xw gC 32 gZ l))=True:=fun q i n l=>L' fun j _=>X4 (Xe (Kh _) _)
 have fl:=fun i=>EM L f r i
 refine X0 c3 ⟨by rw[X7];exact U_ _,trivial⟩ ?_;simp(disch:=omega)only[JA,hSl,↓Xc,wG,seval];refine d_ ?_ (Xz 0 rfl);refine d_ ?_ (Xz 1 rfl);refine d_ ?_ (XK 4 rfl rfl);refine d_ ?_ (XK 5 rfl rfl);refine d_ ?_ (JS 7 32 (Xw gC 32 gZ []) rfl);have dS:AV.sl L.length (L.length*24) (Xw Bp 24 Lv S) false=Wt S:=by rw[JA,hSl]
 rw[dS];refine Xj (fun i:Nat=>⟨16,[27,28,29,37,38,39],[.any,.any,.any,.any,JN f,JN r,.any,.osl 2 (BX L f r i).length 32 0 (BX L f r i).length,Wt S,.any,.any,.any,.any,.any,.any,.any],[(27,Wt S),(28,I L.length),(29,I i)],[.con 0 4 (Xf (qC f)),.con 0 4 (Xf (qC r)),.row (BX L f r i).length ((BX L f r i).length*32) (Xw gC 32 gZ (BX L f r i))]⟩) (fun i=>i≤L.length) (fun i=>L.length-i) 0 (by omega)
  (Xh rfl (by simp[ZAt,Xo,JN,qC,BX];exact⟨rfl,rfl⟩) (by simp[ZAt,Xx,XM,I]) rfl) ?_
 intro i hi next
 have w1:=wj i;by_cases hi2:i<L.length
 rotate_left
 ·obtain rfl:i=L.length:=by omega
  refine Xk ?_;simp(disch:=omega)only[JA,hSl,↓Xc,wG,seval];exact C4 rfl (by rw[hR];exact Ub _ rfl rfl)
 have nx:=next (i+1)
 rw[OA]at nx;have f1:(i<L.length)=True:=L' hi2;have f3:(i+1≤L.length)=True:=L' hi2;have f4:(i<1000000)=True:=L' (by omega);obtain⟨M,hM⟩:∃M,M=L.length-(i+1):=⟨_,rfl⟩
 have e1:((L.length:Int)-((i+1:Nat):Int)).toNat=M:=by omega
 have e2:min (M*24) (L.length*24-(i+1)*24)=M*24:=by omega
 have l0:=ZO Bp 24 Lv S i;have l1:=Ze Bp 24 Lv S i;have hx:=hSa i hi2;rw[hx]at l0 l1;obtain⟨x,hX⟩:∃x,x=Kf L i:=⟨_,rfl⟩
 rw[←hX]at l0 l1 hx;have bX:∀q x,Q0 q (.row 0 24 (Xf (Bp x)))=True:=fun q x=>L' fun j _=>X4 (Xe (ZL x) j)
 have bT:∀q,Jl q (.sl M (M*24) (fun j=>Xw Bp 24 Lv S ((i+1)*24+j)) false)=True:=fun q=>L' (X4 (Qw fun j _=>Xe (ZL _) _))
 refine Xk ?_;simp(disch:=omega)only[JA,hSl,w1,f1,f3,l0,l1,B7,e1,e2,↓Xc,wG,seval];generalize hF:BX L f r i=F at *;refine Xj (fun k:Nat=>⟨16,[27,28,29,37,38,39],[.any,.any,.any,.any,JN f,JN r,.any,.osl 2 (F ++ ZX L f r i k).length 32 0 (F ++ ZX L f r i k).length,Wt S,.any,.ref 3 0 0,.any,.any,.any,.any,.any],[(27,Wt S),(28,I L.length),(29,I i),(37,.sl M (M*24) (fun j=>Xw Bp 24 Lv S ((i+1)*24+j)) false),(38,I M),(39,I k)],[.con 0 4 (Xf (qC f)),.con 0 4 (Xf (qC r)),.row (F ++ ZX L f r i k).length ((F ++ ZX L f r i k).length*32) (Xw gC 32 gZ (F ++ ZX L f r i k)),.row 0 24 (Xf (Bp x))]⟩) (fun k=>k≤M) (fun k=>M-k) 0 (by omega)
  (Xh rfl (by simp[Xo,ZX,JA,hSl]) (by simp[Xx,XM,I,JA,hSl]) (by simp only[ZX,ZAQ];rfl)) ?_
 intro k hk TBD;have w2:=wj k;by_cases hk2:k<M
 rotate_left
 ·obtain rfl:k=M:=by omega
  refine Xk ?_;simp(disch:=omega)only[JA,hSl,w1,w2,↓Xc,wG,seval];rw[←hM]at nx;exact nx _ (by omega) (by omega) (XG (m:=3) (p_ _) rfl (by simp[JA,hSl,Xo,I]) (by simp[Xx,XM,JA,hSl,I]) rfl (by simp[XP,bV,bP]) (by simp[XP,bV]) (by simp[bO,bR]))
 have nk:=TBD (k+1);rw[show ZX L f r i (k+1)=ZX L f r i k ++ Rk L f r i (i+1+k)from rfl,←P_]at nk;have hln:(F ++ ZX L f r i k).length≤1000:=by
  have g1:=fl i;have g2:=HF L f r i k;rw[hF]at g1;have g3:L.length*i≤13*13:=ZBQ hl (by omega);rw[j_];omega
 generalize F ++ ZX L f r i k=G at *;clear hF next TBD fl
 have f2:(k<M)=True:=L' hk2;have y0:Xw Bp 24 Lv S ((i+1)*24+k*24)=(Bp (S.getD (i+1+k) Lv)).getD 0 .any:=by
  rw[show(i+1)*24+k*24=(i+1+k)*24 by omega];exact ZO Bp 24 Lv S _
 have y1:∀j,j<24→Xw Bp 24 Lv S ((i+1)*24+(k*24+j))=(Bp (S.getD (i+1+k) Lv)).getD j .any:=fun j hj=>by
  rw[show(i+1)*24+(k*24+j)=(i+1+k)*24+j by omega];exact Ze Bp 24 Lv S _ _ hj
 have hg:Rk L f r i (i+1+k)=((Lr (Kf L i) (Kf L (i+1+k))).toList).map fun x=>⟨x.1,x.2,IU (L.getD i v0) (Za L i),f,r⟩:=rfl
 have hn:IU (L.getD i v0) (Za L i)=x.i:=by rw[hX];rfl
 rw[hn]at hg;have hy:=hSa (i+1+k) (by omega);rw[hy]at y0 y1;have uf:=dI (Kf L i) (Kf L (i+1+k)) hc (h _) (h _) (nF (h _) (h _)) (h _) (h _) (nF (h _) (h _)) (fu hp hi2);unfold vY at uf;rw[←hX]at hg uf;generalize Kf L (i+1+k)=y at *;refine Xk ?_;simp(disch:=omega)only[JA,hSl,w1,w2,f1,f2,y0,y1,B7,↓Xc,wG,seval];refine X0 uf ⟨by rw[Ws,B7];exact U_ _,by rw[Ws,B7];exact U_ _,trivial⟩ ?_;generalize Lr x y=o at *;rcases o with _ | ⟨p,q⟩
 ·replace hg:Rk L f r i (i+1+k)=[]:=hg
  rw[hg,ZAQ]at nk;simp(disch:=omega)only[vA,vC,Option.getD_none,Option.isSome_none,↓Xc,wG,seval];exact nk _ (by omega) (by omega) (XG (m:=4) (p_ _) rfl (by simp[JA,hSl,Xo,I]) (by simp[Xx,XM,JA,hSl,I]) rfl (by simp[XP,bV,bP]) (by simp[XP,bV,bT]) (by simp[bO,bR,bX]))
 ·replace hg:Rk L f r i (i+1+k)=[⟨p,q,x.i,f,r⟩]:=hg
  have hap:=Zp gC 32 gZ G ⟨p,q,x.i,f,r⟩;rw[hg]at nk;rw[show(G ++ [(⟨p,q,x.i,f,r⟩:GG)]).length=G.length+1 by simp]at nk;simp(disch:=omega)only[vA,vC,JN,qC,ZBK,Option.isSome_some,↓Xc,wG,seval];exact⟨fun j hj=>kR ⟨p,q,x.i,f,r⟩ j hj,nk _ (by omega) (by omega) (XG (m:=4) (p_ _) rfl (by simp[JA,hSl,Xo,I,JN];exact⟨rfl,rfl⟩) (by simp[Xx,XM,JA,hSl,I]) (by rw[←hap];rfl) (by simp[XP,bV,bP]) (by simp[XP,bV,bT]) (by simp[bO,bR,bX]))⟩
 done
end
end Go.Ab.N
