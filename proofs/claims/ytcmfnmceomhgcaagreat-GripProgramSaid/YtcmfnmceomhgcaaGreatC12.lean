/- Contracts of functions, for every argument that fits. -/
import Derived.Test.YtcmfnmceomhgcaaGreatC11
import Derived.Test.YtcmfnmceomhgcaaGreatC10
set_option linter.unusedSimpArgs false
set_option linter.unusedVariables false
namespace Go.Ab.N
open Go Go.RowKit Go.Proofs
noncomputable section
set_option maxRecDepth 10000
set_option maxHeartbeats 4000000
open Classical
theorem O3 (a b:Rat)(ha:qb a≤rm)(hb:qb b≤rm):Fn Tryz.prog 120 [qA a,qA b] (qA (NG a b)):=by
 have c:=Z1 a b ha hb;obtain⟨R,hR⟩:∃R,R=qA (NG a b):=⟨_,rfl⟩
 have sR:Settled R:=hR▸Xa _;rw[←hR];unfold NG at hR;refine Fn.intro (fn:=Tryz.f120) Tryz.call120 Tryz.func120 rfl mixed 5 [] [] [] (by kernel_rfl) (Nat.le_of_ble_eq_true rfl) (JY (Xa a) (Xa b)) (Xk ?_);simp(disch:=omega)only[AS.start,qA,qC,↓Xd,wG,seval];refine X0 c (X2 _) ?_;simp(disch:=omega)only[Zj,↓Xd,wG,seval];refine⟨fun h=>?_,fun h=>?_⟩
 ·rw[if_neg (Rat.not_lt.2 h)]at hR
  exact J2 rfl XR rfl rfl rfl sR (hR.trans rfl)
 ·rw[if_pos (Rat.not_le.1 h)]at hR
  exact J2 rfl XR rfl rfl rfl sR (hR.trans rfl)
theorem O2 (a b:Rat)(ha:qb a≤rm)(hb:qb b≤rm):Fn Tryz.prog 119 [qA a,qA b] (qA (N0 a b)):=by
 have c:=Z1 a b ha hb;obtain⟨R,hR⟩:∃R,R=qA (N0 a b):=⟨_,rfl⟩
 have sR:Settled R:=hR▸Xa _;rw[←hR];unfold N0 at hR;refine Fn.intro (fn:=Tryz.f119) Tryz.call119 Tryz.func119 rfl mixed 5 [] [] [] (by kernel_rfl) (Nat.le_of_ble_eq_true rfl) (JY (Xa a) (Xa b)) (Xk ?_);simp(disch:=omega)only[AS.start,qA,qC,↓Xd,wG,seval];refine X0 c (X2 _) ?_;simp(disch:=omega)only[Pc,↓Xd,wG,seval];refine⟨fun h=>?_,fun h=>?_⟩
 ·by_cases h2:b<a
  ·rw[if_pos h2]at hR
   exact J2 rfl XR rfl rfl rfl sR (hR.trans rfl)
  ·have e:a=b:=by grind
   subst e;rw[if_neg h2]at hR;exact J2 rfl XR rfl rfl rfl sR (hR.trans rfl)
 ·rw[if_neg fun h2=>h (Rat.le_of_lt h2)]at hR
  exact J2 rfl XR rfl rfl rfl sR (hR.trans rfl)
theorem CE {c:Nat}(a d x:V2)(ha:vb a≤c)(hd:vb d≤2*c+1)(hx:vb x≤c):qb (Ae a d x)≤16*c+10:=by
 have h1:=QO x a;have h2:=KO (x.sub a) d;have h3:=KO d d;have h4:=Ei (Q8 (x.sub a) d) (Q8 d d);unfold Ae;omega
theorem NY {c:Nat}(L:List V2)(i:Nat)(p:V2)(h:QN L c)(hc:c≤18)(hl:L.length<1000000)(hi:i<L.length)(hp:vb p≤c):Fn Tryz.prog 118 [Ql L,I i,vA p] (qA (Ae (L.getD i v0) ((Kx L i).sub (L.getD i v0)) p)):=by
 have hb1:=h i;have hb2:vb (Kx L i)≤c:=h ((i+1)%L.length);have c1:=Bq L i hl hi;have e:L.getD ((i+1)%L.length) v0=Kx L i:=rfl;rw[e]at c1;have v1:=vF L i;have f2:(i<L.length)=True:=eq_true hi;obtain⟨R,hR⟩:∃R,R=qA (Ae (L.getD i v0) ((Kx L i).sub (L.getD i v0)) p):=⟨_,rfl⟩
 have sR:Settled R:=hR▸Xa _;rw[←hR];unfold Ae at hR;generalize L.getD i v0=a at *;generalize Kx L i=b at *;have s1:=QO b a;have s2:=QO p a;have c2:=QM b a (by unfold rm;omega) (by unfold rm;omega);have c3:=QM p a (by unfold rm;omega) (by unfold rm;omega);generalize b.sub a=d at *;generalize p.sub a=x at *;have c4:=K4 x d (by unfold vm;omega) (by unfold vm;omega);have c5:=K4 d d (by unfold vm;omega) (by unfold vm;omega);have q1:=KO x d;have q2:=KO d d;have c6:=Du (Q8 x d) (Q8 d d) (by unfold vm;omega) (by unfold vm;omega);rw[←hR]at c6;refine Fq Tryz.call118 Tryz.func118 8 [] [1] [] (by simp[Xq,Xb,Xt]) (Xk ?_);simp(disch:=omega)only[AS.start,X7,vA,vC,↓Xd,wG,seval];refine X0 c1 ⟨by rw[X7];exact Weak.rfl' _,Weak.rfl' _,trivial⟩ ?_;simp(disch:=omega)only[vA,vC,v1,f2,↓Xd,wG,seval];refine X0 c2 (X2 _) ?_;simp(disch:=omega)only[vA,vC,v1,f2,↓Xd,wG,seval];refine X0 c3 (X2 _) ?_;simp(disch:=omega)only[vA,vC,v1,f2,↓Xd,wG,seval];refine X0 c4 (X2 _) ?_;simp(disch:=omega)only[qA,qC,↓Xd,wG,seval];refine X0 c5 (X2 _) ?_;simp(disch:=omega)only[qA,qC,↓Xd,wG,seval];refine X0 c6 (X2 _) ?_;simp(disch:=omega)only[hR,qA,qC,↓Xd,wG,seval];exact J2 rfl XR rfl rfl rfl sR (hR.trans rfl)
def gZ:GG:=⟨v0,v0,v0,0,0⟩
def cH (l:List GG):AV:=jX gC 32 gZ l
theorem Q0 (l:List GG):cH l=.sl l.length (l.length*32) (XD gC 32 gZ l) false:=nrfl rfl
theorem Ep (l:List GG):Settled (cH l):=Z5 fun a x hx=>KB a x hx
theorem ia (g:GG):∀j,j<32→((gC g).getD j .any).one=true:=fun j hj=>by
 rw[QK]
 match j,hj with
 |0,_ |1,_ |2,_ |3,_ |4,_ |5,_ |6,_ |7,_ |8,_ |9,_ |10,_ |11,_ |12,_ |13,_ |14,_ |15,_ |16,_ |17,_ |18,_ |19,_ |20,_ |21,_ |22,_ |23,_ |24,_ |25,_ |26,_ |27,_ |28,_ |29,_ |30,_ |31,_=>rfl
 |j+32,h=>omega
def P1 (L:List V2)(f r:Rat)(i j:Nat):List GG:=((Im (JJ L i) (JJ L j)).toList).map fun x=>⟨x.1,x.2,HZ (L.getD i v0) (Kx L i),f,r⟩
def Zk (L:List V2)(f r:Rat)(i:Nat):Nat→List GG
 |0=>[]
 |k+1=>Zk L f r i k ++ P1 L f r i (i+1+k)
def Bh (L:List V2)(f r:Rat):Nat→List GG
 |0=>[]
 |i+1=>Bh L f r i ++ Zk L f r i (L.length-(i+1))
def Nv (L:List V2)(f r:Rat):List GG:=Bh L f r L.length
def ZH (L:List V2)(f r:Rat):List GG:=if ZV L∧Ba f r=true then Nv L f r else []
theorem nM (L:List V2)(f r:Rat)(i j:Nat):(P1 L f r i j).length≤1:=by
 unfold P1;rw[List.length_map];cases Im (JJ L i) (JJ L j) <;> simp
theorem GJ (L:List V2)(f r:Rat)(i:Nat):∀k,(Zk L f r i k).length≤k
 |0=>by simp[Zk]
 |k+1=>by
  have h1:=GJ L f r i k;have h2:=nM L f r i (i+1+k);show(Zk L f r i k ++ P1 L f r i (i+1+k)).length≤_;rw[List.length_append];omega
theorem E7 (L:List V2)(f r:Rat):∀i,(Bh L f r i).length≤L.length*i
 |0=>by simp[Bh]
 |i+1=>by
  have h1:=E7 L f r i;have h2:=GJ L f r i (L.length-(i+1));show(Bh L f r i ++ Zk L f r i (L.length-(i+1))).length≤_;rw[List.length_append,Nat.mul_succ];omega
def VG (c:Nat)(f r:Rat)(g:GG):Prop:=vb g.p≤35*c+24∧vb g.q≤121*c+84∧vb g.n≤2*c+1∧g.n≠v0∧g.force=f∧g.rough=r
theorem VH {c K:Nat}{a d:V2}{lo hi:Rat}(ha:vb a≤c)(hd:vb d≤2*c+1)(hl:qb lo≤K)(hh:qb hi≤K):vb (MX a d lo hi)≤3*c+2*K+4:=by
 have h1:=ZA lo hi;have h2:=Qk (lo+hi) (Rat.divInt 1 2);have h3:=Fm 1 2 (by omega) (by omega);have h4:=EA d ((lo+hi)*Rat.divInt 1 2);have h5:=ZD a (d.scale ((lo+hi)*Rat.divInt 1 2));unfold MX;omega
theorem VI {c P:Nat}{p n b:V2}(hp:vb p≤P)(hn:vb n≤2*c+1)(hb:vb b≤c):vb (U9 p n b)≤16*c+3*P+12:=by
 have h1:=QO b p;have h2:=KO (b.sub p) n;have h3:=KO n n;have h4:=Ei (Q8 (b.sub p) n) (Q8 n n);have h5:=EA n (Q8 (b.sub p) n/Q8 n n);have h6:=ZD p (n.scale (Q8 (b.sub p) n/Q8 n n));unfold U9;omega
theorem iL {K:Nat}{s t:Rat}(hs:qb s≤K)(ht:qb t≤K)(hK:2≤K):qb (Tj s t)≤K∧qb (Th s t)≤K∧qb (NG s t)≤K∧qb (N0 s t)≤K:=by
 have z:=AY;have o:qb 1≤2:=by decide +kernel
 have h1:qb (NG s t)≤K:=by unfold NG;split <;> assumption
 have h2:qb (N0 s t)≤K:=by unfold N0;split <;> assumption
 refine⟨?_,?_,h1,h2⟩
 ·unfold Tj;split
  ·omega
  ·exact h1
 ·unfold Th;split
  ·omega
  ·exact h2
theorem rX {c:Nat}(L:List V2)(h:QN L c)(f r:Rat)(i j:Nat):∀g∈P1 L f r i j,VG c f r g:=by
 intro g hg;unfold P1 Im at hg;obtain⟨x,hx,rfl⟩:=List.mem_map.1 hg;have h1:=h i;have h2:vb (Kx L i)≤c:=h ((i+1)%L.length);have h3:=h j;have h4:vb (Kx L j)≤c:=h ((j+1)%L.length);have hn:=Od (L.getD i v0) (Kx L i);have hd:=QO (Kx L i) (L.getD i v0)
 split at hx
 ·rename_i hc
  split at hx
  ·rw[Option.mem_toList]at hx
   cases hx;have s1:=CE (L.getD i v0) ((Kx L i).sub (L.getD i v0)) (L.getD j v0) h1 (by omega) h3;have s2:=CE (L.getD i v0) ((Kx L i).sub (L.getD i v0)) (Kx L j) h1 (by omega) h4;obtain⟨l1,l2,_,_⟩:=iL s1 s2 (by omega);have hd2:vb ((Kx L i).sub (L.getD i v0))≤2*c+1:=by omega
   have hn2:vb (HZ (L.getD i v0) (Kx L i))≤2*c+1:=by omega
   have hp:=VH (a:=L.getD i v0) (d:=(Kx L i).sub (L.getD i v0)) h1 hd2 l1 l2;have hq:=VI (c:=c) (n:=HZ (L.getD i v0) (Kx L i)) hp hn2 h3;refine⟨Nat.le_trans hp (by omega),Nat.le_trans hq (by omega),hn2,fun e=>?_,rfl,rfl⟩;have e:HZ (L.getD i v0) (Kx L i)=v0:=e;have:=hc.2;have e2:(JJ L i).i=v0:=e;rw[e2]at this;unfold Q8 v0 at this;grind
  ·simp at hx
 ·simp at hx
theorem Wq {c:Nat}(L:List V2)(h:QN L c)(f r:Rat)(i:Nat):∀k,∀g∈Zk L f r i k,VG c f r g
 |0,g,hg=>by simp[Zk]at hg
 |k+1,g,hg=>by
  rcases List.mem_append.1 (show g∈Zk L f r i k ++ P1 L f r i (i+1+k)from hg)with hg |hg
  ·exact Wq L h f r i k g hg
  ·exact rX L h f r i _ g hg
theorem VJ {c:Nat}(L:List V2)(h:QN L c)(f r:Rat):∀i,∀g∈Bh L f r i,VG c f r g
 |0,g,hg=>by simp[Bh]at hg
 |i+1,g,hg=>by
  rcases List.mem_append.1 (show g∈Bh L f r i ++ Zk L f r i (L.length-(i+1))from hg)with hg |hg
  ·exact VJ L h f r i g hg
  ·exact Wq L h f r i _ g hg
theorem VK {c:Nat}(L:List V2)(h:QN L c)(f r:Rat):∀g∈ZH L f r,VG c f r g:=by
 unfold ZH
 split
 ·exact VJ L h f r _
 ·intro g hg;simp at hg
theorem T9 {α:Type}(e:α→List AV)(s:Nat)(d:α)(f:Nat→AV)(t:Bool):Weak (.sl 0 0 f t) (jX e s d []):=JK rfl (by simp) fun j hj=>absurd hj (by simp)
theorem nQ (x:Rat):x/Rat.divInt 2 1=x*Rat.divInt 1 2:=by
 rw[Rat.div_def,show(Rat.divInt 2 1)⁻¹=Rat.divInt 1 2 by decide +kernel]
theorem sK:Rat.divInt 1 1=1:=by decide +kernel
theorem uY (m:Rat):N0 m 0=if m<0 then 0 else m:=by
 unfold N0;by_cases h:m<0
 ·rw[if_pos h,if_neg (by grind)]
 ·rw[if_neg h]
  by_cases h2:0<m
  ·rw[if_pos h2]
  ·rw[if_neg h2];grind
theorem uQ (m:Rat):NG m 1=if 1<m then 1 else m:=rfl
theorem Nu (L:List V2)(f r:Rat)(i:Nat):Bh L f r (i+1)=Bh L f r i ++ Zk L f r i (L.length-(i+1)):=rfl
theorem Sz {H:List AO}{id ver n:Nat}(l:List GG)(ho:H[id]?=some (.row ver (l.length*32) (XD gC 32 gZ l))) (hn:n=l.length):Zs H (.osl id ver 32 0 n) (cH l):=by
 subst hn;rw[Q0];refine Z2 (.inl ho) (by omega) (fun h=>by rw[h]) fun j hj=>?_
 rw[Nat.zero_add];exact(Xe (KB _) _).sees _
theorem jH {c:Nat}(L:List V2)(f r:Rat)(h:QN L c)(hc:c≤18)(hl:L.length≤13)(hf:qb f≤40)(hr:qb r≤40):Fn Tryz.prog 47 [Ql L,qA f,qA r] (cH (ZH L f r)):=by
 have c1:=GE L (fun i=>Nat.le_trans (h i) (by omega)) (by omega);have c2:=jI f r (by unfold rm;omega) (by unfold rm;omega);obtain⟨R,hR⟩:∃R,R=ZH L f r:=⟨_,rfl⟩
 have sR:=Ep R;rw[←hR];unfold ZH at hR;generalize Ba f r=J at *;refine Fq Tryz.call47 Tryz.func47 18 [] [18,19012,19,20004,20006,20008,20009] [] (by simp[Xq,Xa]) (Xk ?_);simp(disch:=omega)only[AS.start,X7,qA,qC,↓Xd,wG,seval];refine X0 c1 ⟨by rw[X7];exact Weak.rfl' _,trivial⟩ ?_;simp(disch:=omega)only[↓Xd,wG,seval];have nil:∀ (s:AS),s.get 6=.sl 0 0 (fun _=>.any) true→R=[]→RetOk (Ju Tryz.prog Tryz.f47 [18,19012,19,20004,20006,20008,20009] [] (cH R)) s:=fun s hs e=>C4 rfl (by rw[hs];exact XF sR (by rw[e];exact T9 gC 32 gZ _ _))
 refine⟨fun hp=>nil _ rfl (by rw[hR,if_neg fun h=>hp h.1]),fun hp=>?_⟩;refine X0 c2 (X2 _) ?_;simp(disch:=omega)only[↓Xd,wG,seval];refine⟨fun hj=>nil _ rfl (by rw[hR,if_neg fun h=>by rw[h.2]at hj;exact absurd hj (by simp)]),fun hj=>?_⟩;have hj:J=true:=by simpa using hj
 rw[if_pos ⟨hp,hj⟩]at hR;have bV:∀q,Jq q (Ql L)=True:=fun q=>eq_true (X6 (Xq L))
 have bP:∀q x,Jq q (Jx x)=True:=fun q x=>eq_true (X6 (XI fun j _=>Xe (QJ x) j))
 have bO:∀q i x,Qa q (.con i 4 (Xf (qC x)))=True:=fun q i x=>eq_true fun j _=>X6 (Xe (QJ x) j)
 have bR:∀q i n l,Qa q (.row i n (XD gC 32 gZ l))=True:=fun q i n l=>eq_true fun j _=>X6 (Xe (KB _) _)
 have fl:=fun i=>E7 L f r i
 refine Run.sub ?_ (XC 0 rfl);refine Run.sub ?_ (XC 1 rfl);refine Run.sub ?_ (Xy 4 rfl rfl (by omega));refine Run.sub ?_ (Xy 5 rfl rfl (by omega));refine Run.sub ?_ (Kk 7 32 (XD gC 32 gZ []) rfl);refine Xj (fun i:Nat=>⟨18,[],[Ql L,.any,.any,.any,Jx f,Jx r,.any,.osl 2 (Bh L f r i).length 32 0 (Bh L f r i).length,I i,.any,.any,.any,.any,.any,.any,.any,.any,.any],[],[.con 0 4 (Xf (qC f)),.con 0 4 (Xf (qC r)),.row (Bh L f r i).length ((Bh L f r i).length*32) (XD gC 32 gZ (Bh L f r i))]⟩) (fun i=>i≤L.length) (fun i=>L.length-i) 0 (by omega)
  (Xi rfl ⟨.inr (X7 L).symm,.inl rfl,.inl rfl,.inl rfl,.inr rfl,.inr rfl,.inl rfl,.inr rfl,.inr rfl,.inl rfl,.inl rfl,.inl rfl,.inl rfl,.inl rfl,.inl rfl,.inl rfl,.inl rfl,.inl rfl,trivial⟩ trivial rfl) ?_
 intro i hi next
 have w1:=wj i (by omega);by_cases hi2:i<L.length
 rotate_left
 ·obtain rfl:i=L.length:=by omega
  refine Xk ?_;simp(disch:=omega)only[X7,↓Xd,wG,seval];exact C4 rfl (by rw[hR];exact Sz _ rfl rfl)
 have nx:=next (i+1)
 rw[Nu]at nx;have f1:(i<L.length)=True:=eq_true hi2;refine Xk ?_;simp(disch:=omega)only[X7,w1,f1,↓Xd,wG,seval];generalize hF:Bh L f r i=F at *;refine Xj (fun k:Nat=>⟨18,[],[Ql L,.any,.any,.any,Jx f,Jx r,.any,.osl 2 (F ++ Zk L f r i k).length 32 0 (F ++ Zk L f r i k).length,I i,I (i+1+k:Nat),.any,.any,.any,.any,.any,.any,.any,.any],[],[.con 0 4 (Xf (qC f)),.con 0 4 (Xf (qC r)),.row (F ++ Zk L f r i k).length ((F ++ Zk L f r i k).length*32) (XD gC 32 gZ (F ++ Zk L f r i k))]⟩) (fun k=>k≤L.length-(i+1)) (fun k=>L.length-k) 0 (by omega)
  (Xi rfl ⟨.inr (X7 L).symm,.inl rfl,.inl rfl,.inl rfl,.inr rfl,.inr rfl,.inl rfl,.inr (by simp[Zk]),.inr rfl,.inr rfl,.inl rfl,.inl rfl,.inl rfl,.inl rfl,.inl rfl,.inl rfl,.inl rfl,.inl rfl,trivial⟩ trivial (by simp only[Zk,List.append_nil];rfl)) ?_
 intro k hk nextk;have w2:=wj (i+1+k) (by omega);by_cases hk2:i+1+k<L.length
 rotate_left
 ·obtain rfl:k=L.length-(i+1):=by omega
  refine Xk ?_;simp(disch:=omega)only[X7,w1,w2,↓Xd,wG,seval];exact nx _ (by omega) (by omega) (BA (by simp[Xm,I,X7]) rfl)
 have nk:=nextk (k+1);rw[show Zk L f r i (k+1)=Zk L f r i k ++ P1 L f r i (i+1+k)from rfl,←List.append_assoc]at nk;have hln:(F ++ Zk L f r i k).length≤1000:=by
  have g1:=fl i;have g2:=GJ L f r i k;rw[hF]at g1;have g3:L.length*i≤13*13:=Nat.mul_le_mul hl (by omega);rw[List.length_append];omega
 generalize F ++ Zk L f r i k=G at *;clear hF next nextk fl
 have hk3:i+1+k<1000:=by omega
 generalize hj':i+1+k=j at *;have f2:(j<L.length)=True:=eq_true hk2;have hg:P1 L f r i j=((Im (JJ L i) (JJ L j)).toList).map fun x=>⟨x.1,x.2,HZ (L.getD i v0) (Kx L i),f,r⟩:=rfl
 have v1:=vF L i;have v2:=vF L j;have h7:QN L 1000:=fun i=>Nat.le_trans (h i) (by omega)
 have d1:=Dy L i h7 (by omega) hi2;have d2:=Dy L j h7 (by omega) hk2;have d3:=NY L i (L.getD j v0) h hc (by omega) hi2 (h j);have d4:=NY L i (Kx L j) h hc (by omega) hi2 (h _);have d5:=Bq L j (by omega) hk2;have d6:=Bq L i (by omega) hi2;have e1:L.getD ((i+1)%L.length) v0=Kx L i:=rfl;have e2:L.getD ((j+1)%L.length) v0=Kx L j:=rfl;rw[e2]at d5;rw[e1]at d6;have h1:=h i;have h2:vb (Kx L i)≤c:=h ((i+1)%L.length);have h3:=h j;have h4:vb (Kx L j)≤c:=h ((j+1)%L.length);have hs1:JJ L i=⟨L.getD i v0,Kx L i,HZ (L.getD i v0) (Kx L i)⟩:=rfl;have hs2:JJ L j=⟨L.getD j v0,Kx L j,HZ (L.getD j v0) (Kx L j)⟩:=rfl;rw[hs1,hs2]at hg;unfold Im Ge Gf Rl at hg;simp only at hg;generalize L.getD i v0=a at *;generalize Kx L i=a' at *;generalize L.getD j v0=b at *;generalize Kx L j=b' at *;have m1:=Od a a';have m2:=Od b b';generalize HZ a a'=n at *;generalize HZ b b'=m at *;have m3:=QO a' a;have m4:=QO b a;have u1:=oF m n (by omega) (by omega);have u2:=QM b a (by unfold rm;omega) (by unfold rm;omega);have u3:=K4 (b.sub a) n (by unfold vm;omega) (by unfold vm;omega);have m5:=KO (b.sub a) n;have u4:=JU (Q8 (b.sub a) n) (by unfold rm;omega);have s5:(Q8 (b.sub a) n).num.sign≤0↔Q8 (b.sub a) n≤0:=by
  have:=Ph (Q8 (b.sub a) n);rw[←Int.not_lt,this,Rat.not_lt]
 have u5:=QM a' a (by unfold rm;omega) (by unfold rm;omega);have k1:=CE a (a'.sub a) b h1 (by omega) h3;have k2:=CE a (a'.sub a) b' h1 (by omega) h4;generalize hD:a'.sub a=D at *;refine Xk ?_;simp(disch:=omega)only[X7,w1,w2,f1,f2,v1,v2,↓Xd,wG,seval];refine X0 d1 ⟨by rw[X7];exact Weak.rfl' _,Weak.rfl' _,trivial⟩ ?_;simp(disch:=omega)only[vA,vC,X7,w1,w2,f1,f2,v1,v2,↓Xd,wG,seval];refine X0 d2 ⟨by rw[X7];exact Weak.rfl' _,Weak.rfl' _,trivial⟩ ?_;simp(disch:=omega)only[vA,vC,X7,w1,w2,f1,f2,v1,v2,↓Xd,wG,seval];refine X0 u1 (X2 _) ?_;simp(disch:=omega)only[vA,vC,qA,qC,X7,w1,w2,f1,f2,v1,v2,↓Xd,wG,seval];refine⟨fun ho=>?_,fun ho=>?_⟩
 ·rw[if_neg fun q=>ho q.1]at hg
  replace hg:P1 L f r i j=[]:=hg;rw[hg,List.append_nil]at nk;exact nk _ (by omega) (by omega) (ta (m:=3) (by simp[X7,Xm,I];omega) rfl (by simp[XW,bV,bP]) (by simp[bO,bR]))
 refine X0 u2 (X2 _) ?_;simp(disch:=omega)only[vA,vC,qA,qC,X7,w1,w2,f1,f2,v1,v2,↓Xd,wG,seval];refine X0 u3 (X2 _) ?_;simp(disch:=omega)only[vA,vC,qA,qC,X7,w1,w2,f1,f2,v1,v2,↓Xd,wG,seval];refine X0 u4 (X2 _) ?_;simp(disch:=omega)only[vA,vC,qA,qC,X7,w1,w2,f1,f2,v1,v2,↓Xd,wG,seval];refine⟨fun ho2=>?_,fun ho2=>?_⟩
 ·rw[if_neg fun q=>by rw[s5]at ho2;exact absurd q.2 (Rat.not_lt.2 ho2)]at hg
  replace hg:P1 L f r i j=[]:=hg;rw[hg,List.append_nil]at nk;exact nk _ (by omega) (by omega) (ta (m:=3) (by simp[X7,Xm,I];omega) rfl (by simp[XW,bV,bP]) (by simp[bO,bR]))
 rw[if_pos ⟨ho,Rat.not_le.1 fun q=>ho2 (s5.2 q)⟩]at hg;generalize Ae a D b=s at *;generalize Ae a D b'=t at *;obtain⟨l1,l2,l3,l4⟩:=iL k1 k2 (by omega);have u6:=O3 s t (by unfold rm;omega) (by unfold rm;omega);have u8:=O2 s t (by unfold rm;omega) (by unfold rm;omega);have u7:=O2 (NG s t) 0 (by unfold rm;omega) (by unfold rm;exact Nat.le_trans AY (by omega));rw[uY,show(if NG s t<0 then 0 else NG s t)=Tj s t from rfl]at u7;have o1:=XP 1 1 ⟨by omega,by omega⟩ ⟨by omega,by omega⟩;rw[sK]at o1;have u9:=O3 (N0 s t) 1 (by unfold rm;omega) (by unfold rm;decide +kernel);rw[uQ,show(if 1<N0 s t then 1 else N0 s t)=Th s t from rfl]at u9;have u10:=Z1 (Tj s t) (Th s t) (by unfold rm;omega) (by unfold rm;omega);refine X0 d3 ⟨by rw[X7];exact Weak.rfl' _,Weak.rfl' _,Weak.rfl' _,trivial⟩ ?_;simp(disch:=omega)only[vA,vC,qA,qC,X7,w1,w2,f1,f2,v1,v2,↓Xd,wG,seval];refine X0 d5 ⟨by rw[X7];exact Weak.rfl' _,Weak.rfl' _,trivial⟩ ?_;simp(disch:=omega)only[vA,vC,qA,qC,X7,w1,w2,f1,f2,v1,v2,↓Xd,wG,seval];refine X0 d4 ⟨by rw[X7];exact Weak.rfl' _,Weak.rfl' _,Weak.rfl' _,trivial⟩ ?_;simp(disch:=omega)only[vA,vC,qA,qC,X7,w1,w2,f1,f2,v1,v2,↓Xd,wG,seval];refine X0 u6 (X2 _) ?_;simp(disch:=omega)only[vA,vC,qA,qC,X7,w1,w2,f1,f2,v1,v2,↓Xd,wG,seval];refine X0 u7 ⟨Weak.rfl' _,ZR (Kd _),trivial⟩ ?_;simp(disch:=omega)only[vA,vC,qA,qC,X7,w1,w2,f1,f2,v1,v2,↓Xd,wG,seval];refine X0 u8 (X2 _) ?_;simp(disch:=omega)only[vA,vC,qA,qC,X7,w1,w2,f1,f2,v1,v2,↓Xd,wG,seval];refine X0 o1 (X2 _) ?_;simp(disch:=omega)only[vA,vC,qA,qC,X7,w1,w2,f1,f2,v1,v2,↓Xd,wG,seval];refine X0 u9 (X2 _) ?_;simp(disch:=omega)only[vA,vC,qA,qC,X7,w1,w2,f1,f2,v1,v2,↓Xd,wG,seval];refine X0 u10 (X2 _) ?_;simp(disch:=omega)only[vA,vC,qA,qC,X7,w1,w2,f1,f2,v1,v2,↓Xd,wG,seval];have s6:=Pc (Tj s t) (Th s t);refine⟨fun ho3=>?_,fun ho3=>?_⟩
 ·rw[if_neg fun q=>absurd (s6.1 ho3) (Rat.not_le.2 q)]at hg
  replace hg:P1 L f r i j=[]:=hg;rw[hg,List.append_nil]at nk;exact nk _ (by omega) (by omega) (ta (m:=3) (by simp[X7,Xm,I];omega) rfl (by simp[XW,bV,bP]) (by simp[bO,bR]))
 have hlt:Tj s t<Th s t:=Rat.not_le.1 fun q=>ho3 (s6.2 q)
 rw[if_pos hlt]at hg;generalize Tj s t=lo at *;generalize Th s t=hi at *;have u11:=K5 lo hi (by unfold rm;omega) (by unfold rm;omega);have o2:=XP 2 1 ⟨by omega,by omega⟩ ⟨by omega,by omega⟩;have q2:=Fm 2 1 (by omega) (by omega);have q3:=ZA lo hi;have u12:=Du (lo+hi) (Rat.divInt 2 1) (by unfold vm;omega) (by unfold vm;omega);rw[nQ]at u12;have q4:=Qk (lo+hi) (Rat.divInt 1 2);have q5:=Fm 1 2 (by omega) (by omega);have hp:=VH (a:=a) (d:=D) h1 (by omega) l1 l2;have hq:=VI (p:=MX a D lo hi) (n:=n) (b:=b) hp (by omega) h3;have u13:=Ap D ((lo+hi)*Rat.divInt 1 2) (by unfold vm;omega) (by unfold vm;omega);have q6:=EA D ((lo+hi)*Rat.divInt 1 2);have u14:=Je a (D.scale ((lo+hi)*Rat.divInt 1 2)) (by unfold vm;omega) (by unfold vm;omega);rw[show a.add (D.scale ((lo+hi)*Rat.divInt 1 2))=MX a D lo hi from rfl]at u14;generalize MX a D lo hi=p at *;have q7:=QO b p;have u15:=QM b p (by unfold rm;omega) (by unfold rm;omega);have u16:=K4 (b.sub p) n (by unfold vm;omega) (by unfold vm;omega);have u17:=K4 n n (by unfold vm;omega) (by unfold vm;omega);have q8:=KO (b.sub p) n;have q9:=KO n n;have u18:=Du (Q8 (b.sub p) n) (Q8 n n) (by unfold vm;omega) (by unfold vm;omega);have q10:=Ei (Q8 (b.sub p) n) (Q8 n n);have u19:=Ap n (Q8 (b.sub p) n/Q8 n n) (by unfold vm;omega) (by unfold vm;omega);have q11:=EA n (Q8 (b.sub p) n/Q8 n n);have u20:=Je p (n.scale (Q8 (b.sub p) n/Q8 n n)) (by unfold vm;omega) (by unfold vm;omega);rw[show p.add (n.scale (Q8 (b.sub p) n/Q8 n n))=U9 p n b from rfl]at u20;generalize U9 p n b=q at *;generalize Q8 (b.sub p) n/Q8 n n=far at *;generalize (lo+hi)*Rat.divInt 1 2=mid at *;refine X0 u11 (X2 _) ?_;simp(disch:=omega)only[vA,vC,qA,qC,X7,w1,w2,f1,f2,v1,v2,↓Xd,wG,seval];refine X0 o2 (X2 _) ?_;simp(disch:=omega)only[vA,vC,qA,qC,X7,w1,w2,f1,f2,v1,v2,↓Xd,wG,seval];refine X0 u12 (X2 _) ?_;simp(disch:=omega)only[vA,vC,qA,qC,X7,w1,w2,f1,f2,v1,v2,↓Xd,wG,seval];refine X0 d6 ⟨by rw[X7];exact Weak.rfl' _,Weak.rfl' _,trivial⟩ ?_;simp(disch:=omega)only[vA,vC,qA,qC,X7,w1,w2,f1,f2,v1,v2,↓Xd,wG,seval];refine X0 u5 (X2 _) ?_;simp(disch:=omega)only[vA,vC,qA,qC,X7,w1,w2,f1,f2,v1,v2,↓Xd,wG,seval];refine X0 u13 (X2 _) ?_;simp(disch:=omega)only[vA,vC,qA,qC,X7,w1,w2,f1,f2,v1,v2,↓Xd,wG,seval];refine X0 u14 (X2 _) ?_;simp(disch:=omega)only[vA,vC,qA,qC,X7,w1,w2,f1,f2,v1,v2,↓Xd,wG,seval];refine X0 u15 (X2 _) ?_;simp(disch:=omega)only[vA,vC,qA,qC,X7,w1,w2,f1,f2,v1,v2,↓Xd,wG,seval];refine X0 u16 (X2 _) ?_;simp(disch:=omega)only[vA,vC,qA,qC,X7,w1,w2,f1,f2,v1,v2,↓Xd,wG,seval];refine X0 u17 (X2 _) ?_;simp(disch:=omega)only[vA,vC,qA,qC,X7,w1,w2,f1,f2,v1,v2,↓Xd,wG,seval];refine X0 u18 (X2 _) ?_;simp(disch:=omega)only[vA,vC,qA,qC,X7,w1,w2,f1,f2,v1,v2,↓Xd,wG,seval];refine X0 u19 (X2 _) ?_;simp(disch:=omega)only[vA,vC,qA,qC,X7,w1,w2,f1,f2,v1,v2,↓Xd,wG,seval];refine X0 u20 (X2 _) ?_;simp(disch:=omega)only[vA,vC,qA,qC,X7,w1,w2,f1,f2,v1,v2,Jx,↓Xd,wG,seval];replace hg:P1 L f r i j=[⟨p,q,n,f,r⟩]:=hg;have hap:=Az gC 32 gZ G ⟨p,q,n,f,r⟩ (by omega);rw[hg]at nk;rw[show(G ++ [(⟨p,q,n,f,r⟩:GG)]).length=G.length+1 by simp]at nk;exact⟨fun j hj=>ia ⟨p,q,n,f,r⟩ j hj,nk _ (by omega) (by omega) (ta (m:=3) (by simp[X7,Xm,I,Jx];exact⟨rfl,rfl,by omega⟩) (by rw[←hap];rfl) (by simp[XW,bV,bP]) (by simp[bO,bR]))⟩
def HW (L:List V2)(g:GG):Int :=
 if Bk L∧Zo g=true then(if(K8 L).any (Dh g)=true∧(K8 L).any (Bx g)=true then 0 else 17)else 1
theorem td (L:List V2)(h:QN L 1000)(i:Nat):te (JJ L i) 10000:=by
 have h1:=h i;have h2:vb (Kx L i)≤1000:=h ((i+1)%L.length);have h3:=Od (L.getD i v0) (Kx L i);refine⟨?_,?_,?_⟩
 ·show vb (L.getD i v0)≤_;omega
 ·show vb (Kx L i)≤_;omega
 ·show vb (HZ (L.getD i v0) (Kx L i))≤_;omega
theorem ij (L:List V2)(g:GG)(h:QN L 1000)(hl:L.length<1000000)(hg:vO g)(hv:vb g.p≤10000∧vb g.q≤10000∧vb g.n≤10000):Fn Tryz.prog 15 [Ql L,gA g] (I (HW L g)):=by
 obtain⟨g1,g2,g3⟩:=id hv;have c1:=Hx L h hl;have c2:=LG g hg;have c3:=Nz L h hl;have hm:∀x∈K8 L,te x 10000:=fun x hx=>by
  unfold K8 AK at hx;obtain⟨i,_,rfl⟩:=List.mem_map.1 hx;exact td L h i
 have hlen:(K8 L).length<1000000:=by unfold K8;rw[DF];exact hl
 have c4:=G6 (K8 L) 65 [gP g] (Dh g) hlen (fun a ha=>List.mem_singleton.1 ha▸DD g) fun x hx=>gw g x (hm x hx) ⟨by omega,by omega⟩
 have c5:=G6 (K8 L) 68 [gP g] (Bx g) hlen (fun a ha=>List.mem_singleton.1 ha▸DD g) fun x hx=>b9 g x (hm x hx) ⟨by omega,by omega⟩
 have hd:HW L g=if Bk L∧Zo g=true then(if(K8 L).any (Dh g)=true∧(K8 L).any (Bx g)=true then 0 else 17)else 1:=rfl;generalize HW L g=R at *;generalize (K8 L).any (Dh g)=b1 at *;generalize (K8 L).any (Bx g)=b2 at *;have gf:=gF g;refine Fn.intro (fn:=Tryz.f15) Tryz.call15 Tryz.func15 rfl mixed 8 [] [] [] (by kernel_rfl) (Nat.le_of_ble_eq_true rfl) (JY (Xq L) (Jh g)) (XG 8 ?_);simp(disch:=omega)only[AS.start,gA,QK,X7,↓Xd,wG,seval];refine Run.sub ?_ (XC 0 rfl);refine Run.sub ?_ (Xy 3 rfl rfl (by omega));refine Xk ?_;simp(disch:=omega)only[AS.put,List.set,↓Xd,wG,seval];refine X0 c1 ⟨by rw[X7];exact Weak.rfl' _,trivial⟩ ?_;simp(disch:=omega)only[↓Xd,wG,seval];refine⟨fun h1=>?_,fun h1=>?_⟩
 ·exact Xo (v:=I 1) rfl rfl (Xb _) (by rw[hd,if_neg fun h=>h1 h.1])
 refine X0 c2 (X2 _) ?_;simp(disch:=omega)only[↓Xd,wG,seval];refine⟨fun h2=>?_,fun h2=>?_⟩
 ·exact Xo (v:=I 1) rfl rfl (Xb _) (by rw[hd,if_neg fun h=>by rw[h.2]at h2;exact absurd h2 (by simp)])
 have h2:Zo g=true:=by simpa using h2
 rw[if_pos ⟨h1,h2⟩]at hd;refine X0 c3 ⟨by rw[X7];exact Weak.rfl' _,trivial⟩ ?_;simp(disch:=omega)only[↓Xd,wG,seval];cases b1
 ·refine X0 c4 (X2 _) ?_
  simp(disch:=omega)only[↓Xd,wG,seval];exact Xo (v:=I 17) rfl rfl (Xb _) (by rw[hd];rfl)
 ·refine X0 c4 (X2 _) ?_
  simp(disch:=omega)only[↓Xd,wG,seval];cases b2
  ·refine X0 c5 (X2 _) ?_
   simp(disch:=omega)only[↓Xd,wG,seval];exact Xo (v:=I 17) rfl rfl (Xb _) (by rw[hd];rfl)
  ·refine X0 c5 (X2 _) ?_
   simp(disch:=omega)only[↓Xd,wG,seval];exact Xo (v:=I 0) rfl rfl (Xb _) (by rw[hd];rfl)
theorem VQ (L:List V2)(g:GG)(h:QN L 1000)(hl:L.length<1000000)(hg:gS g):Fn Tryz.prog 15 [Ql L,gA g] (I (HW L g)):=by
 obtain⟨g1,g2,g3,g4,g5⟩:=id hg;exact ij L g h hl hg.ok ⟨by omega,by omega,by omega⟩
theorem KJ {P:Program}{T id n:Nat}{Z:List AV}{H:List AO}(hk:Cc P T=some (some n)) (ho:H[id]?=some (.row 0 n (Xf Z))) (hn:Z.length=n):Qm P false T (.ref id 0 0) H=some (.agg Z):=by
 subst hn;rw[AR,hk,JZ,ho,K0,aO,Hd Z _ _ (by omega)];simp[Q4]
theorem kD {Z W:List AV}(h:W.length=Z.length):FQ (Xf Z) 0 W=Xf W:=funext fun j=>by
 rw[Ey];by_cases hj:j<W.length
 ·rw[if_pos ⟨Nat.zero_le _,by omega⟩,Nat.sub_zero];rfl
 ·rw[if_neg (by omega)]
  unfold Xf;rw[List.getD_eq_getElem?_getD,List.getD_eq_getElem?_getD,List.getElem?_eq_none (by omega),List.getElem?_eq_none (by omega)]
theorem K1 {P:Program}{T id n:Nat}{Z W:List AV}{H:List AO}(ht:KI P T=some n)(ho:H[id]?=some (.row 0 n (Xf Z))) (hz:Z.length=n) (hw:W.length=n) (h0:n≠0) (h1:W.all AV.one=true):KU P false T (.ref id 0 0) (.agg W) H=some (H.set id (.row 0 n (Xf (W.map AV.loose)))):=by
 subst hz;have e:Z8 false (.agg W)=W.map AV.loose:=rfl;have hc:(AV.agg W).cells=W:=rfl;unfold KU;simp only[ho];unfold Q4;rw[if_pos ⟨trivial,by rw[ht,hc,hw],by rw[hc];exact fun g=>by rw[g]at hw;exact h0 hw.symm,by rw[hc,hw];omega,by rw[hc];exact h1⟩,e,kD (by rw[List.length_map,hw])]
def zC (t:Bool):List AV:=[.bool false,.sl 0 0 (fun _=>.any) t,.bool false,.sl 0 0 (fun _=>.any) t,.bool false,.sl 0 0 (fun _=>.any) t,.bool false,.sl 0 0 (fun _=>.any) t]
def zO (t:Bool):AO:=.row 0 8 (Xf (zC t))
def rV (o:Option (V2×V2)):AV:=.tup [vA (o.getD (v0,v0)).1,vA (o.getD (v0,v0)).2,.bool o.isSome]
def pY (a b:Sd)(D:V2)(mn mx lo hi:Rat):AS:=⟨14,[],[.any,.any,oO a,oO b,.ref 2 0 0,.ref 3 0 0,.bool false,vP D,.any,.any,.ref 6 0 0,.ref 7 0 0,.any,.any],[],[.con 0 24 (Xf (AG a)),.con 0 24 (Xf (AG b)),zO true,zO true,.con 0 8 (Xf (vC D)),.con 0 8 (Xf (qC mn ++ qC mx)),.row 0 4 (Xf (qC lo)),.row 0 4 (Xf (qC hi))]⟩
theorem oc:Rat.divInt 1 1=1:=by decide +kernel
def pZ (a b:Sd)(D:V2)(mn mx lo hi:Rat):AS:=⟨14,[],[.any,.any,oO a,oO b,.ref 2 0 0,.ref 3 0 0,.bool false,vP D,.any,.any,.ref 6 0 0,.ref 7 0 0,.any,.any],[],[.con 0 24 (Xf (AG a)),.con 0 24 (Xf (AG b)),zO true,zO true,.con 0 8 (Xf (vC D)),.con 0 8 (Xf (qC mn ++ qC mx)),.row 0 4 (Xf (qC lo)),.row 0 4 (Xf (qC hi)),.row 0 4 (Xf (qC 1))]⟩
theorem qk {α:Type}{X:Env}{K:List Item}{Q:Prop}(P:α→Prop)(st:α→AS)(h1:(∀a,P a→Run X K (st a))→Q) (h2:∀a,P a→Run X K (st a)):Q:=h1 h2
theorem SR {m:Nat}{s:AS}(id:Nat){ver n:Nat}{l:List AV}(l':List AV)(ho:s.h[id]?=some (.row ver n (Xf l))) (hn:n=l.length) (h:WeakL l l'):Sub m s { s with h:=s.h.set id (.row ver n (Xf l')) } :=
 Qo id (Xf l') ho fun j hj c v _ _ hv=>(WeakL.spec h).2 j (by omega) v hv
theorem YO {c:Nat}(a b:Sd)(hc:c≤18)(a1:vb a.a≤c)(a2:vb a.b≤c)(a3:vb a.i≤2*c+1)(b1:vb b.a≤c)(b2:vb b.b≤c)(b3:vb b.i≤2*c+1)(h0:a.a≠a.b):Fn Tryz.prog 116 [UQ a,UQ b] (rV (Im a b)):=by
 have m1:=QO b.a a.a;have hDv:=QO a.b a.a;have hd0:Q8 (a.b.sub a.a) (a.b.sub a.a)≠0:=fun e=>h0 (by
  unfold Q8 V2.sub at e;obtain⟨e1,e2⟩:=wx e;cases ha:a.a;cases hb:a.b;rw[ha,hb]at e1 e2;simp only[V2.mk.injEq]at *;exact⟨by grind,by grind⟩)
 have u1:=VP b.i a.i (by unfold vm;omega) (by unfold vm;omega);have u2:=AX b.a a.a (by unfold rm;omega) (by unfold rm;omega);have u3:=Dm (b.a.sub a.a) a.i (by unfold vm;omega) (by unfold vm;omega);have u4:=Qe (Q8 (b.a.sub a.a) a.i);obtain⟨R,hR⟩:∃R,R=rV (Im a b):=⟨_,rfl⟩
 rw[←hR];have u5:=AX a.b a.a (by unfold rm;omega) (by unfold rm;omega);have u6:=LA a (a.b.sub a.a) b.a (by omega) (by omega) (by omega) hd0;have u7:=LA a (a.b.sub a.a) b.b (by omega) (by omega) (by omega) hd0;unfold Im at hR;unfold Ge Gf Rl at hR;have k1:=CE a.a (a.b.sub a.a) b.a a1 (by omega) b1;have k2:=CE a.a (a.b.sub a.a) b.b a1 (by omega) b2;generalize Ae a.a (a.b.sub a.a) b.a=s at *;generalize Ae a.a (a.b.sub a.a) b.b=t at *;obtain⟨l1,l2,l3,l4⟩:=iL k1 k2 (by omega);generalize hD:a.b.sub a.a=D at *;have s5:(Q8 (b.a.sub a.a) a.i).num.sign≤0↔Q8 (b.a.sub a.a) a.i≤0:=by
  have:=Ph (Q8 (b.a.sub a.a) a.i);rw[←Int.not_lt,this,Rat.not_lt]
 by_cases ho:N2 b.i a.i
 ·have tA:=JY (JW a) (JW b)
  refine Fn.intro (fn:=Tryz.f116) Tryz.call116 Tryz.func116 rfl mixed 14 [] [3000000000001,3000000000002,5,7,80000009,15000000000001,15000000000002,16,17002] [6] (by kernel_rfl) (Nat.le_of_ble_eq_true rfl) (JY (JW a) (JW b)) (XG 54 ?_);simp(disch:=omega)only[AS.start,UQ,Ar,↓Xd,wG,seval];refine X0 u1 (X2 _) ?_;simp(disch:=omega)only[↓Xd,wG,seval];simp only[ho,decide_true];simp(disch:=omega)only[↓Xd,wG,seval];refine X0 u2 (X2 _) ?_;simp(disch:=omega)only[vA,vC,↓Xd,wG,seval];refine X0 u3 (X2 _) ?_;simp(disch:=omega)only[qA,qC,↓Xd,wG,seval];refine X0 u4 (X2 _) ?_;simp(disch:=omega)only[↓Xd,wG,seval];refine⟨fun ho2=>?_,fun ho2=>?_⟩
  ·rw[if_neg fun q=>absurd q.2 (Rat.not_lt.2 (s5.1 ho2))]at hR
   rw[hR];refine XG 1 ?_;simp(disch:=omega)only[↓Xd,wG,seval];show Run _ (_ :: _) _;refine AF (fun x=>x=3) ?_;obtain⟨A,hA⟩:∃A:AO,A=.row 0 24 (Xf (AG a)):=⟨_,rfl⟩
   obtain⟨B,hB⟩:∃B:AO,B=.row 0 24 (Xf (AG b)):=⟨_,rfl⟩
   have l0:=KJ (P:=Tryz.prog) (T:=30) (id:=2) (Z:=zC true) (H:=[A,B,zO true,zO true]) Jm rfl rfl;have l1:=KJ (P:=Tryz.prog) (T:=30) (id:=3) (Z:=zC true) (H:=[A,B,zO true,zO true]) Jm rfl rfl;have l2:=K1 (P:=Tryz.prog) (T:=30) (id:=2) (Z:=zC true) (W:=zC true) (H:=[A,B,zO true,zO true]) DJ rfl rfl rfl (by decide) rfl;have l3:=K1 (P:=Tryz.prog) (T:=30) (id:=3) (Z:=zC true) (W:=zC true) (H:=[A,B,zO false,zO true]) DJ rfl rfl rfl (by decide) rfl;rw[hA,hB]at l0 l1 l2 l3;show ∃s',AExecT _ _ _ _ _ _ _ _ _ _ s'∧_;refine⟨_,⟨In rfl,_,Qt rfl rfl rfl rfl (congrArg (Option.map fun w=>(w,_)) l0),tV rfl rfl (fun o' va off e=>by cases e;rfl),_,Qt rfl rfl rfl rfl (congrArg (Option.map fun w=>(w,_)) l1),
    uP rfl rfl (fun o' va off e=>by cases e;decide),_,Qt rfl rfl rfl rfl (congrArg (Option.map fun w=>(XO,w)) l2),In rfl,_,Qt rfl rfl rfl rfl (congrArg (Option.map fun w=>(XO,w)) l3),In rfl,_,Qt (v:=.bool false) (h':=[.row 0 24 (Xf (AG a)),.row 0 24 (Xf (AG b)),zO false,zO false]) rfl rfl rfl rfl rfl,rfl⟩,?fin⟩
   refine Run.sub (s':=⟨14,[],[.any,.any,.any,.any,.ref 2 0 0,.ref 3 0 0,.bool false,.any,.any,.any,.any,.any,.any,.any],[],[A,B,zO false,zO false]⟩) ?_ (Xi rfl ⟨.inl rfl,.inl rfl,.inl rfl,.inl rfl,.inr rfl,.inr rfl,.inr rfl,.inl rfl,.inl rfl,.inl rfl,.inl rfl,.inl rfl,.inl rfl,.inl rfl,trivial⟩ trivial (by rw[hA,hB];rfl));refine Xk ?_;simp(disch:=omega)only[↓Xd,wG,seval];exact Dw (r1:=.cell 4 30) (r2:=.cell 5 30) (r3:=.tmp 6) rfl (Xs Jm rfl rfl rfl) (Xs Jm rfl rfl rfl) rfl (XF (Xt _) (DK _)) (XF (Xt _) (DK _)) (Q1 (X5 _) rfl)
  ·have hi0:a.i≠v0:=fun e=>by
    have:=ho.2;rw[e]at this;unfold Q8 v0 at this;grind
   refine XG 18 ?_;simp(disch:=omega)only[↓Xd,wG,seval];refine X0 u5 (X2 _) ?_;simp(disch:=omega)only[vA,vC,↓Xd,wG,seval];refine Run.sub ?_ (XC 0 rfl);refine Run.sub ?_ (XC 1 rfl);refine Run.sub ?_ (XC 4 rfl);refine Run.sub ?_ (Xy 2 rfl rfl (by omega));refine Run.sub ?_ (Xy 3 rfl rfl (by omega));refine Run.sub ?_ (Xy 7 rfl rfl (by omega));refine XG 71 ?_;simp(disch:=omega)only[AS.put,List.set,↓Xd,wG,seval];refine X0 u6 (X2 _) ?_;simp(disch:=omega)only[vA,vC,qA,qC,↓Xd,wG,seval];refine X0 u7 (X2 _) ?_;simp(disch:=omega)only[vA,vC,qA,qC,↓Xd,wG,seval];have hu:∀o∈[AO.con 0 24 (Xf (AG a)),.con 0 24 (Xf (AG b)),zO true,zO true,.con 0 8 (Xf (vC D))],o≠.unborn:=by simp[zO]
   have cs:=ka (.con 0 24 (Xf (AG a))) (.con 0 24 (Xf (AG b))) (zO true) (zO true) (.con 0 8 (Xf (vC D))) hu 0 s t (by unfold rm;omega) (by unfold rm;omega);refine XJ rfl cs (QE (id:=5) (o:=O6 0 s t) rfl (by simp[O6]) (by simp[O6])) (tE hu (by simp[O6])) (X2 _) ?_;have us:=Qe (NG s t);have uc:=QR (N0 s t) 1 (by unfold rm;omega) (by decide +kernel);have uo:=Cz 1 1 ⟨by omega,by omega⟩ ⟨by omega,by omega⟩;rw[oc]at uo;have uf:=QR (Tj s t) (Th s t) (by unfold rm;omega) (by unfold rm;omega);have hlo:Tj s t=if NG s t<0 then 0 else NG s t:=rfl
   have hhi:Th s t=if 1<N0 s t then 1 else N0 s t:=rfl
   generalize Tj s t=lo at *;generalize Th s t=hi at *;generalize NG s t=mn at *;generalize N0 s t=mx at *;simp(disch:=omega)only[O6,qC,zO,zC,Ar,vC,↓Xd,wG,seval];refine X0 us (X2 _) ?_;simp(disch:=omega)only[B0,↓Xd,wG,seval];apply qk (X:=Ju Tryz.prog Tryz.f116 [3000000000001,3000000000002,5,7,80000009,15000000000001,15000000000002,16,17002] [6] R) (fun _:Unit=>True) (fun _=>pY a b D mn mx lo mx)
   case h1 =>
    intro key;refine⟨fun hm=>?_,fun hm=>?_⟩
    ·rw[if_pos hm]at hlo
     refine XG 6 ?_;simp(disch:=omega)only[↓Xd,wG,seval];rw[hlo]at key;refine(key () trivial).sub (Sub.trans (SR 6 (qC 0) rfl rfl (Kd false)) (Xi rfl ⟨.inl rfl,.inl rfl,.inr rfl,.inr rfl,.inr rfl,.inr rfl,.inr rfl,.inr rfl,.inl rfl,.inl rfl,.inr rfl,.inr rfl,.inl rfl,.inl rfl,trivial⟩ trivial rfl))
    ·rw[if_neg hm]at hlo
     rw[hlo]at key;refine XG 1 ?_;simp(disch:=omega)only[↓Xd,wG,seval];exact(key () trivial).sub (Xi rfl ⟨.inl rfl,.inl rfl,.inr rfl,.inr rfl,.inr rfl,.inr rfl,.inr rfl,.inr rfl,.inl rfl,.inl rfl,.inr rfl,.inr rfl,.inl rfl,.inl rfl,trivial⟩ trivial rfl)
   case h2 =>
    intro _ _;refine XG 22 ?_;simp(disch:=omega)only[pY,oO,vP,↓Xd,wG,seval];refine X0 uo (X2 _) ?_;simp(disch:=omega)only[qA,qC,↓Xd,wG,seval];refine X0 uc (X2 _) ?_;simp(disch:=omega)only[AZ,↓Xd,wG,seval];apply qk (X:=Ju Tryz.prog Tryz.f116 [3000000000001,3000000000002,5,7,80000009,15000000000001,15000000000002,16,17002] [6] R) (fun _:Unit=>True) (fun _=>pZ a b D mn mx lo hi)
    case h1 =>
     intro key;refine⟨fun hm=>?_,fun hm=>?_⟩
     ·rw[if_pos hm]at hhi
      rw[hhi]at key;refine XG 6 ?_;simp(disch:=omega)only[↓Xd,wG,seval];exact(key () trivial).sub (Xi rfl ⟨.inl rfl,.inl rfl,.inr rfl,.inr rfl,.inr rfl,.inr rfl,.inr rfl,.inr rfl,.inl rfl,.inl rfl,.inr rfl,.inr rfl,.inl rfl,.inl rfl,trivial⟩ trivial rfl)
     ·rw[if_neg hm]at hhi
      rw[hhi]at key;refine XG 1 ?_;simp(disch:=omega)only[↓Xd,wG,seval];exact(key () trivial).sub (Xi rfl ⟨.inl rfl,.inl rfl,.inr rfl,.inr rfl,.inr rfl,.inr rfl,.inr rfl,.inr rfl,.inl rfl,.inl rfl,.inr rfl,.inr rfl,.inl rfl,.inl rfl,trivial⟩ trivial rfl)
    case h2 =>
     intro _ _;refine XG 13 ?_;simp(disch:=omega)only[pZ,oO,vP,↓Xd,wG,seval];refine X0 uf (X2 _) ?_;simp(disch:=omega)only[Pc,↓Xd,wG,seval];refine⟨fun hc=>?_,fun hc=>?_⟩
     ·rw[if_neg (Rat.not_lt.2 hc),ite_self]at hR
      rw[hR];refine XG 1 ?_;simp(disch:=omega)only[↓Xd,wG,seval];show Run _ (_ :: _) _;refine AF (fun x=>x=3) ?_;obtain⟨A,hA⟩:∃A:AO,A=.con 0 24 (Xf (AG a)):=⟨_,rfl⟩
      obtain⟨B,hB⟩:∃B:AO,B=.con 0 24 (Xf (AG b)):=⟨_,rfl⟩
      obtain⟨C,hC⟩:∃C:AO,C=.con 0 8 (Xf (vC D)):=⟨_,rfl⟩
      obtain⟨E,hE⟩:∃E:AO,E=.con 0 8 (Xf (qC mn ++ qC mx)):=⟨_,rfl⟩
      obtain⟨F,hF⟩:∃F:AO,F=.row 0 4 (Xf (qC lo)):=⟨_,rfl⟩
      obtain⟨G,hG⟩:∃G:AO,G=.row 0 4 (Xf (qC hi)):=⟨_,rfl⟩
      obtain⟨J,hJ⟩:∃J:AO,J=.row 0 4 (Xf (qC 1)):=⟨_,rfl⟩
      have l0:=KJ (P:=Tryz.prog) (T:=30) (id:=2) (Z:=zC true) (H:=[A,B,zO true,zO true,C,E,F,G,J]) Jm rfl rfl;have l1:=KJ (P:=Tryz.prog) (T:=30) (id:=3) (Z:=zC true) (H:=[A,B,zO true,zO true,C,E,F,G,J]) Jm rfl rfl;have l2:=K1 (P:=Tryz.prog) (T:=30) (id:=2) (Z:=zC true) (W:=zC true) (H:=[A,B,zO true,zO true,C,E,F,G,J]) DJ rfl rfl rfl (by decide) rfl;have l3:=K1 (P:=Tryz.prog) (T:=30) (id:=3) (Z:=zC true) (W:=zC true) (H:=[A,B,zO false,zO true,C,E,F,G,J]) DJ rfl rfl rfl (by decide) rfl;rw[hA,hB,hC,hE,hF,hG,hJ]at l0 l1 l2 l3;show ∃s',AExecT _ _ _ _ _ _ _ _ _ _ s'∧_;refine⟨_,⟨In rfl,_,Qt rfl rfl rfl rfl (congrArg (Option.map fun w=>(w,_)) l0),tV rfl rfl (fun o' va off e=>by cases e;rfl),_,Qt rfl rfl rfl rfl (congrArg (Option.map fun w=>(w,_)) l1),
       uP rfl rfl (fun o' va off e=>by cases e;decide),_,Qt rfl rfl rfl rfl (congrArg (Option.map fun w=>(XO,w)) l2),In rfl,_,Qt rfl rfl rfl rfl (congrArg (Option.map fun w=>(XO,w)) l3),In rfl,_,Qt (v:=.bool false) (h':=[.con 0 24 (Xf (AG a)),.con 0 24 (Xf (AG b)),zO false,zO false,.con 0 8 (Xf (vC D)),.con 0 8 (Xf (qC mn ++ qC mx)),.row 0 4 (Xf (qC lo)),.row 0 4 (Xf (qC hi)),.row 0 4 (Xf (qC 1))]) rfl rfl rfl rfl rfl,rfl⟩,?fin2⟩
      refine Run.sub (s':=⟨14,[],[.any,.any,.any,.any,.ref 2 0 0,.ref 3 0 0,.bool false,.any,.any,.any,.any,.any,.any,.any],[],[A,B,zO false,zO false,C,E,F,G,J]⟩) ?_ (Xi rfl ⟨.inl rfl,.inl rfl,.inl rfl,.inl rfl,.inr rfl,.inr rfl,.inr rfl,.inl rfl,.inl rfl,.inl rfl,.inl rfl,.inl rfl,.inl rfl,.inl rfl,trivial⟩ trivial (by rw[hA,hB,hC,hE,hF,hG,hJ];rfl));refine Xk ?_;simp(disch:=omega)only[↓Xd,wG,seval];exact Dw (r1:=.cell 4 30) (r2:=.cell 5 30) (r3:=.tmp 6) rfl (Xs Jm rfl rfl rfl) (Xs Jm rfl rfl rfl) rfl (XF (Xt _) (DK _)) (XF (Xt _) (DK _)) (Q1 (X5 _) rfl)
     ·rw[if_pos ⟨ho,Rat.not_le.1 fun q=>ho2 (s5.2 q)⟩,if_pos (Rat.not_le.1 hc)]at hR
      unfold U9 MX at hR;have hf:qb (Rat.divInt 1 2)≤3:=by decide +kernel
      have e1:=ZA lo hi;have w1:=Bt lo hi (by unfold rm;omega) (by unfold rm;omega);have w2:=Cz 1 2 ⟨by omega,by omega⟩ ⟨by omega,by omega⟩;have e2:=Qk (lo+hi) (Rat.divInt 1 2);have w3:=Aq (lo+hi) (Rat.divInt 1 2) (by unfold rm;omega) (by unfold rm;omega);generalize (lo+hi)*Rat.divInt 1 2=h at *;have e4:=T4 D h;have w4:=NW D h (by unfold vm;omega) (by unfold vm;omega);have e5:=ZD a.a (D.scale h);have w5:=Wa a.a (D.scale h) (by unfold vm;omega) (by unfold vm;omega);generalize a.a.add (D.scale h)=p at *;have e6:=QO b.a p;have w6:=AX b.a p (by unfold rm;omega) (by unfold rm;omega);have e7:=KO (b.a.sub p) a.i;have e8:=KO a.i a.i;have w7:=Dm (b.a.sub p) a.i (by unfold vm;omega) (by unfold vm;omega);have w8:=Dm a.i a.i (by unfold vm;omega) (by unfold vm;omega);have w9:=IG (Q8 (b.a.sub p) a.i) (Q8 a.i a.i) (fun e=>hi0 (by
       unfold Q8 at e;obtain⟨x1,x2⟩:=wx e;cases hz:a.i;rw[hz]at x1 x2;unfold v0;rw[V2.mk.injEq];exact⟨x1,x2⟩)) (by unfold rm;omega) (by unfold rm;omega)
      have e9:qb (Q8 (b.a.sub p) a.i/Q8 a.i a.i)≤qb (Q8 (b.a.sub p) a.i)+qb (Q8 a.i a.i):=by
       rw[Rat.div_def];have:=Qk (Q8 (b.a.sub p) a.i) (Q8 a.i a.i)⁻¹;have:=UE (Q8 a.i a.i);omega
      generalize Q8 (b.a.sub p) a.i/Q8 a.i a.i=k at *;have e10:=T4 a.i k;have w10:=NW a.i k (by unfold vm;omega) (by unfold vm;omega);have w11:=Wa p (a.i.scale k) (by unfold vm;omega) (by unfold vm;omega);generalize p.add (a.i.scale k)=qq at *;rw[hR];refine Xk ?_;simp(disch:=omega)only[↓Xd,wG,seval];refine X0 w1 (X2 _) ?_;simp(disch:=omega)only[qA,qC,↓Xd,wG,seval];refine X0 w2 (X2 _) ?_;simp(disch:=omega)only[qA,qC,↓Xd,wG,seval];refine X0 w3 (X2 _) ?_;simp(disch:=omega)only[qA,qC,↓Xd,wG,seval];refine X0 w4 (X2 _) ?_;simp(disch:=omega)only[vA,vC,↓Xd,wG,seval];refine X0 w5 (X2 _) ?_;simp(disch:=omega)only[vA,vC,zO,zC,Ar,↓Xd,wG,seval];refine X0 w6 (X2 _) ?_;simp(disch:=omega)only[vA,vC,zO,zC,Ar,↓Xd,wG,seval];refine X0 w7 (X2 _) ?_;simp(disch:=omega)only[qA,qC,zO,zC,Ar,↓Xd,wG,seval];refine X0 w8 (X2 _) ?_;simp(disch:=omega)only[qA,qC,zO,zC,Ar,↓Xd,wG,seval];refine X0 w9 (X2 _) ?_;simp(disch:=omega)only[qA,qC,zO,zC,Ar,↓Xd,wG,seval];refine X0 w10 (X2 _) ?_;simp(disch:=omega)only[vA,vC,zO,zC,Ar,↓Xd,wG,seval];refine X0 w11 (X2 _) ?_;simp(disch:=omega)only[vA,vC,zO,zC,Ar,↓Xd,wG,seval];exact Dw (r1:=.cell 4 30) (r2:=.cell 5 30) (r3:=.tmp 6) rfl (Xs Jm rfl rfl rfl) (Xs Jm rfl rfl rfl) rfl (Q1 (Xt _) rfl) (Q1 (Xt _) rfl) (Q1 (X5 _) rfl)
 ·simp only[ho,decide_false]at u1
  refine Fn.intro (fn:=Tryz.f116) Tryz.call116 Tryz.func116 rfl mixed 14 [] [3000000000001,3000000000002,5,7,80000009,15000000000001,15000000000002,16,17002] [6] (by kernel_rfl) (Nat.le_of_ble_eq_true rfl) (JY (JW a) (JW b)) (XG 44 ?_);simp(disch:=omega)only[AS.start,UQ,Ar,↓Xd,wG,seval];refine X0 u1 (X2 _) ?_;simp(disch:=omega)only[↓Xd,wG,seval];rw[if_neg fun q=>absurd q.1 ho]at hR;rw[hR];refine XG 1 ?_;simp(disch:=omega)only[↓Xd,wG,seval];show Run _ (_ :: _) _;refine AF (fun x=>x=3) ?_;obtain⟨A,hA⟩:∃A:AO,A=.row 0 24 (Xf (AG a)):=⟨_,rfl⟩
  obtain⟨B,hB⟩:∃B:AO,B=.row 0 24 (Xf (AG b)):=⟨_,rfl⟩
  have l0:=KJ (P:=Tryz.prog) (T:=30) (id:=2) (Z:=zC true) (H:=[A,B,zO true,zO true]) Jm rfl rfl;have l1:=KJ (P:=Tryz.prog) (T:=30) (id:=3) (Z:=zC true) (H:=[A,B,zO true,zO true]) Jm rfl rfl;have l2:=K1 (P:=Tryz.prog) (T:=30) (id:=2) (Z:=zC true) (W:=zC true) (H:=[A,B,zO true,zO true]) DJ rfl rfl rfl (by decide) rfl;have l3:=K1 (P:=Tryz.prog) (T:=30) (id:=3) (Z:=zC true) (W:=zC true) (H:=[A,B,zO false,zO true]) DJ rfl rfl rfl (by decide) rfl;rw[hA,hB]at l0 l1 l2 l3;show ∃s',AExecT _ _ _ _ _ _ _ _ _ _ s'∧_;refine⟨_,⟨In rfl,_,Qt rfl rfl rfl rfl (congrArg (Option.map fun w=>(w,_)) l0),tV rfl rfl (fun o' va off e=>by cases e;rfl),_,Qt rfl rfl rfl rfl (congrArg (Option.map fun w=>(w,_)) l1),
   uP rfl rfl (fun o' va off e=>by cases e;decide),_,Qt rfl rfl rfl rfl (congrArg (Option.map fun w=>(XO,w)) l2),In rfl,_,Qt rfl rfl rfl rfl (congrArg (Option.map fun w=>(XO,w)) l3),In rfl,_,Qt (v:=.bool false) (h':=[.row 0 24 (Xf (AG a)),.row 0 24 (Xf (AG b)),zO false,zO false]) rfl rfl rfl rfl rfl,rfl⟩,?fin3⟩
  refine Run.sub (s':=⟨14,[],[.any,.any,.any,.any,.ref 2 0 0,.ref 3 0 0,.bool false,.any,.any,.any,.any,.any,.any,.any],[],[A,B,zO false,zO false]⟩) ?_ (Xi rfl ⟨.inl rfl,.inl rfl,.inl rfl,.inl rfl,.inr rfl,.inr rfl,.inr rfl,.inl rfl,.inl rfl,.inl rfl,.inl rfl,.inl rfl,.inl rfl,.inl rfl,trivial⟩ trivial (by rw[hA,hB];rfl));refine Xk ?_;simp(disch:=omega)only[↓Xd,wG,seval];exact Dw (r1:=.cell 4 30) (r2:=.cell 5 30) (r3:=.tmp 6) rfl (Xs Jm rfl rfl rfl) (Xs Jm rfl rfl rfl) rfl (XF (Xt _) (DK _)) (XF (Xt _) (DK _)) (Q1 (X5 _) rfl)
def ZB (l:List Int):Rat:=Rat.divInt (1+Ab.atF l 0 20) (1+Ab.atF l 1 2)
def Ki (l:List Int):Rat:=Rat.divInt (Ab.atF l 2 5) (1+Ab.atF l 3 3)
def CY (l:List Int)(L:List V2):GG :=
 if 0<(ZH L (ZB l) (Ki l)).length∧0<Ab.atF l 4 6 then
  (ZH L (ZB l) (Ki l)).getD (Ab.atF l 5 (ZH L (ZB l) (Ki l)).length).toNat gZ
 else⟨P3 (L.getD (Ab.atF l 6 L.length).toNat v0) (Kx L (Ab.atF l 6 L.length).toNat),P3 (L.getD (Ab.atF l 7 L.length).toNat v0) (Kx L (Ab.atF l 7 L.length).toNat),HZ (L.getD (Ab.atF l 6 L.length).toNat v0) (Kx L (Ab.atF l 6 L.length).toNat),ZB l,Ki l⟩
theorem vo (l:List Int):qb (ZB l)≤1∧qb (Ki l)≤1∧0<ZB l∧0≤Ki l∧Ki l≤4:=by
 have b0:=Xv l 0 20 (by omega);have b1:=Xv l 1 2 (by omega);have b2:=Xv l 2 5 (by omega);have b3:=Xv l 3 3 (by omega);refine⟨Fm _ _ (by omega) (by omega),Fm _ _ (by omega) (by omega),OR (by omega) (by omega),Rat.divInt_nonneg (by omega) (by omega),?_⟩;have hb0:(0:Rat)<((1+Ab.atF l 3 3:Int):Rat):=Rat.intCast_pos.2 (by omega);have e:Ki l*((1+Ab.atF l 3 3:Int):Rat)=((Ab.atF l 2 5:Int):Rat):=by unfold Ki;rw[Rat.divInt_eq_div,Rat.div_mul_cancel (by grind)]
 have h1:((Ab.atF l 2 5:Int):Rat)≤((4*(1+Ab.atF l 3 3):Int):Rat):=Rat.intCast_le_intCast.2 (by omega);rw[Rat.intCast_mul]at h1;refine Rat.not_lt.1 fun h=>?_
 have:=Rat.mul_pos (show 0<Ki l-4 by grind) hb0;have h4:((4:Int):Rat)=4:=rfl;grind
theorem s8 {a b:V2}(h:a≠b):HZ a b≠v0:=fun e=>h (by
 unfold HZ v0 at e;simp only[V2.mk.injEq]at e;cases a;cases b;simp only[V2.mk.injEq]at *;exact⟨by grind,by grind⟩)
def gT (g:GG):Prop:=vb g.p≤1000∧vb g.q≤1000∧vb g.n≤16∧qb g.force≤1∧qb g.rough≤1
theorem gT.s {g:GG}(h:gT g):gS g:=by obtain⟨h1,h2,h3,h4,h5⟩:=h;unfold gS;omega
theorem oW (l:List Int)(L:List V2)(h:Nb L):gT (CY l L)∧Zo (CY l L)=true:=by
 obtain⟨h1,h2,h3⟩:=h;obtain⟨n1,n2,n3,n4,n5⟩:=vo l;have key:vb (CY l L).p≤1000∧vb (CY l L).q≤1000∧vb (CY l L).n≤16∧(CY l L).n≠v0∧(CY l L).force=ZB l∧(CY l L).rough=Ki l:=by
  unfold CY
  split
  ·rename_i hc
   have b:=Xv l 5 (ZH L (ZB l) (Ki l)).length (by omega);obtain⟨a1,a2,a3,a4,a5,a6⟩:=VK L h2 (ZB l) (Ki l) _ (Qp gZ (show(Ab.atF l 5 (ZH L (ZB l) (Ki l)).length).toNat<(ZH L (ZB l) (Ki l)).length by omega));exact⟨by omega,by omega,by omega,a4,a5,a6⟩
  ·have b6:=Xv l 6 L.length (by omega)
   have hi:(Ab.atF l 6 L.length).toNat<L.length:=by omega
   have m1:=iR (L.getD (Ab.atF l 6 L.length).toNat v0) (Kx L (Ab.atF l 6 L.length).toNat);have m2:=iR (L.getD (Ab.atF l 7 L.length).toNat v0) (Kx L (Ab.atF l 7 L.length).toNat);have m3:=Od (L.getD (Ab.atF l 6 L.length).toNat v0) (Kx L (Ab.atF l 6 L.length).toNat);have s1:=h2 (Ab.atF l 6 L.length).toNat;have s2:vb (Kx L (Ab.atF l 6 L.length).toNat)≤7:=h2 _;have s3:=h2 (Ab.atF l 7 L.length).toNat;have s4:vb (Kx L (Ab.atF l 7 L.length).toNat)≤7:=h2 _;exact⟨by show vb (P3 _ _)≤_;omega,by show vb (P3 _ _)≤_;omega,by show vb (HZ _ _)≤_;omega,s8 (h3 _ hi),rfl,rfl⟩
 obtain⟨k1,k2,k3,k4,k5,k6⟩:=key;refine⟨⟨k1,k2,k3,by rw[k5];omega,by rw[k6];omega⟩,?_⟩;rw[BG,k5,k6,Rz];exact⟨⟨n3,n4,n5⟩,k4⟩
theorem oV (l:List Int)(L:List V2)(hl:DL l)(h:Nb L):Fn Tryz.prog 12 [X8 l,Ql L] (gA (CY l L)):=by
 obtain⟨h1,h2,h3⟩:=h;obtain⟨n1,n2,n3,n4,n5⟩:=vo l;have h7:QN L 1000:=fun i=>Nat.le_trans (h2 i) (by omega)
 have b0:=Xv l 0 20 (by omega);have b1:=Xv l 1 2 (by omega);have b2:=Xv l 2 5 (by omega);have b3:=Xv l 3 3 (by omega);have c0:=QD l 0 20 hl (by omega);have c1:=QD l 1 2 hl (by omega);have c2:=QD l 2 5 hl (by omega);have c3:=QD l 3 3 hl (by omega);have c4:=QD l 4 6 hl (by omega);have c6:=QD l 6 L.length hl (by omega);have c7:=QD l 7 L.length hl (by omega);have b6:=Xv l 6 L.length (by omega);have b7:=Xv l 7 L.length (by omega);have d1:=XP (1+Ab.atF l 0 20) (1+Ab.atF l 1 2) ⟨by omega,by omega⟩ ⟨by omega,by omega⟩;have d2:=XP (Ab.atF l 2 5) (1+Ab.atF l 3 3) ⟨by omega,by omega⟩ ⟨by omega,by omega⟩;rw[show Rat.divInt (1+Ab.atF l 0 20) (1+Ab.atF l 1 2)=ZB l from rfl]at d1;rw[show Rat.divInt (Ab.atF l 2 5) (1+Ab.atF l 3 3)=Ki l from rfl]at d2;have d3:=jH L (ZB l) (Ki l) h2 (by omega) (by omega) (by omega) (by omega);have hln:(ZH L (ZB l) (Ki l)).length≤1000:=by
  unfold ZH
  split
  ·have:=E7 L (ZB l) (Ki l) L.length
   have g3:L.length*L.length≤12*12:=Nat.mul_le_mul (by omega) (by omega);unfold Nv;omega
  ·simp
 obtain⟨R,hR⟩:∃R,R=CY l L:=⟨_,rfl⟩
 have sR:=Jh R;rw[←hR];unfold CY at hR;generalize ZB l=f at *;generalize Ki l=r at *;generalize ZH L f r=G at *;refine Fn.intro (fn:=Tryz.f12) Tryz.call12 Tryz.func12 rfl mixed 10 [] [] [] (by kernel_rfl) (Nat.le_of_ble_eq_true rfl) (JY (Xc l) (Xq L)) (Xk ?_);simp(disch:=omega)only[AS.start,X7,↓Xd,wG,seval];refine X0 c0 (X2 _) ?_;simp(disch:=omega)only[↓Xd,wG,seval];refine X0 c1 (X2 _) ?_;simp(disch:=omega)only[↓Xd,wG,seval];refine X0 d1 (X2 _) ?_;simp(disch:=omega)only[qA,qC,↓Xd,wG,seval];refine X0 c2 (X2 _) ?_;simp(disch:=omega)only[↓Xd,wG,seval];refine X0 c3 (X2 _) ?_;simp(disch:=omega)only[↓Xd,wG,seval];refine X0 d2 (X2 _) ?_;simp(disch:=omega)only[qA,qC,↓Xd,wG,seval];refine X0 d3 ⟨by rw[X7];exact Weak.rfl' _,X2 _⟩ ?_;simp(disch:=omega)only[Q0,↓Xd,wG,seval];refine⟨fun hg=>?_,fun hg=>?_⟩
 ·have hg:0<G.length:=by omega
  refine X0 c4 (X2 _) ?_;simp(disch:=omega)only[↓Xd,wG,seval];refine⟨fun hq=>?_,fun hq=>?_⟩
  ·rw[if_pos ⟨hg,hq⟩]at hR
   have b5:=Xv l 5 G.length (by omega);have c5:=QD l 5 G.length hl (by omega);obtain⟨k,hk⟩:∃k:Nat,Ab.atF l 5 G.length=k:=⟨(Ab.atF l 5 G.length).toNat,by omega⟩
   rw[hk,Int.toNat_natCast]at hR;rw[hk]at c5;have hkl:k<G.length:=by omega
   have l0:=Z7 gC 32 gZ G k (by omega);have l1:=KS gC 32 gZ G k;refine X0 c5 (X2 _) ?_;simp(disch:=omega)only[l0,l1,QK,hkl,↓Xd,wG,seval];rw[←hR];exact Bl rfl I0 rfl rfl rfl (XF sR (Weak.rfl' _))
  ·rw[if_neg fun h=>hq h.2]at hR
   obtain⟨i,hi⟩:∃i:Nat,Ab.atF l 6 L.length=i:=⟨(Ab.atF l 6 L.length).toNat,by omega⟩
   obtain⟨j,hj⟩:∃j:Nat,Ab.atF l 7 L.length=j:=⟨(Ab.atF l 7 L.length).toNat,by omega⟩
   rw[hi,hj,Int.toNat_natCast,Int.toNat_natCast]at hR;rw[hi]at c6 b6;rw[hj]at c7 b7;have hil:i<L.length:=by omega
   have hjl:j<L.length:=by omega
   have f1:(i<L.length)=True:=eq_true hil;have f2:(j<L.length)=True:=eq_true hjl;have v1:=vF L i;have v2:=vF L j;have e1:=Bq L i (by omega) hil;have e2:=Bq L j (by omega) hjl;rw[show L.getD ((i+1)%L.length) v0=Kx L i from rfl]at e1;rw[show L.getD ((j+1)%L.length) v0=Kx L j from rfl]at e2;have e5:=Dy L i h7 (by omega) hil;have s1:=h2 i;have s2:vb (Kx L i)≤7:=h2 _;have s3:=h2 j;have s4:vb (Kx L j)≤7:=h2 _;generalize L.getD i v0=a at *;generalize Kx L i=a' at *;generalize L.getD j v0=b at *;generalize Kx L j=b' at *;have e3:=EQ a a' (by omega) (by omega);have e4:=EQ b b' (by omega) (by omega);refine X0 c6 (X2 _) ?_;simp(disch:=omega)only[vA,vC,qA,qC,X7,v1,v2,f1,f2,↓Xd,wG,seval];refine X0 c7 (X2 _) ?_;simp(disch:=omega)only[vA,vC,qA,qC,X7,v1,v2,f1,f2,↓Xd,wG,seval];refine X0 e1 ⟨by rw[X7];exact Weak.rfl' _,Weak.rfl' _,trivial⟩ ?_;simp(disch:=omega)only[vA,vC,qA,qC,X7,v1,v2,f1,f2,↓Xd,wG,seval];refine X0 e3 (X2 _) ?_;simp(disch:=omega)only[vA,vC,qA,qC,X7,v1,v2,f1,f2,↓Xd,wG,seval];refine X0 e2 ⟨by rw[X7];exact Weak.rfl' _,Weak.rfl' _,trivial⟩ ?_;simp(disch:=omega)only[vA,vC,qA,qC,X7,v1,v2,f1,f2,↓Xd,wG,seval];refine X0 e4 (X2 _) ?_;simp(disch:=omega)only[vA,vC,qA,qC,X7,v1,v2,f1,f2,↓Xd,wG,seval];refine X0 e5 ⟨by rw[X7];exact Weak.rfl' _,Weak.rfl' _,trivial⟩ ?_;simp(disch:=omega)only[vA,vC,qA,qC,X7,v1,v2,f1,f2,↓Xd,wG,seval];rw[hR];exact Bl rfl I0 rfl rfl rfl (XF (Jh _) (Weak.rfl' _))
 ·rw[if_neg fun h=>hg (by omega)]at hR
  obtain⟨i,hi⟩:∃i:Nat,Ab.atF l 6 L.length=i:=⟨(Ab.atF l 6 L.length).toNat,by omega⟩
  obtain⟨j,hj⟩:∃j:Nat,Ab.atF l 7 L.length=j:=⟨(Ab.atF l 7 L.length).toNat,by omega⟩
  rw[hi,hj,Int.toNat_natCast,Int.toNat_natCast]at hR;rw[hi]at c6 b6;rw[hj]at c7 b7;have hil:i<L.length:=by omega
  have hjl:j<L.length:=by omega
  have f1:(i<L.length)=True:=eq_true hil;have f2:(j<L.length)=True:=eq_true hjl;have v1:=vF L i;have v2:=vF L j;have e1:=Bq L i (by omega) hil;have e2:=Bq L j (by omega) hjl;rw[show L.getD ((i+1)%L.length) v0=Kx L i from rfl]at e1;rw[show L.getD ((j+1)%L.length) v0=Kx L j from rfl]at e2;have e5:=Dy L i h7 (by omega) hil;have s1:=h2 i;have s2:vb (Kx L i)≤7:=h2 _;have s3:=h2 j;have s4:vb (Kx L j)≤7:=h2 _;generalize L.getD i v0=a at *;generalize Kx L i=a' at *;generalize L.getD j v0=b at *;generalize Kx L j=b' at *;have e3:=EQ a a' (by omega) (by omega);have e4:=EQ b b' (by omega) (by omega);refine X0 c6 (X2 _) ?_;simp(disch:=omega)only[vA,vC,qA,qC,X7,v1,v2,f1,f2,↓Xd,wG,seval];refine X0 c7 (X2 _) ?_;simp(disch:=omega)only[vA,vC,qA,qC,X7,v1,v2,f1,f2,↓Xd,wG,seval];refine X0 e1 ⟨by rw[X7];exact Weak.rfl' _,Weak.rfl' _,trivial⟩ ?_;simp(disch:=omega)only[vA,vC,qA,qC,X7,v1,v2,f1,f2,↓Xd,wG,seval];refine X0 e3 (X2 _) ?_;simp(disch:=omega)only[vA,vC,qA,qC,X7,v1,v2,f1,f2,↓Xd,wG,seval];refine X0 e2 ⟨by rw[X7];exact Weak.rfl' _,Weak.rfl' _,trivial⟩ ?_;simp(disch:=omega)only[vA,vC,qA,qC,X7,v1,v2,f1,f2,↓Xd,wG,seval];refine X0 e4 (X2 _) ?_;simp(disch:=omega)only[vA,vC,qA,qC,X7,v1,v2,f1,f2,↓Xd,wG,seval];refine X0 e5 ⟨by rw[X7];exact Weak.rfl' _,Weak.rfl' _,trivial⟩ ?_;simp(disch:=omega)only[vA,vC,qA,qC,X7,v1,v2,f1,f2,↓Xd,wG,seval];rw[hR];exact Bl rfl I0 rfl rfl rfl (XF (Jh _) (Weak.rfl' _))
end
end Go.Ab.N
namespace Go.Ab.N
open Go Go.RowKit Go.Proofs
noncomputable section
set_option maxRecDepth 10000
set_option maxHeartbeats 4000000
def uO (L:List V2)(i k:Nat):Bool:=decide (1<(k+L.length-i)%L.length) && decide ((k+L.length-i)%L.length<L.length-1) &&
 (List.range 5).all fun j=>!KE (DT (atF L i) (atF L (i+1)) (atF L k) (atF L (k+1)) j) (atF L i) (atF L (i+1)) (atF L k) (atF L (k+1))
def Sc (L:List V2):Bool:=decide (3≤L.length) && decide (L.length≤12) && ((List.range L.length).all fun i=>!decide (JX (atF L i) (atF L (i+1)) (atF L (i+2))=0) && (List.range L.length).all fun k=>!uO L i k) && decide (0<(KT L).num.sign)
theorem Se (L:List V2)(h:Sc L=true):ZV L:=by
 unfold Sc at h;simp only[Bool.and_eq_true,decide_eq_true_eq,List.all_eq_true,List.mem_range,Bool.not_eq_true',decide_eq_false_iff_not]at h;obtain⟨⟨⟨h1,h2⟩,h3⟩,h4⟩:=h;refine⟨⟨h1,h2⟩,fun i hi=>⟨(h3 i hi).1,fun k hk hg=>?_⟩,h4⟩;have:=(h3 i hi).2 k hk;obtain⟨q1,q2,q3⟩:=hg;unfold uO at this;rw[decide_eq_true q1,decide_eq_true q2,Bool.true_and,Bool.true_and]at this;rw[List.all_eq_true.2]at this
 ·cases this
 ·intro j hj
  rw[q3 j (List.mem_range.1 hj)];rfl
theorem GP:ZV sqV:=Se _ (by decide +kernel)
theorem ke:Nb sqV:=by
 have z:vb v0≤1:=by decide +kernel
 refine⟨by simp[sqV],AM (fun x hx=>?_) (by omega),fun i hi=>?_⟩
 ·simp only[sqV,List.mem_cons,List.not_mem_nil,or_false]at hx
  rcases hx with rfl |rfl |rfl |rfl
  ·omega
  all_goals exact Nat.le_trans (FR _ _ (by omega) (by omega)) (by omega)
 ·have h:=IH (GP.2.1 i hi).1
  unfold atF at h;rw[Nat.mod_eq_of_lt hi]at h;exact h
def OY (a b:Sd):Option (V2×V2) :=
 if Xp b.i a.i=0∧Q8 b.i a.i<0∧0<Q8 (b.a.sub a.a) a.i then
  if Tj (Ge a b) (Gf a b)<Th (Ge a b) (Gf a b)then
   some (MX a.a (Rl a b) (Tj (Ge a b) (Gf a b)) (Th (Ge a b) (Gf a b)),U9 (MX a.a (Rl a b) (Tj (Ge a b) (Gf a b)) (Th (Ge a b) (Gf a b))) a.i b.a)
  else none
 else none
theorem rU (a b:Sd):Im a b=OY a b:=by
 unfold Im OY;by_cases h:N2 b.i a.i∧0<Q8 (b.a.sub a.a) a.i
 ·rw[if_pos h,if_pos (show Xp b.i a.i=0∧Q8 b.i a.i<0∧0<Q8 (b.a.sub a.a) a.i from⟨h.1.1,h.1.2,h.2⟩)]
 ·rw[if_neg h,if_neg fun q=>h ⟨⟨q.1,q.2.1⟩,q.2.2⟩]
def eg1:GG:=⟨pI 1 0,pI 1 2,pI 0 2,Rat.divInt 8 1,Rat.divInt 1 2⟩
def eg2:GG:=⟨pI 2 1,pI 0 1,pI (-2) 0,Rat.divInt 8 1,Rat.divInt 1 2⟩
def tU (a b:V2):Bool:=decide (a.x=b.x) && decide (a.y=b.y)
theorem Lz {a b:V2}(h:tU a b=true):a=b:=by
 unfold tU at h;simp only[Bool.and_eq_true,decide_eq_true_eq]at h;cases a;cases b;simp only[V2.mk.injEq]at *;exact h
def Gd (o:Option (V2×V2)) (w:Option (V2×V2)):Bool:=match o,w with
 |none,none=>true
 |some x,some y=>tU x.1 y.1 && tU x.2 y.2
 |_,_=>false
theorem gv {o w:Option (V2×V2)} (h:Gd o w=true):o=w:=by
 cases o <;> cases w <;> simp only[Gd,Bool.and_eq_true]at h <;> try(first |rfl | (cases h;done))
 exact congrArg some (Prod.ext (Lz h.1) (Lz h.2))
theorem tw:Gd (OY (JJ sqV 0) (JJ sqV 1)) none=true∧Gd (OY (JJ sqV 0) (JJ sqV 2)) (some (pI 1 0,pI 1 2))=true∧Gd (OY (JJ sqV 0) (JJ sqV 3)) none=true∧Gd (OY (JJ sqV 1) (JJ sqV 2)) none=true∧Gd (OY (JJ sqV 1) (JJ sqV 3)) (some (pI 2 1,pI 0 1))=true∧Gd (OY (JJ sqV 2) (JJ sqV 3)) none=true∧tU (HZ (sqV.getD 0 v0) (Kx sqV 0)) (pI 0 2)=true∧tU (HZ (sqV.getD 1 v0) (Kx sqV 1)) (pI (-2) 0)=true:=by
 refine⟨?_,?_,?_,?_,?_,?_,?_,?_⟩ <;> decide +kernel
theorem Pi:Ba (Rat.divInt 8 1) (Rat.divInt 1 2)=true:=by unfold Ba;decide +kernel
theorem Wz:ZH sqV (Rat.divInt 8 1) (Rat.divInt 1 2)=[eg1,eg2]:=by
 obtain⟨h1,h2,h3,h4,h5,h6,h7,h8⟩:=tw;unfold ZH;rw[if_pos ⟨GP,Pi⟩];have g:∀i j o,Gd (OY (JJ sqV i) (JJ sqV j)) o=true→P1 sqV (Rat.divInt 8 1) (Rat.divInt 1 2) i j=o.toList.map fun x=>⟨x.1,x.2,HZ (sqV.getD i v0) (Kx sqV i),Rat.divInt 8 1,Rat.divInt 1 2⟩:=fun i j o h=>by
  unfold P1;rw[rU,gv h]
 have g01:=g _ _ _ h1;have g02:=g _ _ _ h2;have g03:=g _ _ _ h3;have g12:=g _ _ _ h4;have g13:=g _ _ _ h5;have g23:=g _ _ _ h6;rw[Lz h7]at g02;rw[Lz h8]at g13;show Bh sqV _ _ 4=_;simp only[Bh,show sqV.length=4 from rfl,Nat.reduceAdd,Nat.reduceSub,Zk,Nat.add_zero,g01,g02,g03,g12,g13,g23];rfl
theorem eK (n:Int)(h:1≤n∧n≤1000):bS (ED n)∧Ag (ED n)=true:=by
 refine⟨⟨?_,?_,?_,?_⟩,?_⟩
 ·exact Nat.le_trans (FR 1 1 (by omega) (by omega)) (by omega)
 ·exact Nat.le_trans (Fm 1 1 (by omega) (by omega)) (by omega)
 ·exact Nat.le_trans (Fm 2 1 (by omega) (by omega)) (by omega)
 ·exact Nat.le_trans (Fm n 1 (by omega) (by omega)) (by omega)
 ·rw[EE]
  exact⟨by show 0<Rat.divInt 1 1;decide +kernel,by show Rat.divInt 1 1≤Rat.divInt 2 1;decide +kernel,OR (by omega) (by omega)⟩
theorem uI:(gS eg1∧Zo eg1=true)∧gS eg2∧Zo eg2=true:=by
 have q:=Fm 8 1 (by omega) (by omega);have r:=Fm 1 2 (by omega) (by omega);have v:∀x y:Int,-5≤x∧x≤5→-5≤y∧y≤5→vb (pI x y)≤40:=fun x y hx hy=>Nat.le_trans (FR x y (by omega) (by omega)) (by omega)
 have m:∀x y:Int,-5≤x∧x≤5→-5≤y∧y≤5→vb (pI x y)≤1400:=fun x y hx hy=>Nat.le_trans (v x y hx hy) (by omega)
 refine⟨⟨⟨m _ _ (by omega) (by omega),m _ _ (by omega) (by omega),v _ _ (by omega) (by omega),Nat.le_trans q (by omega),Nat.le_trans r (by omega)⟩,?_⟩,⟨m _ _ (by omega) (by omega),m _ _ (by omega) (by omega),v _ _ (by omega) (by omega),Nat.le_trans q (by omega),Nat.le_trans r (by omega)⟩,?_⟩
 ·rw[BG];decide +kernel
 ·rw[BG];decide +kernel
theorem nR:QA eg1.n=2∧QA eg2.n=2:=by decide +kernel
theorem pX (n:Int)(k:Rat)(h:(k=4∧n=100)∨(k=3∧n=6)):iA (ED n) eg1 k:=by
 have e1:((0:Int):Rat)=0:=rfl;have e2:((2:Int):Rat)=2:=rfl;have e3:((1:Int):Rat)=1:=rfl;have d2:Rat.divInt 2 1=2:=by decide +kernel
 have d8:Rat.divInt 8 1=8:=by decide +kernel
 have dh:Rat.divInt 1 2=1/2:=by decide +kernel
 have hs:(k=4∧Rat.divInt n 1=100)∨(k=3∧Rat.divInt n 1=6):=by
  rcases h with⟨rfl,rfl⟩ | ⟨rfl,rfl⟩
  ·exact .inl ⟨rfl,by decide +kernel⟩
  ·exact .inr ⟨rfl,by decide +kernel⟩
 constructor
 ·refine⟨k,0,0,0,?_⟩
  have l:=nR.1;constructor
  all_goals
   try simp only[l]
   try simp only[eg1,ED,pI,Xp,V2.sub,e1,e2,e3,d2,d8,dh]
   grind
 ·intro a0 c0 a1 c1 k' hk
  obtain⟨n0,n1,r0,r1,s0,s1,f0,f1,st,k0,k1,ex,ey,et⟩:=hk;rw[nR.1]at f0 f1 st;simp only[eg1,ED,pI,e1,e2,e3,d2,d8,dh]at *;grind
theorem fV (n:Int)(k:Rat)(h:(k=4∧n=100)∨(k=Rat.divInt 3 2∧n=6)):iA (ED n) eg2 k:=by
 have e1:((0:Int):Rat)=0:=rfl;have e2:((2:Int):Rat)=2:=rfl;have e3:((1:Int):Rat)=1:=rfl;have e4:((-2:Int):Rat) = -2:=rfl;have d2:Rat.divInt 2 1=2:=by decide +kernel
 have d8:Rat.divInt 8 1=8:=by decide +kernel
 have dh:Rat.divInt 1 2=1/2:=by decide +kernel
 have d3:Rat.divInt 3 2=3/2:=by decide +kernel
 have hs:(k=4∧Rat.divInt n 1=100)∨(k=3/2∧Rat.divInt n 1=6):=by
  rcases h with⟨rfl,rfl⟩ | ⟨rfl,rfl⟩
  ·exact .inl ⟨rfl,by decide +kernel⟩
  ·exact .inr ⟨d3,by decide +kernel⟩
 constructor
 ·refine⟨k,-(k/2),k,k/2,?_⟩
  have l:=nR.2;constructor
  all_goals
   try simp only[l]
   try simp only[eg2,ED,pI,Xp,V2.sub,e1,e2,e3,e4,d2,d8,dh]
   grind
 ·intro a0 c0 a1 c1 k' hk
  obtain⟨n0,n1,r0,r1,s0,s1,f0,f1,st,k0,k1,ex,ey,et⟩:=hk;rw[nR.2]at f0 f1 st;simp only[eg2,ED,pI,e1,e2,e3,e4,d2,d8,dh]at *;grind
end
end Go.Ab.N
namespace Go.Ab.N
open Go Go.RowKit Go.Proofs
noncomputable section
set_option maxRecDepth 10000
set_option maxHeartbeats 4000000
open Classical
def Iy (b:BB)(g:GG):Rat:=if h:∃k,iA b g k then Classical.choose h else 0
theorem FG {b:BB}{g:GG}{k:Rat}(h:iA b g k):Iy b g=k:=by
 unfold Iy;have hx:∃k,iA b g k:=⟨k,h⟩
 rw[dif_pos hx];exact iB (Classical.choose_spec hx) h
structure Mg (b:BB)(g:GG)(p q:Rat×Rat):Prop where
 fn:Fn Tryz.prog 22 [bA b,gA g] (.tup [qA (Iy b g),Wf [p,q],I 0])
 m:iA b g (Iy b g)
 ok:okP b g p.1 p.2 q.1 q.2 (Iy b g)
 z:qb p.1≤1356773∧qb p.2≤1356773∧qb q.1≤1356773∧qb q.2≤1356773∧qb (Iy b g)≤1356773
theorem RE (b:BB)(g:GG)(hb:bS b)(hg:gS g)(h1:Ag b=true)(h2:Zo g=true):∃p q,Mg b g p q:=by
 obtain⟨x0,x1,x2,x3,m,c,hm,ho,z0,z1,z2,z3,z4⟩:=Ue b g hb hg h1 h2;have e:=FG hm;exact⟨(x0,x1),(x2,x3),e▸c,e▸hm,e▸ho,z0,z1,z2,z3,e▸z4⟩
theorem kF {c:Nat}{a b:V2}(ha:vb a≤c)(hb:vb b≤c):vb (HZ a b)≤2*c+1:=by
 have:=Od a b;omega
theorem aI {L:List V2}(h:Bk L){i:Nat}(hi:i<L.length):(JJ L i).a≠(JJ L i).b:=by
 have:=IH (h.2.1 i hi).1;unfold atF at this;rw[Nat.mod_eq_of_lt hi]at this;exact this
theorem Rp {c:Nat}(L:List V2)(f r:Rat)(h:QN L c)(hc:c≤18)(hl:L.length≤13)(hf:qb f≤40)(hr:qb r≤40):Fn Tryz.prog 45 [Ql L,qA f,qA r] (cH (ZH L f r)):=by
 have c1:=Hx L (fun i=>Nat.le_trans (h i) (by omega)) (by omega);have c2:=LH f r (by unfold rm;omega) (by unfold rm;omega);have c3:=Nz L (fun i=>Nat.le_trans (h i) (by omega)) (by omega);obtain⟨R,hR⟩:∃R,R=ZH L f r:=⟨_,rfl⟩
 have sR:=Ep R;rw[←hR];unfold ZH at hR;rw[Gy]at hR;generalize Ba f r=J at *;obtain⟨S,hS⟩:∃S,S=K8 L:=⟨_,rfl⟩
 rw[←hS]at c3;have hSl:S.length=L.length:=by rw[hS];exact DF L L.length
 have hSa:∀i,i<L.length→S.getD i Ip=JJ L i:=fun i hi=>by rw[hS];exact bg L hi
 refine Fq Tryz.call45 Tryz.func45 16 [27,28,29,37,38,39] [] [] (by simp[Xq,Xa]) (Xk ?_);simp(disch:=omega)only[AS.start,X7,qA,qC,↓Xd,wG,seval];refine X0 c1 ⟨by rw[X7];exact Weak.rfl' _,trivial⟩ ?_;simp(disch:=omega)only[↓Xd,wG,seval];have nil:∀ (s:AS),s.get 6=.sl 0 0 (fun _=>.any) true→R=[]→RetOk (Ju Tryz.prog Tryz.f45 [] [] (cH R)) s:=fun s hs e=>C4 rfl (by rw[hs];exact XF sR (by rw[e];exact T9 gC 32 gZ _ _))
 refine⟨fun hp=>nil _ rfl (by rw[hR,if_neg fun h=>hp h.1]),fun hp=>?_⟩;refine X0 c2 (X2 _) ?_;simp(disch:=omega)only[↓Xd,wG,seval];refine⟨fun hj=>nil _ rfl (by rw[hR,if_neg fun h=>by rw[h.2]at hj;exact absurd hj (by simp)]),fun hj=>?_⟩;have hj:J=true:=by simpa using hj
 rw[if_pos ⟨hp,hj⟩]at hR;have bV:∀q,Jq q (UR S)=True:=fun q=>eq_true (X6 (Es S))
 have bL:∀q,Jq q (Ql L)=True:=fun q=>eq_true (X6 (Xq L))
 have bP:∀q x,Jq q (Jx x)=True:=fun q x=>eq_true (X6 (XI fun j _=>Xe (QJ x) j))
 have bO:∀q i x,Qa q (.con i 4 (Xf (qC x)))=True:=fun q i x=>eq_true fun j _=>X6 (Xe (QJ x) j)
 have bR:∀q i n l,Qa q (.row i n (XD gC 32 gZ l))=True:=fun q i n l=>eq_true fun j _=>X6 (Xe (KB _) _)
 have fl:=fun i=>E7 L f r i
 refine X0 c3 ⟨by rw[X7];exact Weak.rfl' _,trivial⟩ ?_;simp(disch:=omega)only[J9,hSl,↓Xd,wG,seval];refine Run.sub ?_ (XC 0 rfl);refine Run.sub ?_ (XC 1 rfl);refine Run.sub ?_ (Xy 4 rfl rfl (by omega));refine Run.sub ?_ (Xy 5 rfl rfl (by omega));refine Run.sub ?_ (Kk 7 32 (XD gC 32 gZ []) rfl);have dS:AV.sl L.length (L.length*24) (XD AG 24 Ip S) false=UR S:=by rw[J9,hSl]
 rw[dS];refine Xj (fun i:Nat=>⟨16,[27,28,29,37,38,39],[.any,.any,.any,.any,Jx f,Jx r,.any,.osl 2 (Bh L f r i).length 32 0 (Bh L f r i).length,UR S,.any,.any,.any,.any,.any,.any,.any],[(27,UR S),(28,I L.length),(29,I i)],[.con 0 4 (Xf (qC f)),.con 0 4 (Xf (qC r)),.row (Bh L f r i).length ((Bh L f r i).length*32) (XD gC 32 gZ (Bh L f r i))]⟩) (fun i=>i≤L.length) (fun i=>L.length-i) 0 (by omega)
  (Xi rfl (by simp[AS.put,Xm,Jx,qC,Bh];exact⟨rfl,rfl⟩) (by simp[AS.put,Xw,XA,I]) rfl) ?_
 intro i hi next
 have w1:=wj i (by omega);by_cases hi2:i<L.length
 rotate_left
 ·obtain rfl:i=L.length:=by omega
  refine Xk ?_;simp(disch:=omega)only[J9,hSl,↓Xd,wG,seval];exact C4 rfl (by rw[hR];exact Sz _ rfl rfl)
 have nx:=next (i+1)
 rw[Nu]at nx;have f1:(i<L.length)=True:=eq_true hi2;have f3:(i+1≤L.length)=True:=eq_true hi2;have f4:(i<1000000)=True:=eq_true (by omega);obtain⟨M,hM⟩:∃M,M=L.length-(i+1):=⟨_,rfl⟩
 have e1:((L.length:Int)-((i+1:Nat):Int)).toNat=M:=by omega
 have e2:min (M*24) (L.length*24-(i+1)*24)=M*24:=by omega
 have l0:=Z7 AG 24 Ip S i (by omega);have l1:=KS AG 24 Ip S i;have hx:=hSa i hi2;rw[hx]at l0 l1;obtain⟨x,hX⟩:∃x,x=JJ L i:=⟨_,rfl⟩
 rw[←hX]at l0 l1 hx;have bX:∀q x,Qa q (.row 0 24 (Xf (AG x)))=True:=fun q x=>eq_true fun j _=>X6 (Xe (Z4 x) j)
 have bT:∀q,Jq q (.sl M (M*24) (fun j=>XD AG 24 Ip S ((i+1)*24+j)) false)=True:=fun q=>eq_true (X6 (J3 fun j _=>Xe (Z4 _) _))
 refine Xk ?_;simp(disch:=omega)only[J9,hSl,w1,f1,f3,l0,l1,Ar,e1,e2,↓Xd,wG,seval];generalize hF:Bh L f r i=F at *;refine Xj (fun k:Nat=>⟨16,[27,28,29,37,38,39],[.any,.any,.any,.any,Jx f,Jx r,.any,.osl 2 (F ++ Zk L f r i k).length 32 0 (F ++ Zk L f r i k).length,UR S,.any,.ref 3 0 0,.any,.any,.any,.any,.any],[(27,UR S),(28,I L.length),(29,I i),(37,.sl M (M*24) (fun j=>XD AG 24 Ip S ((i+1)*24+j)) false),(38,I M),(39,I k)],[.con 0 4 (Xf (qC f)),.con 0 4 (Xf (qC r)),.row (F ++ Zk L f r i k).length ((F ++ Zk L f r i k).length*32) (XD gC 32 gZ (F ++ Zk L f r i k)),.row 0 24 (Xf (AG x))]⟩) (fun k=>k≤M) (fun k=>M-k) 0 (by omega)
  (Xi rfl (by simp[Xm,Zk,J9,hSl]) (by simp[Xw,XA,I,J9,hSl]) (by simp only[Zk,List.append_nil];rfl)) ?_
 intro k hk nextk;have w2:=wj k (by omega);by_cases hk2:k<M
 rotate_left
 ·obtain rfl:k=M:=by omega
  refine Xk ?_;simp(disch:=omega)only[J9,hSl,w1,w2,↓Xd,wG,seval];rw[←hM]at nx;exact nx _ (by omega) (by omega) (XT (m:=3) (Nat.zero_le _) rfl (by simp[J9,hSl,Xm,I]) (by simp[Xw,XA,J9,hSl,I]) rfl (by simp[XW,bV,bP]) (by simp[XW,bV]) (by simp[bO,bR]))
 have nk:=nextk (k+1);rw[show Zk L f r i (k+1)=Zk L f r i k ++ P1 L f r i (i+1+k)from rfl,←List.append_assoc]at nk;have hln:(F ++ Zk L f r i k).length≤1000:=by
  have g1:=fl i;have g2:=GJ L f r i k;rw[hF]at g1;have g3:L.length*i≤13*13:=Nat.mul_le_mul hl (by omega);rw[List.length_append];omega
 generalize F ++ Zk L f r i k=G at *;clear hF next nextk fl
 have f2:(k<M)=True:=eq_true hk2;have y0:XD AG 24 Ip S ((i+1)*24+k*24)=(AG (S.getD (i+1+k) Ip)).getD 0 .any:=by
  rw[show(i+1)*24+k*24=(i+1+k)*24 by omega];exact Z7 AG 24 Ip S _ (by omega)
 have y1:∀j,j<24→XD AG 24 Ip S ((i+1)*24+(k*24+j))=(AG (S.getD (i+1+k) Ip)).getD j .any:=fun j hj=>by
  rw[show(i+1)*24+(k*24+j)=(i+1+k)*24+j by omega];exact KS AG 24 Ip S _ _ hj
 have hg:P1 L f r i (i+1+k)=((Im (JJ L i) (JJ L (i+1+k))).toList).map fun x=>⟨x.1,x.2,HZ (L.getD i v0) (Kx L i),f,r⟩:=rfl
 have hn:HZ (L.getD i v0) (Kx L i)=x.i:=by rw[hX];rfl
 rw[hn]at hg;have hy:=hSa (i+1+k) (by omega);rw[hy]at y0 y1;have uf:=YO (JJ L i) (JJ L (i+1+k)) hc (h _) (h _) (kF (h _) (h _)) (h _) (h _) (kF (h _) (h _)) (aI hp hi2);unfold rV at uf;rw[←hX]at hg uf;generalize JJ L (i+1+k)=y at *;refine Xk ?_;simp(disch:=omega)only[J9,hSl,w1,w2,f1,f2,y0,y1,Ar,↓Xd,wG,seval];refine X0 uf ⟨by rw[UQ,Ar];exact Weak.rfl' _,by rw[UQ,Ar];exact Weak.rfl' _,trivial⟩ ?_;generalize Im x y=o at *;rcases o with _ | ⟨p,q⟩
 ·replace hg:P1 L f r i (i+1+k)=[]:=hg
  rw[hg,List.append_nil]at nk;simp(disch:=omega)only[vA,vC,Option.getD_none,Option.isSome_none,↓Xd,wG,seval];exact nk _ (by omega) (by omega) (XT (m:=4) (Nat.zero_le _) rfl (by simp[J9,hSl,Xm,I]) (by simp[Xw,XA,J9,hSl,I]) rfl (by simp[XW,bV,bP]) (by simp[XW,bV,bT]) (by simp[bO,bR,bX]))
 ·replace hg:P1 L f r i (i+1+k)=[⟨p,q,x.i,f,r⟩]:=hg
  have hap:=Az gC 32 gZ G ⟨p,q,x.i,f,r⟩ (by omega);rw[hg]at nk;rw[show(G ++ [(⟨p,q,x.i,f,r⟩:GG)]).length=G.length+1 by simp]at nk;simp(disch:=omega)only[vA,vC,Jx,qC,Option.getD_some,Option.isSome_some,↓Xd,wG,seval];exact⟨fun j hj=>ia ⟨p,q,x.i,f,r⟩ j hj,nk _ (by omega) (by omega) (XT (m:=4) (Nat.zero_le _) rfl (by simp[J9,hSl,Xm,I,Jx];exact⟨rfl,rfl⟩) (by simp[Xw,XA,J9,hSl,I]) (by rw[←hap];rfl) (by simp[XW,bV,bP]) (by simp[XW,bV,bT]) (by simp[bO,bR,bX]))⟩
 done
end
end Go.Ab.N
