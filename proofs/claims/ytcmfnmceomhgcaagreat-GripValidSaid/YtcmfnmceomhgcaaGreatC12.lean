/- Contracts of functions, for every argument that fits. -/
import Derived.Test.YtcmfnmceomhgcaaGreatC11
import Derived.Test.YtcmfnmceomhgcaaGreatC10
set_option linter.unusedSimpArgs false
set_option linter.unusedVariables false
namespace Go.Ab.N
open Go Go.RowKit Go.Proofs
noncomputable section
set_option maxRecDepth 10000
set_option maxHeartbeats 4000000
open Classical
theorem On (a b:Rat)(ha:qb a≤rm)(hb:qb b≤rm):Fn Tryz.prog 120 [qA a,qA b] (qA (Nj a b)):=by
 have c:=Z7 a b ha hb;obtain⟨R,hR⟩:∃R,R=qA (Nj a b):=⟨_,rfl⟩
 have sR:Settled R:=hR▸Xb _;rw[←hR];unfold Nj at hR;refine Fn.intro (fn:=Tryz.f120) Tryz.call120 Tryz.func120 rfl mixed 5 [] [] [] (by kernel_rfl) (Nat.le_of_ble_eq_true rfl) (Kd (Xb a) (Xb b)) (Xl ?_);simp(disch:=omega)only[AS.start,qA,qC,↓Xd,wG,seval];refine X0 c (X2 _) ?_;simp(disch:=omega)only[Zl,↓Xd,wG,seval];refine⟨fun h=>?_,fun h=>?_⟩
 ·rw[if_neg (Rat.not_lt.2 h)]at hR
  exact J7 rfl XT rfl rfl rfl sR (hR.trans rfl)
 ·rw[if_pos (Rat.not_le.1 h)]at hR
  exact J7 rfl XT rfl rfl rfl sR (hR.trans rfl)
theorem Ol (a b:Rat)(ha:qb a≤rm)(hb:qb b≤rm):Fn Tryz.prog 119 [qA a,qA b] (qA (MX a b)):=by
 have c:=Z7 a b ha hb;obtain⟨R,hR⟩:∃R,R=qA (MX a b):=⟨_,rfl⟩
 have sR:Settled R:=hR▸Xb _;rw[←hR];unfold MX at hR;refine Fn.intro (fn:=Tryz.f119) Tryz.call119 Tryz.func119 rfl mixed 5 [] [] [] (by kernel_rfl) (Nat.le_of_ble_eq_true rfl) (Kd (Xb a) (Xb b)) (Xl ?_);simp(disch:=omega)only[AS.start,qA,qC,↓Xd,wG,seval];refine X0 c (X2 _) ?_;simp(disch:=omega)only[Pr,↓Xd,wG,seval];refine⟨fun h=>?_,fun h=>?_⟩
 ·by_cases h2:b<a
  ·rw[if_pos h2]at hR
   exact J7 rfl XT rfl rfl rfl sR (hR.trans rfl)
  ·have e:a=b:=by grind
   subst e;rw[if_neg h2]at hR;exact J7 rfl XT rfl rfl rfl sR (hR.trans rfl)
 ·rw[if_neg fun h2=>h (Rat.le_of_lt h2)]at hR
  exact J7 rfl XT rfl rfl rfl sR (hR.trans rfl)
theorem CD {c:Nat}(a d x:V2)(ha:vb a≤c)(hd:vb d≤2*c+1)(hx:vb x≤c):qb (Js a d x)≤16*c+10:=by
 have h1:=QX x a;have h2:=Ky (x.sub a) d;have h3:=Ky d d;have h4:=Hy (XY (x.sub a) d) (XY d d);unfold Js;omega
theorem Og {c:Nat}(L:List V2)(i:Nat)(p:V2)(h:Qp L c)(hc:c≤18)(hl:L.length<1000000)(hi:i<L.length)(hp:vb p≤c):Fn Tryz.prog 118 [Q6 L,I i,vA p] (qA (Js (L.getD i v0) ((J4 L i).sub (L.getD i v0)) p)):=by
 have hb1:=h i;have hb2:vb (J4 L i)≤c:=h ((i+1)%L.length);have c1:=Ak L i hl hi;have e:L.getD ((i+1)%L.length) v0=J4 L i:=rfl;rw[e]at c1;have v1:=vF L i;have f2:(i<L.length)=True:=eq_true hi;obtain⟨R,hR⟩:∃R,R=qA (Js (L.getD i v0) ((J4 L i).sub (L.getD i v0)) p):=⟨_,rfl⟩
 have sR:Settled R:=hR▸Xb _;rw[←hR];unfold Js at hR;generalize L.getD i v0=a at *;generalize J4 L i=b at *;have s1:=QX b a;have s2:=QX p a;have c2:=Jd b a (by unfold rm;omega) (by unfold rm;omega);have c3:=Jd p a (by unfold rm;omega) (by unfold rm;omega);generalize b.sub a=d at *;generalize p.sub a=x at *;have c4:=JG x d (by unfold vm;omega) (by unfold vm;omega);have c5:=JG d d (by unfold vm;omega) (by unfold vm;omega);have q1:=Ky x d;have q2:=Ky d d;have c6:=FO (XY x d) (XY d d) (by unfold vm;omega) (by unfold vm;omega);rw[←hR]at c6;refine Fq Tryz.call118 Tryz.func118 8 [] [1] [] (by simp[Xn,Xa,Xr]) (Xl ?_);simp(disch:=omega)only[AS.start,X4,vA,vC,↓Xd,wG,seval];refine X0 c1 ⟨by rw[X4];exact Weak.rfl' _,Weak.rfl' _,trivial⟩ ?_;simp(disch:=omega)only[vA,vC,v1,f2,↓Xd,wG,seval];refine X0 c2 (X2 _) ?_;simp(disch:=omega)only[vA,vC,v1,f2,↓Xd,wG,seval];refine X0 c3 (X2 _) ?_;simp(disch:=omega)only[vA,vC,v1,f2,↓Xd,wG,seval];refine X0 c4 (X2 _) ?_;simp(disch:=omega)only[qA,qC,↓Xd,wG,seval];refine X0 c5 (X2 _) ?_;simp(disch:=omega)only[qA,qC,↓Xd,wG,seval];refine X0 c6 (X2 _) ?_;simp(disch:=omega)only[hR,qA,qC,↓Xd,wG,seval];exact J7 rfl XT rfl rfl rfl sR (hR.trans rfl)
def gZ:GG:=⟨v0,v0,v0,0,0⟩
def Nh (l:List GG):AV:=cS gC 32 gZ l
theorem XC (l:List GG):Nh l=.sl l.length (l.length*32) (XA gC 32 gZ l) false:=nrfl rfl
theorem Z9 (l:List GG):Settled (Nh l):=JZ fun a x hx=>Ka a x hx
theorem iP (g:GG):∀j,j<32→((gC g).getD j .any).one=true:=fun j hj=>by
 rw[QJ]
 match j,hj with
 |0,_ |1,_ |2,_ |3,_ |4,_ |5,_ |6,_ |7,_ |8,_ |9,_ |10,_ |11,_ |12,_ |13,_ |14,_ |15,_ |16,_ |17,_ |18,_ |19,_ |20,_ |21,_ |22,_ |23,_ |24,_ |25,_ |26,_ |27,_ |28,_ |29,_ |30,_ |31,_=>rfl
 |j+32,h=>omega
def LN (L:List V2)(f r:Rat)(i j:Nat):List GG:=((Gb (Jl L i) (Jl L j)).toList).map fun x=>⟨x.1,x.2,D8 (L.getD i v0) (J4 L i),f,r⟩
def KI (L:List V2)(f r:Rat)(i:Nat):Nat→List GG
 |0=>[]
 |k+1=>KI L f r i k ++ LN L f r i (i+1+k)
def Av (L:List V2)(f r:Rat):Nat→List GG
 |0=>[]
 |i+1=>Av L f r i ++ KI L f r i (L.length-(i+1))
def LH (L:List V2)(f r:Rat):List GG:=Av L f r L.length
def Kc (L:List V2)(f r:Rat):List GG:=if Zm L∧Bb f r=true then LH L f r else []
theorem oH (L:List V2)(f r:Rat)(i j:Nat):(LN L f r i j).length≤1:=by
 unfold LN;rw[List.length_map];cases Gb (Jl L i) (Jl L j) <;> simp
theorem GE (L:List V2)(f r:Rat)(i:Nat):∀k,(KI L f r i k).length≤k
 |0=>by simp[KI]
 |k+1=>by
  have h1:=GE L f r i k;have h2:=oH L f r i (i+1+k);show(KI L f r i k ++ LN L f r i (i+1+k)).length≤_;rw[List.length_append];omega
theorem CN (L:List V2)(f r:Rat):∀i,(Av L f r i).length≤L.length*i
 |0=>by simp[Av]
 |i+1=>by
  have h1:=CN L f r i;have h2:=GE L f r i (L.length-(i+1));show(Av L f r i ++ KI L f r i (L.length-(i+1))).length≤_;rw[List.length_append,Nat.mul_succ];omega
def VZ (c:Nat)(f r:Rat)(g:GG):Prop:=vb g.p≤35*c+24∧vb g.q≤121*c+84∧vb g.n≤2*c+1∧g.n≠v0∧g.force=f∧g.rough=r
theorem W0 {c K:Nat}{a d:V2}{lo hi:Rat}(ha:vb a≤c)(hd:vb d≤2*c+1)(hl:qb lo≤K)(hh:qb hi≤K):vb (LD a d lo hi)≤3*c+2*K+4:=by
 have h1:=An lo hi;have h2:=Qq (lo+hi) (Rat.divInt 1 2);have h3:=Gx 1 2 (by omega) (by omega);have h4:=HG d ((lo+hi)*Rat.divInt 1 2);have h5:=AU a (d.scale ((lo+hi)*Rat.divInt 1 2));unfold LD;omega
theorem W1 {c P:Nat}{p n b:V2}(hp:vb p≤P)(hn:vb n≤2*c+1)(hb:vb b≤c):vb (Pe p n b)≤16*c+3*P+12:=by
 have h1:=QX b p;have h2:=Ky (b.sub p) n;have h3:=Ky n n;have h4:=Hy (XY (b.sub p) n) (XY n n);have h5:=HG n (XY (b.sub p) n/XY n n);have h6:=AU p (n.scale (XY (b.sub p) n/XY n n));unfold Pe;omega
theorem ji {K:Nat}{s t:Rat}(hs:qb s≤K)(ht:qb t≤K)(hK:2≤K):qb (NT s t)≤K∧qb (NP s t)≤K∧qb (Nj s t)≤K∧qb (MX s t)≤K:=by
 have z:=Dv;have o:qb 1≤2:=by decide +kernel
 have h1:qb (Nj s t)≤K:=by unfold Nj;split <;> assumption
 have h2:qb (MX s t)≤K:=by unfold MX;split <;> assumption
 refine⟨?_,?_,h1,h2⟩
 ·unfold NT;split
  ·omega
  ·exact h1
 ·unfold NP;split
  ·omega
  ·exact h2
theorem tB {c:Nat}(L:List V2)(h:Qp L c)(f r:Rat)(i j:Nat):∀g∈LN L f r i j,VZ c f r g:=by
 intro g hg;unfold LN Gb at hg;obtain⟨x,hx,rfl⟩:=List.mem_map.1 hg;have h1:=h i;have h2:vb (J4 L i)≤c:=h ((i+1)%L.length);have h3:=h j;have h4:vb (J4 L j)≤c:=h ((j+1)%L.length);have hn:=MS (L.getD i v0) (J4 L i);have hd:=QX (J4 L i) (L.getD i v0)
 split at hx
 ·rename_i hc
  split at hx
  ·rw[Option.mem_toList]at hx
   cases hx;have s1:=CD (L.getD i v0) ((J4 L i).sub (L.getD i v0)) (L.getD j v0) h1 (by omega) h3;have s2:=CD (L.getD i v0) ((J4 L i).sub (L.getD i v0)) (J4 L j) h1 (by omega) h4;obtain⟨l1,l2,_,_⟩:=ji s1 s2 (by omega);have hd2:vb ((J4 L i).sub (L.getD i v0))≤2*c+1:=by omega
   have hn2:vb (D8 (L.getD i v0) (J4 L i))≤2*c+1:=by omega
   have hp:=W0 (a:=L.getD i v0) (d:=(J4 L i).sub (L.getD i v0)) h1 hd2 l1 l2;have hq:=W1 (c:=c) (n:=D8 (L.getD i v0) (J4 L i)) hp hn2 h3;refine⟨Nat.le_trans hp (by omega),Nat.le_trans hq (by omega),hn2,fun e=>?_,rfl,rfl⟩;have e:D8 (L.getD i v0) (J4 L i)=v0:=e;have:=hc.2;have e2:(Jl L i).i=v0:=e;rw[e2]at this;unfold XY v0 at this;grind
  ·simp at hx
 ·simp at hx
theorem WM {c:Nat}(L:List V2)(h:Qp L c)(f r:Rat)(i:Nat):∀k,∀g∈KI L f r i k,VZ c f r g
 |0,g,hg=>by simp[KI]at hg
 |k+1,g,hg=>by
  rcases List.mem_append.1 (show g∈KI L f r i k ++ LN L f r i (i+1+k)from hg)with hg |hg
  ·exact WM L h f r i k g hg
  ·exact tB L h f r i _ g hg
theorem W2 {c:Nat}(L:List V2)(h:Qp L c)(f r:Rat):∀i,∀g∈Av L f r i,VZ c f r g
 |0,g,hg=>by simp[Av]at hg
 |i+1,g,hg=>by
  rcases List.mem_append.1 (show g∈Av L f r i ++ KI L f r i (L.length-(i+1))from hg)with hg |hg
  ·exact W2 L h f r i g hg
  ·exact WM L h f r i _ g hg
theorem Iw {c:Nat}(L:List V2)(h:Qp L c)(f r:Rat):∀g∈Kc L f r,VZ c f r g:=by
 unfold Kc
 split
 ·exact W2 L h f r _
 ·intro g hg;simp at hg
theorem D6 {α:Type}(e:α→List AV)(s:Nat)(d:α)(f:Nat→AV)(t:Bool):Weak (.sl 0 0 f t) (cS e s d []):=Kp rfl (by simp) fun j hj=>absurd hj (by simp)
theorem oM (x:Rat):x/Rat.divInt 2 1=x*Rat.divInt 1 2:=by
 rw[Rat.div_def,show(Rat.divInt 2 1)⁻¹=Rat.divInt 1 2 by decide +kernel]
theorem ua:Rat.divInt 1 1=1:=by decide +kernel
theorem wy (m:Rat):MX m 0=if m<0 then 0 else m:=by
 unfold MX;by_cases h:m<0
 ·rw[if_pos h,if_neg (by grind)]
 ·rw[if_neg h]
  by_cases h2:0<m
  ·rw[if_pos h2]
  ·rw[if_neg h2];grind
theorem wo (m:Rat):Nj m 1=if 1<m then 1 else m:=rfl
theorem NG (L:List V2)(f r:Rat)(i:Nat):Av L f r (i+1)=Av L f r i ++ KI L f r i (L.length-(i+1)):=rfl
theorem ST {H:List AO}{id ver n:Nat}(l:List GG)(ho:H[id]?=some (.row ver (l.length*32) (XA gC 32 gZ l))) (hn:n=l.length):Zv H (.osl id ver 32 0 n) (Nh l):=by
 subst hn;rw[XC];refine ZR (.inl ho) (by omega) (fun h=>by rw[h]) fun j hj=>?_
 rw[Nat.zero_add];exact(Xe (Ka _) _).sees _
theorem SE {c:Nat}(L:List V2)(f r:Rat)(h:Qp L c)(hc:c≤18)(hl:L.length≤13)(hf:qb f≤40)(hr:qb r≤40):Fn Tryz.prog 47 [Q6 L,qA f,qA r] (Nh (Kc L f r)):=by
 have c1:=Bu L (fun i=>Nat.le_trans (h i) (by omega)) (by omega);have c2:=SJ f r (by unfold rm;omega) (by unfold rm;omega);obtain⟨R,hR⟩:∃R,R=Kc L f r:=⟨_,rfl⟩
 have sR:=Z9 R;rw[←hR];unfold Kc at hR;generalize Bb f r=J at *;refine Fq Tryz.call47 Tryz.func47 18 [] [18,19012,19,20004,20006,20008,20009] [] (by simp[Xn,Xb]) (Xl ?_);simp(disch:=omega)only[AS.start,X4,qA,qC,↓Xd,wG,seval];refine X0 c1 ⟨by rw[X4];exact Weak.rfl' _,trivial⟩ ?_;simp(disch:=omega)only[↓Xd,wG,seval];have nil:∀ (s:AS),s.get 6=.sl 0 0 (fun _=>.any) true→R=[]→RetOk (Jv Tryz.prog Tryz.f47 [18,19012,19,20004,20006,20008,20009] [] (Nh R)) s:=fun s hs e=>ZP rfl (by rw[hs];exact Xs sR (by rw[e];exact D6 gC 32 gZ _ _))
 refine⟨fun hp=>nil _ rfl (by rw[hR,if_neg fun h=>hp h.1]),fun hp=>?_⟩;refine X0 c2 (X2 _) ?_;simp(disch:=omega)only[↓Xd,wG,seval];refine⟨fun hj=>nil _ rfl (by rw[hR,if_neg fun h=>by rw[h.2]at hj;exact absurd hj (by simp)]),fun hj=>?_⟩;have hj:J=true:=by simpa using hj
 rw[if_pos ⟨hp,hj⟩]at hR;have bV:∀q,Jo q (Q6 L)=True:=fun q=>eq_true (X7 (Xn L))
 have bP:∀q x,Jo q (KY x)=True:=fun q x=>eq_true (X7 (XN fun j _=>Xe (Jn x) j))
 have bO:∀q i x,Qo q (.con i 4 (Xg (qC x)))=True:=fun q i x=>eq_true fun j _=>X7 (Xe (Jn x) j)
 have bR:∀q i n l,Qo q (.row i n (XA gC 32 gZ l))=True:=fun q i n l=>eq_true fun j _=>X7 (Xe (Ka _) _)
 have fl:=fun i=>CN L f r i
 refine Run.sub ?_ (Q0 0 rfl);refine Run.sub ?_ (Q0 1 rfl);refine Run.sub ?_ (Q5 4 rfl rfl (by omega));refine Run.sub ?_ (Q5 5 rfl rfl (by omega));refine Run.sub ?_ (KO 7 32 (XA gC 32 gZ []) rfl);refine Xj (fun i:Nat=>⟨18,[],[Q6 L,.any,.any,.any,KY f,KY r,.any,.osl 2 (Av L f r i).length 32 0 (Av L f r i).length,I i,.any,.any,.any,.any,.any,.any,.any,.any,.any],[],[.con 0 4 (Xg (qC f)),.con 0 4 (Xg (qC r)),.row (Av L f r i).length ((Av L f r i).length*32) (XA gC 32 gZ (Av L f r i))]⟩) (fun i=>i≤L.length) (fun i=>L.length-i) 0 (by omega)
  (Xi rfl ⟨.inr (X4 L).symm,.inl rfl,.inl rfl,.inl rfl,.inr rfl,.inr rfl,.inl rfl,.inr rfl,.inr rfl,.inl rfl,.inl rfl,.inl rfl,.inl rfl,.inl rfl,.inl rfl,.inl rfl,.inl rfl,.inl rfl,trivial⟩ trivial rfl) ?_
 intro i hi next
 have w1:=wj i (by omega);by_cases hi2:i<L.length
 rotate_left
 ·obtain rfl:i=L.length:=by omega
  refine Xl ?_;simp(disch:=omega)only[X4,↓Xd,wG,seval];exact ZP rfl (by rw[hR];exact ST _ rfl rfl)
 have nx:=next (i+1)
 rw[NG]at nx;have f1:(i<L.length)=True:=eq_true hi2;refine Xl ?_;simp(disch:=omega)only[X4,w1,f1,↓Xd,wG,seval];generalize hF:Av L f r i=F at *;refine Xj (fun k:Nat=>⟨18,[],[Q6 L,.any,.any,.any,KY f,KY r,.any,.osl 2 (F ++ KI L f r i k).length 32 0 (F ++ KI L f r i k).length,I i,I (i+1+k:Nat),.any,.any,.any,.any,.any,.any,.any,.any],[],[.con 0 4 (Xg (qC f)),.con 0 4 (Xg (qC r)),.row (F ++ KI L f r i k).length ((F ++ KI L f r i k).length*32) (XA gC 32 gZ (F ++ KI L f r i k))]⟩) (fun k=>k≤L.length-(i+1)) (fun k=>L.length-k) 0 (by omega)
  (Xi rfl ⟨.inr (X4 L).symm,.inl rfl,.inl rfl,.inl rfl,.inr rfl,.inr rfl,.inl rfl,.inr (by simp[KI]),.inr rfl,.inr rfl,.inl rfl,.inl rfl,.inl rfl,.inl rfl,.inl rfl,.inl rfl,.inl rfl,.inl rfl,trivial⟩ trivial (by simp only[KI,List.append_nil];rfl)) ?_
 intro k hk nextk;have w2:=wj (i+1+k) (by omega);by_cases hk2:i+1+k<L.length
 rotate_left
 ·obtain rfl:k=L.length-(i+1):=by omega
  refine Xl ?_;simp(disch:=omega)only[X4,w1,w2,↓Xd,wG,seval];exact nx _ (by omega) (by omega) (Aw (by simp[Xm,I,X4]) rfl)
 have nk:=nextk (k+1);rw[show KI L f r i (k+1)=KI L f r i k ++ LN L f r i (i+1+k)from rfl,←List.append_assoc]at nk;have hln:(F ++ KI L f r i k).length≤1000:=by
  have g1:=fl i;have g2:=GE L f r i k;rw[hF]at g1;have g3:L.length*i≤13*13:=Nat.mul_le_mul hl (by omega);rw[List.length_append];omega
 generalize F ++ KI L f r i k=G at *;clear hF next nextk fl
 have hk3:i+1+k<1000:=by omega
 generalize hj':i+1+k=j at *;have f2:(j<L.length)=True:=eq_true hk2;have hg:LN L f r i j=((Gb (Jl L i) (Jl L j)).toList).map fun x=>⟨x.1,x.2,D8 (L.getD i v0) (J4 L i),f,r⟩:=rfl
 have v1:=vF L i;have v2:=vF L j;have h7:Qp L 1000:=fun i=>Nat.le_trans (h i) (by omega)
 have d1:=C0 L i h7 (by omega) hi2;have d2:=C0 L j h7 (by omega) hk2;have d3:=Og L i (L.getD j v0) h hc (by omega) hi2 (h j);have d4:=Og L i (J4 L j) h hc (by omega) hi2 (h _);have d5:=Ak L j (by omega) hk2;have d6:=Ak L i (by omega) hi2;have e1:L.getD ((i+1)%L.length) v0=J4 L i:=rfl;have e2:L.getD ((j+1)%L.length) v0=J4 L j:=rfl;rw[e2]at d5;rw[e1]at d6;have h1:=h i;have h2:vb (J4 L i)≤c:=h ((i+1)%L.length);have h3:=h j;have h4:vb (J4 L j)≤c:=h ((j+1)%L.length);have hs1:Jl L i=⟨L.getD i v0,J4 L i,D8 (L.getD i v0) (J4 L i)⟩:=rfl;have hs2:Jl L j=⟨L.getD j v0,J4 L j,D8 (L.getD j v0) (J4 L j)⟩:=rfl;rw[hs1,hs2]at hg;unfold Gb FC FD Pd at hg;simp only at hg;generalize L.getD i v0=a at *;generalize J4 L i=a' at *;generalize L.getD j v0=b at *;generalize J4 L j=b' at *;have m1:=MS a a';have m2:=MS b b';generalize D8 a a'=n at *;generalize D8 b b'=m at *;have m3:=QX a' a;have m4:=QX b a;have u1:=WK m n (by omega) (by omega);have u2:=Jd b a (by unfold rm;omega) (by unfold rm;omega);have u3:=JG (b.sub a) n (by unfold vm;omega) (by unfold vm;omega);have m5:=Ky (b.sub a) n;have u4:=JV (XY (b.sub a) n) (by unfold rm;omega);have s5:(XY (b.sub a) n).num.sign≤0↔XY (b.sub a) n≤0:=by
  have:=II (XY (b.sub a) n);rw[←Int.not_lt,this,Rat.not_lt]
 have u5:=Jd a' a (by unfold rm;omega) (by unfold rm;omega);have k1:=CD a (a'.sub a) b h1 (by omega) h3;have k2:=CD a (a'.sub a) b' h1 (by omega) h4;generalize hD:a'.sub a=D at *;refine Xl ?_;simp(disch:=omega)only[X4,w1,w2,f1,f2,v1,v2,↓Xd,wG,seval];refine X0 d1 ⟨by rw[X4];exact Weak.rfl' _,Weak.rfl' _,trivial⟩ ?_;simp(disch:=omega)only[vA,vC,X4,w1,w2,f1,f2,v1,v2,↓Xd,wG,seval];refine X0 d2 ⟨by rw[X4];exact Weak.rfl' _,Weak.rfl' _,trivial⟩ ?_;simp(disch:=omega)only[vA,vC,X4,w1,w2,f1,f2,v1,v2,↓Xd,wG,seval];refine X0 u1 (X2 _) ?_;simp(disch:=omega)only[vA,vC,qA,qC,X4,w1,w2,f1,f2,v1,v2,↓Xd,wG,seval];refine⟨fun ho=>?_,fun ho=>?_⟩
 ·rw[if_neg fun q=>ho q.1]at hg
  replace hg:LN L f r i j=[]:=hg;rw[hg,List.append_nil]at nk;exact nk _ (by omega) (by omega) (V3 (m:=3) (by simp[X4,Xm,I];omega) rfl (by simp[XO,bV,bP]) (by simp[bO,bR]))
 refine X0 u2 (X2 _) ?_;simp(disch:=omega)only[vA,vC,qA,qC,X4,w1,w2,f1,f2,v1,v2,↓Xd,wG,seval];refine X0 u3 (X2 _) ?_;simp(disch:=omega)only[vA,vC,qA,qC,X4,w1,w2,f1,f2,v1,v2,↓Xd,wG,seval];refine X0 u4 (X2 _) ?_;simp(disch:=omega)only[vA,vC,qA,qC,X4,w1,w2,f1,f2,v1,v2,↓Xd,wG,seval];refine⟨fun ho2=>?_,fun ho2=>?_⟩
 ·rw[if_neg fun q=>by rw[s5]at ho2;exact absurd q.2 (Rat.not_lt.2 ho2)]at hg
  replace hg:LN L f r i j=[]:=hg;rw[hg,List.append_nil]at nk;exact nk _ (by omega) (by omega) (V3 (m:=3) (by simp[X4,Xm,I];omega) rfl (by simp[XO,bV,bP]) (by simp[bO,bR]))
 rw[if_pos ⟨ho,Rat.not_le.1 fun q=>ho2 (s5.2 q)⟩]at hg;generalize Js a D b=s at *;generalize Js a D b'=t at *;obtain⟨l1,l2,l3,l4⟩:=ji k1 k2 (by omega);have u6:=On s t (by unfold rm;omega) (by unfold rm;omega);have u8:=Ol s t (by unfold rm;omega) (by unfold rm;omega);have u7:=Ol (Nj s t) 0 (by unfold rm;omega) (by unfold rm;exact Nat.le_trans Dv (by omega));rw[wy,show(if Nj s t<0 then 0 else Nj s t)=NT s t from rfl]at u7;have o1:=XS 1 1 ⟨by omega,by omega⟩ ⟨by omega,by omega⟩;rw[ua]at o1;have u9:=On (MX s t) 1 (by unfold rm;omega) (by unfold rm;decide +kernel);rw[wo,show(if 1<MX s t then 1 else MX s t)=NP s t from rfl]at u9;have u10:=Z7 (NT s t) (NP s t) (by unfold rm;omega) (by unfold rm;omega);refine X0 d3 ⟨by rw[X4];exact Weak.rfl' _,Weak.rfl' _,Weak.rfl' _,trivial⟩ ?_;simp(disch:=omega)only[vA,vC,qA,qC,X4,w1,w2,f1,f2,v1,v2,↓Xd,wG,seval];refine X0 d5 ⟨by rw[X4];exact Weak.rfl' _,Weak.rfl' _,trivial⟩ ?_;simp(disch:=omega)only[vA,vC,qA,qC,X4,w1,w2,f1,f2,v1,v2,↓Xd,wG,seval];refine X0 d4 ⟨by rw[X4];exact Weak.rfl' _,Weak.rfl' _,Weak.rfl' _,trivial⟩ ?_;simp(disch:=omega)only[vA,vC,qA,qC,X4,w1,w2,f1,f2,v1,v2,↓Xd,wG,seval];refine X0 u6 (X2 _) ?_;simp(disch:=omega)only[vA,vC,qA,qC,X4,w1,w2,f1,f2,v1,v2,↓Xd,wG,seval];refine X0 u7 ⟨Weak.rfl' _,ZS (Zr _),trivial⟩ ?_;simp(disch:=omega)only[vA,vC,qA,qC,X4,w1,w2,f1,f2,v1,v2,↓Xd,wG,seval];refine X0 u8 (X2 _) ?_;simp(disch:=omega)only[vA,vC,qA,qC,X4,w1,w2,f1,f2,v1,v2,↓Xd,wG,seval];refine X0 o1 (X2 _) ?_;simp(disch:=omega)only[vA,vC,qA,qC,X4,w1,w2,f1,f2,v1,v2,↓Xd,wG,seval];refine X0 u9 (X2 _) ?_;simp(disch:=omega)only[vA,vC,qA,qC,X4,w1,w2,f1,f2,v1,v2,↓Xd,wG,seval];refine X0 u10 (X2 _) ?_;simp(disch:=omega)only[vA,vC,qA,qC,X4,w1,w2,f1,f2,v1,v2,↓Xd,wG,seval];have s6:=Pr (NT s t) (NP s t);refine⟨fun ho3=>?_,fun ho3=>?_⟩
 ·rw[if_neg fun q=>absurd (s6.1 ho3) (Rat.not_le.2 q)]at hg
  replace hg:LN L f r i j=[]:=hg;rw[hg,List.append_nil]at nk;exact nk _ (by omega) (by omega) (V3 (m:=3) (by simp[X4,Xm,I];omega) rfl (by simp[XO,bV,bP]) (by simp[bO,bR]))
 have hlt:NT s t<NP s t:=Rat.not_le.1 fun q=>ho3 (s6.2 q)
 rw[if_pos hlt]at hg;generalize NT s t=lo at *;generalize NP s t=hi at *;have u11:=Z6 lo hi (by unfold rm;omega) (by unfold rm;omega);have o2:=XS 2 1 ⟨by omega,by omega⟩ ⟨by omega,by omega⟩;have q2:=Gx 2 1 (by omega) (by omega);have q3:=An lo hi;have u12:=FO (lo+hi) (Rat.divInt 2 1) (by unfold vm;omega) (by unfold vm;omega);rw[oM]at u12;have q4:=Qq (lo+hi) (Rat.divInt 1 2);have q5:=Gx 1 2 (by omega) (by omega);have hp:=W0 (a:=a) (d:=D) h1 (by omega) l1 l2;have hq:=W1 (p:=LD a D lo hi) (n:=n) (b:=b) hp (by omega) h3;have u13:=DA D ((lo+hi)*Rat.divInt 1 2) (by unfold vm;omega) (by unfold vm;omega);have q6:=HG D ((lo+hi)*Rat.divInt 1 2);have u14:=K9 a (D.scale ((lo+hi)*Rat.divInt 1 2)) (by unfold vm;omega) (by unfold vm;omega);rw[show a.add (D.scale ((lo+hi)*Rat.divInt 1 2))=LD a D lo hi from rfl]at u14;generalize LD a D lo hi=p at *;have q7:=QX b p;have u15:=Jd b p (by unfold rm;omega) (by unfold rm;omega);have u16:=JG (b.sub p) n (by unfold vm;omega) (by unfold vm;omega);have u17:=JG n n (by unfold vm;omega) (by unfold vm;omega);have q8:=Ky (b.sub p) n;have q9:=Ky n n;have u18:=FO (XY (b.sub p) n) (XY n n) (by unfold vm;omega) (by unfold vm;omega);have q10:=Hy (XY (b.sub p) n) (XY n n);have u19:=DA n (XY (b.sub p) n/XY n n) (by unfold vm;omega) (by unfold vm;omega);have q11:=HG n (XY (b.sub p) n/XY n n);have u20:=K9 p (n.scale (XY (b.sub p) n/XY n n)) (by unfold vm;omega) (by unfold vm;omega);rw[show p.add (n.scale (XY (b.sub p) n/XY n n))=Pe p n b from rfl]at u20;generalize Pe p n b=q at *;generalize XY (b.sub p) n/XY n n=far at *;generalize (lo+hi)*Rat.divInt 1 2=mid at *;refine X0 u11 (X2 _) ?_;simp(disch:=omega)only[vA,vC,qA,qC,X4,w1,w2,f1,f2,v1,v2,↓Xd,wG,seval];refine X0 o2 (X2 _) ?_;simp(disch:=omega)only[vA,vC,qA,qC,X4,w1,w2,f1,f2,v1,v2,↓Xd,wG,seval];refine X0 u12 (X2 _) ?_;simp(disch:=omega)only[vA,vC,qA,qC,X4,w1,w2,f1,f2,v1,v2,↓Xd,wG,seval];refine X0 d6 ⟨by rw[X4];exact Weak.rfl' _,Weak.rfl' _,trivial⟩ ?_;simp(disch:=omega)only[vA,vC,qA,qC,X4,w1,w2,f1,f2,v1,v2,↓Xd,wG,seval];refine X0 u5 (X2 _) ?_;simp(disch:=omega)only[vA,vC,qA,qC,X4,w1,w2,f1,f2,v1,v2,↓Xd,wG,seval];refine X0 u13 (X2 _) ?_;simp(disch:=omega)only[vA,vC,qA,qC,X4,w1,w2,f1,f2,v1,v2,↓Xd,wG,seval];refine X0 u14 (X2 _) ?_;simp(disch:=omega)only[vA,vC,qA,qC,X4,w1,w2,f1,f2,v1,v2,↓Xd,wG,seval];refine X0 u15 (X2 _) ?_;simp(disch:=omega)only[vA,vC,qA,qC,X4,w1,w2,f1,f2,v1,v2,↓Xd,wG,seval];refine X0 u16 (X2 _) ?_;simp(disch:=omega)only[vA,vC,qA,qC,X4,w1,w2,f1,f2,v1,v2,↓Xd,wG,seval];refine X0 u17 (X2 _) ?_;simp(disch:=omega)only[vA,vC,qA,qC,X4,w1,w2,f1,f2,v1,v2,↓Xd,wG,seval];refine X0 u18 (X2 _) ?_;simp(disch:=omega)only[vA,vC,qA,qC,X4,w1,w2,f1,f2,v1,v2,↓Xd,wG,seval];refine X0 u19 (X2 _) ?_;simp(disch:=omega)only[vA,vC,qA,qC,X4,w1,w2,f1,f2,v1,v2,↓Xd,wG,seval];refine X0 u20 (X2 _) ?_;simp(disch:=omega)only[vA,vC,qA,qC,X4,w1,w2,f1,f2,v1,v2,KY,↓Xd,wG,seval];replace hg:LN L f r i j=[⟨p,q,n,f,r⟩]:=hg;have hap:=Bz gC 32 gZ G ⟨p,q,n,f,r⟩ (by omega);rw[hg]at nk;rw[show(G ++ [(⟨p,q,n,f,r⟩:GG)]).length=G.length+1 by simp]at nk;exact⟨fun j hj=>iP ⟨p,q,n,f,r⟩ j hj,nk _ (by omega) (by omega) (V3 (m:=3) (by simp[X4,Xm,I,KY];exact⟨rfl,rfl,by omega⟩) (by rw[←hap];rfl) (by simp[XO,bV,bP]) (by simp[bO,bR]))⟩
def Ce (L:List V2)(g:GG):Int :=
 if Am L∧Kh g=true then(if(Jz L).any (ZW g)=true∧(Jz L).any (KA g)=true then 0 else 17)else 1
theorem uq (L:List V2)(h:Qp L 1000)(i:Nat):ur (Jl L i) 10000:=by
 have h1:=h i;have h2:vb (J4 L i)≤1000:=h ((i+1)%L.length);have h3:=MS (L.getD i v0) (J4 L i);refine⟨?_,?_,?_⟩
 ·show vb (L.getD i v0)≤_;omega
 ·show vb (J4 L i)≤_;omega
 ·show vb (D8 (L.getD i v0) (J4 L i))≤_;omega
theorem LY (L:List V2)(g:GG)(h:Qp L 1000)(hl:L.length<1000000)(hg:wZ g)(hv:vb g.p≤10000∧vb g.q≤10000∧vb g.n≤10000):Fn Tryz.prog 15 [Q6 L,gA g] (I (Ce L g)):=by
 obtain⟨g1,g2,g3⟩:=id hv;have c1:=EV L h hl;have c2:=LQ g hg;have c3:=NN L h hl;have hm:∀x∈Jz L,ur x 10000:=fun x hx=>by
  unfold Jz JB at hx;obtain⟨i,_,rfl⟩:=List.mem_map.1 hx;exact uq L h i
 have hlen:(Jz L).length<1000000:=by unfold Jz;rw[DI];exact hl
 have c4:=G5 (Jz L) 65 [gP g] (ZW g) hlen (fun a ha=>List.mem_singleton.1 ha▸C5 g) fun x hx=>ir g x (hm x hx) ⟨by omega,by omega⟩
 have c5:=G5 (Jz L) 68 [gP g] (KA g) hlen (fun a ha=>List.mem_singleton.1 ha▸C5 g) fun x hx=>cO g x (hm x hx) ⟨by omega,by omega⟩
 have hd:Ce L g=if Am L∧Kh g=true then(if(Jz L).any (ZW g)=true∧(Jz L).any (KA g)=true then 0 else 17)else 1:=rfl;generalize Ce L g=R at *;generalize (Jz L).any (ZW g)=b1 at *;generalize (Jz L).any (KA g)=b2 at *;have gf:=gF g;refine Fn.intro (fn:=Tryz.f15) Tryz.call15 Tryz.func15 rfl mixed 8 [] [] [] (by kernel_rfl) (Nat.le_of_ble_eq_true rfl) (Kd (Xn L) (QE g)) (XL 8 ?_);simp(disch:=omega)only[AS.start,gA,QJ,X4,↓Xd,wG,seval];refine Run.sub ?_ (Q0 0 rfl);refine Run.sub ?_ (Q5 3 rfl rfl (by omega));refine Xl ?_;simp(disch:=omega)only[AS.put,List.set,↓Xd,wG,seval];refine X0 c1 ⟨by rw[X4];exact Weak.rfl' _,trivial⟩ ?_;simp(disch:=omega)only[↓Xd,wG,seval];refine⟨fun h1=>?_,fun h1=>?_⟩
 ·exact Xk (v:=I 1) rfl rfl (Xa _) (by rw[hd,if_neg fun h=>h1 h.1])
 refine X0 c2 (X2 _) ?_;simp(disch:=omega)only[↓Xd,wG,seval];refine⟨fun h2=>?_,fun h2=>?_⟩
 ·exact Xk (v:=I 1) rfl rfl (Xa _) (by rw[hd,if_neg fun h=>by rw[h.2]at h2;exact absurd h2 (by simp)])
 have h2:Kh g=true:=by simpa using h2
 rw[if_pos ⟨h1,h2⟩]at hd;refine X0 c3 ⟨by rw[X4];exact Weak.rfl' _,trivial⟩ ?_;simp(disch:=omega)only[↓Xd,wG,seval];cases b1
 ·refine X0 c4 (X2 _) ?_
  simp(disch:=omega)only[↓Xd,wG,seval];exact Xk (v:=I 17) rfl rfl (Xa _) (by rw[hd];rfl)
 ·refine X0 c4 (X2 _) ?_
  simp(disch:=omega)only[↓Xd,wG,seval];cases b2
  ·refine X0 c5 (X2 _) ?_
   simp(disch:=omega)only[↓Xd,wG,seval];exact Xk (v:=I 17) rfl rfl (Xa _) (by rw[hd];rfl)
  ·refine X0 c5 (X2 _) ?_
   simp(disch:=omega)only[↓Xd,wG,seval];exact Xk (v:=I 0) rfl rfl (Xa _) (by rw[hd];rfl)
theorem W9 (L:List V2)(g:GG)(h:Qp L 1000)(hl:L.length<1000000)(hg:gS g):Fn Tryz.prog 15 [Q6 L,gA g] (I (Ce L g)):=by
 obtain⟨g1,g2,g3,g4,g5⟩:=id hg;exact LY L g h hl hg.ok ⟨by omega,by omega,by omega⟩
theorem NH (L:List V2)(g:GG)(i:Nat):ZW g (Jl L i)=(decide (D8 (L.getD i v0) (J4 L i)=g.n) && TD (L.getD i v0) (J4 L i) g.p):=by
 rw[←Pi _ _ (D8 (L.getD i v0) (J4 L i))];rfl
theorem MD (L:List V2)(g:GG)(i:Nat):KA g (Jl L i)=(decide (Gt (D8 (L.getD i v0) (J4 L i)) g.n) && TD (L.getD i v0) (J4 L i) g.q):=by
 rw[←Pi _ _ (D8 (L.getD i v0) (J4 L i))];rfl
theorem MF (L:List V2)(p:Sd→Bool)(i:Nat):(JB L (i+1)).any p=((JB L i).any p || p (Jl L i)):=by
 rw[←Ig,List.any_append];simp
theorem cC (L:List V2)(g:GG)(h:Qp L 1000)(hl:L.length<1000000)(hg:vb g.p≤10000∧vb g.q≤10000∧vb g.n≤10000∧qb g.force≤10000∧qb g.rough≤10000):Fn Tryz.prog 16 [Q6 L,gA g] (I (Ce L g)):=by
 obtain⟨g1,g2,g3,g4,g5⟩:=id hg;have c1:=Bu L h hl;rw[show decide (Zm L)=decide (Am L)from decide_eq_decide.2 (CX L)]at c1;have c2:=cw g hg;have hd:Ce L g=if Am L∧Kh g=true then(if(Jz L).any (ZW g)=true∧(Jz L).any (KA g)=true then 0 else 17)else 1:=rfl;generalize Ce L g=R at *;refine Fn.intro (fn:=Tryz.f16) Tryz.call16 Tryz.func16 rfl mixed 9 [] [] [] (by kernel_rfl) (Nat.le_of_ble_eq_true rfl) (Kd (Xn L) (QE g)) (Xl ?_);simp(disch:=omega)only[AS.start,gA,QJ,X4,↓Xd,wG,seval];refine X0 c1 ⟨by rw[X4];exact Weak.rfl' _,trivial⟩ ?_;simp(disch:=omega)only[↓Xd,wG,seval];refine⟨fun h1=>?_,fun h1=>?_⟩
 ·exact Xk (v:=I 1) rfl rfl (Xa _) (by rw[hd,if_neg fun h=>h1 h.1])
 refine X0 c2 (X2 _) ?_;simp(disch:=omega)only[↓Xd,wG,seval];refine⟨fun h2=>?_,fun h2=>?_⟩
 ·exact Xk (v:=I 1) rfl rfl (Xa _) (by rw[hd,if_neg fun h=>by rw[h.2]at h2;exact absurd h2 (by simp)])
 have h2:Kh g=true:=by simpa using h2
 rw[if_pos ⟨h1,h2⟩]at hd;have bV:∀q,Jo q (Q6 L)=True:=fun q=>eq_true (X7 (Xn L))
 have bA:∀q,Jo q (gA g)=True:=fun q=>eq_true (X7 (QE g))
 have bP:∀q,Jo q (gP g)=True:=fun q=>eq_true (X7 (C5 g))
 have bO:∀q i,Qo q (.con i 32 (Xg (gC g)))=True:=fun q i=>eq_true fun j _=>X7 (Xe (Ka g) j)
 refine Run.sub ?_ (Q0 0 rfl);refine Run.sub ?_ (Q5 3 rfl rfl (by omega));refine Xj (fun i:Nat=>⟨9,[],[Q6 L,.any,.any,gP g,.any,.bool ((JB L i).any (ZW g)),.bool ((JB L i).any (KA g)),I i,.any],[],[.con 0 32 (Xg (gC g))]⟩) (fun i=>i≤L.length) (fun i=>L.length-i) 0 (by omega)
  (Xi rfl ⟨.inr (X4 L).symm,.inl rfl,.inl rfl,.inr rfl,.inl rfl,.inr rfl,.inr rfl,.inr rfl,.inl rfl,trivial⟩ trivial rfl) ?_
 intro i hi next
 have w1:=wj i (by omega);have gf:=gF g;by_cases hi2:i<L.length
 ·have nx:=next (i+1)
  rw[MF,MF]at nx;rw[NH,MD]at nx;have f1:(i<L.length)=True:=eq_true hi2;have d1:=C0 L i h (by omega) hi2;have hb1:=h i;have hb2:vb (J4 L i)≤1000:=h ((i+1)%L.length);have m1:=MS (L.getD i v0) (J4 L i);have d2:=FN (D8 (L.getD i v0) (J4 L i)) g.n (by unfold vm;omega) (by unfold vm;omega);have d3:=WK (D8 (L.getD i v0) (J4 L i)) g.n (by omega) (by omega);have d4:=kp L i g.p h (by omega) hi2 (by omega);have d5:=kp L i g.q h (by omega) hi2 (by omega);generalize TD (L.getD i v0) (J4 L i) g.p=o1 at *;generalize TD (L.getD i v0) (J4 L i) g.q=o2 at *;generalize D8 (L.getD i v0) (J4 L i)=n at *;generalize (JB L i).any (ZW g)=e1 at *;generalize (JB L i).any (KA g)=e2 at *;generalize decide (n=g.n)=a1 at *;generalize decide (Gt n g.n)=a2 at *;refine Xl ?_;simp(disch:=omega)only[X4,w1,f1,↓Xd,wG,seval];refine X0 d1 ⟨by rw[X4];exact Weak.rfl' _,Weak.rfl' _,trivial⟩ ?_;simp(disch:=omega)only[vA,vC,gP,gf,w1,f1,X4,↓Xd,wG,seval];have fin:∀ (s:AS) (u v:Bool),u=(e1 || (a1 && o1))→v=(e2 || (a2 && o2))→Sub 0 s ⟨9,[],[Q6 L,.any,.any,gP g,.any,.bool u,.bool v,I (i+1:Nat),.any],[],[.con 0 32 (Xg (gC g))]⟩→Run _ _ s:=fun s u v hu hv hs=>nx s (by omega) (by omega) (hu▸hv▸hs)
  cases e1
  ·simp(disch:=omega)only[vA,vC,gP,gf,w1,f1,X4,↓Xd,wG,seval]
   refine X0 d2 (X2 _) ?_;cases a1
   ·simp(disch:=omega)only[vA,vC,gP,gf,w1,f1,X4,↓Xd,wG,seval]
    cases e2
    ·simp(disch:=omega)only[vA,vC,gP,gf,w1,f1,X4,↓Xd,wG,seval]
     refine X0 d3 (X2 _) ?_;cases a2
     ·simp(disch:=omega)only[vA,vC,gP,gf,w1,f1,X4,↓Xd,wG,seval]
      exact fin _ false false (by simp) (by simp) (V3 (m:=1) (by simp[X4,Xm,I,gP]) rfl (by simp[XO,bV,bP]) (by simp[bO]))
     ·simp(disch:=omega)only[vA,vC,gP,gf,w1,f1,X4,↓Xd,wG,seval]
      refine X0 d5 ⟨by rw[X4];exact Weak.rfl' _,Weak.rfl' _,Weak.rfl' _,trivial⟩ ?_;simp(disch:=omega)only[vA,vC,gP,gf,w1,f1,X4,↓Xd,wG,seval];exact fin _ false o2 (by simp) (by simp) (V3 (m:=1) (by simp[X4,Xm,I,gP]) rfl (by simp[XO,bV,bP]) (by simp[bO]))
    ·simp(disch:=omega)only[vA,vC,gP,gf,w1,f1,X4,↓Xd,wG,seval]
     exact fin _ false true (by simp) (by simp) (V3 (m:=1) (by simp[X4,Xm,I,gP]) rfl (by simp[XO,bV,bP]) (by simp[bO]))
   ·simp(disch:=omega)only[vA,vC,gP,gf,w1,f1,X4,↓Xd,wG,seval]
    refine X0 d4 ⟨by rw[X4];exact Weak.rfl' _,Weak.rfl' _,Weak.rfl' _,trivial⟩ ?_;simp(disch:=omega)only[vA,vC,gP,gf,w1,f1,X4,↓Xd,wG,seval];cases e2
    ·simp(disch:=omega)only[vA,vC,gP,gf,w1,f1,X4,↓Xd,wG,seval]
     refine X0 d3 (X2 _) ?_;cases a2
     ·simp(disch:=omega)only[vA,vC,gP,gf,w1,f1,X4,↓Xd,wG,seval]
      exact fin _ o1 false (by simp) (by simp) (V3 (m:=1) (by simp[X4,Xm,I,gP]) rfl (by simp[XO,bV,bP]) (by simp[bO]))
     ·simp(disch:=omega)only[vA,vC,gP,gf,w1,f1,X4,↓Xd,wG,seval]
      refine X0 d5 ⟨by rw[X4];exact Weak.rfl' _,Weak.rfl' _,Weak.rfl' _,trivial⟩ ?_;simp(disch:=omega)only[vA,vC,gP,gf,w1,f1,X4,↓Xd,wG,seval];exact fin _ o1 o2 (by simp) (by simp) (V3 (m:=1) (by simp[X4,Xm,I,gP]) rfl (by simp[XO,bV,bP]) (by simp[bO]))
    ·simp(disch:=omega)only[vA,vC,gP,gf,w1,f1,X4,↓Xd,wG,seval]
     exact fin _ o1 true (by simp) (by simp) (V3 (m:=1) (by simp[X4,Xm,I,gP]) rfl (by simp[XO,bV,bP]) (by simp[bO]))
  ·simp(disch:=omega)only[vA,vC,gP,gf,w1,f1,X4,↓Xd,wG,seval]
   cases e2
   ·simp(disch:=omega)only[vA,vC,gP,gf,w1,f1,X4,↓Xd,wG,seval]
    refine X0 d3 (X2 _) ?_;cases a2
    ·simp(disch:=omega)only[vA,vC,gP,gf,w1,f1,X4,↓Xd,wG,seval]
     exact fin _ true false (by simp) (by simp) (V3 (m:=1) (by simp[X4,Xm,I,gP]) rfl (by simp[XO,bV,bP]) (by simp[bO]))
    ·simp(disch:=omega)only[vA,vC,gP,gf,w1,f1,X4,↓Xd,wG,seval]
     refine X0 d5 ⟨by rw[X4];exact Weak.rfl' _,Weak.rfl' _,Weak.rfl' _,trivial⟩ ?_;simp(disch:=omega)only[vA,vC,gP,gf,w1,f1,X4,↓Xd,wG,seval];exact fin _ true o2 (by simp) (by simp) (V3 (m:=1) (by simp[X4,Xm,I,gP]) rfl (by simp[XO,bV,bP]) (by simp[bO]))
   ·simp(disch:=omega)only[vA,vC,gP,gf,w1,f1,X4,↓Xd,wG,seval]
    exact fin _ true true (by simp) (by simp) (V3 (m:=1) (by simp[X4,Xm,I,gP]) rfl (by simp[XO,bV,bP]) (by simp[bO]))
 ·obtain rfl:i=L.length:=by omega
  change R=if(JB L L.length).any (ZW g)=true∧(JB L L.length).any (KA g)=true then 0 else 17 at hd
  generalize (JB L L.length).any (ZW g)=e1 at *;generalize (JB L L.length).any (KA g)=e2 at *;refine Xl ?_;cases e1
  ·simp(disch:=omega)only[X4,w1,↓Xd,wG,seval]
   exact Xk (v:=I 17) rfl rfl (Xa _) (by rw[hd];rfl)
  ·cases e2
   ·simp(disch:=omega)only[X4,w1,↓Xd,wG,seval]
    exact Xk (v:=I 17) rfl rfl (Xa _) (by rw[hd];rfl)
   ·simp(disch:=omega)only[X4,w1,↓Xd,wG,seval]
    exact Xk (v:=I 0) rfl rfl (Xa _) (by rw[hd];rfl)
theorem KL {P:Program}{T id n:Nat}{Z:List AV}{H:List AO}(hk:C8 P T=some (some n)) (ho:H[id]?=some (.row 0 n (Xg Z))) (hn:Z.length=n):Ql P false T (.ref id 0 0) H=some (.agg Z):=by
 subst hn;rw[AW,hk,K1,ho,K2,bJ,He Z _ _ (by omega)];simp[Q4]
theorem lh {Z W:List AV}(h:W.length=Z.length):EA (Xg Z) 0 W=Xg W:=funext fun j=>by
 rw[Bj];by_cases hj:j<W.length
 ·rw[if_pos ⟨Nat.zero_le _,by omega⟩,Nat.sub_zero];rfl
 ·rw[if_neg (by omega)]
  unfold Xg;rw[List.getD_eq_getElem?_getD,List.getD_eq_getElem?_getD,List.getElem?_eq_none (by omega),List.getElem?_eq_none (by omega)]
theorem K3 {P:Program}{T id n:Nat}{Z W:List AV}{H:List AO}(ht:KK P T=some n)(ho:H[id]?=some (.row 0 n (Xg Z))) (hz:Z.length=n) (hw:W.length=n) (h0:n≠0) (h1:W.all AV.one=true):KZ P false T (.ref id 0 0) (.agg W) H=some (H.set id (.row 0 n (Xg (W.map AV.loose)))):=by
 subst hz;have e:Zc false (.agg W)=W.map AV.loose:=rfl;have hc:(AV.agg W).cells=W:=rfl;unfold KZ;simp only[ho];unfold Q4;rw[if_pos ⟨trivial,by rw[ht,hc,hw],by rw[hc];exact fun g=>by rw[g]at hw;exact h0 hw.symm,by rw[hc,hw];omega,by rw[hc];exact h1⟩,e,lh (by rw[List.length_map,hw])]
def zC (t:Bool):List AV:=[.bool false,.sl 0 0 (fun _=>.any) t,.bool false,.sl 0 0 (fun _=>.any) t,.bool false,.sl 0 0 (fun _=>.any) t,.bool false,.sl 0 0 (fun _=>.any) t]
def zO (t:Bool):AO:=.row 0 8 (Xg (zC t))
def tw (o:Option (V2×V2)):AV:=.tup [vA (o.getD (v0,v0)).1,vA (o.getD (v0,v0)).2,.bool o.isSome]
def qT (a b:Sd)(D:V2)(mn mx lo hi:Rat):AS:=⟨14,[],[.any,.any,pG a,pG b,.ref 2 0 0,.ref 3 0 0,.bool false,vP D,.any,.any,.ref 6 0 0,.ref 7 0 0,.any,.any],[],[.con 0 24 (Xg (AJ a)),.con 0 24 (Xg (AJ b)),zO true,zO true,.con 0 8 (Xg (vC D)),.con 0 8 (Xg (qC mn ++ qC mx)),.row 0 4 (Xg (qC lo)),.row 0 4 (Xg (qC hi))]⟩
theorem p8:Rat.divInt 1 1=1:=by decide +kernel
def qU (a b:Sd)(D:V2)(mn mx lo hi:Rat):AS:=⟨14,[],[.any,.any,pG a,pG b,.ref 2 0 0,.ref 3 0 0,.bool false,vP D,.any,.any,.ref 6 0 0,.ref 7 0 0,.any,.any],[],[.con 0 24 (Xg (AJ a)),.con 0 24 (Xg (AJ b)),zO true,zO true,.con 0 8 (Xg (vC D)),.con 0 8 (Xg (qC mn ++ qC mx)),.row 0 4 (Xg (qC lo)),.row 0 4 (Xg (qC hi)),.row 0 4 (Xg (qC 1))]⟩
theorem r8 {α:Type}{X:Env}{K:List Item}{Q:Prop}(P:α→Prop)(st:α→AS)(h1:(∀a,P a→Run X K (st a))→Q) (h2:∀a,P a→Run X K (st a)):Q:=h1 h2
theorem Tf {m:Nat}{s:AS}(id:Nat){ver n:Nat}{l:List AV}(l':List AV)(ho:s.h[id]?=some (.row ver n (Xg l))) (hn:n=l.length) (h:WeakL l l'):Sub m s { s with h:=s.h.set id (.row ver n (Xg l')) } :=
 QL id (Xg l') ho fun j hj c v _ _ hv=>(WeakL.spec h).2 j (by omega) v hv
theorem ar {c:Nat}(a b:Sd)(hc:c≤18)(a1:vb a.a≤c)(a2:vb a.b≤c)(a3:vb a.i≤2*c+1)(b1:vb b.a≤c)(b2:vb b.b≤c)(b3:vb b.i≤2*c+1)(h0:a.a≠a.b):Fn Tryz.prog 116 [V4 a,V4 b] (tw (Gb a b)):=by
 have m1:=QX b.a a.a;have hDv:=QX a.b a.a;have hd0:XY (a.b.sub a.a) (a.b.sub a.a)≠0:=fun e=>h0 (by
  unfold XY V2.sub at e;obtain⟨e1,e2⟩:=xa e;cases ha:a.a;cases hb:a.b;rw[ha,hb]at e1 e2;simp only[V2.mk.injEq]at *;exact⟨by grind,by grind⟩)
 have u1:=W8 b.i a.i (by unfold vm;omega) (by unfold vm;omega);have u2:=AZ b.a a.a (by unfold rm;omega) (by unfold rm;omega);have u3:=Dr (b.a.sub a.a) a.i (by unfold vm;omega) (by unfold vm;omega);have u4:=Qj (XY (b.a.sub a.a) a.i);obtain⟨R,hR⟩:∃R,R=tw (Gb a b):=⟨_,rfl⟩
 rw[←hR];have u5:=AZ a.b a.a (by unfold rm;omega) (by unfold rm;omega);have u6:=LF a (a.b.sub a.a) b.a (by omega) (by omega) (by omega) hd0;have u7:=LF a (a.b.sub a.a) b.b (by omega) (by omega) (by omega) hd0;unfold Gb at hR;unfold FC FD Pd at hR;have k1:=CD a.a (a.b.sub a.a) b.a a1 (by omega) b1;have k2:=CD a.a (a.b.sub a.a) b.b a1 (by omega) b2;generalize Js a.a (a.b.sub a.a) b.a=s at *;generalize Js a.a (a.b.sub a.a) b.b=t at *;obtain⟨l1,l2,l3,l4⟩:=ji k1 k2 (by omega);generalize hD:a.b.sub a.a=D at *;have s5:(XY (b.a.sub a.a) a.i).num.sign≤0↔XY (b.a.sub a.a) a.i≤0:=by
  have:=II (XY (b.a.sub a.a) a.i);rw[←Int.not_lt,this,Rat.not_lt]
 by_cases ho:Gt b.i a.i
 ·have tA:=Kd (JY a) (JY b)
  refine Fn.intro (fn:=Tryz.f116) Tryz.call116 Tryz.func116 rfl mixed 14 [] [3000000000001,3000000000002,5,7,80000009,15000000000001,15000000000002,16,17002] [6] (by kernel_rfl) (Nat.le_of_ble_eq_true rfl) (Kd (JY a) (JY b)) (XL 54 ?_);simp(disch:=omega)only[AS.start,V4,As,↓Xd,wG,seval];refine X0 u1 (X2 _) ?_;simp(disch:=omega)only[↓Xd,wG,seval];simp only[ho,decide_true];simp(disch:=omega)only[↓Xd,wG,seval];refine X0 u2 (X2 _) ?_;simp(disch:=omega)only[vA,vC,↓Xd,wG,seval];refine X0 u3 (X2 _) ?_;simp(disch:=omega)only[qA,qC,↓Xd,wG,seval];refine X0 u4 (X2 _) ?_;simp(disch:=omega)only[↓Xd,wG,seval];refine⟨fun ho2=>?_,fun ho2=>?_⟩
  ·rw[if_neg fun q=>absurd q.2 (Rat.not_lt.2 (s5.1 ho2))]at hR
   rw[hR];refine XL 1 ?_;simp(disch:=omega)only[↓Xd,wG,seval];show Run _ (_ :: _) _;refine AH (fun x=>x=3) ?_;obtain⟨A,hA⟩:∃A:AO,A=.row 0 24 (Xg (AJ a)):=⟨_,rfl⟩
   obtain⟨B,hB⟩:∃B:AO,B=.row 0 24 (Xg (AJ b)):=⟨_,rfl⟩
   have l0:=KL (P:=Tryz.prog) (T:=30) (id:=2) (Z:=zC true) (H:=[A,B,zO true,zO true]) J6 rfl rfl;have l1:=KL (P:=Tryz.prog) (T:=30) (id:=3) (Z:=zC true) (H:=[A,B,zO true,zO true]) J6 rfl rfl;have l2:=K3 (P:=Tryz.prog) (T:=30) (id:=2) (Z:=zC true) (W:=zC true) (H:=[A,B,zO true,zO true]) DL rfl rfl rfl (by decide) rfl;have l3:=K3 (P:=Tryz.prog) (T:=30) (id:=3) (Z:=zC true) (W:=zC true) (H:=[A,B,zO false,zO true]) DL rfl rfl rfl (by decide) rfl;rw[hA,hB]at l0 l1 l2 l3;show ∃s',AExecT _ _ _ _ _ _ _ _ _ _ s'∧_;refine⟨_,⟨In rfl,_,Qt rfl rfl rfl rfl (congrArg (Option.map fun w=>(w,_)) l0),uV rfl rfl (fun o' va off e=>by cases e;rfl),_,Qt rfl rfl rfl rfl (congrArg (Option.map fun w=>(w,_)) l1),
    wn rfl rfl (fun o' va off e=>by cases e;decide),_,Qt rfl rfl rfl rfl (congrArg (Option.map fun w=>(XM,w)) l2),In rfl,_,Qt rfl rfl rfl rfl (congrArg (Option.map fun w=>(XM,w)) l3),In rfl,_,Qt (v:=.bool false) (h':=[.row 0 24 (Xg (AJ a)),.row 0 24 (Xg (AJ b)),zO false,zO false]) rfl rfl rfl rfl rfl,rfl⟩,?fin⟩
   refine Run.sub (s':=⟨14,[],[.any,.any,.any,.any,.ref 2 0 0,.ref 3 0 0,.bool false,.any,.any,.any,.any,.any,.any,.any],[],[A,B,zO false,zO false]⟩) ?_ (Xi rfl ⟨.inl rfl,.inl rfl,.inl rfl,.inl rfl,.inr rfl,.inr rfl,.inr rfl,.inl rfl,.inl rfl,.inl rfl,.inl rfl,.inl rfl,.inl rfl,.inl rfl,trivial⟩ trivial (by rw[hA,hB];rfl));refine Xl ?_;simp(disch:=omega)only[↓Xd,wG,seval];exact DB (r1:=.cell 4 30) (r2:=.cell 5 30) (r3:=.tmp 6) rfl (Xt J6 rfl rfl rfl) (Xt J6 rfl rfl rfl) rfl (Xs (Xr _) (DN _)) (Xs (Xr _) (DN _)) (Qa (X5 _) rfl)
  ·have hi0:a.i≠v0:=fun e=>by
    have:=ho.2;rw[e]at this;unfold XY v0 at this;grind
   refine XL 18 ?_;simp(disch:=omega)only[↓Xd,wG,seval];refine X0 u5 (X2 _) ?_;simp(disch:=omega)only[vA,vC,↓Xd,wG,seval];refine Run.sub ?_ (Q0 0 rfl);refine Run.sub ?_ (Q0 1 rfl);refine Run.sub ?_ (Q0 4 rfl);refine Run.sub ?_ (Q5 2 rfl rfl (by omega));refine Run.sub ?_ (Q5 3 rfl rfl (by omega));refine Run.sub ?_ (Q5 7 rfl rfl (by omega));refine XL 71 ?_;simp(disch:=omega)only[AS.put,List.set,↓Xd,wG,seval];refine X0 u6 (X2 _) ?_;simp(disch:=omega)only[vA,vC,qA,qC,↓Xd,wG,seval];refine X0 u7 (X2 _) ?_;simp(disch:=omega)only[vA,vC,qA,qC,↓Xd,wG,seval];have hu:∀o∈[AO.con 0 24 (Xg (AJ a)),.con 0 24 (Xg (AJ b)),zO true,zO true,.con 0 8 (Xg (vC D))],o≠.unborn:=by simp[zO]
   have cs:=kM (.con 0 24 (Xg (AJ a))) (.con 0 24 (Xg (AJ b))) (zO true) (zO true) (.con 0 8 (Xg (vC D))) hu 0 s t (by unfold rm;omega) (by unfold rm;omega);refine XD rfl cs (QB (id:=5) (o:=Oq 0 s t) rfl (by simp[Oq]) (by simp[Oq])) (uF hu (by simp[Oq])) (X2 _) ?_;have us:=Qj (Nj s t);have uc:=QZ (MX s t) 1 (by unfold rm;omega) (by decide +kernel);have uo:=Cy 1 1 ⟨by omega,by omega⟩ ⟨by omega,by omega⟩;rw[p8]at uo;have uf:=QZ (NT s t) (NP s t) (by unfold rm;omega) (by unfold rm;omega);have hlo:NT s t=if Nj s t<0 then 0 else Nj s t:=rfl
   have hhi:NP s t=if 1<MX s t then 1 else MX s t:=rfl
   generalize NT s t=lo at *;generalize NP s t=hi at *;generalize Nj s t=mn at *;generalize MX s t=mx at *;simp(disch:=omega)only[Oq,qC,zO,zC,As,vC,↓Xd,wG,seval];refine X0 us (X2 _) ?_;simp(disch:=omega)only[Bx,↓Xd,wG,seval];apply r8 (X:=Jv Tryz.prog Tryz.f116 [3000000000001,3000000000002,5,7,80000009,15000000000001,15000000000002,16,17002] [6] R) (fun _:Unit=>True) (fun _=>qT a b D mn mx lo mx)
   case h1 =>
    intro key;refine⟨fun hm=>?_,fun hm=>?_⟩
    ·rw[if_pos hm]at hlo
     refine XL 6 ?_;simp(disch:=omega)only[↓Xd,wG,seval];rw[hlo]at key;refine(key () trivial).sub (Sub.trans (Tf 6 (qC 0) rfl rfl (Zr false)) (Xi rfl ⟨.inl rfl,.inl rfl,.inr rfl,.inr rfl,.inr rfl,.inr rfl,.inr rfl,.inr rfl,.inl rfl,.inl rfl,.inr rfl,.inr rfl,.inl rfl,.inl rfl,trivial⟩ trivial rfl))
    ·rw[if_neg hm]at hlo
     rw[hlo]at key;refine XL 1 ?_;simp(disch:=omega)only[↓Xd,wG,seval];exact(key () trivial).sub (Xi rfl ⟨.inl rfl,.inl rfl,.inr rfl,.inr rfl,.inr rfl,.inr rfl,.inr rfl,.inr rfl,.inl rfl,.inl rfl,.inr rfl,.inr rfl,.inl rfl,.inl rfl,trivial⟩ trivial rfl)
   case h2 =>
    intro _ _;refine XL 22 ?_;simp(disch:=omega)only[qT,pG,vP,↓Xd,wG,seval];refine X0 uo (X2 _) ?_;simp(disch:=omega)only[qA,qC,↓Xd,wG,seval];refine X0 uc (X2 _) ?_;simp(disch:=omega)only[Bs,↓Xd,wG,seval];apply r8 (X:=Jv Tryz.prog Tryz.f116 [3000000000001,3000000000002,5,7,80000009,15000000000001,15000000000002,16,17002] [6] R) (fun _:Unit=>True) (fun _=>qU a b D mn mx lo hi)
    case h1 =>
     intro key;refine⟨fun hm=>?_,fun hm=>?_⟩
     ·rw[if_pos hm]at hhi
      rw[hhi]at key;refine XL 6 ?_;simp(disch:=omega)only[↓Xd,wG,seval];exact(key () trivial).sub (Xi rfl ⟨.inl rfl,.inl rfl,.inr rfl,.inr rfl,.inr rfl,.inr rfl,.inr rfl,.inr rfl,.inl rfl,.inl rfl,.inr rfl,.inr rfl,.inl rfl,.inl rfl,trivial⟩ trivial rfl)
     ·rw[if_neg hm]at hhi
      rw[hhi]at key;refine XL 1 ?_;simp(disch:=omega)only[↓Xd,wG,seval];exact(key () trivial).sub (Xi rfl ⟨.inl rfl,.inl rfl,.inr rfl,.inr rfl,.inr rfl,.inr rfl,.inr rfl,.inr rfl,.inl rfl,.inl rfl,.inr rfl,.inr rfl,.inl rfl,.inl rfl,trivial⟩ trivial rfl)
    case h2 =>
     intro _ _;refine XL 13 ?_;simp(disch:=omega)only[qU,pG,vP,↓Xd,wG,seval];refine X0 uf (X2 _) ?_;simp(disch:=omega)only[Pr,↓Xd,wG,seval];refine⟨fun hc=>?_,fun hc=>?_⟩
     ·rw[if_neg (Rat.not_lt.2 hc),ite_self]at hR
      rw[hR];refine XL 1 ?_;simp(disch:=omega)only[↓Xd,wG,seval];show Run _ (_ :: _) _;refine AH (fun x=>x=3) ?_;obtain⟨A,hA⟩:∃A:AO,A=.con 0 24 (Xg (AJ a)):=⟨_,rfl⟩
      obtain⟨B,hB⟩:∃B:AO,B=.con 0 24 (Xg (AJ b)):=⟨_,rfl⟩
      obtain⟨C,hC⟩:∃C:AO,C=.con 0 8 (Xg (vC D)):=⟨_,rfl⟩
      obtain⟨E,hE⟩:∃E:AO,E=.con 0 8 (Xg (qC mn ++ qC mx)):=⟨_,rfl⟩
      obtain⟨F,hF⟩:∃F:AO,F=.row 0 4 (Xg (qC lo)):=⟨_,rfl⟩
      obtain⟨G,hG⟩:∃G:AO,G=.row 0 4 (Xg (qC hi)):=⟨_,rfl⟩
      obtain⟨J,hJ⟩:∃J:AO,J=.row 0 4 (Xg (qC 1)):=⟨_,rfl⟩
      have l0:=KL (P:=Tryz.prog) (T:=30) (id:=2) (Z:=zC true) (H:=[A,B,zO true,zO true,C,E,F,G,J]) J6 rfl rfl;have l1:=KL (P:=Tryz.prog) (T:=30) (id:=3) (Z:=zC true) (H:=[A,B,zO true,zO true,C,E,F,G,J]) J6 rfl rfl;have l2:=K3 (P:=Tryz.prog) (T:=30) (id:=2) (Z:=zC true) (W:=zC true) (H:=[A,B,zO true,zO true,C,E,F,G,J]) DL rfl rfl rfl (by decide) rfl;have l3:=K3 (P:=Tryz.prog) (T:=30) (id:=3) (Z:=zC true) (W:=zC true) (H:=[A,B,zO false,zO true,C,E,F,G,J]) DL rfl rfl rfl (by decide) rfl;rw[hA,hB,hC,hE,hF,hG,hJ]at l0 l1 l2 l3;show ∃s',AExecT _ _ _ _ _ _ _ _ _ _ s'∧_;refine⟨_,⟨In rfl,_,Qt rfl rfl rfl rfl (congrArg (Option.map fun w=>(w,_)) l0),uV rfl rfl (fun o' va off e=>by cases e;rfl),_,Qt rfl rfl rfl rfl (congrArg (Option.map fun w=>(w,_)) l1),
       wn rfl rfl (fun o' va off e=>by cases e;decide),_,Qt rfl rfl rfl rfl (congrArg (Option.map fun w=>(XM,w)) l2),In rfl,_,Qt rfl rfl rfl rfl (congrArg (Option.map fun w=>(XM,w)) l3),In rfl,_,Qt (v:=.bool false) (h':=[.con 0 24 (Xg (AJ a)),.con 0 24 (Xg (AJ b)),zO false,zO false,.con 0 8 (Xg (vC D)),.con 0 8 (Xg (qC mn ++ qC mx)),.row 0 4 (Xg (qC lo)),.row 0 4 (Xg (qC hi)),.row 0 4 (Xg (qC 1))]) rfl rfl rfl rfl rfl,rfl⟩,?fin2⟩
      refine Run.sub (s':=⟨14,[],[.any,.any,.any,.any,.ref 2 0 0,.ref 3 0 0,.bool false,.any,.any,.any,.any,.any,.any,.any],[],[A,B,zO false,zO false,C,E,F,G,J]⟩) ?_ (Xi rfl ⟨.inl rfl,.inl rfl,.inl rfl,.inl rfl,.inr rfl,.inr rfl,.inr rfl,.inl rfl,.inl rfl,.inl rfl,.inl rfl,.inl rfl,.inl rfl,.inl rfl,trivial⟩ trivial (by rw[hA,hB,hC,hE,hF,hG,hJ];rfl));refine Xl ?_;simp(disch:=omega)only[↓Xd,wG,seval];exact DB (r1:=.cell 4 30) (r2:=.cell 5 30) (r3:=.tmp 6) rfl (Xt J6 rfl rfl rfl) (Xt J6 rfl rfl rfl) rfl (Xs (Xr _) (DN _)) (Xs (Xr _) (DN _)) (Qa (X5 _) rfl)
     ·rw[if_pos ⟨ho,Rat.not_le.1 fun q=>ho2 (s5.2 q)⟩,if_pos (Rat.not_le.1 hc)]at hR
      unfold Pe LD at hR;have hf:qb (Rat.divInt 1 2)≤3:=by decide +kernel
      have e1:=An lo hi;have w1:=Bt lo hi (by unfold rm;omega) (by unfold rm;omega);have w2:=Cy 1 2 ⟨by omega,by omega⟩ ⟨by omega,by omega⟩;have e2:=Qq (lo+hi) (Rat.divInt 1 2);have w3:=Ar (lo+hi) (Rat.divInt 1 2) (by unfold rm;omega) (by unfold rm;omega);generalize (lo+hi)*Rat.divInt 1 2=h at *;have e4:=Tq D h;have w4:=Oe D h (by unfold vm;omega) (by unfold vm;omega);have e5:=AU a.a (D.scale h);have w5:=Wt a.a (D.scale h) (by unfold vm;omega) (by unfold vm;omega);generalize a.a.add (D.scale h)=p at *;have e6:=QX b.a p;have w6:=AZ b.a p (by unfold rm;omega) (by unfold rm;omega);have e7:=Ky (b.a.sub p) a.i;have e8:=Ky a.i a.i;have w7:=Dr (b.a.sub p) a.i (by unfold vm;omega) (by unfold vm;omega);have w8:=Dr a.i a.i (by unfold vm;omega) (by unfold vm;omega);have w9:=IH (XY (b.a.sub p) a.i) (XY a.i a.i) (fun e=>hi0 (by
       unfold XY at e;obtain⟨x1,x2⟩:=xa e;cases hz:a.i;rw[hz]at x1 x2;unfold v0;rw[V2.mk.injEq];exact⟨x1,x2⟩)) (by unfold rm;omega) (by unfold rm;omega)
      have e9:qb (XY (b.a.sub p) a.i/XY a.i a.i)≤qb (XY (b.a.sub p) a.i)+qb (XY a.i a.i):=by
       rw[Rat.div_def];have:=Qq (XY (b.a.sub p) a.i) (XY a.i a.i)⁻¹;have:=UT (XY a.i a.i);omega
      generalize XY (b.a.sub p) a.i/XY a.i a.i=k at *;have e10:=Tq a.i k;have w10:=Oe a.i k (by unfold vm;omega) (by unfold vm;omega);have w11:=Wt p (a.i.scale k) (by unfold vm;omega) (by unfold vm;omega);generalize p.add (a.i.scale k)=qq at *;rw[hR];refine Xl ?_;simp(disch:=omega)only[↓Xd,wG,seval];refine X0 w1 (X2 _) ?_;simp(disch:=omega)only[qA,qC,↓Xd,wG,seval];refine X0 w2 (X2 _) ?_;simp(disch:=omega)only[qA,qC,↓Xd,wG,seval];refine X0 w3 (X2 _) ?_;simp(disch:=omega)only[qA,qC,↓Xd,wG,seval];refine X0 w4 (X2 _) ?_;simp(disch:=omega)only[vA,vC,↓Xd,wG,seval];refine X0 w5 (X2 _) ?_;simp(disch:=omega)only[vA,vC,zO,zC,As,↓Xd,wG,seval];refine X0 w6 (X2 _) ?_;simp(disch:=omega)only[vA,vC,zO,zC,As,↓Xd,wG,seval];refine X0 w7 (X2 _) ?_;simp(disch:=omega)only[qA,qC,zO,zC,As,↓Xd,wG,seval];refine X0 w8 (X2 _) ?_;simp(disch:=omega)only[qA,qC,zO,zC,As,↓Xd,wG,seval];refine X0 w9 (X2 _) ?_;simp(disch:=omega)only[qA,qC,zO,zC,As,↓Xd,wG,seval];refine X0 w10 (X2 _) ?_;simp(disch:=omega)only[vA,vC,zO,zC,As,↓Xd,wG,seval];refine X0 w11 (X2 _) ?_;simp(disch:=omega)only[vA,vC,zO,zC,As,↓Xd,wG,seval];exact DB (r1:=.cell 4 30) (r2:=.cell 5 30) (r3:=.tmp 6) rfl (Xt J6 rfl rfl rfl) (Xt J6 rfl rfl rfl) rfl (Qa (Xr _) rfl) (Qa (Xr _) rfl) (Qa (X5 _) rfl)
 ·simp only[ho,decide_false]at u1
  refine Fn.intro (fn:=Tryz.f116) Tryz.call116 Tryz.func116 rfl mixed 14 [] [3000000000001,3000000000002,5,7,80000009,15000000000001,15000000000002,16,17002] [6] (by kernel_rfl) (Nat.le_of_ble_eq_true rfl) (Kd (JY a) (JY b)) (XL 44 ?_);simp(disch:=omega)only[AS.start,V4,As,↓Xd,wG,seval];refine X0 u1 (X2 _) ?_;simp(disch:=omega)only[↓Xd,wG,seval];rw[if_neg fun q=>absurd q.1 ho]at hR;rw[hR];refine XL 1 ?_;simp(disch:=omega)only[↓Xd,wG,seval];show Run _ (_ :: _) _;refine AH (fun x=>x=3) ?_;obtain⟨A,hA⟩:∃A:AO,A=.row 0 24 (Xg (AJ a)):=⟨_,rfl⟩
  obtain⟨B,hB⟩:∃B:AO,B=.row 0 24 (Xg (AJ b)):=⟨_,rfl⟩
  have l0:=KL (P:=Tryz.prog) (T:=30) (id:=2) (Z:=zC true) (H:=[A,B,zO true,zO true]) J6 rfl rfl;have l1:=KL (P:=Tryz.prog) (T:=30) (id:=3) (Z:=zC true) (H:=[A,B,zO true,zO true]) J6 rfl rfl;have l2:=K3 (P:=Tryz.prog) (T:=30) (id:=2) (Z:=zC true) (W:=zC true) (H:=[A,B,zO true,zO true]) DL rfl rfl rfl (by decide) rfl;have l3:=K3 (P:=Tryz.prog) (T:=30) (id:=3) (Z:=zC true) (W:=zC true) (H:=[A,B,zO false,zO true]) DL rfl rfl rfl (by decide) rfl;rw[hA,hB]at l0 l1 l2 l3;show ∃s',AExecT _ _ _ _ _ _ _ _ _ _ s'∧_;refine⟨_,⟨In rfl,_,Qt rfl rfl rfl rfl (congrArg (Option.map fun w=>(w,_)) l0),uV rfl rfl (fun o' va off e=>by cases e;rfl),_,Qt rfl rfl rfl rfl (congrArg (Option.map fun w=>(w,_)) l1),
   wn rfl rfl (fun o' va off e=>by cases e;decide),_,Qt rfl rfl rfl rfl (congrArg (Option.map fun w=>(XM,w)) l2),In rfl,_,Qt rfl rfl rfl rfl (congrArg (Option.map fun w=>(XM,w)) l3),In rfl,_,Qt (v:=.bool false) (h':=[.row 0 24 (Xg (AJ a)),.row 0 24 (Xg (AJ b)),zO false,zO false]) rfl rfl rfl rfl rfl,rfl⟩,?fin3⟩
  refine Run.sub (s':=⟨14,[],[.any,.any,.any,.any,.ref 2 0 0,.ref 3 0 0,.bool false,.any,.any,.any,.any,.any,.any,.any],[],[A,B,zO false,zO false]⟩) ?_ (Xi rfl ⟨.inl rfl,.inl rfl,.inl rfl,.inl rfl,.inr rfl,.inr rfl,.inr rfl,.inl rfl,.inl rfl,.inl rfl,.inl rfl,.inl rfl,.inl rfl,.inl rfl,trivial⟩ trivial (by rw[hA,hB];rfl));refine Xl ?_;simp(disch:=omega)only[↓Xd,wG,seval];exact DB (r1:=.cell 4 30) (r2:=.cell 5 30) (r3:=.tmp 6) rfl (Xt J6 rfl rfl rfl) (Xt J6 rfl rfl rfl) rfl (Xs (Xr _) (DN _)) (Xs (Xr _) (DN _)) (Qa (X5 _) rfl)
def ZD (l:List Int):Rat:=Rat.divInt (1+Ab.atF l 0 20) (1+Ab.atF l 1 2)
def Kk (l:List Int):Rat:=Rat.divInt (Ab.atF l 2 5) (1+Ab.atF l 3 3)
def D3 (l:List Int)(L:List V2):GG :=
 if 0<(Kc L (ZD l) (Kk l)).length∧0<Ab.atF l 4 6 then
  (Kc L (ZD l) (Kk l)).getD (Ab.atF l 5 (Kc L (ZD l) (Kk l)).length).toNat gZ
 else⟨Cw (L.getD (Ab.atF l 6 L.length).toNat v0) (J4 L (Ab.atF l 6 L.length).toNat),Cw (L.getD (Ab.atF l 7 L.length).toNat v0) (J4 L (Ab.atF l 7 L.length).toNat),D8 (L.getD (Ab.atF l 6 L.length).toNat v0) (J4 L (Ab.atF l 6 L.length).toNat),ZD l,Kk l⟩
theorem wO (l:List Int):qb (ZD l)≤1∧qb (Kk l)≤1∧0<ZD l∧0≤Kk l∧Kk l≤4:=by
 have b0:=XI l 0 20 (by omega);have b1:=XI l 1 2 (by omega);have b2:=XI l 2 5 (by omega);have b3:=XI l 3 3 (by omega);refine⟨Gx _ _ (by omega) (by omega),Gx _ _ (by omega) (by omega),gx (by omega) (by omega),Rat.divInt_nonneg (by omega) (by omega),?_⟩;have hb0:(0:Rat)<((1+Ab.atF l 3 3:Int):Rat):=Rat.intCast_pos.2 (by omega);have e:Kk l*((1+Ab.atF l 3 3:Int):Rat)=((Ab.atF l 2 5:Int):Rat):=by unfold Kk;rw[Rat.divInt_eq_div,Rat.div_mul_cancel (by grind)]
 have h1:((Ab.atF l 2 5:Int):Rat)≤((4*(1+Ab.atF l 3 3):Int):Rat):=Rat.intCast_le_intCast.2 (by omega);rw[Rat.intCast_mul]at h1;refine Rat.not_lt.1 fun h=>?_
 have:=Rat.mul_pos (show 0<Kk l-4 by grind) hb0;have h4:((4:Int):Rat)=4:=rfl;grind
theorem tE {a b:V2}(h:a≠b):D8 a b≠v0:=fun e=>h (by
 unfold D8 v0 at e;simp only[V2.mk.injEq]at e;cases a;cases b;simp only[V2.mk.injEq]at *;exact⟨by grind,by grind⟩)
def gT (g:GG):Prop:=vb g.p≤1000∧vb g.q≤1000∧vb g.n≤16∧qb g.force≤1∧qb g.rough≤1
theorem gT.s {g:GG}(h:gT g):gS g:=by obtain⟨h1,h2,h3,h4,h5⟩:=h;unfold gS;omega
theorem pO (l:List Int)(L:List V2)(h:Vv L):gT (D3 l L)∧Kh (D3 l L)=true:=by
 obtain⟨h1,h2,h3⟩:=h;obtain⟨n1,n2,n3,n4,n5⟩:=wO l;have key:vb (D3 l L).p≤1000∧vb (D3 l L).q≤1000∧vb (D3 l L).n≤16∧(D3 l L).n≠v0∧(D3 l L).force=ZD l∧(D3 l L).rough=Kk l:=by
  unfold D3
  split
  ·rename_i hc
   have b:=XI l 5 (Kc L (ZD l) (Kk l)).length (by omega);obtain⟨a1,a2,a3,a4,a5,a6⟩:=Iw L h2 (ZD l) (Kk l) _ (QC gZ (show(Ab.atF l 5 (Kc L (ZD l) (Kk l)).length).toNat<(Kc L (ZD l) (Kk l)).length by omega));exact⟨by omega,by omega,by omega,a4,a5,a6⟩
  ·have b6:=XI l 6 L.length (by omega)
   have hi:(Ab.atF l 6 L.length).toNat<L.length:=by omega
   have m1:=jp (L.getD (Ab.atF l 6 L.length).toNat v0) (J4 L (Ab.atF l 6 L.length).toNat);have m2:=jp (L.getD (Ab.atF l 7 L.length).toNat v0) (J4 L (Ab.atF l 7 L.length).toNat);have m3:=MS (L.getD (Ab.atF l 6 L.length).toNat v0) (J4 L (Ab.atF l 6 L.length).toNat);have s1:=h2 (Ab.atF l 6 L.length).toNat;have s2:vb (J4 L (Ab.atF l 6 L.length).toNat)≤7:=h2 _;have s3:=h2 (Ab.atF l 7 L.length).toNat;have s4:vb (J4 L (Ab.atF l 7 L.length).toNat)≤7:=h2 _;exact⟨by show vb (Cw _ _)≤_;omega,by show vb (Cw _ _)≤_;omega,by show vb (D8 _ _)≤_;omega,tE (h3 _ hi),rfl,rfl⟩
 obtain⟨k1,k2,k3,k4,k5,k6⟩:=key;refine⟨⟨k1,k2,k3,by rw[k5];omega,by rw[k6];omega⟩,?_⟩;rw[CP,k5,k6,Gh];exact⟨⟨n3,n4,n5⟩,k4⟩
theorem pN (l:List Int)(L:List V2)(hl:Fg l)(h:Vv L):Fn Tryz.prog 12 [X8 l,Q6 L] (gA (D3 l L)):=by
 obtain⟨h1,h2,h3⟩:=h;obtain⟨n1,n2,n3,n4,n5⟩:=wO l;have h7:Qp L 1000:=fun i=>Nat.le_trans (h2 i) (by omega)
 have b0:=XI l 0 20 (by omega);have b1:=XI l 1 2 (by omega);have b2:=XI l 2 5 (by omega);have b3:=XI l 3 3 (by omega);have c0:=Jp l 0 20 hl (by omega);have c1:=Jp l 1 2 hl (by omega);have c2:=Jp l 2 5 hl (by omega);have c3:=Jp l 3 3 hl (by omega);have c4:=Jp l 4 6 hl (by omega);have c6:=Jp l 6 L.length hl (by omega);have c7:=Jp l 7 L.length hl (by omega);have b6:=XI l 6 L.length (by omega);have b7:=XI l 7 L.length (by omega);have d1:=XS (1+Ab.atF l 0 20) (1+Ab.atF l 1 2) ⟨by omega,by omega⟩ ⟨by omega,by omega⟩;have d2:=XS (Ab.atF l 2 5) (1+Ab.atF l 3 3) ⟨by omega,by omega⟩ ⟨by omega,by omega⟩;rw[show Rat.divInt (1+Ab.atF l 0 20) (1+Ab.atF l 1 2)=ZD l from rfl]at d1;rw[show Rat.divInt (Ab.atF l 2 5) (1+Ab.atF l 3 3)=Kk l from rfl]at d2;have d3:=SE L (ZD l) (Kk l) h2 (by omega) (by omega) (by omega) (by omega);have hln:(Kc L (ZD l) (Kk l)).length≤1000:=by
  unfold Kc
  split
  ·have:=CN L (ZD l) (Kk l) L.length
   have g3:L.length*L.length≤12*12:=Nat.mul_le_mul (by omega) (by omega);unfold LH;omega
  ·simp
 obtain⟨R,hR⟩:∃R,R=D3 l L:=⟨_,rfl⟩
 have sR:=QE R;rw[←hR];unfold D3 at hR;generalize ZD l=f at *;generalize Kk l=r at *;generalize Kc L f r=G at *;refine Fn.intro (fn:=Tryz.f12) Tryz.call12 Tryz.func12 rfl mixed 10 [] [] [] (by kernel_rfl) (Nat.le_of_ble_eq_true rfl) (Kd (Xc l) (Xn L)) (Xl ?_);simp(disch:=omega)only[AS.start,X4,↓Xd,wG,seval];refine X0 c0 (X2 _) ?_;simp(disch:=omega)only[↓Xd,wG,seval];refine X0 c1 (X2 _) ?_;simp(disch:=omega)only[↓Xd,wG,seval];refine X0 d1 (X2 _) ?_;simp(disch:=omega)only[qA,qC,↓Xd,wG,seval];refine X0 c2 (X2 _) ?_;simp(disch:=omega)only[↓Xd,wG,seval];refine X0 c3 (X2 _) ?_;simp(disch:=omega)only[↓Xd,wG,seval];refine X0 d2 (X2 _) ?_;simp(disch:=omega)only[qA,qC,↓Xd,wG,seval];refine X0 d3 ⟨by rw[X4];exact Weak.rfl' _,X2 _⟩ ?_;simp(disch:=omega)only[XC,↓Xd,wG,seval];refine⟨fun hg=>?_,fun hg=>?_⟩
 ·have hg:0<G.length:=by omega
  refine X0 c4 (X2 _) ?_;simp(disch:=omega)only[↓Xd,wG,seval];refine⟨fun hq=>?_,fun hq=>?_⟩
  ·rw[if_pos ⟨hg,hq⟩]at hR
   have b5:=XI l 5 G.length (by omega);have c5:=Jp l 5 G.length hl (by omega);obtain⟨k,hk⟩:∃k:Nat,Ab.atF l 5 G.length=k:=⟨(Ab.atF l 5 G.length).toNat,by omega⟩
   rw[hk,Int.toNat_natCast]at hR;rw[hk]at c5;have hkl:k<G.length:=by omega
   have l0:=Km gC 32 gZ G k (by omega);have l1:=JK gC 32 gZ G k;refine X0 c5 (X2 _) ?_;simp(disch:=omega)only[l0,l1,QJ,hkl,↓Xd,wG,seval];rw[←hR];exact ZC rfl Bc rfl rfl rfl (Xs sR (Weak.rfl' _))
  ·rw[if_neg fun h=>hq h.2]at hR
   obtain⟨i,hi⟩:∃i:Nat,Ab.atF l 6 L.length=i:=⟨(Ab.atF l 6 L.length).toNat,by omega⟩
   obtain⟨j,hj⟩:∃j:Nat,Ab.atF l 7 L.length=j:=⟨(Ab.atF l 7 L.length).toNat,by omega⟩
   rw[hi,hj,Int.toNat_natCast,Int.toNat_natCast]at hR;rw[hi]at c6 b6;rw[hj]at c7 b7;have hil:i<L.length:=by omega
   have hjl:j<L.length:=by omega
   have f1:(i<L.length)=True:=eq_true hil;have f2:(j<L.length)=True:=eq_true hjl;have v1:=vF L i;have v2:=vF L j;have e1:=Ak L i (by omega) hil;have e2:=Ak L j (by omega) hjl;rw[show L.getD ((i+1)%L.length) v0=J4 L i from rfl]at e1;rw[show L.getD ((j+1)%L.length) v0=J4 L j from rfl]at e2;have e5:=C0 L i h7 (by omega) hil;have s1:=h2 i;have s2:vb (J4 L i)≤7:=h2 _;have s3:=h2 j;have s4:vb (J4 L j)≤7:=h2 _;generalize L.getD i v0=a at *;generalize J4 L i=a' at *;generalize L.getD j v0=b at *;generalize J4 L j=b' at *;have e3:=CU a a' (by omega) (by omega);have e4:=CU b b' (by omega) (by omega);refine X0 c6 (X2 _) ?_;simp(disch:=omega)only[vA,vC,qA,qC,X4,v1,v2,f1,f2,↓Xd,wG,seval];refine X0 c7 (X2 _) ?_;simp(disch:=omega)only[vA,vC,qA,qC,X4,v1,v2,f1,f2,↓Xd,wG,seval];refine X0 e1 ⟨by rw[X4];exact Weak.rfl' _,Weak.rfl' _,trivial⟩ ?_;simp(disch:=omega)only[vA,vC,qA,qC,X4,v1,v2,f1,f2,↓Xd,wG,seval];refine X0 e3 (X2 _) ?_;simp(disch:=omega)only[vA,vC,qA,qC,X4,v1,v2,f1,f2,↓Xd,wG,seval];refine X0 e2 ⟨by rw[X4];exact Weak.rfl' _,Weak.rfl' _,trivial⟩ ?_;simp(disch:=omega)only[vA,vC,qA,qC,X4,v1,v2,f1,f2,↓Xd,wG,seval];refine X0 e4 (X2 _) ?_;simp(disch:=omega)only[vA,vC,qA,qC,X4,v1,v2,f1,f2,↓Xd,wG,seval];refine X0 e5 ⟨by rw[X4];exact Weak.rfl' _,Weak.rfl' _,trivial⟩ ?_;simp(disch:=omega)only[vA,vC,qA,qC,X4,v1,v2,f1,f2,↓Xd,wG,seval];rw[hR];exact ZC rfl Bc rfl rfl rfl (Xs (QE _) (Weak.rfl' _))
 ·rw[if_neg fun h=>hg (by omega)]at hR
  obtain⟨i,hi⟩:∃i:Nat,Ab.atF l 6 L.length=i:=⟨(Ab.atF l 6 L.length).toNat,by omega⟩
  obtain⟨j,hj⟩:∃j:Nat,Ab.atF l 7 L.length=j:=⟨(Ab.atF l 7 L.length).toNat,by omega⟩
  rw[hi,hj,Int.toNat_natCast,Int.toNat_natCast]at hR;rw[hi]at c6 b6;rw[hj]at c7 b7;have hil:i<L.length:=by omega
  have hjl:j<L.length:=by omega
  have f1:(i<L.length)=True:=eq_true hil;have f2:(j<L.length)=True:=eq_true hjl;have v1:=vF L i;have v2:=vF L j;have e1:=Ak L i (by omega) hil;have e2:=Ak L j (by omega) hjl;rw[show L.getD ((i+1)%L.length) v0=J4 L i from rfl]at e1;rw[show L.getD ((j+1)%L.length) v0=J4 L j from rfl]at e2;have e5:=C0 L i h7 (by omega) hil;have s1:=h2 i;have s2:vb (J4 L i)≤7:=h2 _;have s3:=h2 j;have s4:vb (J4 L j)≤7:=h2 _;generalize L.getD i v0=a at *;generalize J4 L i=a' at *;generalize L.getD j v0=b at *;generalize J4 L j=b' at *;have e3:=CU a a' (by omega) (by omega);have e4:=CU b b' (by omega) (by omega);refine X0 c6 (X2 _) ?_;simp(disch:=omega)only[vA,vC,qA,qC,X4,v1,v2,f1,f2,↓Xd,wG,seval];refine X0 c7 (X2 _) ?_;simp(disch:=omega)only[vA,vC,qA,qC,X4,v1,v2,f1,f2,↓Xd,wG,seval];refine X0 e1 ⟨by rw[X4];exact Weak.rfl' _,Weak.rfl' _,trivial⟩ ?_;simp(disch:=omega)only[vA,vC,qA,qC,X4,v1,v2,f1,f2,↓Xd,wG,seval];refine X0 e3 (X2 _) ?_;simp(disch:=omega)only[vA,vC,qA,qC,X4,v1,v2,f1,f2,↓Xd,wG,seval];refine X0 e2 ⟨by rw[X4];exact Weak.rfl' _,Weak.rfl' _,trivial⟩ ?_;simp(disch:=omega)only[vA,vC,qA,qC,X4,v1,v2,f1,f2,↓Xd,wG,seval];refine X0 e4 (X2 _) ?_;simp(disch:=omega)only[vA,vC,qA,qC,X4,v1,v2,f1,f2,↓Xd,wG,seval];refine X0 e5 ⟨by rw[X4];exact Weak.rfl' _,Weak.rfl' _,trivial⟩ ?_;simp(disch:=omega)only[vA,vC,qA,qC,X4,v1,v2,f1,f2,↓Xd,wG,seval];rw[hR];exact ZC rfl Bc rfl rfl rfl (Xs (QE _) (Weak.rfl' _))
end
end Go.Ab.N
namespace Go.Ab.N
open Go Go.RowKit Go.Proofs
noncomputable section
set_option maxRecDepth 10000
set_option maxHeartbeats 4000000
def wh (L:List V2)(i k:Nat):Bool:=decide (1<(k+L.length-i)%L.length) && decide ((k+L.length-i)%L.length<L.length-1) &&
 (List.range 5).all fun j=>!KE (DX (atF L i) (atF L (i+1)) (atF L k) (atF L (k+1)) j) (atF L i) (atF L (i+1)) (atF L k) (atF L (k+1))
def Sw (L:List V2):Bool:=decide (3≤L.length) && decide (L.length≤12) && ((List.range L.length).all fun i=>!decide (K0 (atF L i) (atF L (i+1)) (atF L (i+2))=0) && (List.range L.length).all fun k=>!wh L i k) && decide (0<(CG L).num.sign)
theorem Sx (L:List V2)(h:Sw L=true):Zm L:=by
 unfold Sw at h;simp only[Bool.and_eq_true,decide_eq_true_eq,List.all_eq_true,List.mem_range,Bool.not_eq_true',decide_eq_false_iff_not]at h;obtain⟨⟨⟨h1,h2⟩,h3⟩,h4⟩:=h;refine⟨⟨h1,h2⟩,fun i hi=>⟨(h3 i hi).1,fun k hk hg=>?_⟩,h4⟩;have:=(h3 i hi).2 k hk;obtain⟨q1,q2,q3⟩:=hg;unfold wh at this;rw[decide_eq_true q1,decide_eq_true q2,Bool.true_and,Bool.true_and]at this;rw[List.all_eq_true.2]at this
 ·cases this
 ·intro j hj
  rw[q3 j (List.mem_range.1 hj)];rfl
theorem GP:Zm sqV:=Sx _ (by decide +kernel)
theorem kP:Vv sqV:=by
 have z:vb v0≤1:=by decide +kernel
 refine⟨by simp[sqV],AN (fun x hx=>?_) (by omega),fun i hi=>?_⟩
 ·simp only[sqV,List.mem_cons,List.not_mem_nil,or_false]at hx
  rcases hx with rfl |rfl |rfl |rfl
  ·omega
  all_goals exact Nat.le_trans (GX _ _ (by omega) (by omega)) (by omega)
 ·have h:=IJ (GP.2.1 i hi).1
  unfold atF at h;rw[Nat.mod_eq_of_lt hi]at h;exact h
def Pc (a b:Sd):Option (V2×V2) :=
 if Xp b.i a.i=0∧XY b.i a.i<0∧0<XY (b.a.sub a.a) a.i then
  if NT (FC a b) (FD a b)<NP (FC a b) (FD a b)then
   some (LD a.a (Pd a b) (NT (FC a b) (FD a b)) (NP (FC a b) (FD a b)),Pe (LD a.a (Pd a b) (NT (FC a b) (FD a b)) (NP (FC a b) (FD a b))) a.i b.a)
  else none
 else none
theorem tu (a b:Sd):Gb a b=Pc a b:=by
 unfold Gb Pc;by_cases h:Gt b.i a.i∧0<XY (b.a.sub a.a) a.i
 ·rw[if_pos h,if_pos (show Xp b.i a.i=0∧XY b.i a.i<0∧0<XY (b.a.sub a.a) a.i from⟨h.1.1,h.1.2,h.2⟩)]
 ·rw[if_neg h,if_neg fun q=>h ⟨⟨q.1,q.2.1⟩,q.2.2⟩]
def eg1:GG:=⟨pI 1 0,pI 1 2,pI 0 2,Rat.divInt 8 1,Rat.divInt 1 2⟩
def eg2:GG:=⟨pI 2 1,pI 0 1,pI (-2) 0,Rat.divInt 8 1,Rat.divInt 1 2⟩
def uU (a b:V2):Bool:=decide (a.x=b.x) && decide (a.y=b.y)
theorem LC {a b:V2}(h:uU a b=true):a=b:=by
 unfold uU at h;simp only[Bool.and_eq_true,decide_eq_true_eq]at h;cases a;cases b;simp only[V2.mk.injEq]at *;exact h
def Gc (o:Option (V2×V2)) (w:Option (V2×V2)):Bool:=match o,w with
 |none,none=>true
 |some x,some y=>uU x.1 y.1 && uU x.2 y.2
 |_,_=>false
theorem io {o w:Option (V2×V2)} (h:Gc o w=true):o=w:=by
 cases o <;> cases w <;> simp only[Gc,Bool.and_eq_true]at h <;> try(first |rfl | (cases h;done))
 exact congrArg some (Prod.ext (LC h.1) (LC h.2))
theorem uz:Gc (Pc (Jl sqV 0) (Jl sqV 1)) none=true∧Gc (Pc (Jl sqV 0) (Jl sqV 2)) (some (pI 1 0,pI 1 2))=true∧Gc (Pc (Jl sqV 0) (Jl sqV 3)) none=true∧Gc (Pc (Jl sqV 1) (Jl sqV 2)) none=true∧Gc (Pc (Jl sqV 1) (Jl sqV 3)) (some (pI 2 1,pI 0 1))=true∧Gc (Pc (Jl sqV 2) (Jl sqV 3)) none=true∧uU (D8 (sqV.getD 0 v0) (J4 sqV 0)) (pI 0 2)=true∧uU (D8 (sqV.getD 1 v0) (J4 sqV 1)) (pI (-2) 0)=true:=by
 refine⟨?_,?_,?_,?_,?_,?_,?_,?_⟩ <;> decide +kernel
theorem PB:Bb (Rat.divInt 8 1) (Rat.divInt 1 2)=true:=by unfold Bb;decide +kernel
theorem WW:Kc sqV (Rat.divInt 8 1) (Rat.divInt 1 2)=[eg1,eg2]:=by
 obtain⟨h1,h2,h3,h4,h5,h6,h7,h8⟩:=uz;unfold Kc;rw[if_pos ⟨GP,PB⟩];have g:∀i j o,Gc (Pc (Jl sqV i) (Jl sqV j)) o=true→LN sqV (Rat.divInt 8 1) (Rat.divInt 1 2) i j=o.toList.map fun x=>⟨x.1,x.2,D8 (sqV.getD i v0) (J4 sqV i),Rat.divInt 8 1,Rat.divInt 1 2⟩:=fun i j o h=>by
  unfold LN;rw[tu,io h]
 have g01:=g _ _ _ h1;have g02:=g _ _ _ h2;have g03:=g _ _ _ h3;have g12:=g _ _ _ h4;have g13:=g _ _ _ h5;have g23:=g _ _ _ h6;rw[LC h7]at g02;rw[LC h8]at g13;show Av sqV _ _ 4=_;simp only[Av,show sqV.length=4 from rfl,Nat.reduceAdd,Nat.reduceSub,KI,Nat.add_zero,g01,g02,g03,g12,g13,g23];rfl
theorem fQ (n:Int)(h:1≤n∧n≤1000):bS (ED n)∧B7 (ED n)=true:=by
 refine⟨⟨?_,?_,?_,?_⟩,?_⟩
 ·exact Nat.le_trans (GX 1 1 (by omega) (by omega)) (by omega)
 ·exact Nat.le_trans (Gx 1 1 (by omega) (by omega)) (by omega)
 ·exact Nat.le_trans (Gx 2 1 (by omega) (by omega)) (by omega)
 ·exact Nat.le_trans (Gx n 1 (by omega) (by omega)) (by omega)
 ·rw[Ny]
  exact⟨by show 0<Rat.divInt 1 1;decide +kernel,by show Rat.divInt 1 1≤Rat.divInt 2 1;decide +kernel,gx (by omega) (by omega)⟩
theorem vX:(gS eg1∧Kh eg1=true)∧gS eg2∧Kh eg2=true:=by
 have q:=Gx 8 1 (by omega) (by omega);have r:=Gx 1 2 (by omega) (by omega);have v:∀x y:Int,-5≤x∧x≤5→-5≤y∧y≤5→vb (pI x y)≤40:=fun x y hx hy=>Nat.le_trans (GX x y (by omega) (by omega)) (by omega)
 have m:∀x y:Int,-5≤x∧x≤5→-5≤y∧y≤5→vb (pI x y)≤1400:=fun x y hx hy=>Nat.le_trans (v x y hx hy) (by omega)
 refine⟨⟨⟨m _ _ (by omega) (by omega),m _ _ (by omega) (by omega),v _ _ (by omega) (by omega),Nat.le_trans q (by omega),Nat.le_trans r (by omega)⟩,?_⟩,⟨m _ _ (by omega) (by omega),m _ _ (by omega) (by omega),v _ _ (by omega) (by omega),Nat.le_trans q (by omega),Nat.le_trans r (by omega)⟩,?_⟩
 ·rw[CP];decide +kernel
 ·rw[CP];decide +kernel
theorem oN:Jb eg1.n=2∧Jb eg2.n=2:=by decide +kernel
theorem qS (n:Int)(k:Rat)(h:(k=4∧n=100)∨(k=3∧n=6)):mc (ED n) eg1 k:=by
 have e1:((0:Int):Rat)=0:=rfl;have e2:((2:Int):Rat)=2:=rfl;have e3:((1:Int):Rat)=1:=rfl;have d2:Rat.divInt 2 1=2:=by decide +kernel
 have d8:Rat.divInt 8 1=8:=by decide +kernel
 have dh:Rat.divInt 1 2=1/2:=by decide +kernel
 have hs:(k=4∧Rat.divInt n 1=100)∨(k=3∧Rat.divInt n 1=6):=by
  rcases h with⟨rfl,rfl⟩ | ⟨rfl,rfl⟩
  ·exact .inl ⟨rfl,by decide +kernel⟩
  ·exact .inr ⟨rfl,by decide +kernel⟩
 constructor
 ·refine⟨k,0,0,0,?_⟩
  have l:=oN.1;constructor
  all_goals
   try simp only[l]
   try simp only[eg1,ED,pI,Xp,V2.sub,e1,e2,e3,d2,d8,dh]
   grind
 ·intro a0 c0 a1 c1 k' hk
  obtain⟨n0,n1,r0,r1,s0,s1,f0,f1,st,k0,k1,ex,ey,et⟩:=hk;rw[oN.1]at f0 f1 st;simp only[eg1,ED,pI,e1,e2,e3,d2,d8,dh]at *;grind
theorem gM (n:Int)(k:Rat)(h:(k=4∧n=100)∨(k=Rat.divInt 3 2∧n=6)):mc (ED n) eg2 k:=by
 have e1:((0:Int):Rat)=0:=rfl;have e2:((2:Int):Rat)=2:=rfl;have e3:((1:Int):Rat)=1:=rfl;have e4:((-2:Int):Rat) = -2:=rfl;have d2:Rat.divInt 2 1=2:=by decide +kernel
 have d8:Rat.divInt 8 1=8:=by decide +kernel
 have dh:Rat.divInt 1 2=1/2:=by decide +kernel
 have d3:Rat.divInt 3 2=3/2:=by decide +kernel
 have hs:(k=4∧Rat.divInt n 1=100)∨(k=3/2∧Rat.divInt n 1=6):=by
  rcases h with⟨rfl,rfl⟩ | ⟨rfl,rfl⟩
  ·exact .inl ⟨rfl,by decide +kernel⟩
  ·exact .inr ⟨d3,by decide +kernel⟩
 constructor
 ·refine⟨k,-(k/2),k,k/2,?_⟩
  have l:=oN.2;constructor
  all_goals
   try simp only[l]
   try simp only[eg2,ED,pI,Xp,V2.sub,e1,e2,e3,e4,d2,d8,dh]
   grind
 ·intro a0 c0 a1 c1 k' hk
  obtain⟨n0,n1,r0,r1,s0,s1,f0,f1,st,k0,k1,ex,ey,et⟩:=hk;rw[oN.2]at f0 f1 st;simp only[eg2,ED,pI,e1,e2,e3,e4,d2,d8,dh]at *;grind
end
end Go.Ab.N
namespace Go.Ab.N
open Go Go.RowKit Go.Proofs
noncomputable section
set_option maxRecDepth 10000
set_option maxHeartbeats 4000000
open Classical
def Iz (b:BB)(g:GG):Rat:=if h:∃k,mc b g k then Classical.choose h else 0
theorem Hu {b:BB}{g:GG}{k:Rat}(h:mc b g k):Iz b g=k:=by
 unfold Iz;have hx:∃k,mc b g k:=⟨k,h⟩
 rw[dif_pos hx];exact jc (Classical.choose_spec hx) h
structure Mg (b:BB)(g:GG)(p q:Rat×Rat):Prop where
 fn:Fn Tryz.prog 22 [bA b,gA g] (.tup [qA (Iz b g),bD [p,q],I 0])
 m:mc b g (Iz b g)
 ok:okP b g p.1 p.2 q.1 q.2 (Iz b g)
 z:qb p.1≤1356773∧qb p.2≤1356773∧qb q.1≤1356773∧qb q.2≤1356773∧qb (Iz b g)≤1356773
theorem Wf (b:BB)(g:GG)(hb:bS b)(hg:gS g)(h1:B7 b=true)(h2:Kh g=true):∃p q,Mg b g p q:=by
 obtain⟨x0,x1,x2,x3,m,c,hm,ho,z0,z1,z2,z3,z4⟩:=Uu b g hb hg h1 h2;have e:=Hu hm;exact⟨(x0,x1),(x2,x3),e▸c,e▸hm,e▸ho,z0,z1,z2,z3,e▸z4⟩
theorem CR {b:Int}(hb:KT b){m:Int}(hm:0<m):KT (b.tdiv m):=by
 unfold KT at hb ⊢;rcases Int.le_total 0 b with h |h
 ·rw[Int.tdiv_eq_ediv_of_nonneg h]
  have:=Int.ediv_le_self m h;have:=Int.ediv_nonneg h (Int.le_of_lt hm);omega
 ·have e:b.tdiv m = -((-b).tdiv m):=by rw[Int.neg_tdiv];omega
  rw[e,Int.tdiv_eq_ediv_of_nonneg (by omega)];have:=Int.ediv_le_self m (show 0≤-b by omega);have:=Int.ediv_nonneg (show 0≤-b by omega) (Int.le_of_lt hm);omega
theorem lk {c:Nat}{a b:V2}(ha:vb a≤c)(hb:vb b≤c):vb (D8 a b)≤2*c+1:=by
 have:=MS a b;omega
theorem bm {L:List V2}(h:Am L){i:Nat}(hi:i<L.length):(Jl L i).a≠(Jl L i).b:=by
 have:=IJ (h.2.1 i hi).1;unfold atF at this;rw[Nat.mod_eq_of_lt hi]at this;exact this
theorem LP {c:Nat}(L:List V2)(f r:Rat)(h:Qp L c)(hc:c≤18)(hl:L.length≤13)(hf:qb f≤40)(hr:qb r≤40):Fn Tryz.prog 45 [Q6 L,qA f,qA r] (Nh (Kc L f r)):=by
 have c1:=EV L (fun i=>Nat.le_trans (h i) (by omega)) (by omega);have c2:=LR f r (by unfold rm;omega) (by unfold rm;omega);have c3:=NN L (fun i=>Nat.le_trans (h i) (by omega)) (by omega);obtain⟨R,hR⟩:∃R,R=Kc L f r:=⟨_,rfl⟩
 have sR:=Z9 R;rw[←hR];unfold Kc at hR;rw[CX]at hR;generalize Bb f r=J at *;obtain⟨S,hS⟩:∃S,S=Jz L:=⟨_,rfl⟩
 rw[←hS]at c3;have hSl:S.length=L.length:=by rw[hS];exact DI L L.length
 have hSa:∀i,i<L.length→S.getD i Ip=Jl L i:=fun i hi=>by rw[hS];exact cQ L hi
 refine Fq Tryz.call45 Tryz.func45 16 [27,28,29,37,38,39] [] [] (by simp[Xn,Xb]) (Xl ?_);simp(disch:=omega)only[AS.start,X4,qA,qC,↓Xd,wG,seval];refine X0 c1 ⟨by rw[X4];exact Weak.rfl' _,trivial⟩ ?_;simp(disch:=omega)only[↓Xd,wG,seval];have nil:∀ (s:AS),s.get 6=.sl 0 0 (fun _=>.any) true→R=[]→RetOk (Jv Tryz.prog Tryz.f45 [] [] (Nh R)) s:=fun s hs e=>ZP rfl (by rw[hs];exact Xs sR (by rw[e];exact D6 gC 32 gZ _ _))
 refine⟨fun hp=>nil _ rfl (by rw[hR,if_neg fun h=>hp h.1]),fun hp=>?_⟩;refine X0 c2 (X2 _) ?_;simp(disch:=omega)only[↓Xd,wG,seval];refine⟨fun hj=>nil _ rfl (by rw[hR,if_neg fun h=>by rw[h.2]at hj;exact absurd hj (by simp)]),fun hj=>?_⟩;have hj:J=true:=by simpa using hj
 rw[if_pos ⟨hp,hj⟩]at hR;have bV:∀q,Jo q (V5 S)=True:=fun q=>eq_true (X7 (Eu S))
 have bL:∀q,Jo q (Q6 L)=True:=fun q=>eq_true (X7 (Xn L))
 have bP:∀q x,Jo q (KY x)=True:=fun q x=>eq_true (X7 (XN fun j _=>Xe (Jn x) j))
 have bO:∀q i x,Qo q (.con i 4 (Xg (qC x)))=True:=fun q i x=>eq_true fun j _=>X7 (Xe (Jn x) j)
 have bR:∀q i n l,Qo q (.row i n (XA gC 32 gZ l))=True:=fun q i n l=>eq_true fun j _=>X7 (Xe (Ka _) _)
 have fl:=fun i=>CN L f r i
 refine X0 c3 ⟨by rw[X4];exact Weak.rfl' _,trivial⟩ ?_;simp(disch:=omega)only[J5,hSl,↓Xd,wG,seval];refine Run.sub ?_ (Q0 0 rfl);refine Run.sub ?_ (Q0 1 rfl);refine Run.sub ?_ (Q5 4 rfl rfl (by omega));refine Run.sub ?_ (Q5 5 rfl rfl (by omega));refine Run.sub ?_ (KO 7 32 (XA gC 32 gZ []) rfl);have dS:AV.sl L.length (L.length*24) (XA AJ 24 Ip S) false=V5 S:=by rw[J5,hSl]
 rw[dS];refine Xj (fun i:Nat=>⟨16,[27,28,29,37,38,39],[.any,.any,.any,.any,KY f,KY r,.any,.osl 2 (Av L f r i).length 32 0 (Av L f r i).length,V5 S,.any,.any,.any,.any,.any,.any,.any],[(27,V5 S),(28,I L.length),(29,I i)],[.con 0 4 (Xg (qC f)),.con 0 4 (Xg (qC r)),.row (Av L f r i).length ((Av L f r i).length*32) (XA gC 32 gZ (Av L f r i))]⟩) (fun i=>i≤L.length) (fun i=>L.length-i) 0 (by omega)
  (Xi rfl (by simp[AS.put,Xm,KY,qC,Av];exact⟨rfl,rfl⟩) (by simp[AS.put,Xy,Xz,I]) rfl) ?_
 intro i hi next
 have w1:=wj i (by omega);by_cases hi2:i<L.length
 rotate_left
 ·obtain rfl:i=L.length:=by omega
  refine Xl ?_;simp(disch:=omega)only[J5,hSl,↓Xd,wG,seval];exact ZP rfl (by rw[hR];exact ST _ rfl rfl)
 have nx:=next (i+1)
 rw[NG]at nx;have f1:(i<L.length)=True:=eq_true hi2;have f3:(i+1≤L.length)=True:=eq_true hi2;have f4:(i<1000000)=True:=eq_true (by omega);obtain⟨M,hM⟩:∃M,M=L.length-(i+1):=⟨_,rfl⟩
 have e1:((L.length:Int)-((i+1:Nat):Int)).toNat=M:=by omega
 have e2:min (M*24) (L.length*24-(i+1)*24)=M*24:=by omega
 have l0:=Km AJ 24 Ip S i (by omega);have l1:=JK AJ 24 Ip S i;have hx:=hSa i hi2;rw[hx]at l0 l1;obtain⟨x,hX⟩:∃x,x=Jl L i:=⟨_,rfl⟩
 rw[←hX]at l0 l1 hx;have bX:∀q x,Qo q (.row 0 24 (Xg (AJ x)))=True:=fun q x=>eq_true fun j _=>X7 (Xe (Za x) j)
 have bT:∀q,Jo q (.sl M (M*24) (fun j=>XA AJ 24 Ip S ((i+1)*24+j)) false)=True:=fun q=>eq_true (X7 (Qk fun j _=>Xe (Za _) _))
 refine Xl ?_;simp(disch:=omega)only[J5,hSl,w1,f1,f3,l0,l1,As,e1,e2,↓Xd,wG,seval];generalize hF:Av L f r i=F at *;refine Xj (fun k:Nat=>⟨16,[27,28,29,37,38,39],[.any,.any,.any,.any,KY f,KY r,.any,.osl 2 (F ++ KI L f r i k).length 32 0 (F ++ KI L f r i k).length,V5 S,.any,.ref 3 0 0,.any,.any,.any,.any,.any],[(27,V5 S),(28,I L.length),(29,I i),(37,.sl M (M*24) (fun j=>XA AJ 24 Ip S ((i+1)*24+j)) false),(38,I M),(39,I k)],[.con 0 4 (Xg (qC f)),.con 0 4 (Xg (qC r)),.row (F ++ KI L f r i k).length ((F ++ KI L f r i k).length*32) (XA gC 32 gZ (F ++ KI L f r i k)),.row 0 24 (Xg (AJ x))]⟩) (fun k=>k≤M) (fun k=>M-k) 0 (by omega)
  (Xi rfl (by simp[Xm,KI,J5,hSl]) (by simp[Xy,Xz,I,J5,hSl]) (by simp only[KI,List.append_nil];rfl)) ?_
 intro k hk nextk;have w2:=wj k (by omega);by_cases hk2:k<M
 rotate_left
 ·obtain rfl:k=M:=by omega
  refine Xl ?_;simp(disch:=omega)only[J5,hSl,w1,w2,↓Xd,wG,seval];rw[←hM]at nx;exact nx _ (by omega) (by omega) (XQ (m:=3) (Nat.zero_le _) rfl (by simp[J5,hSl,Xm,I]) (by simp[Xy,Xz,J5,hSl,I]) rfl (by simp[XO,bV,bP]) (by simp[XO,bV]) (by simp[bO,bR]))
 have nk:=nextk (k+1);rw[show KI L f r i (k+1)=KI L f r i k ++ LN L f r i (i+1+k)from rfl,←List.append_assoc]at nk;have hln:(F ++ KI L f r i k).length≤1000:=by
  have g1:=fl i;have g2:=GE L f r i k;rw[hF]at g1;have g3:L.length*i≤13*13:=Nat.mul_le_mul hl (by omega);rw[List.length_append];omega
 generalize F ++ KI L f r i k=G at *;clear hF next nextk fl
 have f2:(k<M)=True:=eq_true hk2;have y0:XA AJ 24 Ip S ((i+1)*24+k*24)=(AJ (S.getD (i+1+k) Ip)).getD 0 .any:=by
  rw[show(i+1)*24+k*24=(i+1+k)*24 by omega];exact Km AJ 24 Ip S _ (by omega)
 have y1:∀j,j<24→XA AJ 24 Ip S ((i+1)*24+(k*24+j))=(AJ (S.getD (i+1+k) Ip)).getD j .any:=fun j hj=>by
  rw[show(i+1)*24+(k*24+j)=(i+1+k)*24+j by omega];exact JK AJ 24 Ip S _ _ hj
 have hg:LN L f r i (i+1+k)=((Gb (Jl L i) (Jl L (i+1+k))).toList).map fun x=>⟨x.1,x.2,D8 (L.getD i v0) (J4 L i),f,r⟩:=rfl
 have hn:D8 (L.getD i v0) (J4 L i)=x.i:=by rw[hX];rfl
 rw[hn]at hg;have hy:=hSa (i+1+k) (by omega);rw[hy]at y0 y1;have uf:=ar (Jl L i) (Jl L (i+1+k)) hc (h _) (h _) (lk (h _) (h _)) (h _) (h _) (lk (h _) (h _)) (bm hp hi2);unfold tw at uf;rw[←hX]at hg uf;generalize Jl L (i+1+k)=y at *;refine Xl ?_;simp(disch:=omega)only[J5,hSl,w1,w2,f1,f2,y0,y1,As,↓Xd,wG,seval];refine X0 uf ⟨by rw[V4,As];exact Weak.rfl' _,by rw[V4,As];exact Weak.rfl' _,trivial⟩ ?_;generalize Gb x y=o at *;rcases o with _ | ⟨p,q⟩
 ·replace hg:LN L f r i (i+1+k)=[]:=hg
  rw[hg,List.append_nil]at nk;simp(disch:=omega)only[vA,vC,Option.getD_none,Option.isSome_none,↓Xd,wG,seval];exact nk _ (by omega) (by omega) (XQ (m:=4) (Nat.zero_le _) rfl (by simp[J5,hSl,Xm,I]) (by simp[Xy,Xz,J5,hSl,I]) rfl (by simp[XO,bV,bP]) (by simp[XO,bV,bT]) (by simp[bO,bR,bX]))
 ·replace hg:LN L f r i (i+1+k)=[⟨p,q,x.i,f,r⟩]:=hg
  have hap:=Bz gC 32 gZ G ⟨p,q,x.i,f,r⟩ (by omega);rw[hg]at nk;rw[show(G ++ [(⟨p,q,x.i,f,r⟩:GG)]).length=G.length+1 by simp]at nk;simp(disch:=omega)only[vA,vC,KY,qC,Option.getD_some,Option.isSome_some,↓Xd,wG,seval];exact⟨fun j hj=>iP ⟨p,q,x.i,f,r⟩ j hj,nk _ (by omega) (by omega) (XQ (m:=4) (Nat.zero_le _) rfl (by simp[J5,hSl,Xm,I,KY];exact⟨rfl,rfl⟩) (by simp[Xy,Xz,J5,hSl,I]) (by rw[←hap];rfl) (by simp[XO,bV,bP]) (by simp[XO,bV,bT]) (by simp[bO,bR,bX]))⟩
 done
end
end Go.Ab.N
