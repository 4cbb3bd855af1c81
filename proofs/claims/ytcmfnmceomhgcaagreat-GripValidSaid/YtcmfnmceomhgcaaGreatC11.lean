/- Contracts of functions, for every argument that fits. -/
import Derived.Test.YtcmfnmceomhgcaaGreatC10
import Derived.Shelf.Small.Bits
set_option linter.unusedSimpArgs false
set_option linter.unusedVariables false
namespace Go.Ab.N
open Go Go.RowKit Go.Proofs
noncomputable section
set_option maxRecDepth 10000
set_option maxHeartbeats 4000000
open Classical
theorem ug (a b:Rat):Rat.divInt (a.num*b.den) (a.den*b.num)=a/b:=by
 rw[←Rat.divInt_mul_divInt,Rat.div_def,Rat.inv_def,Rat.num_divInt_den]
theorem FO (a b:Rat)(ha:qb a≤vm)(hb:qb b≤vm):Fn Tryz.prog 121 [qA a,qA b] (qA (a/b)):=by
 unfold vm at ha hb;have a1:=J2 a;have a2:=Jx a;have b1:=J2 b;have b2:=Jx b;have m1:=KH a.num b.den (by unfold room;omega) (by unfold room;omega);have m3:=KH a.den b.num (by unfold room;omega) (by unfold room;omega);have n1:=Jt a.num b.den;have n3:=Jt a.den b.num;have k:=CT (a.num*b.den) (a.den*b.num) (by omega) (by omega);rw[ug]at k;have d1:=KN a;have d2:=KN b;obtain⟨R,hR⟩:∃R,R=qA (a/b):=⟨_,rfl⟩
 have sR:Settled R:=hR▸Xb _;rw[←hR]at k ⊢;refine Fq Tryz.call121 Tryz.func121 5 [] [1,20000002,20000003] [] (by simp[wS]) (Xl ?_);simp(maxSteps:=999999)only[AS.start,↓X6,wF,seval];refine X1 d2 rfl ?_;simp only[↓X6,wF,seval];refine X1 m1 rfl ?_;simp only[↓X6,wF,seval];refine X1 d1 rfl ?_;simp only[↓X6,wF,seval];refine X1 m3 rfl ?_;simp only[↓X6,wF,seval];refine X1 k rfl ?_;simp only[hR,↓X6,wF,seval];exact J7 rfl XT rfl rfl rfl sR (hR.trans rfl)
def Wu (t c:V2):List AV:=[.bool (decide (t.x.num<0)),X8 (X9 t.x.num.natAbs),.bool false,X8 (X9 (qd t.x)),.bool (decide (t.y.num<0)),X8 (X9 t.y.num.natAbs),.bool false,X8 (X9 (qd t.y)),
 .bool (decide (c.x.num<0)),X8 (X9 c.x.num.natAbs),.bool false,X8 (X9 (qd c.x)),.bool (decide (c.y.num<0)),X8 (X9 c.y.num.natAbs),.bool false,X8 (X9 (qd c.y))]
def pi (t c:V2):AV:=.agg (Wu t c)
theorem Ib (t c:V2):∀x∈Wu t c,Settled x:=by simp[Wu,Xc,X5]
theorem Ia (t c:V2):Settled (pi t c):=Xw (Ib t c)
def put (t c a:V2):V2:=(ru t a).add c
theorem uM (t c a:V2):vb (put t c a)≤2*(vb t+vb a)+vb c+2:=by
 have:=ll t a;have:=AU (ru t a) c;unfold put;omega
def DY (t c:V2)(L:List V2):List V2:=L.map (put t c)
theorem aY (t c:V2)(L:List V2)(i:Nat)(hi:i<L.length):DY t c (L.take i) ++ [put t c (L.getD i v0)]=DY t c (L.take (i+1)):=by
 rw[Vi _ v0 hi];simp[DY]
theorem jw (t c:V2)(L:List V2)(i:Nat)(hi:i≤L.length):(DY t c (L.take i)).length=i:=by simp[DY];omega
theorem lE {P:Program}{fn:Func}{str hcs:List Nat}{s:AS}{t id ver:Nat}(L:List V2)(hr:fn.results=#[.tmp t])(hs:s.get t=.osl id ver 8 0 L.length)(ho:s.h[id]?=some (.row ver (L.length*8) (XA vC 8 v0 L))):RetOk (Jv P fn str hcs (Q6 L)) s:=by
 refine ZP hr ?_;rw[hs,X4];refine ZR (.inl ho) (by omega) (fun h=>by rw[h]) fun j hj=>?_
 rw[Nat.zero_add];exact(Xe (by simp[vC,Xc,X5]) _).sees _
theorem li (a:V2):∀j,j<8→((vC a).getD j .any).one=true:=fun j hj=>by
 match j,hj with
 |0,_=>rfl
 |1,_=>rfl
 |2,_=>rfl
 |3,_=>rfl
 |4,_=>rfl
 |5,_=>rfl
 |6,_=>rfl
 |7,_=>rfl
 |j+8,h=>omega
theorem Sz (t c:V2)(L:List V2)(k:Nat)(h:Qp L k)(hk:k≤100000)(hl:L.length<1000000)(ht:vb t≤100000)(hc:vb c≤100000):Fn Tryz.prog 55 [pi t c,Q6 L] (Q6 (DY t c L)):=by
 have bo:Qo 2 (.con 0 16 (Xg (Wu t c)))=True:=eq_true (fun j _=>X7 (Xe (Ib t c) j));have hvc:∀a:V2,∀x∈vC a,Settled x:=fun a=>by simp[vC,Xc,X5]
 have bv:Jo 2 (Q6 L)=True:=eq_true (X7 (Xn L));have br:∀i l n,Qo 2 (.row i n (XA vC 8 v0 l))=True:=fun i l n=>eq_true fun j _=>X7 (Xe (hvc _) _)
 obtain⟨R,hR⟩:∃R,R=Q6 (DY t c L):=⟨_,rfl⟩
 rw[←hR];refine Fq Tryz.call55 Tryz.func55 7 [] [5,6011,60000002] [] (by simp[Ia,Xn]) (Xl ?_);simp only[AS.start,pi,Wu,X4,↓X6,wF,seval];refine Xj (fun i:Nat=>⟨7,[],[.any,Q6 L,.ref 0 0 0,.any,.any,.osl 1 i 8 0 i,I i],[],[.con 0 16 (Xg (Wu t c)),.row i (i*8) (XA vC 8 v0 (DY t c (L.take i)))]⟩) (fun i=>i≤L.length) (fun i=>L.length-i) 0 (by omega)
  (Sub.trans (Q0 0 rfl) (Sub.trans (KO 5 8 (XA vC 8 v0 []) rfl) (Xi rfl (by simp[AS.put,X4,Xm,I]) (by simp[AS.put,Xy]) (by simp[AS.put,Wu,Xu,DY])))) ?_
 intro i hi next
 have w1:=wj i (by omega);by_cases hi2:i<L.length
 ·have f1:((i:Int)<L.length)=True:=eq_true (by omega)
  have f2:(i<L.length)=True:=eq_true hi2;have f3:(i*8+8≤L.length*8)=True:=eq_true (by omega);have v1:=vF L i;have hb:=h i;have m:=ll t (L.getD i v0);have c1:=Nk t (L.getD i v0) (by unfold vm;omega) (by unfold vm;omega);have c2:=K9 (ru t (L.getD i v0)) c (by unfold vm;omega) (by unfold vm;omega);have hap:=Bz vC 8 v0 (DY t c (L.take i)) (put t c (L.getD i v0)) (by omega);rw[aY _ _ _ _ hi2,jw _ _ _ _ hi]at hap;refine Xl ?_;simp only[Wu,X4,w1,f1,f2,f3,v1,Int.toNat_natCast,↓X6,wF,seval];refine X1 c1 rfl ?_;simp only[Wu,X4,w1,f1,f2,f3,v1,Int.toNat_natCast,↓X6,wF,seval];refine X1 c2 rfl ?_;simp only[w1,↓X6,wF,seval];exact⟨⟨li _,by omega,by omega⟩,next (i+1) _ (by omega) (by omega) (V3 (m:=2) (by simp[X4,Xm,I]) (by rw[←hap];rfl) (by simp[XO,bv]) (by simp[bo,br]))⟩
 obtain rfl:i=L.length:=by omega
 refine Xl ?_;simp only[Wu,X4,Int.lt_irrefl,Nat.lt_irrefl,↓X6,wF,seval];rw[hR,List.take_length];have hlen:(DY t c L).length=L.length:=by simp[DY]
 exact lE _ rfl (by rw[hlen];rfl) (by rw[hlen];rfl)
structure Sd where
 a:V2
 b:V2
 i:V2
def AJ (s:Sd):List AV:=vC s.a ++ vC s.b ++ vC s.i
def V4 (s:Sd):AV:=.agg (AJ s)
theorem Za (s:Sd):∀a∈AJ s,Settled a:=by simp[AJ,vC,Xc,X5]
theorem JY (s:Sd):Settled (V4 s):=Xw (Za s)
theorem As (s:Sd):AJ s=[.bool (sg s.a.x),X8 (X9 s.a.x.num.natAbs),.bool false,X8 (X9 (qd s.a.x)),.bool (sg s.a.y),X8 (X9 s.a.y.num.natAbs),.bool false,X8 (X9 (qd s.a.y)),
 .bool (sg s.b.x),X8 (X9 s.b.x.num.natAbs),.bool false,X8 (X9 (qd s.b.x)),.bool (sg s.b.y),X8 (X9 s.b.y.num.natAbs),.bool false,X8 (X9 (qd s.b.y)),
 .bool (sg s.i.x),X8 (X9 s.i.x.num.natAbs),.bool false,X8 (X9 (qd s.i.x)),.bool (sg s.i.y),X8 (X9 s.i.y.num.natAbs),.bool false,X8 (X9 (qd s.i.y))]:=rfl
def Ip:Sd:=⟨v0,v0,v0⟩
def V5 (l:List Sd):AV:=cS AJ 24 Ip l
theorem J5 (l:List Sd):V5 l=.sl l.length (l.length*24) (XA AJ 24 Ip l) false:=nrfl rfl
theorem Eu (l:List Sd):Settled (V5 l):=JZ fun a x hx=>Za a x hx
theorem pF (s:Sd):∀j,j<24→((AJ s).getD j .any).one=true:=fun j hj=>by
 rw[As]
 match j,hj with
 |0,_ |1,_ |2,_ |3,_ |4,_ |5,_ |6,_ |7,_ |8,_ |9,_ |10,_ |11,_ |12,_ |13,_ |14,_ |15,_ |16,_ |17,_ |18,_ |19,_ |20,_ |21,_ |22,_ |23,_=>rfl
 |j+24,h=>omega
def D8 (p q:V2):V2:=⟨p.y-q.y,q.x-p.x⟩
def J4 (L:List V2)(i:Nat):V2:=L.getD ((i+1)%L.length) v0
def Jl (L:List V2)(i:Nat):Sd:=⟨L.getD i v0,J4 L i,D8 (L.getD i v0) (J4 L i)⟩
def JB (L:List V2)(k:Nat):List Sd:=(List.range k).map (Jl L)
theorem Ig (L:List V2)(k:Nat):JB L k ++ [Jl L k]=JB L (k+1):=by unfold JB;rw[List.range_succ,List.map_append];rfl
theorem DI (L:List V2)(k:Nat):(JB L k).length=k:=by simp[JB]
theorem cQ (L:List V2){k i:Nat}(h:i<k):(JB L k).getD i Ip=Jl L i:=by
 unfold JB;rw[List.getD_eq_getElem?_getD,List.getElem?_map,List.getElem?_range h];rfl
def Jz (L:List V2):List Sd:=JB L L.length
theorem NN (L:List V2)(h:Qp L 1000)(hl:L.length<1000000):Fn Tryz.prog 64 [Q6 L] (V5 (Jz L)):=by
 have bv:Jo 1 (Q6 L)=True:=eq_true (X7 (Xn L));have br:∀i l n,Qo 1 (.row i n (XA AJ 24 Ip l))=True:=fun i l n=>eq_true fun j _=>X7 (Xe (Za _) _)
 obtain⟨R,hR⟩:∃R,R=V5 (Jz L):=⟨_,rfl⟩
 rw[←hR];refine Fn.intro (fn:=Tryz.f64) Tryz.call64 Tryz.func64 rfl mixed 7 [7,8,9] [] [] (by kernel_rfl) (Nat.le_of_ble_eq_true rfl) (fun a ha=>List.mem_singleton.1 ha▸Xn L) (Xl ?_);simp(disch:=omega)only[AS.start,X4,↓Xd,wG,seval];refine Xj (fun i:Nat=>⟨7,[7,8,9],[Q6 L,.any,.any,.osl 0 i 24 0 i,.any,.any,.any],[(7,Q6 L),(8,I L.length),(9,I i)],[.row i (i*24) (XA AJ 24 Ip (JB L i))]⟩) (fun i=>i≤L.length) (fun i=>L.length-i) 0 (by omega)
  (Sub.trans (KO 3 24 (XA AJ 24 Ip []) rfl) (Xi rfl (by simp[AS.put,Xm,I,X4]) (by simp[AS.put,Xy,Xz,X4,I]) (by simp[AS.put,JB]))) ?_
 intro i hi next
 have w1:=wj i (by omega);by_cases hi2:i<L.length
 ·have f6:((L.length:Int)=0)=False:=eq_false (by omega)
  have f6':(L.length=0)=False:=eq_false (by omega);have hm:((i+1:Nat):Int).tmod L.length=(((i+1)%L.length:Nat):Int):=rfl;have hml:(i+1)%L.length<L.length:=Nat.mod_lt _ (by omega);have f2:(i<L.length)=True:=eq_true hi2;have v1:=vF L i;have v2:=vF L ((i+1)%L.length);have hb1:=h i;have hb2:=h ((i+1)%L.length);have x1:=QS (L.getD i v0);have y1:=QN (L.getD i v0);have x2:=QS (J4 L i);have y2:=QN (J4 L i);have hb3:vb (J4 L i)≤1000:=hb2;have c1:=EY (L.getD i v0).y (J4 L i).y (by unfold rm;omega) (by unfold rm;omega);have c2:=EY (J4 L i).x (L.getD i v0).x (by unfold rm;omega) (by unfold rm;omega);have hap:=Bz AJ 24 Ip (JB L i) (Jl L i) (by omega);rw[Ig,DI]at hap;have nx:=next (i+1)
  have e:L.getD ((i+1)%L.length) v0=J4 L i:=rfl;rw[e]at v2;refine Xl ?_;simp(disch:=omega)only[X4,w1,f2,f6,f6',hm,eq_true hml,v1,v2,↓Xd,wG,seval];refine X0 c1 (X2 _) ?_;simp(disch:=omega)only[↓Xd,wG,seval];refine X0 c2 (X2 _) ?_;simp(disch:=omega)only[qA,qC,↓Xd,wG,seval];exact⟨fun j hj=>pF (Jl L i) j hj,nx _ (by omega) (by omega) (XQ (m:=1) (Nat.zero_le _) rfl (by simp[X4,Xm,I]) (by simp[Xy,Xz,X4,I]) (by rw[←hap];rfl) (by simp[XO,bv]) (by simp[XO,bv]) (by simp[br]))⟩
 obtain rfl:i=L.length:=by omega
 refine Xl ?_;simp(disch:=omega)only[X4,↓Xd,wG,seval];rw[hR];refine ZP rfl ?_;show Zv _ (.osl 0 L.length 24 0 L.length) (V5 (Jz L));rw[J5,show(Jz L).length=L.length from DI L _];refine ZR (.inl rfl) (by omega) (fun h=>by rw[h]) fun j hj=>?_
 rw[Nat.zero_add];exact(Xe (Za _) _).sees _
def j9 (a b x:Rat):Bool:=decide (a≤x∧x≤b∨b≤x∧x≤a)
theorem Wa (a b x:Rat)(ha:qb a≤rm)(hb:qb b≤rm)(hx:qb x≤rm):Fn Tryz.prog 148 [qA a,qA b,qA x] (.bool (j9 a b x)):=by
 have c1:=QZ a x ha hx;have c2:=QZ x b hx hb;have c3:=QZ b x hb hx;have c4:=QZ x a hx ha;obtain⟨R,hR⟩:∃R,R=j9 a b x:=⟨_,rfl⟩
 rw[←hR];unfold j9 at hR;refine Fq Tryz.call148 Tryz.func148 7 [] [] [] (by simp[Xb]) (Xl ?_);simp(disch:=omega)only[AS.start,qA,qC,↓Xd,wG,seval];refine X0 c1 (X2 _) ?_;simp(disch:=omega)only[Zl,↓Xd,wG,seval];refine⟨fun h1=>?_,fun h1=>?_⟩
 ·refine X0 c2 (X2 _) ?_
  simp(disch:=omega)only[h1,Zl,↓Xd,wG,seval];refine⟨fun h2=>?_,fun h2=>?_⟩
  ·simp(disch:=omega)only[h1,h2,Zl,↓Xd,wG,seval]
   exact Xk (v:=.bool true) rfl rfl (X5 _) (by rw[hR];simp[h1,h2])
  ·refine X0 c3 (X2 _) ?_
   simp(disch:=omega)only[h1,h2,Zl,↓Xd,wG,seval];refine⟨fun h3=>?_,fun h3=>?_⟩
   ·refine X0 c4 (X2 _) ?_
    simp(disch:=omega)only[h1,h2,h3,Zl,↓Xd,wG,seval];exact Xk (v:=.bool (decide (x≤a))) rfl rfl (X5 _) (by rw[hR];simp[h1,h2,h3])
   ·simp(disch:=omega)only[h1,h2,h3,Zl,↓Xd,wG,seval]
    exact Xk (v:=.bool false) rfl rfl (X5 _) (by rw[hR];simp[h1,h2,h3])
 ·refine X0 c3 (X2 _) ?_
  simp(disch:=omega)only[h1,Zl,↓Xd,wG,seval];refine⟨fun h3=>?_,fun h3=>?_⟩
  ·refine X0 c4 (X2 _) ?_
   simp(disch:=omega)only[h1,h3,Zl,↓Xd,wG,seval];exact Xk (v:=.bool (decide (x≤a))) rfl rfl (X5 _) (by rw[hR];simp[h1,h3])
  ·simp(disch:=omega)only[h1,h3,Zl,↓Xd,wG,seval]
   exact Xk (v:=.bool false) rfl rfl (X5 _) (by rw[hR];simp[h1,h3])
def LZ (s:Sd)(p:V2):Bool:=decide (K0 s.a s.b p=0) && (j9 s.a.x s.b.x p.x && j9 s.a.y s.b.y p.y)
def ur (s:Sd)(k:Nat):Prop:=vb s.a≤k∧vb s.b≤k∧vb s.i≤k
theorem iV (s:Sd)(p:V2)(hs:ur s vs)(hp:vb p≤vs):Fn Tryz.prog 67 [V4 s,vA p] (.bool (LZ s p)):=by
 obtain⟨h1,h2,h3⟩:=hs;have x1:=QS s.a;have y1:=QN s.a;have x2:=QS s.b;have y2:=QN s.b;have x3:=QS p;have y3:=QN p;have c1:=BS s.a s.b p h1 h2 hp;unfold vs at h1 h2 hp;have c2:=Wa s.a.x s.b.x p.x (by unfold rm;omega) (by unfold rm;omega) (by unfold rm;omega);have c3:=Wa s.a.y s.b.y p.y (by unfold rm;omega) (by unfold rm;omega) (by unfold rm;omega);have hd:LZ s p=(decide (K0 s.a s.b p=0) && (j9 s.a.x s.b.x p.x && j9 s.a.y s.b.y p.y)):=rfl;generalize LZ s p=R at *;generalize j9 s.a.x s.b.x p.x=b1 at *;generalize j9 s.a.y s.b.y p.y=b2 at *;generalize K0 s.a s.b p=d at *;refine Fn.intro (fn:=Tryz.f67) Tryz.call67 Tryz.func67 rfl mixed 6 [] [] [] (by kernel_rfl) (Nat.le_of_ble_eq_true rfl) (Kd (JY s) (Xr p)) (Xl ?_);simp(disch:=omega)only[AS.start,V4,As,vA,vC,Xu,↓Xd,wG,seval];refine X0 c1 (X2 _) ?_;simp(disch:=omega)only[↓Xd,wG,seval];refine⟨fun h=>?_,fun h=>?_⟩
 ·exact Xk (v:=.bool false) rfl rfl (X5 _) (by rw[hd,decide_eq_false h];rfl)
 ·refine X0 c2 (X2 _) ?_
  simp(disch:=omega)only[↓Xd,wG,seval];refine Qe (fun e=>?_) (fun e=>?_)
  ·refine X0 c3 (X2 _) ?_
   simp(disch:=omega)only[↓Xd,wG,seval];exact Xk (v:=.bool b2) rfl rfl (X5 _) (by rw[hd,e];simp;grind)
  ·exact Xk (v:=.bool false) rfl rfl (X5 _) (by rw[hd,e];simp)
def ZW (g:GG)(s:Sd):Bool:=decide (s.i=g.n) && LZ s g.p
def KA (g:GG)(s:Sd):Bool:=decide (Gt s.i g.n) && LZ s g.q
theorem C5 (g:GG):Settled (gP g):=XN fun j _=>Xe (Ka g) j
theorem ir (g:GG)(s:Sd)(hs:ur s 10000)(hg:vb g.p≤10000∧vb g.n≤10000):Fn Tryz.prog 65 [V4 s,gP g] (.bool (ZW g s)):=by
 obtain⟨h1,h2,h3⟩:=hs;have c1:=po s.i g.n (by unfold vm;omega) (by unfold vm;omega);have c2:=iV s g.p (by unfold ur vs;omega) (by unfold vs;omega);have hd:ZW g s=(decide (s.i=g.n) && LZ s g.p):=rfl;have gf:=gF g;generalize ZW g s=R at *;generalize LZ s g.p=b at *;generalize decide (s.i=g.n)=a at *;refine Fn.intro (fn:=Tryz.f65) Tryz.call65 Tryz.func65 rfl mixed 4 [] [] [] (by kernel_rfl) (Nat.le_of_ble_eq_true rfl) (Kd (JY s) (C5 g)) (Xl ?_);simp(disch:=omega)only[AS.start,V4,As,vA,vC,gP,gf,Xu,↓Xd,wG,seval];refine X0 c1 (X2 _) ?_;simp(disch:=omega)only[gf,↓Xd,wG,seval];refine Qe (fun e=>?_) (fun e=>?_)
 ·refine X0 c2 (X2 _) ?_
  simp(disch:=omega)only[↓Xd,wG,seval];exact Xk (v:=.bool b) rfl rfl (X5 _) (by rw[hd,e];simp)
 ·exact Xk (v:=.bool false) rfl rfl (X5 _) (by rw[hd,e];simp)
theorem cO (g:GG)(s:Sd)(hs:ur s 10000)(hg:vb g.q≤10000∧vb g.n≤10000):Fn Tryz.prog 68 [V4 s,gP g] (.bool (KA g s)):=by
 obtain⟨h1,h2,h3⟩:=hs;have c1:=W8 s.i g.n (by unfold vm;omega) (by unfold vm;omega);have c2:=iV s g.q (by unfold ur vs;omega) (by unfold vs;omega);have hd:KA g s=(decide (Gt s.i g.n) && LZ s g.q):=rfl;have gf:=gF g;generalize KA g s=R at *;generalize LZ s g.q=b at *;generalize decide (Gt s.i g.n)=a at *;refine Fn.intro (fn:=Tryz.f68) Tryz.call68 Tryz.func68 rfl mixed 4 [] [] [] (by kernel_rfl) (Nat.le_of_ble_eq_true rfl) (Kd (JY s) (C5 g)) (Xl ?_);simp(disch:=omega)only[AS.start,V4,As,vA,vC,gP,gf,Xu,↓Xd,wG,seval];refine X0 c1 (X2 _) ?_;simp(disch:=omega)only[gf,↓Xd,wG,seval];refine Qe (fun e=>?_) (fun e=>?_)
 ·refine X0 c2 (X2 _) ?_
  simp(disch:=omega)only[↓Xd,wG,seval];exact Xk (v:=.bool b) rfl rfl (X5 _) (by rw[hd,e];simp)
 ·exact Xk (v:=.bool false) rfl rfl (X5 _) (by rw[hd,e];simp)
theorem aK (s:List Sd)(f:FuncId)(caps:List AV)(p:Sd→Bool)(hl:s.length<1000000)(hc:∀ a∈caps,Settled a)(hp:∀x∈s,Fn Tryz.prog f ([V4 x] ++ caps) (.bool (p x))) :
  Fn Tryz.prog 151 [V5 s,.fn f caps] (I (Io p s)):=by
 refine Fn.intro (fn:=Tryz.f151) Tryz.call151 Tryz.func151 rfl mixed 6 [6,7,8] [] [] (by kernel_rfl) (Nat.le_of_ble_eq_true rfl) (Kd (Eu s) (JI hc)) (Xl ?_);simp(disch:=omega)only[AS.start,J5,↓Xd,wG,seval];refine Xj (fun j:Nat=>⟨6,[6,7,8],[V5 s,.fn f caps,.any,.any,.any,.any],[(6,V5 s),(7,I s.length),(8,I j)],[]⟩) (fun j=>j≤s.length∧∀i,i<j→p (s.getD i Ip)=false) (fun j=>s.length-j) 0 ⟨by omega,by omega⟩
  (Xi rfl (by simp[Xm,I,J5]) (by simp[Xy,Xz,I,J5]) rfl) ?_
 rintro j ⟨hj,hno⟩ next
 by_cases h:j<s.length
 ·have l0:=Km AJ 24 Ip s j (by omega)
  have l1:=JK AJ 24 Ip s j;have c1:=hp _ (QC Ip h);refine Xl ?_;simp(disch:=omega)only[J5,l0,l1,As,↓Xd,wG,seval];refine X0 c1 (X2 _) ?_;simp(disch:=omega)only[↓Xd,wG,seval];refine Qe (fun ht=>Xk (v:=I j) rfl rfl (Xa _) ?_) (fun hf=>next (j+1) _ ⟨by omega,fun i hi=>?_⟩ (by omega) (Xi rfl ?_ ?_ rfl))
  ·rw[M7 Ip h ht hno]
  ·by_cases e:i=j
   ·rw[e];exact hf
   ·exact hno i (by omega)
  ·simp[Xm,I,J5]
  ·simp[Xy,Xz,I,J5]
 ·obtain rfl:j=s.length:=by omega
  refine Xl ?_;simp(disch:=omega)only[J5,↓Xd,wG,seval];exact Xk (v:=I (-1)) rfl rfl (Xa _) (by rw[Hs Ip fun i hi=>hno i hi])
theorem G5 (s:List Sd)(f:FuncId)(caps:List AV)(p:Sd→Bool)(hl:s.length<1000000)(hc:∀ a∈caps,Settled a)(hp:∀x∈s,Fn Tryz.prog f ([V4 x] ++ caps) (.bool (p x))) :
  Fn Tryz.prog 70 [V5 s,.fn f caps] (.bool (s.any p)):=by
 refine Fn.intro (fn:=Tryz.f70) Tryz.call70 Tryz.func70 rfl mixed 4 [] [] [] (by kernel_rfl) (Nat.le_of_ble_eq_true rfl) (Kd (Eu s) (JI hc)) (Xl ?_);simp(disch:=omega)only[AS.start,↓Xd,wG,seval];refine X0 (aK s f caps p hl hc hp) (X2 _) ?_;simp(disch:=omega)only[↓Xd,wG,seval];exact Xk (v:=.bool (decide (0≤Io p s))) rfl rfl (X5 _) (by rw[M6])
theorem M8 (p q:V2):(q.sub p).turned=D8 p q:=by
 unfold V2.turned V2.sub D8;simp only[V2.mk.injEq,and_true];grind
theorem MS (p q:V2):vb (D8 p q)≤vb p+vb q+1:=by
 rw[←M8,D5];have:=QX q p;omega
theorem C0 (L:List V2)(i:Nat)(h:Qp L 1000)(hl:L.length<1000000)(hi:i<L.length):Fn Tryz.prog 59 [Q6 L,I i] (vA (D8 (L.getD i v0) (J4 L i))):=by
 have hb1:=h i;have hb2:vb (J4 L i)≤1000:=h ((i+1)%L.length);have hb3:=QX (J4 L i) (L.getD i v0);have c1:=Ak L i hl hi;have c2:=Jd (J4 L i) (L.getD i v0) (by unfold rm;omega) (by unfold rm;omega);have c3:=SN ((J4 L i).sub (L.getD i v0)) (by unfold rm;omega);rw[M8]at c3;have v1:=vF L i;have e:L.getD ((i+1)%L.length) v0=J4 L i:=rfl;rw[e]at c1;have f2:(i<L.length)=True:=eq_true hi;obtain⟨R,hR⟩:∃R,R=vA (D8 (L.getD i v0) (J4 L i)):=⟨_,rfl⟩
 have sR:Settled R:=hR▸Xr _;rw[←hR]at c3;rw[←hR];refine Fn.intro (fn:=Tryz.f59) Tryz.call59 Tryz.func59 rfl mixed 5 [] [] [] (by kernel_rfl) (Nat.le_of_ble_eq_true rfl) (Kd (Xn L) (Xa i)) (Xl ?_);simp(disch:=omega)only[AS.start,X4,↓Xd,wG,seval];refine X0 c1 ⟨by rw[X4];exact Weak.rfl' _,Weak.rfl' _,trivial⟩ ?_;simp(disch:=omega)only[X4,f2,v1,↓Xd,wG,seval];refine X0 c2 (X2 _) ?_;simp(disch:=omega)only[↓Xd,wG,seval];refine X0 c3 (X2 _) ?_;simp(disch:=omega)only[hR,vA,vC,↓Xd,wG,seval];exact Zn rfl J6 rfl rfl rfl sR (hR.trans rfl)
def TD (a b p:V2):Bool:=decide (Xp (a.sub p) (b.sub p)=0∧XY (a.sub p) (b.sub p)≤0)
theorem kp (L:List V2)(i:Nat)(p:V2)(h:Qp L 1000)(hl:L.length<1000000)(hi:i<L.length)(hp:vb p≤10000):Fn Tryz.prog 73 [Q6 L,I i,vA p] (.bool (TD (L.getD i v0) (J4 L i) p)):=by
 have hb1:=h i;have hb2:vb (J4 L i)≤1000:=h ((i+1)%L.length);have hb3:=QX (L.getD i v0) p;have hb4:=QX (J4 L i) p;have c1:=Ak L i hl hi;have e:L.getD ((i+1)%L.length) v0=J4 L i:=rfl;rw[e]at c1;have v1:=vF L i;have f2:(i<L.length)=True:=eq_true hi;have hd:TD (L.getD i v0) (J4 L i) p=decide (Xp ((L.getD i v0).sub p) ((J4 L i).sub p)=0∧XY ((L.getD i v0).sub p) ((J4 L i).sub p)≤0):=rfl;generalize TD (L.getD i v0) (J4 L i) p=R at *;have c2:=Jd (L.getD i v0) p (by unfold rm;omega) (by unfold rm;omega);have c3:=Jd (J4 L i) p (by unfold rm;omega) (by unfold rm;omega);generalize L.getD i v0=a at *;generalize J4 L i=b at *;generalize a.sub p=x at *;generalize b.sub p=y at *;have c4:=Dz x y (by unfold vm;omega) (by unfold vm;omega);have c5:=JG x y (by unfold vm;omega) (by unfold vm;omega);have q1:=Ao x y;have q2:=Ky x y;have c6:=JV (Xp x y) (by unfold rm;omega);have c7:=JV (XY x y) (by unfold rm;omega);have s6:=D2 (Xp x y);have s7:(XY x y).num.sign≤0↔XY x y≤0:=by
  have:=II (XY x y);rw[←Int.not_lt,this,Rat.not_lt]
 refine Fq Tryz.call73 Tryz.func73 9 [] [1,20000005,2,30000005] [] (by simp[Xn,Xa,Xr]) (Xl ?_);simp(disch:=omega)only[AS.start,X4,vA,vC,v1,f2,↓Xd,wG,seval];refine X0 c2 (X2 _) ?_;simp(disch:=omega)only[vA,vC,v1,f2,↓Xd,wG,seval];refine X0 c1 ⟨by rw[X4];exact Weak.rfl' _,Weak.rfl' _,trivial⟩ ?_;simp(disch:=omega)only[vA,vC,v1,f2,↓Xd,wG,seval];refine X0 c3 (X2 _) ?_;simp(disch:=omega)only[vA,vC,v1,f2,↓Xd,wG,seval];refine X0 c4 (X2 _) ?_;simp(disch:=omega)only[qA,qC,↓Xd,wG,seval];refine X0 c6 (X2 _) ?_;simp(disch:=omega)only[↓Xd,wG,seval];refine⟨fun h1=>?_,fun h1=>?_⟩
 ·refine X0 c5 (X2 _) ?_
  simp(disch:=omega)only[h1,qA,qC,↓Xd,wG,seval];refine X0 c7 (X2 _) ?_;simp(disch:=omega)only[h1,↓Xd,wG,seval];exact Xk (v:=.bool (decide ((XY x y).num.sign≤0))) rfl rfl (X5 _) (by rw[hd];exact congrArg AV.bool (decide_eq_decide.2 ⟨fun e=>⟨s6.1 h1,s7.1 e⟩,fun e=>s7.2 e.2⟩))
 ·exact Xk (v:=.bool false) rfl rfl (X5 _) (by rw[hd,decide_eq_false fun e=>h1 (s6.2 e.1)])
theorem mN (u v s t:Rat)(h:u*t-v*s=0):u*s+v*t≤0↔(u*s≤0∧v*t≤0):=by
 constructor
 ·intro hd
  have e:(u*s)*(v*t)=(u*t)*(u*t):=by
   have:u*t=v*s:=by grind
   grind
  have sq:0≤(u*t)*(u*t):=by
   rcases Rat.le_total (a:=0) (b:=u*t)with g |g
   ·exact Rat.mul_nonneg g g
   ·have:=Rat.mul_nonneg (a:=-(u*t)) (b:=-(u*t)) (by grind) (by grind)
    grind
  rw[←e]at sq;generalize u*s=x at *;generalize v*t=y at *;have key:∀ {x y:Rat},x+y≤0→0≤x*y→x≤0:=fun {x y} h1 h2=>by
   refine Rat.not_lt.1 fun hx=>?_
   have hy:y<0:=by grind
   have:=Rat.mul_pos hx (show(0:Rat) < -y by grind);grind
  exact⟨key hd sq,key (x:=y) (y:=x) (by grind) (by grind)⟩
 ·rintro⟨h1,h2⟩;grind
theorem We (a b x:Rat):j9 a b x=true↔(a-x)*(b-x)≤0:=by
 unfold j9;rw[decide_eq_true_eq];constructor
 ·rintro(⟨h1,h2⟩ | ⟨h1,h2⟩)
  ·have:=Rat.mul_nonneg (a:=x-a) (b:=b-x) (by grind) (by grind)
   grind
  ·have:=Rat.mul_nonneg (a:=a-x) (b:=x-b) (by grind) (by grind)
   grind
 ·intro h
  by_cases h1:a≤x
  ·by_cases h2:x≤b
   ·exact .inl ⟨h1,h2⟩
   ·by_cases h3:x≤a
    ·exact .inr ⟨by grind,h3⟩
    ·have:=Rat.mul_pos (a:=x-a) (b:=x-b) (by grind) (by grind)
     grind
  ·by_cases h2:b≤x
   ·exact .inr ⟨h2,by grind⟩
   ·have:=Rat.mul_pos (a:=a-x) (b:=b-x) (by grind) (by grind)
    grind
theorem Vd (a b p:V2):K0 a b p=0↔Xp (a.sub p) (b.sub p)=0:=by
 have e:Xp (b.sub a) (p.sub a)=Xp (a.sub p) (b.sub p):=by unfold Xp V2.sub;grind
 unfold K0;rw[e];exact D2 _
theorem Pi (a b i p:V2):LZ ⟨a,b,i⟩ p=TD a b p:=by
 rw[Bool.eq_iff_iff];unfold LZ TD;rw[Bool.and_eq_true,Bool.and_eq_true,decide_eq_true_eq,decide_eq_true_eq,Vd,We,We];refine and_congr_right fun h=>?_
 exact(mN (a.x-p.x) (a.y-p.y) (b.x-p.x) (b.y-p.y) h).symm
end
end Go.Ab.N
namespace Go.Ab.N
open Go Go.RowKit Go.Proofs
open Go.Shelf
noncomputable section
set_option maxRecDepth 10000
set_option maxHeartbeats 4000000
open Classical
def Nj (a b:Rat):Rat:=if b<a then b else a
def MX (a b:Rat):Rat:=if b<a then a else b
theorem ke {P:Program}{fn:Func}{str hcs:List Nat}{b:Nat}{H:List AO}{s:AS}(hr:fn.results=#[])(hH:s.h=H):RetE (LB P fn str hcs b (.tup []) H) s :=
 ⟨.tup [],by show ZO P fn s=_;simp[ZO,hr,Jg,Bd],rfl,hH⟩
def Oq (v:Nat)(a b:Rat):AO:=.row v 8 (Xg (qC a ++ qC b))
theorem Uy (o0 o1 o2 o3 o4:AO)(v:Nat)(a b:Rat)(ha:qb a≤rm)(hb:qb b≤rm) :
  HCall Tryz.prog 241 [.osl 5 v 4 0 2,I 0,I 2,.fn 41 []] [o0,o1,o2,o3,o4,Oq v a b] (.tup []) [o0,o1,o2,o3,o4,Oq v (Nj a b) (MX a b)]:=by
 have c:=QZ b a hb ha;refine HCall.intro (fn:=Tryz.f241) Tryz.call241 Tryz.func241 rfl mixed 10 [] [4,5008,5013,6,7009,7013] [] (by kernel_rfl) (Nat.le_of_ble_eq_true rfl) (Xl ?_);simp(disch:=omega)only[AS.start,Oq,qC,↓Xd,wG,seval];refine EZ ?_;refine Xl ?_;simp(disch:=omega)only[↓Xd,wG,seval];refine EZ ?_;refine Xl ?_;simp(disch:=omega)only[↓Xd,wG,seval];refine X0 c (X2 _) ?_;simp(disch:=omega)only[Dw,↓Xd,wG,seval];have e1:Nj a b=if b<a then b else a:=rfl
 have e2:MX a b=if b<a then a else b:=rfl
 refine⟨fun h=>?_,fun h=>?_⟩
 ·rw[if_pos h]at e1 e2
  rw[e1,e2];refine DF ?_;refine Xl ?_;simp(disch:=omega)only[↓Xd,wG,seval];refine DF ?_;refine Xl ?_;simp(disch:=omega)only[↓Xd,wG,seval];exact ke rfl rfl
 ·rw[if_neg h]at e1 e2
  rw[e1,e2];refine DF ?_;refine Xl ?_;simp(disch:=omega)only[↓Xd,wG,seval];exact ke rfl rfl
def xY:Go.Shelf.Ren:=⟨fun k=>if k=125 then 227 else if k=128 then 249 else 250,fun t=>if t=46 then 214 else if t=51 then 230 else if t=53 then 185 else t,fun x=>x⟩
theorem wt:Lays.n125 Tryz.prog xY where
 mixed:=mixed
 f125:=Tryz.func227.trans (congrArg some rfl)
 f128:=Tryz.func249.trans (congrArg some rfl)
 f129:=Tryz.func250.trans (congrArg some rfl)
 t3:=Tryz.underlying3
 a3:=Tryz.isAgg3
 z3:=Tryz.sizeOf3
 v3:=Tryz.zeroValue3
 t4:=Tryz.underlying4
 a4:=Tryz.isAgg4
 z4:=Tryz.sizeOf4
 v4:=Tryz.zeroValue4
 t5:=Tryz.underlying5
 a5:=Tryz.isAgg5
 z5:=Tryz.sizeOf5
 v5:=Tryz.zeroValue5
 t9:=Tryz.underlying9
 a9:=Tryz.isAgg9
 z9:=Tryz.sizeOf9
 v9:=Tryz.zeroValue9
 t46:=Tryz.underlying214
 a46:=Tryz.isAgg214
 z46:=Tryz.sizeOf214
 v46:=Tryz.zeroValue214
 t51:=Tryz.underlying230
 a51:=Tryz.isAgg230
 z51:=Tryz.sizeOf230
 v51:=Tryz.zeroValue230
 t53:=Tryz.underlying185
 a53:=Tryz.isAgg185
 z53:=Tryz.sizeOf185
 v53:=Tryz.zeroValue185
theorem tM (n:Nat)(h:n<1000000):Fn Tryz.prog 227 [.int .u64 n] (I (Lib.bitLen n)):=by
 refine⟨⟨Tryz.call227,?_⟩,fun a ha=>by rw[List.mem_singleton.1 ha];exact J0 _ _⟩;rintro w S vs hS ⟨hv1,hv2⟩;have hx:=hv2 0 (by simp);have h3:vs.size=1:=hv1;have e1:vs=#[vs.getD 0 undef]:=by
  apply Array.ext
  ·simp[h3]
  ·intro j g1 g2
   match j,g1 with
   |0,_=>simp[Array.getD,h3]
   |j+1,g=>omega
 rw[e1];generalize vs.getD 0 undef=x at *;replace hx:Rep (.bare w S) x (.int .u64 n):=hx;cases hx;have key:=Any.bits_Len wt (n:Int) w (by omega) (by omega);refine key.mono ?_;rintro e w' ⟨rfl,rfl⟩;rw[Int.toNat_natCast];exact⟨_,S,rfl,.int _ _,hS,Ext.refl _⟩
theorem uk {P:Program}{fn:Func}{str hcs:List Nat}{b:Nat}{H:List AO}{s:AS}(hr:fn.results=#[])(hH:s.h=H):RetOk (LB P fn str hcs b (.tup []) H) s :=
 ⟨.tup [],by show ZO P fn s=_;simp[ZO,hr,Jg,Bd],rfl,hH⟩
theorem uF {o0 o1 o2 o3 o4 o5:AO}(h:∀ o∈[o0,o1,o2,o3,o4],o≠.unborn)(h5:o5≠.unborn)(id:Nat):[o0,o1,o2,o3,o4,o5][id]?≠some .unborn:=by
 intro hh;have:=List.mem_of_getElem? hh;rw[show [o0,o1,o2,o3,o4,o5]=[o0,o1,o2,o3,o4] ++ [o5]from rfl,List.mem_append,List.mem_singleton]at this;rcases this with g |g
 ·exact h _ g rfl
 ·exact h5 g.symm
theorem pg (o0 o1 o2 o3 o4:AO)(hu:∀ o∈[o0,o1,o2,o3,o4],o≠.unborn)(v lim:Nat)(a b:Rat)(ha:qb a≤rm)(hb:qb b≤rm) :
  HCall Tryz.prog 226 [.osl 5 v 4 0 2,I 0,I 2,I lim,.fn 41 []] [o0,o1,o2,o3,o4,Oq v a b] (.tup []) [o0,o1,o2,o3,o4,Oq v (Nj a b) (MX a b)]:=by
 have c:=Uy o0 o1 o2 o3 o4 v a b ha hb;refine HCall.intro (fn:=Tryz.f226) Tryz.call226 Tryz.func226 rfl mixed 21 [] [] [4] (by kernel_rfl) (Nat.le_of_ble_eq_true rfl) (Xl ?_);simp(disch:=omega)only[AS.start,↓Xd,wG,seval];refine EZ ?_;refine Xl ?_;simp(disch:=omega)only[↓Xd,wG,seval];refine XD rfl c (QB (id:=5) (o:=Oq v a b) rfl (by simp[Oq]) (by simp[Oq])) (uF hu (by simp[Oq])) (X2 _) ?_;simp(disch:=omega)only[↓Xd,wG,seval];exact uk rfl rfl
theorem kM (o0 o1 o2 o3 o4:AO)(hu:∀ o∈[o0,o1,o2,o3,o4],o≠.unborn)(v:Nat)(a b:Rat)(ha:qb a≤rm)(hb:qb b≤rm) :
  HCall Tryz.prog 194 [.osl 5 v 4 0 2,.fn 41 []] [o0,o1,o2,o3,o4,Oq v a b] (.tup []) [o0,o1,o2,o3,o4,Oq v (Nj a b) (MX a b)]:=by
 have c:=pg o0 o1 o2 o3 o4 hu v (Lib.bitLen 2) a b ha hb;have cl:=tM 2 (by omega);generalize Lib.bitLen 2=lim at *;refine HCall.intro (fn:=Tryz.f194) Tryz.call194 Tryz.func194 rfl mixed 5 [] [] [1] (by kernel_rfl) (Nat.le_of_ble_eq_true rfl) (Xl ?_);have hw:IntKind.u64.wrap 2=2:=by decide
 simp(disch:=omega)only[AS.start,hw,↓Xd,wG,seval];refine X0 cl (X2 _) ?_;simp(disch:=omega)only[↓Xd,wG,seval];refine XD rfl c (QB (id:=5) (o:=Oq v a b) rfl (by simp[Oq]) (by simp[Oq])) (uF hu (by simp[Oq])) (X2 _) ?_;simp(disch:=omega)only[↓Xd,wG,seval];exact ke rfl rfl
end
end Go.Ab.N
namespace Go.Ab.N
open Go Go.RowKit Go.Proofs
noncomputable section
set_option maxRecDepth 10000
set_option maxHeartbeats 4000000
open Classical
theorem vw {z:Int}(h:-1000000000<z∧z<1000000000):bl z≤1:=by
 unfold bl;by_cases h0:z.natAbs=0
 ·rw[h0,Qi];decide
 ·rw[G8 h0 (by omega)];exact Nat.le_refl 1
theorem Gx (p q:Int)(hp:-1000000000<p∧p<1000000000)(hq:-1000000000<q∧q<1000000000):qb (Rat.divInt p q)≤1:=KM p q 1 (Nat.le_refl _) (vw hp) (vw hq)
theorem wH (p:Int)(hp:-1000000000<p∧p<1000000000):qb (p:Rat)≤1:=jS p 1 (Nat.le_refl _) (vw hp)
theorem GX (x y:Int)(hx:-1000000000<x∧x<1000000000)(hy:-1000000000<y∧y<1000000000):vb (pI x y)≤1:=Nat.max_le.2 ⟨wH x hx,wH y hy⟩
def Bh (l:List Int)(a:Int):V2 :=
 ⟨Rat.divInt (Ab.atF l a (16*(1+Ab.atF l (a+2) 2)+1)-8*(1+Ab.atF l (a+2) 2)) (1+Ab.atF l (a+2) 2),Rat.divInt (Ab.atF l (a+1) (16*(1+Ab.atF l (a+2) 2)+1)-8*(1+Ab.atF l (a+2) 2)) (1+Ab.atF l (a+2) 2)⟩
theorem IK (l:List Int)(a:Int):vb (Bh l a)≤1:=by
 unfold Bh;have b1:=XI l (a+2) 2 (by omega);generalize Ab.atF l (a+2) 2=x at *;have b2:=XI l a (16*(1+x)+1) (by omega);have b3:=XI l (a+1) (16*(1+x)+1) (by omega);exact Nat.max_le.2 ⟨Gx _ _ (by omega) (by omega),Gx _ _ (by omega) (by omega)⟩
theorem WV (l:List Int)(a:Int)(hl:Fg l)(ha:0≤a∧a<1000):Fn Tryz.prog 60 [X8 l,I a] (vA (Bh l a)):=by
 have b1:=XI l (a+2) 2 (by omega);have c1:=Jp l (a+2) 2 hl (by omega);obtain⟨R,hR⟩:∃R,R=vA (Bh l a):=⟨_,rfl⟩
 have sR:Settled R:=hR▸Xr _;rw[←hR];unfold Bh at hR;generalize Ab.atF l (a+2) 2=x at *;obtain⟨q,hq⟩:∃q,q=1+x:=⟨_,rfl⟩
 rw[←hq]at hR;have c2:=Jp l a (16*q+1) hl (by omega);have c3:=Jp l (a+1) (16*q+1) hl (by omega);have b2:=XI l a (16*q+1) (by omega);have b3:=XI l (a+1) (16*q+1) (by omega);generalize Ab.atF l a (16*q+1)=y at *;generalize Ab.atF l (a+1) (16*q+1)=z at *;have c4:=XS (y-8*q) q ⟨by omega,by omega⟩ ⟨by omega,by omega⟩;have c5:=XS (z-8*q) q ⟨by omega,by omega⟩ ⟨by omega,by omega⟩;refine Fn.intro (fn:=Tryz.f60) Tryz.call60 Tryz.func60 rfl mixed 6 [] [] [] (by kernel_rfl) (Nat.le_of_ble_eq_true rfl) (Kd (Xc l) (Xa a)) (Xl ?_);simp(disch:=omega)only[AS.start,←hq,↓Xd,wG,seval];refine X0 c1 (X2 _) ?_;simp(disch:=omega)only[←hq,↓Xd,wG,seval];refine X0 c2 (X2 _) ?_;simp(disch:=omega)only[↓Xd,wG,seval];refine X0 c4 (X2 _) ?_;simp(disch:=omega)only[↓Xd,wG,seval];refine X0 c3 (X2 _) ?_;simp(disch:=omega)only[↓Xd,wG,seval];refine X0 c5 (X2 _) ?_;simp(disch:=omega)only[qA,qC,↓Xd,wG,seval];exact Zn rfl J6 rfl rfl rfl sR (hR.trans rfl)
def spinL:List (Int×Int×Int):=[(1,0,1),(0,1,1),(-1,0,1),(0,-1,1),(3,4,5),(-4,3,5),(5,-12,13),(-3,-4,5)]
def Cs (n:Int):V2 :=
 let x:=spinL.getD (Xo n 8).toNat (1,0,1)
 ⟨Rat.divInt x.1 x.2.2,Rat.divInt x.2.1 x.2.2⟩
theorem kN:spinL.all (fun x=>decide (qb (Rat.divInt x.1 x.2.2)≤1) && decide (qb (Rat.divInt x.2.1 x.2.2)≤1) && decide (Rat.divInt x.1 x.2.2*Rat.divInt x.1 x.2.2+Rat.divInt x.2.1 x.2.2*Rat.divInt x.2.1 x.2.2=1))=true:=by decide +kernel
theorem WT (n:Int):vb (Cs n)≤1∧XY (Cs n) (Cs n)=1:=by
 have b:=XH n 8 (by omega);unfold Cs;generalize Xo n 8=k at *;have h:=List.all_eq_true.1 kN (spinL.getD k.toNat (1,0,1)) (QC _ (show k.toNat<8 by omega));simp only[Bool.and_eq_true,decide_eq_true_eq]at h;exact⟨Nat.max_le.2 ⟨h.1.1,h.1.2⟩,h.2⟩
theorem pQ (n:Int)(hn:KT n):Fn Tryz.prog 140 [I n] (vA (Cs n)):=by
 have c1:=QP n 8 hn (by omega);have b:=XH n 8 (by omega);obtain⟨R,hR⟩:∃R,R=vA (Cs n):=⟨_,rfl⟩
 have sR:Settled R:=hR▸Xr _;rw[←hR];unfold Cs at hR;generalize Xo n 8=k at *;refine Fn.intro (fn:=Tryz.f140) Tryz.call140 Tryz.func140 rfl mixed 5 [] [] [] (by kernel_rfl) (Nat.le_of_ble_eq_true rfl) (fun a ha=>List.mem_singleton.1 ha▸Xa n) (Xl ?_);simp(disch:=omega)only[AS.start,↓Xd,wG,seval];refine X0 c1 (X2 _) ?_;rcases(show k=0∨k=1∨k=2∨k=3∨k=4∨k=5∨k=6∨k=7 by omega)with rfl |rfl |rfl |rfl |rfl |rfl |rfl |rfl
 all_goals
  simp(disch:=omega)only[Int.reduceToNat,Int.toNat_zero,Int.reduceLT,Int.reduceLE,Int.reduceEq,↓Xd,wG,seval]
 ·refine X1 (XS 1 1 ⟨by omega,by omega⟩ ⟨by omega,by omega⟩) rfl ?_
  simp(disch:=omega)only[Int.reduceToNat,Int.toNat_zero,Int.reduceLT,Int.reduceLE,Int.reduceEq,↓Xd,wG,seval];refine X1 (XS 0 1 ⟨by omega,by omega⟩ ⟨by omega,by omega⟩) rfl ?_;simp(disch:=omega)only[qA,qC,↓Xd,wG,seval];exact Zn rfl Gg rfl rfl rfl sR (hR.trans rfl)
 ·refine X1 (XS 0 1 ⟨by omega,by omega⟩ ⟨by omega,by omega⟩) rfl ?_
  simp(disch:=omega)only[Int.reduceToNat,Int.toNat_zero,Int.reduceLT,Int.reduceLE,Int.reduceEq,↓Xd,wG,seval];refine X1 (XS 1 1 ⟨by omega,by omega⟩ ⟨by omega,by omega⟩) rfl ?_;simp(disch:=omega)only[qA,qC,↓Xd,wG,seval];exact Zn rfl Gg rfl rfl rfl sR (hR.trans rfl)
 ·refine X1 (XS (-1) 1 ⟨by omega,by omega⟩ ⟨by omega,by omega⟩) rfl ?_
  simp(disch:=omega)only[Int.reduceToNat,Int.toNat_zero,Int.reduceLT,Int.reduceLE,Int.reduceEq,↓Xd,wG,seval];refine X1 (XS 0 1 ⟨by omega,by omega⟩ ⟨by omega,by omega⟩) rfl ?_;simp(disch:=omega)only[qA,qC,↓Xd,wG,seval];exact Zn rfl Gg rfl rfl rfl sR (hR.trans rfl)
 ·refine X1 (XS 0 1 ⟨by omega,by omega⟩ ⟨by omega,by omega⟩) rfl ?_
  simp(disch:=omega)only[Int.reduceToNat,Int.toNat_zero,Int.reduceLT,Int.reduceLE,Int.reduceEq,↓Xd,wG,seval];refine X1 (XS (-1) 1 ⟨by omega,by omega⟩ ⟨by omega,by omega⟩) rfl ?_;simp(disch:=omega)only[qA,qC,↓Xd,wG,seval];exact Zn rfl Gg rfl rfl rfl sR (hR.trans rfl)
 ·refine X1 (XS 3 5 ⟨by omega,by omega⟩ ⟨by omega,by omega⟩) rfl ?_
  simp(disch:=omega)only[Int.reduceToNat,Int.toNat_zero,Int.reduceLT,Int.reduceLE,Int.reduceEq,↓Xd,wG,seval];refine X1 (XS 4 5 ⟨by omega,by omega⟩ ⟨by omega,by omega⟩) rfl ?_;simp(disch:=omega)only[qA,qC,↓Xd,wG,seval];exact Zn rfl Gg rfl rfl rfl sR (hR.trans rfl)
 ·refine X1 (XS (-4) 5 ⟨by omega,by omega⟩ ⟨by omega,by omega⟩) rfl ?_
  simp(disch:=omega)only[Int.reduceToNat,Int.toNat_zero,Int.reduceLT,Int.reduceLE,Int.reduceEq,↓Xd,wG,seval];refine X1 (XS 3 5 ⟨by omega,by omega⟩ ⟨by omega,by omega⟩) rfl ?_;simp(disch:=omega)only[qA,qC,↓Xd,wG,seval];exact Zn rfl Gg rfl rfl rfl sR (hR.trans rfl)
 ·refine X1 (XS 5 13 ⟨by omega,by omega⟩ ⟨by omega,by omega⟩) rfl ?_
  simp(disch:=omega)only[Int.reduceToNat,Int.toNat_zero,Int.reduceLT,Int.reduceLE,Int.reduceEq,↓Xd,wG,seval];refine X1 (XS (-12) 13 ⟨by omega,by omega⟩ ⟨by omega,by omega⟩) rfl ?_;simp(disch:=omega)only[qA,qC,↓Xd,wG,seval];exact Zn rfl Gg rfl rfl rfl sR (hR.trans rfl)
 ·refine X1 (XS (-3) 5 ⟨by omega,by omega⟩ ⟨by omega,by omega⟩) rfl ?_
  simp(disch:=omega)only[Int.reduceToNat,Int.toNat_zero,Int.reduceLT,Int.reduceLE,Int.reduceEq,↓Xd,wG,seval];refine X1 (XS (-4) 5 ⟨by omega,by omega⟩ ⟨by omega,by omega⟩) rfl ?_;simp(disch:=omega)only[qA,qC,↓Xd,wG,seval];exact Zn rfl Gg rfl rfl rfl sR (hR.trans rfl)
def wayL:List (Int×Int):=[(4,0),(4,2),(3,3),(2,4),(0,4),(-2,4),(-3,3),(-4,2),(-4,0),(-4,-2),(-3,-3),(-2,-4),(0,-4),(2,-4),(3,-3),(4,-2)]
def lF:List AV:=wayL.flatMap fun x=>[I x.1,I x.2]
theorem qs {i:Nat}(h:i<16):Xg lF (i*2)=I (wayL.getD i (0,0)).1∧Xg lF (i*2+1)=I (wayL.getD i (0,0)).2:=by
 match i,h with
 |0,_ |1,_ |2,_ |3,_ |4,_ |5,_ |6,_ |7,_ |8,_ |9,_ |10,_ |11,_ |12,_ |13,_ |14,_ |15,_=>exact⟨rfl,rfl⟩
 |i+16,h=>omega
theorem lH (i:Nat):(-4≤(wayL.getD i (0,0)).1∧(wayL.getD i (0,0)).1≤4)∧-4≤(wayL.getD i (0,0)).2∧(wayL.getD i (0,0)).2≤4:=by
 match i with
 |0 |1 |2 |3 |4 |5 |6 |7 |8 |9 |10 |11 |12 |13 |14 |15=>decide
 |i+16=>exact⟨⟨by show(-4:Int)≤0;omega,by show(0:Int)≤4;omega⟩,by show(-4:Int)≤0;omega,by show(0:Int)≤4;omega⟩
def TB (l:List Int):V2:=pI (Ab.atF l 16 9-4) (Ab.atF l 17 9-4)
def Lu (l:List Int)(i:Nat):V2:=⟨Rat.divInt ((wayL.getD i (0,0)).1*Ab.atF l i 6) 2,Rat.divInt ((wayL.getD i (0,0)).2*Ab.atF l i 6) 2⟩
def QR (l:List Int):Nat→List V2
 |0=>[]
 |i+1=>if(QR l i).length<12∧0<Ab.atF l i 6∧Ab.atF l i 6<4 then QR l i ++ [(TB l).add (Lu l i)]else QR l i
theorem Oc (l:List Int):∀i,(QR l i).length≤12
 |0=>by simp[QR]
 |i+1=>by
  have:=Oc l i;unfold QR
  split
  ·rw[List.length_append];simp only[List.length_cons,List.length_nil];omega
  ·exact this
theorem gh (l:List Int):vb (TB l)≤1:=by
 have b1:=XI l 16 9 (by omega);have b2:=XI l 17 9 (by omega);exact GX _ _ (by omega) (by omega)
theorem Wi {w k:Int}(hw:-4≤w∧w≤4)(hk:0≤k∧k<6):-20≤w*k∧w*k≤20:=by
 rcases(show k=0∨k=1∨k=2∨k=3∨k=4∨k=5 by omega)with rfl |rfl |rfl |rfl |rfl |rfl <;> omega
theorem Ro (l:List Int)(i:Nat):vb (Lu l i)≤1:=by
 have b:=XI l i 6 (by omega);obtain⟨h1,h2⟩:=lH i;have m1:=Wi h1 b;have m2:=Wi h2 b;exact Nat.max_le.2 ⟨Gx _ _ (by omega) (by omega),Gx _ _ (by omega) (by omega)⟩
theorem Gv (l:List Int):∀i,∀x∈QR l i,vb x≤3
 |0,x,h=>by simp[QR]at h
 |i+1,x,h=>by
  unfold QR at h
  split at h
  ·rcases List.mem_append.1 h with h |h
   ·exact Gv l i x h
   ·rw[List.mem_singleton.1 h]
    have:=AU (TB l) (Lu l i);have:=gh l;have:=Ro l i;omega
  ·exact Gv l i x h
theorem AN {L:List V2}{k:Nat}(h:∀ x∈L,vb x≤k)(h1:1≤k):Qp L k:=fun i=>by
 by_cases hi:i<L.length
 ·exact h _ (QC _ hi)
 ·rw[List.getD_eq_getElem?_getD,List.getElem?_eq_none (by omega)]
  exact Nat.le_trans (show vb v0≤1 by decide +kernel) h1
theorem Mi (l:List Int){i:Nat}(h:12≤(QR l i).length):∀j,QR l (i+j)=QR l i
 |0=>rfl
 |j+1=>by
  have ih:=Mi l h j;show(if(QR l (i+j)).length<12∧0<Ab.atF l ((i+j:Nat):Int) 6∧Ab.atF l ((i+j:Nat):Int) 6<4 then QR l (i+j) ++ [(TB l).add (Lu l (i+j))]else QR l (i+j))=_;rw[ih,if_neg (by omega)]
theorem cP {H:List AO}{id ver n:Nat}(L:List V2)(ho:H[id]?=some (.row ver (L.length*8) (XA vC 8 v0 L))) (hn:n=L.length):Zv H (.osl id ver 8 0 n) (Q6 L):=by
 subst hn;rw[X4];refine ZR (.inl ho) (by omega) (fun h=>by rw[h]) fun j hj=>?_
 rw[Nat.zero_add];exact(Xe (by simp[vC,Xc,X5]) _).sees _
def Ob (l:List Int):List V2 :=
 if Zm (QR l 16)then QR l 16 else [TB l,(TB l).add (pI 4 0),(TB l).add (pI (1+Ab.atF l 0 2) 3),(TB l).add (pI 1 1)]
theorem UQ (l:List Int)(hl:Fg l):Fn Tryz.prog 54 [X8 l] (Q6 (Ob l)):=by
 have k0:=gh l;have b1:=XI l 16 9 (by omega);have b2:=XI l 17 9 (by omega);have c1:=Jp l 16 9 hl (by omega);have c2:=Jp l 17 9 hl (by omega);have c3:=Kj (Ab.atF l 16 9-4) (Ab.atF l 17 9-4) ⟨by omega,by omega⟩ ⟨by omega,by omega⟩;rw[show(⟨((Ab.atF l 16 9-4:Int):Rat),((Ab.atF l 17 9-4:Int):Rat)⟩:V2)=TB l from rfl]at c3;have bw:∀q,Jo q (.sl 16 32 (Xg lF) false)=True:=fun q=>eq_true (X7 (Qk fun j _=>Xe (by simp[lF,wayL,Xa]) j))
 have bi:∀q,Jo q (X8 l)=True:=fun q=>eq_true (X7 (Xc l))
 have bb:∀q,Qo q (.con 0 8 (Xg (vC (TB l))))=True:=fun q=>eq_true fun j _=>X7 (Xe (by simp[vC,Xc,X5]) j)
 have bp:∀q,Jo q (.ptr 8 (Xg (vC (TB l))) 0)=True:=fun q=>eq_true (X7 (XN fun j _=>Xe (by simp[vC,Xc,X5]) j))
 have br:∀q i n L,Qo q (.row i n (XA vC 8 v0 L))=True:=fun q i n L=>eq_true fun j _=>X7 (Xe (by simp[vC,Xc,X5]) _)
 obtain⟨R,hR⟩:∃R,R=Ob l:=⟨_,rfl⟩
 have sR:=Xn R;rw[←hR];unfold Ob at hR;generalize hB:TB l=B at *;refine Fn.intro (fn:=Tryz.f54) Tryz.call54 Tryz.func54 rfl mixed 8 [] [] [] (by kernel_rfl) (Nat.le_of_ble_eq_true rfl) (fun a ha=>List.mem_singleton.1 ha▸Xc l) (Xl ?_);simp(disch:=omega)only[AS.start,Xu,↓Xd,wG,seval];refine X0 c1 ⟨by rw[Xu];exact Weak.rfl' _,Weak.rfl' _,Weak.rfl' _,trivial⟩ ?_;simp(disch:=omega)only[↓Xd,wG,seval];refine X0 c2 ⟨by rw[Xu];exact Weak.rfl' _,Weak.rfl' _,Weak.rfl' _,trivial⟩ ?_;simp(disch:=omega)only[↓Xd,wG,seval];refine X0 c3 (X2 _) ?_;simp(disch:=omega)only[vA,vC,qC,↓Xd,wG,seval];refine Xj (fun i:Nat=>⟨8,[],[X8 l,.any,.any,.sl 16 32 (Xg lF) true,.ref 0 0 0,.osl 1 (QR l i).length 8 0 (QR l i).length,I i,.any],[],[.row 0 8 (Xg (vC B)),.row (QR l i).length ((QR l i).length*8) (XA vC 8 v0 (QR l i))]⟩) (fun i=>i≤16) (fun i=>16-i) 0 (by omega)
  (Sub.trans (KO 5 8 (XA vC 8 v0 []) rfl) (Xi rfl ⟨.inr (Xu l).symm,.inl rfl,.inl rfl,.inr rfl,.inr rfl,.inr rfl,.inr rfl,.inl rfl,trivial⟩ trivial rfl)) ?_
 intro i hi next
 have w1:=wj i (by omega);have hlen:=Oc l i;have fin:∀ (s:AS),s.get 5=.osl 1 (QR l i).length 8 0 (QR l i).length→True:=fun _ _=>trivial
 by_cases hgo:i<16∧(QR l i).length<12
 ·obtain⟨hi2,hlt⟩:=hgo
  have c4:=Jp l i 6 hl (by omega);have bk:=XI l i 6 (by omega);have hs:=show QR l (i+1)=if(QR l i).length<12∧0<Ab.atF l i 6∧Ab.atF l i 6<4 then QR l i ++ [(TB l).add (Lu l i)]else QR l i from rfl
  have hk1:=Ro l i;have hco:=show Lu l i=⟨Rat.divInt ((wayL.getD i (0,0)).1*Ab.atF l i 6) 2,Rat.divInt ((wayL.getD i (0,0)).2*Ab.atF l i 6) 2⟩from rfl;have nx:=next (i+1)
  rw[hB]at hs;generalize Lu l i=q at *;generalize Ab.atF l i 6=k at *;obtain⟨hx,hy⟩:=qs hi2;obtain⟨bx,by'⟩:=lH i;generalize wayL.getD i (0,0)=w at *;have m1:=Wi bx bk;have m2:=Wi by' bk;generalize hP:QR l i=P at *;have w2:IntKind.i64.wrap (w.1*k)=w.1*k:=by rw[IntKind.wrap_i64];omega
  have w3:IntKind.i64.wrap (w.2*k)=w.2*k:=by rw[IntKind.wrap_i64];omega
  have c5:=XS (w.1*k) 2 ⟨by omega,by omega⟩ ⟨by omega,by omega⟩;have c6:=XS (w.2*k) 2 ⟨by omega,by omega⟩ ⟨by omega,by omega⟩;have c7:=K9 B q (by unfold vm;omega) (by unfold vm;omega);refine Xl ?_;simp(disch:=omega)only[↓Xd,wG,seval];refine X0 c4 (X2 _) ?_;by_cases hk:0<k∧k<4
  ·rw[if_pos ⟨hlt,hk⟩]at hs
   have hap:=Bz vC 8 v0 P (B.add q) (by omega);rw[←hs]at hap;have hl2:(QR l (i+1)).length=P.length+1:=by rw[hs];simp
   rw[hl2]at nx;simp(disch:=omega)only[hk.1,hk.2,hx,hy,w2,w3,vC,qC,↓Xd,wG,seval];refine X0 c5 (X2 _) ?_;simp(disch:=omega)only[hx,hy,w2,w3,↓Xd,wG,seval];refine X0 c6 (X2 _) ?_;simp(disch:=omega)only[↓Xd,wG,seval];refine X0 c7 ⟨Weak.rfl' _,by rw[hco];exact Weak.rfl' _,trivial⟩ ?_;simp(disch:=omega)only[vA,vC,qC,↓Xd,wG,seval];exact⟨fun j hj=>li (B.add q) j hj,nx _ (by omega) (by omega) (Aw (by simp[Xm,I,Xu]) (by rw[←hap];rfl))⟩
  ·rw[if_neg (fun h=>hk h.2)]at hs
   rw[hs]at nx;by_cases hk0:0<k
   ·simp(disch:=omega)only[hk0,show ¬k<4 by omega,↓Xd,wG,seval]
    exact nx _ (by omega) (by omega) (Aw (by simp[Xm,I,Xu]) rfl)
   ·simp(disch:=omega)only[hk0,↓Xd,wG,seval]
    exact nx _ (by omega) (by omega) (Aw (by simp[Xm,I,Xu]) rfl)
 ·have hp:QR l 16=QR l i:=by
   by_cases h16:i=16
   ·rw[h16]
   ·have:=Mi l (i:=i) (by omega) (16-i)
    rwa[show i+(16-i)=16 by omega]at this
  rw[hp]at hR;have cv:=Bu (QR l i) (AN (fun x hx=>Nat.le_trans (Gv l i x hx) (by omega)) (by omega)) (by omega);have b0:=XI l 0 2 (by omega);have c8:=Kj 4 0 ⟨by omega,by omega⟩ ⟨by omega,by omega⟩;have c9:=Jp l 0 2 hl (by omega);have c10:=Kj (1+Ab.atF l 0 2) 3 ⟨by omega,by omega⟩ ⟨by omega,by omega⟩;have c11:=Kj 1 1 ⟨by omega,by omega⟩ ⟨by omega,by omega⟩;have v1:=GX 4 0 (by omega) (by omega);have v2:=GX (1+Ab.atF l 0 2) 3 (by omega) (by omega);have v3:=GX 1 1 (by omega) (by omega);change Fn _ _ _ (vA (pI 4 0))at c8;change Fn _ _ _ (vA (pI (1+Ab.atF l 0 2) 3))at c10;change Fn _ _ _ (vA (pI 1 1))at c11;have c12:=K9 B (pI 4 0) (by unfold vm;omega) (by unfold vm;omega);have c13:=K9 B (pI (1+Ab.atF l 0 2) 3) (by unfold vm;omega) (by unfold vm;omega);have c14:=K9 B (pI 1 1) (by unfold vm;omega) (by unfold vm;omega);have sv:∀H:List AO,H[1]?=some (.row (QR l i).length ((QR l i).length*8) (XA vC 8 v0 (QR l i)))→Zv H (.osl 1 (QR l i).length 8 0 (QR l i).length) (Q6 (QR l i)):=fun H h=>cP _ h rfl
  generalize hP:QR l i=P at *;generalize Ab.atF l 0 2=k at *;generalize pI 4 0=a1 at *;generalize pI (1+k) 3=a2 at *;generalize pI 1 1=a3 at *;have h12:i<16→¬P.length<12:=fun h h2=>hgo ⟨h,h2⟩
  refine Xl ?_;by_cases h16:i<16
  all_goals
   simp(disch:=omega)only[h16,h12,↓Xd,wG,seval];refine NA cv rfl ⟨sv _ rfl,trivial⟩ (aw _) ?_;simp(disch:=omega)only[↓Xd,wG,seval];refine⟨fun h=>ZP rfl (by rw[hR,if_pos h];exact sv _ rfl),fun h=>?_⟩;rw[if_neg h]at hR;refine X0 c8 (X2 _) ?_;simp(disch:=omega)only[vA,vC,qC,↓Xd,wG,seval];refine X0 c12 (X2 _) ?_;simp(disch:=omega)only[vA,vC,qC,↓Xd,wG,seval];refine X0 c9 ⟨by rw[Xu];exact Weak.rfl' _,Weak.rfl' _,Weak.rfl' _,trivial⟩ ?_;simp(disch:=omega)only[↓Xd,wG,seval];refine X0 c10 (X2 _) ?_;simp(disch:=omega)only[vA,vC,qC,↓Xd,wG,seval];refine X0 c13 (X2 _) ?_;simp(disch:=omega)only[vA,vC,qC,↓Xd,wG,seval];refine X0 c11 (X2 _) ?_;simp(disch:=omega)only[vA,vC,qC,↓Xd,wG,seval];refine X0 c14 (X2 _) ?_;simp(disch:=omega)only[vA,vC,qC,↓Xd,wG,seval];exact ZP rfl (Xs (Xn _) (by rw[hR];exact JE vC 8 v0 (fun _=>rfl) [B,B.add a1,B.add a2,B.add a3] _ _ _ _ rfl rfl rfl))
def Cw (a b:V2):V2:=(a.add b).scale (Rat.divInt 1 2)
theorem jp (a b:V2):vb (Cw a b)≤vb a+vb b+2:=by
 have h1:=AU a b;have h2:=HG (a.add b) (Rat.divInt 1 2);have h3:=Gx 1 2 (by omega) (by omega);unfold Cw;omega
theorem CU (a b:V2)(ha:vb a≤100000)(hb:vb b≤100000):Fn Tryz.prog 57 [vA a,vA b] (vA (Cw a b)):=by
 have h1:=AU a b;have h3:=Gx 1 2 (by omega) (by omega);have c1:=K9 a b (by unfold vm;omega) (by unfold vm;omega);have c2:=XS 1 2 ⟨by omega,by omega⟩ ⟨by omega,by omega⟩;have c3:=DA (a.add b) (Rat.divInt 1 2) (by unfold vm;omega) (by unfold vm;omega);rw[show(a.add b).scale (Rat.divInt 1 2)=Cw a b from rfl]at c3;obtain⟨R,hR⟩:∃R,R=vA (Cw a b):=⟨_,rfl⟩
 have sR:Settled R:=hR▸Xr _;rw[←hR]at c3;rw[←hR];refine Fn.intro (fn:=Tryz.f57) Tryz.call57 Tryz.func57 rfl mixed 5 [] [] [] (by kernel_rfl) (Nat.le_of_ble_eq_true rfl) (Kd (Xr a) (Xr b)) (Xl ?_);simp(disch:=omega)only[AS.start,vA,vC,↓Xd,wG,seval];refine X0 c1 (X2 _) ?_;simp(disch:=omega)only[vA,vC,↓Xd,wG,seval];refine X0 c2 (X2 _) ?_;simp(disch:=omega)only[qA,qC,↓Xd,wG,seval];refine X0 c3 (X2 _) ?_;simp(disch:=omega)only[hR,vA,vC,↓Xd,wG,seval];exact Zn rfl J6 rfl rfl rfl sR (hR.trans rfl)
theorem jN (l:List Int)(a:Int)(hl:Fg l)(ha:0≤a∧a<900):Fn Tryz.prog 56 [X8 l,I a] (pi (Cs (Ab.atF l a 64)) (Bh l (a+1))):=by
 have b1:=XI l a 64 (by omega);have c1:=Jp l a 64 hl (by omega);have c2:=pQ (Ab.atF l a 64) ⟨by omega,by omega⟩;have c3:=WV l (a+1) hl (by omega);obtain⟨R,hR⟩:∃R,R=pi (Cs (Ab.atF l a 64)) (Bh l (a+1)):=⟨_,rfl⟩
 have sR:Settled R:=hR▸Ia _ _;rw[←hR];generalize Cs (Ab.atF l a 64)=t at *;generalize Bh l (a+1)=c at *;generalize Ab.atF l a 64=k at *;refine Fn.intro (fn:=Tryz.f56) Tryz.call56 Tryz.func56 rfl mixed 5 [] [] [] (by kernel_rfl) (Nat.le_of_ble_eq_true rfl) (Kd (Xc l) (Xa a)) (Xl ?_);simp(disch:=omega)only[AS.start,↓Xd,wG,seval];refine X0 c1 (X2 _) ?_;simp(disch:=omega)only[↓Xd,wG,seval];refine X0 c2 (X2 _) ?_;simp(disch:=omega)only[vA,vC,↓Xd,wG,seval];refine X0 c3 (X2 _) ?_;simp(disch:=omega)only[vA,vC,↓Xd,wG,seval];exact ZC rfl jf rfl rfl rfl (Xs sR (by rw[hR];exact Weak.rfl' _))
def SI (l:List Int):Int:=1+Ab.atF l 0 6
def SG (l:List Int):Int:=1+Ab.atF l 1 6
def SH (l:List Int):Int:=Ab.atF l 2 5-2
def Nl (k w h s:Int):List V2 :=
 if k=1 then [v0,pI (3*w) 0,pI (3*w) h,pI w h,pI w (3*h),pI 0 (3*h)]
 else if k=2 then [v0,pI w (-1),pI (w+2) h,pI w (2*h+1),pI 0 (2*h),pI (-2) h]
 else [v0,pI w 0,pI (w+s) h,pI s h]
def Pu (l:List Int):List V2 :=
 if Ab.atF l 3 5=0 then Ob l else DY (Cs (Ab.atF l 4 64)) (Bh l 5) (Nl (Ab.atF l 3 5) (SI l) (SG l) (SH l))
def Vv (L:List V2):Prop:=(3≤L.length∧L.length≤12)∧Qp L 7∧∀i,i<L.length→L.getD i v0≠J4 L i
theorem IA {L:List V2}{i:Nat}(h:i+1=L.length):J4 L i=L.getD 0 v0:=by unfold J4;rw[h,Nat.mod_self]
theorem ZB {a b c d:Int}:pI a b=pI c d↔a=c∧b=d:=by
 unfold pI;simp only[V2.mk.injEq,Rat.intCast_inj]
theorem Ox:v0=pI 0 0:=rfl
theorem WI {k w h s:Int}(hw:1≤w∧w≤6)(hh:1≤h∧h≤6)(hs:-2≤s∧s≤2):(4≤(Nl k w h s).length∧(Nl k w h s).length≤6)∧(∀x∈Nl k w h s,vb x≤1)∧∀i,i<(Nl k w h s).length→(Nl k w h s).getD i v0≠J4 (Nl k w h s) i:=by
 have z:vb v0≤1:=by decide +kernel
 unfold Nl
 split
 ·refine⟨by simp,?_,?_⟩
  ·simp only[List.mem_cons,List.not_mem_nil,or_false]
   rintro x (rfl |rfl |rfl |rfl |rfl |rfl)
   ·exact z
   all_goals exact GX _ _ (by omega) (by omega)
  ·intro i hi
   match i,hi with
   |0,_=>show v0≠pI (3*w) 0;rw[Ox,Ne,ZB];omega
   |1,_=>show pI (3*w) 0≠pI (3*w) h;rw[Ne,ZB];omega
   |2,_=>show pI (3*w) h≠pI w h;rw[Ne,ZB];omega
   |3,_=>show pI w h≠pI w (3*h);rw[Ne,ZB];omega
   |4,_=>show pI w (3*h)≠pI 0 (3*h);rw[Ne,ZB];omega
   |5,_=>rw[IA rfl];show pI 0 (3*h)≠v0;rw[Ox,Ne,ZB];omega
   |i+6,h=>simp at h;omega
 ·split
  ·refine⟨by simp,?_,?_⟩
   ·simp only[List.mem_cons,List.not_mem_nil,or_false]
    rintro x (rfl |rfl |rfl |rfl |rfl |rfl)
    ·exact z
    all_goals exact GX _ _ (by omega) (by omega)
   ·intro i hi
    match i,hi with
    |0,_=>show v0≠pI w (-1);rw[Ox,Ne,ZB];omega
    |1,_=>show pI w (-1)≠pI (w+2) h;rw[Ne,ZB];omega
    |2,_=>show pI (w+2) h≠pI w (2*h+1);rw[Ne,ZB];omega
    |3,_=>show pI w (2*h+1)≠pI 0 (2*h);rw[Ne,ZB];omega
    |4,_=>show pI 0 (2*h)≠pI (-2) h;rw[Ne,ZB];omega
    |5,_=>rw[IA rfl];show pI (-2) h≠v0;rw[Ox,Ne,ZB];omega
    |i+6,h=>simp at h;omega
  ·refine⟨by simp,?_,?_⟩
   ·simp only[List.mem_cons,List.not_mem_nil,or_false]
    rintro x (rfl |rfl |rfl |rfl)
    ·exact z
    all_goals exact GX _ _ (by omega) (by omega)
   ·intro i hi
    match i,hi with
    |0,_=>show v0≠pI w 0;rw[Ox,Ne,ZB];omega
    |1,_=>show pI w 0≠pI (w+s) h;rw[Ne,ZB];omega
    |2,_=>show pI (w+s) h≠pI s h;rw[Ne,ZB];omega
    |3,_=>rw[IA rfl];show pI s h≠v0;rw[Ox,Ne,ZB];omega
    |i+4,h=>simp at h;omega
theorem pt {t c a b:V2}(ht:XY t t=1)(h:put t c a=put t c b):a=b:=by
 unfold put ru V2.add at h;simp only[V2.mk.injEq]at h;obtain⟨h1,h2⟩:=h;unfold XY at ht;cases a;cases b;simp only[V2.mk.injEq]at *;constructor <;> grind
theorem kj (l:List Int):Vv (Pu l):=by
 unfold Pu
 split
 ·unfold Ob
  have hb:=gh l;have b0:=XI l 0 2 (by omega)
  split
  ·rename_i h
   refine⟨h.1,AN (fun x hx=>Nat.le_trans (Gv l 16 x hx) (by omega)) (by omega),fun i hi=>?_⟩;have:=IJ (h.2.1 i hi).1;unfold Ab.N.atF at this;rw[Nat.mod_eq_of_lt hi]at this;exact this
  ·have a1:=AU (TB l) (pI 4 0)
   have a2:=AU (TB l) (pI (1+Ab.atF l 0 2) 3);have a3:=AU (TB l) (pI 1 1);have v1:=GX 4 0 (by omega) (by omega);have v2:=GX (1+Ab.atF l 0 2) 3 (by omega) (by omega);have v3:=GX 1 1 (by omega) (by omega);refine⟨by simp,AN ?_ (by omega),?_⟩
   ·simp only[List.mem_cons,List.not_mem_nil,or_false]
    rintro x (rfl |rfl |rfl |rfl) <;> omega
   ·have ne:∀ {x y:Int} {a:V2},¬ (x=0∧y=0)→a≠a.add (pI x y):=fun {x y a} h e=>h (by
     have e1:a.x=a.x+(x:Rat):=congrArg V2.x e;have e2:a.y=a.y+(y:Rat):=congrArg V2.y e;have h1:(x:Rat)=((0:Int):Rat):=by grind
     have h2:(y:Rat)=((0:Int):Rat):=by grind
     exact⟨Rat.intCast_inj.1 h1,Rat.intCast_inj.1 h2⟩)
    have ne2:∀ {x y u v:Int} {a:V2},¬ (x=u∧y=v)→a.add (pI x y)≠a.add (pI u v):=fun {x y u v a} h e=>h (by
     have e1:a.x+(x:Rat)=a.x+(u:Rat):=congrArg V2.x e;have e2:a.y+(y:Rat)=a.y+(v:Rat):=congrArg V2.y e;exact⟨Rat.intCast_inj.1 (by grind),Rat.intCast_inj.1 (by grind)⟩)
    intro i hi
    match i,hi with
    |0,_=>exact ne (x:=4) (y:=0) (by omega)
    |1,_=>exact ne2 (x:=4) (y:=0) (u:=1+Ab.atF l 0 2) (v:=3) (by omega)
    |2,_=>exact ne2 (x:=1+Ab.atF l 0 2) (y:=3) (u:=1) (v:=1) (by omega)
    |3,_=>rw[IA rfl];exact(ne (x:=1) (y:=1) (by omega)).symm
    |i+4,h=>simp at h;omega
 ·have b1:=XI l 0 6 (by omega)
  have b2:=XI l 1 6 (by omega);have b3:=XI l 2 5 (by omega);obtain⟨h1,h2,h3⟩:=WI (k:=Ab.atF l 3 5) (w:=SI l) (h:=SG l) (s:=SH l) (by unfold SI;omega) (by unfold SG;omega) (by unfold SH;omega);obtain⟨t1,t2⟩:=WT (Ab.atF l 4 64);have c1:=IK l 5;generalize Nl (Ab.atF l 3 5) (SI l) (SG l) (SH l)=C at *;generalize Cs (Ab.atF l 4 64)=t at *;generalize Bh l 5=c at *;have hm:∀i,i<C.length→(DY t c C).getD i v0=put t c (C.getD i v0):=fun i hi=>by
   unfold DY;rw[List.getD_eq_getElem?_getD,List.getElem?_map,List.getD_eq_getElem?_getD,List.getElem?_eq_getElem hi];rfl
  have hl:(DY t c C).length=C.length:=by simp[DY]
  refine⟨by rw[hl];omega,AN (fun x hx=>?_) (by omega),fun i hi=>?_⟩
  ·unfold DY at hx
   obtain⟨y,hy,rfl⟩:=List.mem_map.1 hx;have:=h2 y hy;have:=uM t c y;omega
  ·rw[hl]at hi
   unfold J4;rw[hl,hm i hi,hm _ (Nat.mod_lt _ (by omega))];exact fun e=>h3 i hi (pt t2 e)
theorem WJ (l:List Int)(hl:Fg l):Fn Tryz.prog 11 [X8 l] (Q6 (Pu l)):=by
 have c0:=UQ l hl;have b1:=XI l 0 6 (by omega);have b2:=XI l 1 6 (by omega);have b3:=XI l 2 5 (by omega);have b4:=XI l 3 5 (by omega);have c1:=Jp l 0 6 hl (by omega);have c2:=Jp l 1 6 hl (by omega);have c3:=Jp l 2 5 hl (by omega);have c4:=Jp l 3 5 hl (by omega);have c5:=jN l 4 hl (by omega);obtain⟨t1,t2⟩:=WT (Ab.atF l 4 64);have s1:=IK l 5;have hC:=WI (k:=Ab.atF l 3 5) (w:=SI l) (h:=SG l) (s:=SH l) (by unfold SI;omega) (by unfold SG;omega) (by unfold SH;omega);have c6:=Sz (Cs (Ab.atF l 4 64)) (Bh l 5) (Nl (Ab.atF l 3 5) (SI l) (SG l) (SH l)) 1 (AN hC.2.1 (by omega)) (by omega) (by omega) (by omega) (by omega);obtain⟨R,hR⟩:∃R,R=Pu l:=⟨_,rfl⟩
 have sR:=Xn R;rw[←hR];unfold Pu at hR;rw[show(4:Int)+1=5 from rfl]at c5;unfold SI SG SH at *;generalize Cs (Ab.atF l 4 64)=t at *;generalize Bh l 5=c at *;generalize Ob l=G at *;generalize Ab.atF l 0 6=w at *;generalize Ab.atF l 1 6=h at *;generalize Ab.atF l 2 5=s at *;generalize Ab.atF l 3 5=k at *;refine Fn.intro (fn:=Tryz.f11) Tryz.call11 Tryz.func11 rfl mixed 7 [29] [] [] (by kernel_rfl) (Nat.le_of_ble_eq_true rfl) (fun a ha=>List.mem_singleton.1 ha▸Xc l) (Xl ?_);simp(disch:=omega)only[AS.start,↓Xd,wG,seval];refine X0 c1 (X2 _) ?_;simp(disch:=omega)only[↓Xd,wG,seval];refine X0 c2 (X2 _) ?_;simp(disch:=omega)only[↓Xd,wG,seval];have p:∀x y:Int,-100≤x∧x≤100→-100≤y∧y≤100→Fn Tryz.prog 53 [I x,I y] (vA (pI x y)):=fun x y hx hy=>Kj x y ⟨by omega,by omega⟩ ⟨by omega,by omega⟩
 have z:=Zr false;have wl:∀ (L:List V2) (n m:Nat) (F:List AV),F=[AV.bool false,.sl 0 0 (fun _=>.any) false,.bool false,.sl 0 0 (fun _=>.any) false,.bool false,.sl 0 0 (fun _=>.any) false,.bool false,.sl 0 0 (fun _=>.any) false] ++ L.flatMap vC→n=L.length+1→m=(L.length+1)*8→∀tt,Weak (.sl n m (Xg F) tt) (Q6 (v0 :: L)):=fun L n m F hF hn hm tt=>by
  subst hF hn hm;have hL:WeakL ([AV.bool false,.sl 0 0 (fun _=>.any) false,.bool false,.sl 0 0 (fun _=>.any) false,.bool false,.sl 0 0 (fun _=>.any) false,.bool false,.sl 0 0 (fun _=>.any) false] ++ L.flatMap vC) ((v0 :: L).flatMap vC):=⟨z.1,z.2.1,z.2.2.1,z.2.2.2.1,z.1,z.2.1,z.2.2.1,z.2.2.2.1,X2 _⟩
  exact Kp rfl (Nat.le_refl _) fun j hj=>by
   rw[←Hp vC 8 v0 (fun _=>rfl) (v0 :: L) j hj];exact HH hL j
 refine X0 c3 (X2 _) ?_;simp(disch:=omega)only[↓Xd,wG,seval];refine X0 (p (1+w) 0 (by omega) (by omega)) (X2 _) ?_;simp(disch:=omega)only[vA,vC,↓Xd,wG,seval];refine X0 (p (1+w+(s-2)) (1+h) (by omega) (by omega)) (X2 _) ?_;simp(disch:=omega)only[vA,vC,↓Xd,wG,seval];refine X0 (p (s-2) (1+h) (by omega) (by omega)) (X2 _) ?_;simp(disch:=omega)only[vA,vC,↓Xd,wG,seval];refine X0 c4 (X2 _) ?_;rcases(show k=0∨k=1∨k=2∨k=3∨k=4 by omega)with rfl |rfl |rfl |rfl |rfl
 all_goals simp(disch:=omega)only[Int.reduceEq,↓Xd,wG,seval]
 ·refine X0 c0 ⟨by rw[Xu];exact Weak.rfl' _,trivial⟩ ?_
  simp(disch:=omega)only[X4,↓Xd,wG,seval];exact Xk rfl rfl sR (by rw[hR,X4];rfl)
 ·refine X0 (p (3*(1+w)) 0 (by omega) (by omega)) (X2 _) ?_
  simp(disch:=omega)only[vA,vC,↓Xd,wG,seval];refine X0 (p (3*(1+w)) (1+h) (by omega) (by omega)) (X2 _) ?_;simp(disch:=omega)only[vA,vC,↓Xd,wG,seval];refine X0 (p (1+w) (1+h) (by omega) (by omega)) (X2 _) ?_;simp(disch:=omega)only[vA,vC,↓Xd,wG,seval];refine X0 (p (1+w) (3*(1+h)) (by omega) (by omega)) (X2 _) ?_;simp(disch:=omega)only[vA,vC,↓Xd,wG,seval];refine X0 (p 0 (3*(1+h)) (by omega) (by omega)) (X2 _) ?_;simp(disch:=omega)only[vA,vC,↓Xd,wG,seval];refine X0 c5 ⟨by rw[Xu];exact Weak.rfl' _,Weak.rfl' _,trivial⟩ ?_;simp(disch:=omega)only[pi,Wu,↓Xd,wG,seval];refine X0 c6 ⟨Weak.rfl' _,wl [pI (3*(1+w)) 0,pI (3*(1+w)) (1+h),pI (1+w) (1+h),pI (1+w) (3*(1+h)),pI 0 (3*(1+h))] _ _ _ rfl rfl rfl _,trivial⟩ ?_;simp(disch:=omega)only[X4,↓Xd,wG,seval];exact Xk rfl rfl sR (by rw[hR,X4];rfl)
 ·refine X0 (p (1+w) (-1) (by omega) (by omega)) (X2 _) ?_
  simp(disch:=omega)only[vA,vC,↓Xd,wG,seval];refine X0 (p (1+w+2) (1+h) (by omega) (by omega)) (X2 _) ?_;simp(disch:=omega)only[vA,vC,↓Xd,wG,seval];refine X0 (p (1+w) (2*(1+h)+1) (by omega) (by omega)) (X2 _) ?_;simp(disch:=omega)only[vA,vC,↓Xd,wG,seval];refine X0 (p 0 (2*(1+h)) (by omega) (by omega)) (X2 _) ?_;simp(disch:=omega)only[vA,vC,↓Xd,wG,seval];refine X0 (p (-2) (1+h) (by omega) (by omega)) (X2 _) ?_;simp(disch:=omega)only[vA,vC,↓Xd,wG,seval];refine X0 c5 ⟨by rw[Xu];exact Weak.rfl' _,Weak.rfl' _,trivial⟩ ?_;simp(disch:=omega)only[pi,Wu,↓Xd,wG,seval];refine X0 c6 ⟨Weak.rfl' _,wl [pI (1+w) (-1),pI (1+w+2) (1+h),pI (1+w) (2*(1+h)+1),pI 0 (2*(1+h)),pI (-2) (1+h)] _ _ _ rfl rfl rfl _,trivial⟩ ?_;simp(disch:=omega)only[X4,↓Xd,wG,seval];exact Xk rfl rfl sR (by rw[hR,X4];rfl)
 ·refine X0 c5 ⟨by rw[Xu];exact Weak.rfl' _,Weak.rfl' _,trivial⟩ ?_
  simp(disch:=omega)only[pi,Wu,↓Xd,wG,seval];refine X0 c6 ⟨Weak.rfl' _,wl [pI (1+w) 0,pI (1+w+(s-2)) (1+h),pI (s-2) (1+h)] _ _ _ rfl rfl rfl _,trivial⟩ ?_;simp(disch:=omega)only[X4,↓Xd,wG,seval];exact Xk rfl rfl sR (by rw[hR,X4];rfl)
 ·refine X0 c5 ⟨by rw[Xu];exact Weak.rfl' _,Weak.rfl' _,trivial⟩ ?_
  simp(disch:=omega)only[pi,Wu,↓Xd,wG,seval];refine X0 c6 ⟨Weak.rfl' _,wl [pI (1+w) 0,pI (1+w+(s-2)) (1+h),pI (s-2) (1+h)] _ _ _ rfl rfl rfl _,trivial⟩ ?_;simp(disch:=omega)only[X4,↓Xd,wG,seval];exact Xk rfl rfl sR (by rw[hR,X4];rfl)
theorem gx {a b:Int}(ha:0<a)(hb:0<b):0<Rat.divInt a b:=by
 have hb0:(0:Rat)<(b:Rat):=Rat.intCast_pos.2 hb;have e:Rat.divInt a b*(b:Rat)=(a:Rat):=by rw[Rat.divInt_eq_div,Rat.div_mul_cancel (by grind)]
 have ha0:(0:Rat)<(a:Rat):=Rat.intCast_pos.2 ha;refine Rat.not_le.1 fun h=>?_
 have:=Rat.mul_nonneg (show 0≤-Rat.divInt a b by grind) (Rat.le_of_lt hb0);grind
def bT (b:BB):Prop:=vb b.c≤1240∧qb b.light≤1∧qb b.heavy≤3∧qb b.strength≤1
theorem bT.s {b:BB}(h:bT b):bS b:=by obtain⟨h1,h2,h3,h4⟩:=h;unfold bS;omega
def Js (a d x:V2):Rat:=XY (x.sub a) d/XY d d
def NT (s t:Rat):Rat:=if Nj s t<0 then 0 else Nj s t
def NP (s t:Rat):Rat:=if 1<MX s t then 1 else MX s t
def LD (a d:V2)(lo hi:Rat):V2:=a.add (d.scale ((lo+hi)*Rat.divInt 1 2))
def Pe (p n b:V2):V2:=p.add (n.scale (XY (b.sub p) n/XY n n))
def Pd (a b:Sd):V2:=a.b.sub a.a
def FC (a b:Sd):Rat:=Js a.a (Pd a b) b.a
def FD (a b:Sd):Rat:=Js a.a (Pd a b) b.b
def Gb (a b:Sd):Option (V2×V2) :=
 if Gt b.i a.i∧0<XY (b.a.sub a.a) a.i then
  if NT (FC a b) (FD a b)<NP (FC a b) (FD a b)then
   some (LD a.a (Pd a b) (NT (FC a b) (FD a b)) (NP (FC a b) (FD a b)),Pe (LD a.a (Pd a b) (NT (FC a b) (FD a b)) (NP (FC a b) (FD a b))) a.i b.a)
  else none
 else none
def pG (s:Sd):AV:=.ptr 24 (Xg (AJ s)) 0
def vP (v:V2):AV:=.ptr 8 (Xg (vC v)) 0
theorem SY (s:Sd):Settled (pG s):=XN fun j _=>Xe (Za s) j
theorem Va (v:V2):Settled (vP v):=XN fun j _=>Xe (by simp[vC,Xc,X5]) j
theorem y5 (s:Sd):Xg (AJ s) 0=.bool (sg s.a.x)∧Xg (AJ s) 1=X8 (X9 s.a.x.num.natAbs)∧Xg (AJ s) 2=.bool false∧Xg (AJ s) 3=X8 (X9 (qd s.a.x))∧Xg (AJ s) 4=.bool (sg s.a.y)∧Xg (AJ s) 5=X8 (X9 s.a.y.num.natAbs)∧Xg (AJ s) 6=.bool false∧Xg (AJ s) 7=X8 (X9 (qd s.a.y)):=⟨rfl,rfl,rfl,rfl,rfl,rfl,rfl,rfl⟩
theorem y6 (v:V2):Xg (vC v) 0=.bool (sg v.x)∧Xg (vC v) 1=X8 (X9 v.x.num.natAbs)∧Xg (vC v) 2=.bool false∧Xg (vC v) 3=X8 (X9 (qd v.x))∧Xg (vC v) 4=.bool (sg v.y)∧Xg (vC v) 5=X8 (X9 v.y.num.natAbs)∧Xg (vC v) 6=.bool false∧Xg (vC v) 7=X8 (X9 (qd v.y)):=⟨rfl,rfl,rfl,rfl,rfl,rfl,rfl,rfl⟩
theorem LF (a:Sd)(d x:V2)(ha:vb a.a≤1000)(hd:vb d≤2001)(hx:vb x≤1000)(h0:XY d d≠0):Fn Tryz.prog 192 [vA x,pG a,vP d] (qA (Js a.a d x)):=by
 have s1:=QX x a.a;have q1:=Ky (x.sub a.a) d;have q2:=Ky d d;have c1:=AZ x a.a (by unfold rm;omega) (by unfold rm;omega);have c2:=Dr (x.sub a.a) d (by unfold vm;omega) (by unfold vm;omega);have c3:=Dr d d (by unfold vm;omega) (by unfold vm;omega);have c4:=IH (XY (x.sub a.a) d) (XY d d) h0 (by unfold rm;omega) (by unfold rm;omega);obtain⟨R,hR⟩:∃R,R=qA (Js a.a d x):=⟨_,rfl⟩
 have sR:Settled R:=hR▸Xb _;rw[show XY (x.sub a.a) d/XY d d=Js a.a d x from rfl,←hR]at c4;rw[←hR];have sf:=y5 a;have vf:=y6 d;refine Fq Tryz.call192 Tryz.func192 5 [] [] [] (by simp[Xr,SY,Va]) (Xl ?_);simp(disch:=omega)only[AS.start,vA,vC,pG,vP,sf,vf,↓Xd,wG,seval];refine X0 c1 (X2 _) ?_;simp(disch:=omega)only[sf,vf,qA,qC,↓Xd,wG,seval];refine X0 c2 (X2 _) ?_;simp(disch:=omega)only[sf,vf,qA,qC,↓Xd,wG,seval];refine X0 c3 (X2 _) ?_;simp(disch:=omega)only[sf,vf,qA,qC,↓Xd,wG,seval];refine X0 c4 (X2 _) ?_;simp(disch:=omega)only[hR,qA,qC,↓Xd,wG,seval];exact J7 rfl XT rfl rfl rfl sR (hR.trans rfl)
end
end Go.Ab.N
