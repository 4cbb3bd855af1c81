/- Contracts of functions, for every argument that fits. -/
import Derived.Test.YtcmfnmceomhgcaaGreatC10
import Derived.Shelf.Small.Bits
set_option linter.unusedSimpArgs false
set_option linter.unusedVariables false
namespace Go.Ab.N
open Go Go.RowKit Go.Proofs
noncomputable section
set_option maxRecDepth 10000
set_option maxHeartbeats 4000000
open Classical
theorem sU (a b:Rat):Rat.divInt (a.num*b.den) (a.den*b.num)=a/b:=by
 rw[←Rat.divInt_mul_divInt,Rat.div_def,Rat.inv_def,Rat.num_divInt_den]
theorem Du (a b:Rat)(ha:qb a≤vm)(hb:qb b≤vm):Fn Tryz.prog 121 [qA a,qA b] (qA (a/b)):=by
 unfold vm at ha hb;have a1:=Jz a;have a2:=JG a;have b1:=Jz b;have b2:=JG b;have m1:=ZO a.num b.den (by unfold room;omega) (by unfold room;omega);have m3:=ZO a.den b.num (by unfold room;omega) (by unfold room;omega);have n1:=JE a.num b.den;have n3:=JE a.den b.num;have k:=EP (a.num*b.den) (a.den*b.num) (by omega) (by omega);rw[sU]at k;have d1:=Ac a;have d2:=Ac b;obtain⟨R,hR⟩:∃R,R=qA (a/b):=⟨_,rfl⟩
 have sR:Settled R:=hR▸Xa _;rw[←hR]at k ⊢;refine Fq Tryz.call121 Tryz.func121 5 [] [1,20000002,20000003] [] (by simp[wS]) (Xk ?_);simp(maxSteps:=999999)only[AS.start,↓X4,wF,seval];refine X1 d2 rfl ?_;simp only[↓X4,wF,seval];refine X1 m1 rfl ?_;simp only[↓X4,wF,seval];refine X1 d1 rfl ?_;simp only[↓X4,wF,seval];refine X1 m3 rfl ?_;simp only[↓X4,wF,seval];refine X1 k rfl ?_;simp only[hR,↓X4,wF,seval];exact J2 rfl XR rfl rfl rfl sR (hR.trans rfl)
def Wb (t c:V2):List AV:=[.bool (decide (t.x.num<0)),X8 (X9 t.x.num.natAbs),.bool false,X8 (X9 (qd t.x)),.bool (decide (t.y.num<0)),X8 (X9 t.y.num.natAbs),.bool false,X8 (X9 (qd t.y)),
 .bool (decide (c.x.num<0)),X8 (X9 c.x.num.natAbs),.bool false,X8 (X9 (qd c.x)),.bool (decide (c.y.num<0)),X8 (X9 c.y.num.natAbs),.bool false,X8 (X9 (qd c.y))]
def oq (t c:V2):AV:=.agg (Wb t c)
theorem Id (t c:V2):∀x∈Wb t c,Settled x:=by simp[Wb,Xc,X5]
theorem Ic (t c:V2):Settled (oq t c):=Qr (Id t c)
def put (t c a:V2):V2:=(qB t a).add c
theorem tK (t c a:V2):vb (put t c a)≤2*(vb t+vb a)+vb c+2:=by
 have:=kG t a;have:=ZD (qB t a) c;unfold put;omega
def DU (t c:V2)(L:List V2):List V2:=L.map (put t c)
theorem aB (t c:V2)(L:List V2)(i:Nat)(hi:i<L.length):DU t c (L.take i) ++ [put t c (L.getD i v0)]=DU t c (L.take (i+1)):=by
 rw[MA _ v0 hi];simp[DU]
theorem iY (t c:V2)(L:List V2)(i:Nat)(hi:i≤L.length):(DU t c (L.take i)).length=i:=by simp[DU];omega
theorem kP {P:Program}{fn:Func}{str hcs:List Nat}{s:AS}{t id ver:Nat}(L:List V2)(hr:fn.results=#[.tmp t])(hs:s.get t=.osl id ver 8 0 L.length)(ho:s.h[id]?=some (.row ver (L.length*8) (XD vC 8 v0 L))):RetOk (Ju P fn str hcs (Ql L)) s:=by
 refine C4 hr ?_;rw[hs,X7];refine Z2 (.inl ho) (by omega) (fun h=>by rw[h]) fun j hj=>?_
 rw[Nat.zero_add];exact(Xe (by simp[vC,Xc,X5]) _).sees _
theorem kE (a:V2):∀j,j<8→((vC a).getD j .any).one=true:=fun j hj=>by
 match j,hj with
 |0,_=>rfl
 |1,_=>rfl
 |2,_=>rfl
 |3,_=>rfl
 |4,_=>rfl
 |5,_=>rfl
 |6,_=>rfl
 |7,_=>rfl
 |j+8,h=>omega
theorem Sf (t c:V2)(L:List V2)(k:Nat)(h:QN L k)(hk:k≤100000)(hl:L.length<1000000)(ht:vb t≤100000)(hc:vb c≤100000):Fn Tryz.prog 55 [oq t c,Ql L] (Ql (DU t c L)):=by
 have bo:Qa 2 (.con 0 16 (Xf (Wb t c)))=True:=eq_true (fun j _=>X6 (Xe (Id t c) j));have hvc:∀a:V2,∀x∈vC a,Settled x:=fun a=>by simp[vC,Xc,X5]
 have bv:Jq 2 (Ql L)=True:=eq_true (X6 (Xq L));have br:∀i l n,Qa 2 (.row i n (XD vC 8 v0 l))=True:=fun i l n=>eq_true fun j _=>X6 (Xe (hvc _) _)
 obtain⟨R,hR⟩:∃R,R=Ql (DU t c L):=⟨_,rfl⟩
 rw[←hR];refine Fq Tryz.call55 Tryz.func55 7 [] [5,6011,60000002] [] (by simp[Ic,Xq]) (Xk ?_);simp only[AS.start,oq,Wb,X7,↓X4,wF,seval];refine Xj (fun i:Nat=>⟨7,[],[.any,Ql L,.ref 0 0 0,.any,.any,.osl 1 i 8 0 i,I i],[],[.con 0 16 (Xf (Wb t c)),.row i (i*8) (XD vC 8 v0 (DU t c (L.take i)))]⟩) (fun i=>i≤L.length) (fun i=>L.length-i) 0 (by omega)
  (Sub.trans (XC 0 rfl) (Sub.trans (Kk 5 8 (XD vC 8 v0 []) rfl) (Xi rfl (by simp[AS.put,X7,Xm,I]) (by simp[AS.put,Xw]) (by simp[AS.put,Wb,Xl,DU])))) ?_
 intro i hi next
 have w1:=wj i (by omega);by_cases hi2:i<L.length
 ·have f1:((i:Int)<L.length)=True:=eq_true (by omega)
  have f2:(i<L.length)=True:=eq_true hi2;have f3:(i*8+8≤L.length*8)=True:=eq_true (by omega);have v1:=vF L i;have hb:=h i;have m:=kG t (L.getD i v0);have c1:=N4 t (L.getD i v0) (by unfold vm;omega) (by unfold vm;omega);have c2:=Je (qB t (L.getD i v0)) c (by unfold vm;omega) (by unfold vm;omega);have hap:=Az vC 8 v0 (DU t c (L.take i)) (put t c (L.getD i v0)) (by omega);rw[aB _ _ _ _ hi2,iY _ _ _ _ hi]at hap;refine Xk ?_;simp only[Wb,X7,w1,f1,f2,f3,v1,Int.toNat_natCast,↓X4,wF,seval];refine X1 c1 rfl ?_;simp only[Wb,X7,w1,f1,f2,f3,v1,Int.toNat_natCast,↓X4,wF,seval];refine X1 c2 rfl ?_;simp only[w1,↓X4,wF,seval];exact⟨⟨kE _,by omega,by omega⟩,next (i+1) _ (by omega) (by omega) (ta (m:=2) (by simp[X7,Xm,I]) (by rw[←hap];rfl) (by simp[XW,bv]) (by simp[bo,br]))⟩
 obtain rfl:i=L.length:=by omega
 refine Xk ?_;simp only[Wb,X7,Int.lt_irrefl,Nat.lt_irrefl,↓X4,wF,seval];rw[hR,List.take_length];have hlen:(DU t c L).length=L.length:=by simp[DU]
 exact kP _ rfl (by rw[hlen];rfl) (by rw[hlen];rfl)
structure Sd where
 a:V2
 b:V2
 i:V2
def AG (s:Sd):List AV:=vC s.a ++ vC s.b ++ vC s.i
def UQ (s:Sd):AV:=.agg (AG s)
theorem Z4 (s:Sd):∀a∈AG s,Settled a:=by simp[AG,vC,Xc,X5]
theorem JW (s:Sd):Settled (UQ s):=Qr (Z4 s)
theorem Ar (s:Sd):AG s=[.bool (sg s.a.x),X8 (X9 s.a.x.num.natAbs),.bool false,X8 (X9 (qd s.a.x)),.bool (sg s.a.y),X8 (X9 s.a.y.num.natAbs),.bool false,X8 (X9 (qd s.a.y)),
 .bool (sg s.b.x),X8 (X9 s.b.x.num.natAbs),.bool false,X8 (X9 (qd s.b.x)),.bool (sg s.b.y),X8 (X9 s.b.y.num.natAbs),.bool false,X8 (X9 (qd s.b.y)),
 .bool (sg s.i.x),X8 (X9 s.i.x.num.natAbs),.bool false,X8 (X9 (qd s.i.x)),.bool (sg s.i.y),X8 (X9 s.i.y.num.natAbs),.bool false,X8 (X9 (qd s.i.y))]:=rfl
def Ip:Sd:=⟨v0,v0,v0⟩
def UR (l:List Sd):AV:=jX AG 24 Ip l
theorem J9 (l:List Sd):UR l=.sl l.length (l.length*24) (XD AG 24 Ip l) false:=nrfl rfl
theorem Es (l:List Sd):Settled (UR l):=Z5 fun a x hx=>Z4 a x hx
theorem oN (s:Sd):∀j,j<24→((AG s).getD j .any).one=true:=fun j hj=>by
 rw[Ar]
 match j,hj with
 |0,_ |1,_ |2,_ |3,_ |4,_ |5,_ |6,_ |7,_ |8,_ |9,_ |10,_ |11,_ |12,_ |13,_ |14,_ |15,_ |16,_ |17,_ |18,_ |19,_ |20,_ |21,_ |22,_ |23,_=>rfl
 |j+24,h=>omega
def HZ (p q:V2):V2:=⟨p.y-q.y,q.x-p.x⟩
def Kx (L:List V2)(i:Nat):V2:=L.getD ((i+1)%L.length) v0
def JJ (L:List V2)(i:Nat):Sd:=⟨L.getD i v0,Kx L i,HZ (L.getD i v0) (Kx L i)⟩
def AK (L:List V2)(k:Nat):List Sd:=(List.range k).map (JJ L)
theorem SG (L:List V2)(k:Nat):AK L k ++ [JJ L k]=AK L (k+1):=by unfold AK;rw[List.range_succ,List.map_append];rfl
theorem DF (L:List V2)(k:Nat):(AK L k).length=k:=by simp[AK]
theorem bg (L:List V2){k i:Nat}(h:i<k):(AK L k).getD i Ip=JJ L i:=by
 unfold AK;rw[List.getD_eq_getElem?_getD,List.getElem?_map,List.getElem?_range h];rfl
def K8 (L:List V2):List Sd:=AK L L.length
theorem Nz (L:List V2)(h:QN L 1000)(hl:L.length<1000000):Fn Tryz.prog 64 [Ql L] (UR (K8 L)):=by
 have bv:Jq 1 (Ql L)=True:=eq_true (X6 (Xq L));have br:∀i l n,Qa 1 (.row i n (XD AG 24 Ip l))=True:=fun i l n=>eq_true fun j _=>X6 (Xe (Z4 _) _)
 obtain⟨R,hR⟩:∃R,R=UR (K8 L):=⟨_,rfl⟩
 rw[←hR];refine Fn.intro (fn:=Tryz.f64) Tryz.call64 Tryz.func64 rfl mixed 7 [7,8,9] [] [] (by kernel_rfl) (Nat.le_of_ble_eq_true rfl) (fun a ha=>List.mem_singleton.1 ha▸Xq L) (Xk ?_);simp(disch:=omega)only[AS.start,X7,↓Xd,wG,seval];refine Xj (fun i:Nat=>⟨7,[7,8,9],[Ql L,.any,.any,.osl 0 i 24 0 i,.any,.any,.any],[(7,Ql L),(8,I L.length),(9,I i)],[.row i (i*24) (XD AG 24 Ip (AK L i))]⟩) (fun i=>i≤L.length) (fun i=>L.length-i) 0 (by omega)
  (Sub.trans (Kk 3 24 (XD AG 24 Ip []) rfl) (Xi rfl (by simp[AS.put,Xm,I,X7]) (by simp[AS.put,Xw,XA,X7,I]) (by simp[AS.put,AK]))) ?_
 intro i hi next
 have w1:=wj i (by omega);by_cases hi2:i<L.length
 ·have f6:((L.length:Int)=0)=False:=eq_false (by omega)
  have f6':(L.length=0)=False:=eq_false (by omega);have hm:((i+1:Nat):Int).tmod L.length=(((i+1)%L.length:Nat):Int):=rfl;have hml:(i+1)%L.length<L.length:=Nat.mod_lt _ (by omega);have f2:(i<L.length)=True:=eq_true hi2;have v1:=vF L i;have v2:=vF L ((i+1)%L.length);have hb1:=h i;have hb2:=h ((i+1)%L.length);have x1:=J8 (L.getD i v0);have y1:=J4 (L.getD i v0);have x2:=J8 (Kx L i);have y2:=J4 (Kx L i);have hb3:vb (Kx L i)≤1000:=hb2;have c1:=EX (L.getD i v0).y (Kx L i).y (by unfold rm;omega) (by unfold rm;omega);have c2:=EX (Kx L i).x (L.getD i v0).x (by unfold rm;omega) (by unfold rm;omega);have hap:=Az AG 24 Ip (AK L i) (JJ L i) (by omega);rw[SG,DF]at hap;have nx:=next (i+1)
  have e:L.getD ((i+1)%L.length) v0=Kx L i:=rfl;rw[e]at v2;refine Xk ?_;simp(disch:=omega)only[X7,w1,f2,f6,f6',hm,eq_true hml,v1,v2,↓Xd,wG,seval];refine X0 c1 (X2 _) ?_;simp(disch:=omega)only[↓Xd,wG,seval];refine X0 c2 (X2 _) ?_;simp(disch:=omega)only[qA,qC,↓Xd,wG,seval];exact⟨fun j hj=>oN (JJ L i) j hj,nx _ (by omega) (by omega) (XT (m:=1) (Nat.zero_le _) rfl (by simp[X7,Xm,I]) (by simp[Xw,XA,X7,I]) (by rw[←hap];rfl) (by simp[XW,bv]) (by simp[XW,bv]) (by simp[br]))⟩
 obtain rfl:i=L.length:=by omega
 refine Xk ?_;simp(disch:=omega)only[X7,↓Xd,wG,seval];rw[hR];refine C4 rfl ?_;show Zs _ (.osl 0 L.length 24 0 L.length) (UR (K8 L));rw[J9,show(K8 L).length=L.length from DF L _];refine Z2 (.inl rfl) (by omega) (fun h=>by rw[h]) fun j hj=>?_
 rw[Nat.zero_add];exact(Xe (Z4 _) _).sees _
def ix (a b x:Rat):Bool:=decide (a≤x∧x≤b∨b≤x∧x≤a)
theorem VR (a b x:Rat)(ha:qb a≤rm)(hb:qb b≤rm)(hx:qb x≤rm):Fn Tryz.prog 148 [qA a,qA b,qA x] (.bool (ix a b x)):=by
 have c1:=QR a x ha hx;have c2:=QR x b hx hb;have c3:=QR b x hb hx;have c4:=QR x a hx ha;obtain⟨R,hR⟩:∃R,R=ix a b x:=⟨_,rfl⟩
 rw[←hR];unfold ix at hR;refine Fq Tryz.call148 Tryz.func148 7 [] [] [] (by simp[Xa]) (Xk ?_);simp(disch:=omega)only[AS.start,qA,qC,↓Xd,wG,seval];refine X0 c1 (X2 _) ?_;simp(disch:=omega)only[Zj,↓Xd,wG,seval];refine⟨fun h1=>?_,fun h1=>?_⟩
 ·refine X0 c2 (X2 _) ?_
  simp(disch:=omega)only[h1,Zj,↓Xd,wG,seval];refine⟨fun h2=>?_,fun h2=>?_⟩
  ·simp(disch:=omega)only[h1,h2,Zj,↓Xd,wG,seval]
   exact Xo (v:=.bool true) rfl rfl (X5 _) (by rw[hR];simp[h1,h2])
  ·refine X0 c3 (X2 _) ?_
   simp(disch:=omega)only[h1,h2,Zj,↓Xd,wG,seval];refine⟨fun h3=>?_,fun h3=>?_⟩
   ·refine X0 c4 (X2 _) ?_
    simp(disch:=omega)only[h1,h2,h3,Zj,↓Xd,wG,seval];exact Xo (v:=.bool (decide (x≤a))) rfl rfl (X5 _) (by rw[hR];simp[h1,h2,h3])
   ·simp(disch:=omega)only[h1,h2,h3,Zj,↓Xd,wG,seval]
    exact Xo (v:=.bool false) rfl rfl (X5 _) (by rw[hR];simp[h1,h2,h3])
 ·refine X0 c3 (X2 _) ?_
  simp(disch:=omega)only[h1,Zj,↓Xd,wG,seval];refine⟨fun h3=>?_,fun h3=>?_⟩
  ·refine X0 c4 (X2 _) ?_
   simp(disch:=omega)only[h1,h3,Zj,↓Xd,wG,seval];exact Xo (v:=.bool (decide (x≤a))) rfl rfl (X5 _) (by rw[hR];simp[h1,h3])
  ·simp(disch:=omega)only[h1,h3,Zj,↓Xd,wG,seval]
   exact Xo (v:=.bool false) rfl rfl (X5 _) (by rw[hR];simp[h1,h3])
def LO (s:Sd)(p:V2):Bool:=decide (JX s.a s.b p=0) && (ix s.a.x s.b.x p.x && ix s.a.y s.b.y p.y)
def te (s:Sd)(k:Nat):Prop:=vb s.a≤k∧vb s.b≤k∧vb s.i≤k
theorem il (s:Sd)(p:V2)(hs:te s vs)(hp:vb p≤vs):Fn Tryz.prog 67 [UQ s,vA p] (.bool (LO s p)):=by
 obtain⟨h1,h2,h3⟩:=hs;have x1:=J8 s.a;have y1:=J4 s.a;have x2:=J8 s.b;have y2:=J4 s.b;have x3:=J8 p;have y3:=J4 p;have c1:=BZ s.a s.b p h1 h2 hp;unfold vs at h1 h2 hp;have c2:=VR s.a.x s.b.x p.x (by unfold rm;omega) (by unfold rm;omega) (by unfold rm;omega);have c3:=VR s.a.y s.b.y p.y (by unfold rm;omega) (by unfold rm;omega) (by unfold rm;omega);have hd:LO s p=(decide (JX s.a s.b p=0) && (ix s.a.x s.b.x p.x && ix s.a.y s.b.y p.y)):=rfl;generalize LO s p=R at *;generalize ix s.a.x s.b.x p.x=b1 at *;generalize ix s.a.y s.b.y p.y=b2 at *;generalize JX s.a s.b p=d at *;refine Fn.intro (fn:=Tryz.f67) Tryz.call67 Tryz.func67 rfl mixed 6 [] [] [] (by kernel_rfl) (Nat.le_of_ble_eq_true rfl) (JY (JW s) (Xt p)) (Xk ?_);simp(disch:=omega)only[AS.start,UQ,Ar,vA,vC,Xl,↓Xd,wG,seval];refine X0 c1 (X2 _) ?_;simp(disch:=omega)only[↓Xd,wG,seval];refine⟨fun h=>?_,fun h=>?_⟩
 ·exact Xo (v:=.bool false) rfl rfl (X5 _) (by rw[hd,decide_eq_false h];rfl)
 ·refine X0 c2 (X2 _) ?_
  simp(disch:=omega)only[↓Xd,wG,seval];refine Qg (fun e=>?_) (fun e=>?_)
  ·refine X0 c3 (X2 _) ?_
   simp(disch:=omega)only[↓Xd,wG,seval];exact Xo (v:=.bool b2) rfl rfl (X5 _) (by rw[hd,e];simp;grind)
  ·exact Xo (v:=.bool false) rfl rfl (X5 _) (by rw[hd,e];simp)
def Dh (g:GG)(s:Sd):Bool:=decide (s.i=g.n) && LO s g.p
def Bx (g:GG)(s:Sd):Bool:=decide (N2 s.i g.n) && LO s g.q
theorem DD (g:GG):Settled (gP g):=XI fun j _=>Xe (KB g) j
theorem gw (g:GG)(s:Sd)(hs:te s 10000)(hg:vb g.p≤10000∧vb g.n≤10000):Fn Tryz.prog 65 [UQ s,gP g] (.bool (Dh g s)):=by
 obtain⟨h1,h2,h3⟩:=hs;have c1:=ov s.i g.n (by unfold vm;omega) (by unfold vm;omega);have c2:=il s g.p (by unfold te vs;omega) (by unfold vs;omega);have hd:Dh g s=(decide (s.i=g.n) && LO s g.p):=rfl;have gf:=gF g;generalize Dh g s=R at *;generalize LO s g.p=b at *;generalize decide (s.i=g.n)=a at *;refine Fn.intro (fn:=Tryz.f65) Tryz.call65 Tryz.func65 rfl mixed 4 [] [] [] (by kernel_rfl) (Nat.le_of_ble_eq_true rfl) (JY (JW s) (DD g)) (Xk ?_);simp(disch:=omega)only[AS.start,UQ,Ar,vA,vC,gP,gf,Xl,↓Xd,wG,seval];refine X0 c1 (X2 _) ?_;simp(disch:=omega)only[gf,↓Xd,wG,seval];refine Qg (fun e=>?_) (fun e=>?_)
 ·refine X0 c2 (X2 _) ?_
  simp(disch:=omega)only[↓Xd,wG,seval];exact Xo (v:=.bool b) rfl rfl (X5 _) (by rw[hd,e];simp)
 ·exact Xo (v:=.bool false) rfl rfl (X5 _) (by rw[hd,e];simp)
theorem b9 (g:GG)(s:Sd)(hs:te s 10000)(hg:vb g.q≤10000∧vb g.n≤10000):Fn Tryz.prog 68 [UQ s,gP g] (.bool (Bx g s)):=by
 obtain⟨h1,h2,h3⟩:=hs;have c1:=VP s.i g.n (by unfold vm;omega) (by unfold vm;omega);have c2:=il s g.q (by unfold te vs;omega) (by unfold vs;omega);have hd:Bx g s=(decide (N2 s.i g.n) && LO s g.q):=rfl;have gf:=gF g;generalize Bx g s=R at *;generalize LO s g.q=b at *;generalize decide (N2 s.i g.n)=a at *;refine Fn.intro (fn:=Tryz.f68) Tryz.call68 Tryz.func68 rfl mixed 4 [] [] [] (by kernel_rfl) (Nat.le_of_ble_eq_true rfl) (JY (JW s) (DD g)) (Xk ?_);simp(disch:=omega)only[AS.start,UQ,Ar,vA,vC,gP,gf,Xl,↓Xd,wG,seval];refine X0 c1 (X2 _) ?_;simp(disch:=omega)only[gf,↓Xd,wG,seval];refine Qg (fun e=>?_) (fun e=>?_)
 ·refine X0 c2 (X2 _) ?_
  simp(disch:=omega)only[↓Xd,wG,seval];exact Xo (v:=.bool b) rfl rfl (X5 _) (by rw[hd,e];simp)
 ·exact Xo (v:=.bool false) rfl rfl (X5 _) (by rw[hd,e];simp)
theorem ah (s:List Sd)(f:FuncId)(caps:List AV)(p:Sd→Bool)(hl:s.length<1000000)(hc:∀ a∈caps,Settled a)(hp:∀x∈s,Fn Tryz.prog f ([UQ x] ++ caps) (.bool (p x))) :
  Fn Tryz.prog 151 [UR s,.fn f caps] (I (Io p s)):=by
 refine Fn.intro (fn:=Tryz.f151) Tryz.call151 Tryz.func151 rfl mixed 6 [6,7,8] [] [] (by kernel_rfl) (Nat.le_of_ble_eq_true rfl) (JY (Es s) (Jg hc)) (Xk ?_);simp(disch:=omega)only[AS.start,J9,↓Xd,wG,seval];refine Xj (fun j:Nat=>⟨6,[6,7,8],[UR s,.fn f caps,.any,.any,.any,.any],[(6,UR s),(7,I s.length),(8,I j)],[]⟩) (fun j=>j≤s.length∧∀i,i<j→p (s.getD i Ip)=false) (fun j=>s.length-j) 0 ⟨by omega,by omega⟩
  (Xi rfl (by simp[Xm,I,J9]) (by simp[Xw,XA,I,J9]) rfl) ?_
 rintro j ⟨hj,hno⟩ next
 by_cases h:j<s.length
 ·have l0:=Z7 AG 24 Ip s j (by omega)
  have l1:=KS AG 24 Ip s j;have c1:=hp _ (Qp Ip h);refine Xk ?_;simp(disch:=omega)only[J9,l0,l1,Ar,↓Xd,wG,seval];refine X0 c1 (X2 _) ?_;simp(disch:=omega)only[↓Xd,wG,seval];refine Qg (fun ht=>Xo (v:=I j) rfl rfl (Xb _) ?_) (fun hf=>next (j+1) _ ⟨by omega,fun i hi=>?_⟩ (by omega) (Xi rfl ?_ ?_ rfl))
  ·rw[LS Ip h ht hno]
  ·by_cases e:i=j
   ·rw[e];exact hf
   ·exact hno i (by omega)
  ·simp[Xm,I,J9]
  ·simp[Xw,XA,I,J9]
 ·obtain rfl:j=s.length:=by omega
  refine Xk ?_;simp(disch:=omega)only[J9,↓Xd,wG,seval];exact Xo (v:=I (-1)) rfl rfl (Xb _) (by rw[Hs Ip fun i hi=>hno i hi])
theorem G6 (s:List Sd)(f:FuncId)(caps:List AV)(p:Sd→Bool)(hl:s.length<1000000)(hc:∀ a∈caps,Settled a)(hp:∀x∈s,Fn Tryz.prog f ([UQ x] ++ caps) (.bool (p x))) :
  Fn Tryz.prog 70 [UR s,.fn f caps] (.bool (s.any p)):=by
 refine Fn.intro (fn:=Tryz.f70) Tryz.call70 Tryz.func70 rfl mixed 4 [] [] [] (by kernel_rfl) (Nat.le_of_ble_eq_true rfl) (JY (Es s) (Jg hc)) (Xk ?_);simp(disch:=omega)only[AS.start,↓Xd,wG,seval];refine X0 (ah s f caps p hl hc hp) (X2 _) ?_;simp(disch:=omega)only[↓Xd,wG,seval];exact Xo (v:=.bool (decide (0≤Io p s))) rfl rfl (X5 _) (by rw[LR])
theorem LU (p q:V2):(q.sub p).turned=HZ p q:=by
 unfold V2.turned V2.sub HZ;simp only[V2.mk.injEq,and_true];grind
theorem Od (p q:V2):vb (HZ p q)≤vb p+vb q+1:=by
 rw[←LU,BI];have:=QO q p;omega
theorem Dy (L:List V2)(i:Nat)(h:QN L 1000)(hl:L.length<1000000)(hi:i<L.length):Fn Tryz.prog 59 [Ql L,I i] (vA (HZ (L.getD i v0) (Kx L i))):=by
 have hb1:=h i;have hb2:vb (Kx L i)≤1000:=h ((i+1)%L.length);have hb3:=QO (Kx L i) (L.getD i v0);have c1:=Bq L i hl hi;have c2:=QM (Kx L i) (L.getD i v0) (by unfold rm;omega) (by unfold rm;omega);have c3:=Ia ((Kx L i).sub (L.getD i v0)) (by unfold rm;omega);rw[LU]at c3;have v1:=vF L i;have e:L.getD ((i+1)%L.length) v0=Kx L i:=rfl;rw[e]at c1;have f2:(i<L.length)=True:=eq_true hi;obtain⟨R,hR⟩:∃R,R=vA (HZ (L.getD i v0) (Kx L i)):=⟨_,rfl⟩
 have sR:Settled R:=hR▸Xt _;rw[←hR]at c3;rw[←hR];refine Fn.intro (fn:=Tryz.f59) Tryz.call59 Tryz.func59 rfl mixed 5 [] [] [] (by kernel_rfl) (Nat.le_of_ble_eq_true rfl) (JY (Xq L) (Xb i)) (Xk ?_);simp(disch:=omega)only[AS.start,X7,↓Xd,wG,seval];refine X0 c1 ⟨by rw[X7];exact Weak.rfl' _,Weak.rfl' _,trivial⟩ ?_;simp(disch:=omega)only[X7,f2,v1,↓Xd,wG,seval];refine X0 c2 (X2 _) ?_;simp(disch:=omega)only[↓Xd,wG,seval];refine X0 c3 (X2 _) ?_;simp(disch:=omega)only[hR,vA,vC,↓Xd,wG,seval];exact A0 rfl Jm rfl rfl rfl sR (hR.trans rfl)
def vQ (a b p:V2):Bool:=decide (Xp (a.sub p) (b.sub p)=0∧Q8 (a.sub p) (b.sub p)≤0)
theorem mf (u v s t:Rat)(h:u*t-v*s=0):u*s+v*t≤0↔(u*s≤0∧v*t≤0):=by
 constructor
 ·intro hd
  have e:(u*s)*(v*t)=(u*t)*(u*t):=by
   have:u*t=v*s:=by grind
   grind
  have sq:0≤(u*t)*(u*t):=by
   rcases Rat.le_total (a:=0) (b:=u*t)with g |g
   ·exact Rat.mul_nonneg g g
   ·have:=Rat.mul_nonneg (a:=-(u*t)) (b:=-(u*t)) (by grind) (by grind)
    grind
  rw[←e]at sq;generalize u*s=x at *;generalize v*t=y at *;have key:∀ {x y:Rat},x+y≤0→0≤x*y→x≤0:=fun {x y} h1 h2=>by
   refine Rat.not_lt.1 fun hx=>?_
   have hy:y<0:=by grind
   have:=Rat.mul_pos hx (show(0:Rat) < -y by grind);grind
  exact⟨key hd sq,key (x:=y) (y:=x) (by grind) (by grind)⟩
 ·rintro⟨h1,h2⟩;grind
theorem VV (a b x:Rat):ix a b x=true↔(a-x)*(b-x)≤0:=by
 unfold ix;rw[decide_eq_true_eq];constructor
 ·rintro(⟨h1,h2⟩ | ⟨h1,h2⟩)
  ·have:=Rat.mul_nonneg (a:=x-a) (b:=b-x) (by grind) (by grind)
   grind
  ·have:=Rat.mul_nonneg (a:=a-x) (b:=x-b) (by grind) (by grind)
   grind
 ·intro h
  by_cases h1:a≤x
  ·by_cases h2:x≤b
   ·exact .inl ⟨h1,h2⟩
   ·by_cases h3:x≤a
    ·exact .inr ⟨by grind,h3⟩
    ·have:=Rat.mul_pos (a:=x-a) (b:=x-b) (by grind) (by grind)
     grind
  ·by_cases h2:b≤x
   ·exact .inr ⟨h2,by grind⟩
   ·have:=Rat.mul_pos (a:=a-x) (b:=b-x) (by grind) (by grind)
    grind
theorem UY (a b p:V2):JX a b p=0↔Xp (a.sub p) (b.sub p)=0:=by
 have e:Xp (b.sub a) (p.sub a)=Xp (a.sub p) (b.sub p):=by unfold Xp V2.sub;grind
 unfold JX;rw[e];exact C8 _
theorem io (a b i p:V2):LO ⟨a,b,i⟩ p=vQ a b p:=by
 rw[Bool.eq_iff_iff];unfold LO vQ;rw[Bool.and_eq_true,Bool.and_eq_true,decide_eq_true_eq,decide_eq_true_eq,UY,VV,VV];refine and_congr_right fun h=>?_
 exact(mf (a.x-p.x) (a.y-p.y) (b.x-p.x) (b.y-p.y) h).symm
end
end Go.Ab.N
namespace Go.Ab.N
open Go Go.RowKit Go.Proofs
open Go.Shelf
noncomputable section
set_option maxRecDepth 10000
set_option maxHeartbeats 4000000
open Classical
def NG (a b:Rat):Rat:=if b<a then b else a
def N0 (a b:Rat):Rat:=if b<a then a else b
theorem jD {P:Program}{fn:Func}{str hcs:List Nat}{b:Nat}{H:List AO}{s:AS}(hr:fn.results=#[])(hH:s.h=H):RetE (Ly P fn str hcs b (.tup []) H) s :=
 ⟨.tup [],by show ZN P fn s=_;simp[ZN,hr,Jj,Bb],rfl,hH⟩
def O6 (v:Nat)(a b:Rat):AO:=.row v 8 (Xf (qC a ++ qC b))
theorem Ui (o0 o1 o2 o3 o4:AO)(v:Nat)(a b:Rat)(ha:qb a≤rm)(hb:qb b≤rm) :
  HCall Tryz.prog 241 [.osl 5 v 4 0 2,I 0,I 2,.fn 41 []] [o0,o1,o2,o3,o4,O6 v a b] (.tup []) [o0,o1,o2,o3,o4,O6 v (NG a b) (N0 a b)]:=by
 have c:=QR b a hb ha;refine HCall.intro (fn:=Tryz.f241) Tryz.call241 Tryz.func241 rfl mixed 10 [] [4,5008,5013,6,7009,7013] [] (by kernel_rfl) (Nat.le_of_ble_eq_true rfl) (Xk ?_);simp(disch:=omega)only[AS.start,O6,qC,↓Xd,wG,seval];refine EY ?_;refine Xk ?_;simp(disch:=omega)only[↓Xd,wG,seval];refine EY ?_;refine Xk ?_;simp(disch:=omega)only[↓Xd,wG,seval];refine X0 c (X2 _) ?_;simp(disch:=omega)only[Dr,↓Xd,wG,seval];have e1:NG a b=if b<a then b else a:=rfl
 have e2:N0 a b=if b<a then a else b:=rfl
 refine⟨fun h=>?_,fun h=>?_⟩
 ·rw[if_pos h]at e1 e2
  rw[e1,e2];refine DB ?_;refine Xk ?_;simp(disch:=omega)only[↓Xd,wG,seval];refine DB ?_;refine Xk ?_;simp(disch:=omega)only[↓Xd,wG,seval];exact jD rfl rfl
 ·rw[if_neg h]at e1 e2
  rw[e1,e2];refine DB ?_;refine Xk ?_;simp(disch:=omega)only[↓Xd,wG,seval];exact jD rfl rfl
def wW:Go.Shelf.Ren:=⟨fun k=>if k=125 then 227 else if k=128 then 249 else 250,fun t=>if t=46 then 214 else if t=51 then 230 else if t=53 then 185 else t,fun x=>x⟩
theorem uU:Lays.n125 Tryz.prog wW where
 mixed:=mixed
 f125:=Tryz.func227.trans (congrArg some rfl)
 f128:=Tryz.func249.trans (congrArg some rfl)
 f129:=Tryz.func250.trans (congrArg some rfl)
 t3:=Tryz.underlying3
 a3:=Tryz.isAgg3
 z3:=Tryz.sizeOf3
 v3:=Tryz.zeroValue3
 t4:=Tryz.underlying4
 a4:=Tryz.isAgg4
 z4:=Tryz.sizeOf4
 v4:=Tryz.zeroValue4
 t5:=Tryz.underlying5
 a5:=Tryz.isAgg5
 z5:=Tryz.sizeOf5
 v5:=Tryz.zeroValue5
 t9:=Tryz.underlying9
 a9:=Tryz.isAgg9
 z9:=Tryz.sizeOf9
 v9:=Tryz.zeroValue9
 t46:=Tryz.underlying214
 a46:=Tryz.isAgg214
 z46:=Tryz.sizeOf214
 v46:=Tryz.zeroValue214
 t51:=Tryz.underlying230
 a51:=Tryz.isAgg230
 z51:=Tryz.sizeOf230
 v51:=Tryz.zeroValue230
 t53:=Tryz.underlying185
 a53:=Tryz.isAgg185
 z53:=Tryz.sizeOf185
 v53:=Tryz.zeroValue185
theorem so (n:Nat)(h:n<1000000):Fn Tryz.prog 227 [.int .u64 n] (I (Lib.bitLen n)):=by
 refine⟨⟨Tryz.call227,?_⟩,fun a ha=>by rw[List.mem_singleton.1 ha];exact Jp _ _⟩;rintro w S vs hS ⟨hv1,hv2⟩;have hx:=hv2 0 (by simp);have h3:vs.size=1:=hv1;have e1:vs=#[vs.getD 0 undef]:=by
  apply Array.ext
  ·simp[h3]
  ·intro j g1 g2
   match j,g1 with
   |0,_=>simp[Array.getD,h3]
   |j+1,g=>omega
 rw[e1];generalize vs.getD 0 undef=x at *;replace hx:Rep (.bare w S) x (.int .u64 n):=hx;cases hx;have key:=Any.bits_Len uU (n:Int) w (by omega) (by omega);refine key.mono ?_;rintro e w' ⟨rfl,rfl⟩;rw[Int.toNat_natCast];exact⟨_,S,rfl,.int _ _,hS,Ext.refl _⟩
theorem sW {P:Program}{fn:Func}{str hcs:List Nat}{b:Nat}{H:List AO}{s:AS}(hr:fn.results=#[])(hH:s.h=H):RetOk (Ly P fn str hcs b (.tup []) H) s :=
 ⟨.tup [],by show ZN P fn s=_;simp[ZN,hr,Jj,Bb],rfl,hH⟩
theorem tE {o0 o1 o2 o3 o4 o5:AO}(h:∀ o∈[o0,o1,o2,o3,o4],o≠.unborn)(h5:o5≠.unborn)(id:Nat):[o0,o1,o2,o3,o4,o5][id]?≠some .unborn:=by
 intro hh;have:=List.mem_of_getElem? hh;rw[show [o0,o1,o2,o3,o4,o5]=[o0,o1,o2,o3,o4] ++ [o5]from rfl,List.mem_append,List.mem_singleton]at this;rcases this with g |g
 ·exact h _ g rfl
 ·exact h5 g.symm
theorem ol (o0 o1 o2 o3 o4:AO)(hu:∀ o∈[o0,o1,o2,o3,o4],o≠.unborn)(v lim:Nat)(a b:Rat)(ha:qb a≤rm)(hb:qb b≤rm) :
  HCall Tryz.prog 226 [.osl 5 v 4 0 2,I 0,I 2,I lim,.fn 41 []] [o0,o1,o2,o3,o4,O6 v a b] (.tup []) [o0,o1,o2,o3,o4,O6 v (NG a b) (N0 a b)]:=by
 have c:=Ui o0 o1 o2 o3 o4 v a b ha hb;refine HCall.intro (fn:=Tryz.f226) Tryz.call226 Tryz.func226 rfl mixed 21 [] [] [4] (by kernel_rfl) (Nat.le_of_ble_eq_true rfl) (Xk ?_);simp(disch:=omega)only[AS.start,↓Xd,wG,seval];refine EY ?_;refine Xk ?_;simp(disch:=omega)only[↓Xd,wG,seval];refine XJ rfl c (QE (id:=5) (o:=O6 v a b) rfl (by simp[O6]) (by simp[O6])) (tE hu (by simp[O6])) (X2 _) ?_;simp(disch:=omega)only[↓Xd,wG,seval];exact sW rfl rfl
theorem ka (o0 o1 o2 o3 o4:AO)(hu:∀ o∈[o0,o1,o2,o3,o4],o≠.unborn)(v:Nat)(a b:Rat)(ha:qb a≤rm)(hb:qb b≤rm) :
  HCall Tryz.prog 194 [.osl 5 v 4 0 2,.fn 41 []] [o0,o1,o2,o3,o4,O6 v a b] (.tup []) [o0,o1,o2,o3,o4,O6 v (NG a b) (N0 a b)]:=by
 have c:=ol o0 o1 o2 o3 o4 hu v (Lib.bitLen 2) a b ha hb;have cl:=so 2 (by omega);generalize Lib.bitLen 2=lim at *;refine HCall.intro (fn:=Tryz.f194) Tryz.call194 Tryz.func194 rfl mixed 5 [] [] [1] (by kernel_rfl) (Nat.le_of_ble_eq_true rfl) (Xk ?_);have hw:IntKind.u64.wrap 2=2:=by decide
 simp(disch:=omega)only[AS.start,hw,↓Xd,wG,seval];refine X0 cl (X2 _) ?_;simp(disch:=omega)only[↓Xd,wG,seval];refine XJ rfl c (QE (id:=5) (o:=O6 v a b) rfl (by simp[O6]) (by simp[O6])) (tE hu (by simp[O6])) (X2 _) ?_;simp(disch:=omega)only[↓Xd,wG,seval];exact jD rfl rfl
end
end Go.Ab.N
namespace Go.Ab.N
open Go Go.RowKit Go.Proofs
noncomputable section
set_option maxRecDepth 10000
set_option maxHeartbeats 4000000
open Classical
theorem ur {z:Int}(h:-1000000000<z∧z<1000000000):bl z≤1:=by
 unfold bl;by_cases h0:z.natAbs=0
 ·rw[h0,Qj];decide
 ·rw[Ga h0 (by omega)];exact Nat.le_refl 1
theorem Fm (p q:Int)(hp:-1000000000<p∧p<1000000000)(hq:-1000000000<q∧q<1000000000):qb (Rat.divInt p q)≤1:=KK p q 1 (Nat.le_refl _) (ur hp) (ur hq)
theorem vd (p:Int)(hp:-1000000000<p∧p<1000000000):qb (p:Rat)≤1:=jt p 1 (Nat.le_refl _) (ur hp)
theorem FR (x y:Int)(hx:-1000000000<x∧x<1000000000)(hy:-1000000000<y∧y<1000000000):vb (pI x y)≤1:=Nat.max_le.2 ⟨vd x hx,vd y hy⟩
def Bn (l:List Int)(a:Int):V2 :=
 ⟨Rat.divInt (Ab.atF l a (16*(1+Ab.atF l (a+2) 2)+1)-8*(1+Ab.atF l (a+2) 2)) (1+Ab.atF l (a+2) 2),Rat.divInt (Ab.atF l (a+1) (16*(1+Ab.atF l (a+2) 2)+1)-8*(1+Ab.atF l (a+2) 2)) (1+Ab.atF l (a+2) 2)⟩
theorem II (l:List Int)(a:Int):vb (Bn l a)≤1:=by
 unfold Bn;have b1:=Xv l (a+2) 2 (by omega);generalize Ab.atF l (a+2) 2=x at *;have b2:=Xv l a (16*(1+x)+1) (by omega);have b3:=Xv l (a+1) (16*(1+x)+1) (by omega);exact Nat.max_le.2 ⟨Fm _ _ (by omega) (by omega),Fm _ _ (by omega) (by omega)⟩
theorem Wy (l:List Int)(a:Int)(hl:DL l)(ha:0≤a∧a<1000):Fn Tryz.prog 60 [X8 l,I a] (vA (Bn l a)):=by
 have b1:=Xv l (a+2) 2 (by omega);have c1:=QD l (a+2) 2 hl (by omega);obtain⟨R,hR⟩:∃R,R=vA (Bn l a):=⟨_,rfl⟩
 have sR:Settled R:=hR▸Xt _;rw[←hR];unfold Bn at hR;generalize Ab.atF l (a+2) 2=x at *;obtain⟨q,hq⟩:∃q,q=1+x:=⟨_,rfl⟩
 rw[←hq]at hR;have c2:=QD l a (16*q+1) hl (by omega);have c3:=QD l (a+1) (16*q+1) hl (by omega);have b2:=Xv l a (16*q+1) (by omega);have b3:=Xv l (a+1) (16*q+1) (by omega);generalize Ab.atF l a (16*q+1)=y at *;generalize Ab.atF l (a+1) (16*q+1)=z at *;have c4:=XP (y-8*q) q ⟨by omega,by omega⟩ ⟨by omega,by omega⟩;have c5:=XP (z-8*q) q ⟨by omega,by omega⟩ ⟨by omega,by omega⟩;refine Fn.intro (fn:=Tryz.f60) Tryz.call60 Tryz.func60 rfl mixed 6 [] [] [] (by kernel_rfl) (Nat.le_of_ble_eq_true rfl) (JY (Xc l) (Xb a)) (Xk ?_);simp(disch:=omega)only[AS.start,←hq,↓Xd,wG,seval];refine X0 c1 (X2 _) ?_;simp(disch:=omega)only[←hq,↓Xd,wG,seval];refine X0 c2 (X2 _) ?_;simp(disch:=omega)only[↓Xd,wG,seval];refine X0 c4 (X2 _) ?_;simp(disch:=omega)only[↓Xd,wG,seval];refine X0 c3 (X2 _) ?_;simp(disch:=omega)only[↓Xd,wG,seval];refine X0 c5 (X2 _) ?_;simp(disch:=omega)only[qA,qC,↓Xd,wG,seval];exact A0 rfl Jm rfl rfl rfl sR (hR.trans rfl)
def spinL:List (Int×Int×Int):=[(1,0,1),(0,1,1),(-1,0,1),(0,-1,1),(3,4,5),(-4,3,5),(5,-12,13),(-3,-4,5)]
def Cr (n:Int):V2 :=
 let x:=spinL.getD (ZS n 8).toNat (1,0,1)
 ⟨Rat.divInt x.1 x.2.2,Rat.divInt x.2.1 x.2.2⟩
theorem kc:spinL.all (fun x=>decide (qb (Rat.divInt x.1 x.2.2)≤1) && decide (qb (Rat.divInt x.2.1 x.2.2)≤1) && decide (Rat.divInt x.1 x.2.2*Rat.divInt x.1 x.2.2+Rat.divInt x.2.1 x.2.2*Rat.divInt x.2.1 x.2.2=1))=true:=by decide +kernel
theorem Wx (n:Int):vb (Cr n)≤1∧Q8 (Cr n) (Cr n)=1:=by
 have b:=Cv n 8 (by omega);unfold Cr;generalize ZS n 8=k at *;have h:=List.all_eq_true.1 kc (spinL.getD k.toNat (1,0,1)) (Qp _ (show k.toNat<8 by omega));simp only[Bool.and_eq_true,decide_eq_true_eq]at h;exact⟨Nat.max_le.2 ⟨h.1.1,h.1.2⟩,h.2⟩
theorem oX (n:Int)(hn:BS n):Fn Tryz.prog 140 [I n] (vA (Cr n)):=by
 have c1:=HM n 8 hn (by omega);have b:=Cv n 8 (by omega);obtain⟨R,hR⟩:∃R,R=vA (Cr n):=⟨_,rfl⟩
 have sR:Settled R:=hR▸Xt _;rw[←hR];unfold Cr at hR;generalize ZS n 8=k at *;refine Fn.intro (fn:=Tryz.f140) Tryz.call140 Tryz.func140 rfl mixed 5 [] [] [] (by kernel_rfl) (Nat.le_of_ble_eq_true rfl) (fun a ha=>List.mem_singleton.1 ha▸Xb n) (Xk ?_);simp(disch:=omega)only[AS.start,↓Xd,wG,seval];refine X0 c1 (X2 _) ?_;rcases(show k=0∨k=1∨k=2∨k=3∨k=4∨k=5∨k=6∨k=7 by omega)with rfl |rfl |rfl |rfl |rfl |rfl |rfl |rfl
 all_goals
  simp(disch:=omega)only[Int.reduceToNat,Int.toNat_zero,Int.reduceLT,Int.reduceLE,Int.reduceEq,↓Xd,wG,seval]
 ·refine X1 (XP 1 1 ⟨by omega,by omega⟩ ⟨by omega,by omega⟩) rfl ?_
  simp(disch:=omega)only[Int.reduceToNat,Int.toNat_zero,Int.reduceLT,Int.reduceLE,Int.reduceEq,↓Xd,wG,seval];refine X1 (XP 0 1 ⟨by omega,by omega⟩ ⟨by omega,by omega⟩) rfl ?_;simp(disch:=omega)only[qA,qC,↓Xd,wG,seval];exact A0 rfl Gl rfl rfl rfl sR (hR.trans rfl)
 ·refine X1 (XP 0 1 ⟨by omega,by omega⟩ ⟨by omega,by omega⟩) rfl ?_
  simp(disch:=omega)only[Int.reduceToNat,Int.toNat_zero,Int.reduceLT,Int.reduceLE,Int.reduceEq,↓Xd,wG,seval];refine X1 (XP 1 1 ⟨by omega,by omega⟩ ⟨by omega,by omega⟩) rfl ?_;simp(disch:=omega)only[qA,qC,↓Xd,wG,seval];exact A0 rfl Gl rfl rfl rfl sR (hR.trans rfl)
 ·refine X1 (XP (-1) 1 ⟨by omega,by omega⟩ ⟨by omega,by omega⟩) rfl ?_
  simp(disch:=omega)only[Int.reduceToNat,Int.toNat_zero,Int.reduceLT,Int.reduceLE,Int.reduceEq,↓Xd,wG,seval];refine X1 (XP 0 1 ⟨by omega,by omega⟩ ⟨by omega,by omega⟩) rfl ?_;simp(disch:=omega)only[qA,qC,↓Xd,wG,seval];exact A0 rfl Gl rfl rfl rfl sR (hR.trans rfl)
 ·refine X1 (XP 0 1 ⟨by omega,by omega⟩ ⟨by omega,by omega⟩) rfl ?_
  simp(disch:=omega)only[Int.reduceToNat,Int.toNat_zero,Int.reduceLT,Int.reduceLE,Int.reduceEq,↓Xd,wG,seval];refine X1 (XP (-1) 1 ⟨by omega,by omega⟩ ⟨by omega,by omega⟩) rfl ?_;simp(disch:=omega)only[qA,qC,↓Xd,wG,seval];exact A0 rfl Gl rfl rfl rfl sR (hR.trans rfl)
 ·refine X1 (XP 3 5 ⟨by omega,by omega⟩ ⟨by omega,by omega⟩) rfl ?_
  simp(disch:=omega)only[Int.reduceToNat,Int.toNat_zero,Int.reduceLT,Int.reduceLE,Int.reduceEq,↓Xd,wG,seval];refine X1 (XP 4 5 ⟨by omega,by omega⟩ ⟨by omega,by omega⟩) rfl ?_;simp(disch:=omega)only[qA,qC,↓Xd,wG,seval];exact A0 rfl Gl rfl rfl rfl sR (hR.trans rfl)
 ·refine X1 (XP (-4) 5 ⟨by omega,by omega⟩ ⟨by omega,by omega⟩) rfl ?_
  simp(disch:=omega)only[Int.reduceToNat,Int.toNat_zero,Int.reduceLT,Int.reduceLE,Int.reduceEq,↓Xd,wG,seval];refine X1 (XP 3 5 ⟨by omega,by omega⟩ ⟨by omega,by omega⟩) rfl ?_;simp(disch:=omega)only[qA,qC,↓Xd,wG,seval];exact A0 rfl Gl rfl rfl rfl sR (hR.trans rfl)
 ·refine X1 (XP 5 13 ⟨by omega,by omega⟩ ⟨by omega,by omega⟩) rfl ?_
  simp(disch:=omega)only[Int.reduceToNat,Int.toNat_zero,Int.reduceLT,Int.reduceLE,Int.reduceEq,↓Xd,wG,seval];refine X1 (XP (-12) 13 ⟨by omega,by omega⟩ ⟨by omega,by omega⟩) rfl ?_;simp(disch:=omega)only[qA,qC,↓Xd,wG,seval];exact A0 rfl Gl rfl rfl rfl sR (hR.trans rfl)
 ·refine X1 (XP (-3) 5 ⟨by omega,by omega⟩ ⟨by omega,by omega⟩) rfl ?_
  simp(disch:=omega)only[Int.reduceToNat,Int.toNat_zero,Int.reduceLT,Int.reduceLE,Int.reduceEq,↓Xd,wG,seval];refine X1 (XP (-4) 5 ⟨by omega,by omega⟩ ⟨by omega,by omega⟩) rfl ?_;simp(disch:=omega)only[qA,qC,↓Xd,wG,seval];exact A0 rfl Gl rfl rfl rfl sR (hR.trans rfl)
def wayL:List (Int×Int):=[(4,0),(4,2),(3,3),(2,4),(0,4),(-2,4),(-3,3),(-4,2),(-4,0),(-4,-2),(-3,-3),(-2,-4),(0,-4),(2,-4),(3,-3),(4,-2)]
def kQ:List AV:=wayL.flatMap fun x=>[I x.1,I x.2]
theorem pA {i:Nat}(h:i<16):Xf kQ (i*2)=I (wayL.getD i (0,0)).1∧Xf kQ (i*2+1)=I (wayL.getD i (0,0)).2:=by
 match i,h with
 |0,_ |1,_ |2,_ |3,_ |4,_ |5,_ |6,_ |7,_ |8,_ |9,_ |10,_ |11,_ |12,_ |13,_ |14,_ |15,_=>exact⟨rfl,rfl⟩
 |i+16,h=>omega
theorem kR (i:Nat):(-4≤(wayL.getD i (0,0)).1∧(wayL.getD i (0,0)).1≤4)∧-4≤(wayL.getD i (0,0)).2∧(wayL.getD i (0,0)).2≤4:=by
 match i with
 |0 |1 |2 |3 |4 |5 |6 |7 |8 |9 |10 |11 |12 |13 |14 |15=>decide
 |i+16=>exact⟨⟨by show(-4:Int)≤0;omega,by show(0:Int)≤4;omega⟩,by show(-4:Int)≤0;omega,by show(0:Int)≤4;omega⟩
def Tg (l:List Int):V2:=pI (Ab.atF l 16 9-4) (Ab.atF l 17 9-4)
def Lo (l:List Int)(i:Nat):V2:=⟨Rat.divInt ((wayL.getD i (0,0)).1*Ab.atF l i 6) 2,Rat.divInt ((wayL.getD i (0,0)).2*Ab.atF l i 6) 2⟩
def QP (l:List Int):Nat→List V2
 |0=>[]
 |i+1=>if(QP l i).length<12∧0<Ab.atF l i 6∧Ab.atF l i 6<4 then QP l i ++ [(Tg l).add (Lo l i)]else QP l i
theorem NV (l:List Int):∀i,(QP l i).length≤12
 |0=>by simp[QP]
 |i+1=>by
  have:=NV l i;unfold QP
  split
  ·rw[List.length_append];simp only[List.length_cons,List.length_nil];omega
  ·exact this
theorem fw (l:List Int):vb (Tg l)≤1:=by
 have b1:=Xv l 16 9 (by omega);have b2:=Xv l 17 9 (by omega);exact FR _ _ (by omega) (by omega)
theorem VZ {w k:Int}(hw:-4≤w∧w≤4)(hk:0≤k∧k<6):-20≤w*k∧w*k≤20:=by
 rcases(show k=0∨k=1∨k=2∨k=3∨k=4∨k=5 by omega)with rfl |rfl |rfl |rfl |rfl |rfl <;> omega
theorem R5 (l:List Int)(i:Nat):vb (Lo l i)≤1:=by
 have b:=Xv l i 6 (by omega);obtain⟨h1,h2⟩:=kR i;have m1:=VZ h1 b;have m2:=VZ h2 b;exact Nat.max_le.2 ⟨Fm _ _ (by omega) (by omega),Fm _ _ (by omega) (by omega)⟩
theorem Gx (l:List Int):∀i,∀x∈QP l i,vb x≤3
 |0,x,h=>by simp[QP]at h
 |i+1,x,h=>by
  unfold QP at h
  split at h
  ·rcases List.mem_append.1 h with h |h
   ·exact Gx l i x h
   ·rw[List.mem_singleton.1 h]
    have:=ZD (Tg l) (Lo l i);have:=fw l;have:=R5 l i;omega
  ·exact Gx l i x h
theorem AM {L:List V2}{k:Nat}(h:∀ x∈L,vb x≤k)(h1:1≤k):QN L k:=fun i=>by
 by_cases hi:i<L.length
 ·exact h _ (Qp _ hi)
 ·rw[List.getD_eq_getElem?_getD,List.getElem?_eq_none (by omega)]
  exact Nat.le_trans (show vb v0≤1 by decide +kernel) h1
theorem M6 (l:List Int){i:Nat}(h:12≤(QP l i).length):∀j,QP l (i+j)=QP l i
 |0=>rfl
 |j+1=>by
  have ih:=M6 l h j;show(if(QP l (i+j)).length<12∧0<Ab.atF l ((i+j:Nat):Int) 6∧Ab.atF l ((i+j:Nat):Int) 6<4 then QP l (i+j) ++ [(Tg l).add (Lo l (i+j))]else QP l (i+j))=_;rw[ih,if_neg (by omega)]
theorem be {H:List AO}{id ver n:Nat}(L:List V2)(ho:H[id]?=some (.row ver (L.length*8) (XD vC 8 v0 L))) (hn:n=L.length):Zs H (.osl id ver 8 0 n) (Ql L):=by
 subst hn;rw[X7];refine Z2 (.inl ho) (by omega) (fun h=>by rw[h]) fun j hj=>?_
 rw[Nat.zero_add];exact(Xe (by simp[vC,Xc,X5]) _).sees _
def NU (l:List Int):List V2 :=
 if ZV (QP l 16)then QP l 16 else [Tg l,(Tg l).add (pI 4 0),(Tg l).add (pI (1+Ab.atF l 0 2) 3),(Tg l).add (pI 1 1)]
theorem UB (l:List Int)(hl:DL l):Fn Tryz.prog 54 [X8 l] (Ql (NU l)):=by
 have k0:=fw l;have b1:=Xv l 16 9 (by omega);have b2:=Xv l 17 9 (by omega);have c1:=QD l 16 9 hl (by omega);have c2:=QD l 17 9 hl (by omega);have c3:=Kh (Ab.atF l 16 9-4) (Ab.atF l 17 9-4) ⟨by omega,by omega⟩ ⟨by omega,by omega⟩;rw[show(⟨((Ab.atF l 16 9-4:Int):Rat),((Ab.atF l 17 9-4:Int):Rat)⟩:V2)=Tg l from rfl]at c3;have bw:∀q,Jq q (.sl 16 32 (Xf kQ) false)=True:=fun q=>eq_true (X6 (J3 fun j _=>Xe (by simp[kQ,wayL,Xb]) j))
 have bi:∀q,Jq q (X8 l)=True:=fun q=>eq_true (X6 (Xc l))
 have bb:∀q,Qa q (.con 0 8 (Xf (vC (Tg l))))=True:=fun q=>eq_true fun j _=>X6 (Xe (by simp[vC,Xc,X5]) j)
 have bp:∀q,Jq q (.ptr 8 (Xf (vC (Tg l))) 0)=True:=fun q=>eq_true (X6 (XI fun j _=>Xe (by simp[vC,Xc,X5]) j))
 have br:∀q i n L,Qa q (.row i n (XD vC 8 v0 L))=True:=fun q i n L=>eq_true fun j _=>X6 (Xe (by simp[vC,Xc,X5]) _)
 obtain⟨R,hR⟩:∃R,R=NU l:=⟨_,rfl⟩
 have sR:=Xq R;rw[←hR];unfold NU at hR;generalize hB:Tg l=B at *;refine Fn.intro (fn:=Tryz.f54) Tryz.call54 Tryz.func54 rfl mixed 8 [] [] [] (by kernel_rfl) (Nat.le_of_ble_eq_true rfl) (fun a ha=>List.mem_singleton.1 ha▸Xc l) (Xk ?_);simp(disch:=omega)only[AS.start,Xl,↓Xd,wG,seval];refine X0 c1 ⟨by rw[Xl];exact Weak.rfl' _,Weak.rfl' _,Weak.rfl' _,trivial⟩ ?_;simp(disch:=omega)only[↓Xd,wG,seval];refine X0 c2 ⟨by rw[Xl];exact Weak.rfl' _,Weak.rfl' _,Weak.rfl' _,trivial⟩ ?_;simp(disch:=omega)only[↓Xd,wG,seval];refine X0 c3 (X2 _) ?_;simp(disch:=omega)only[vA,vC,qC,↓Xd,wG,seval];refine Xj (fun i:Nat=>⟨8,[],[X8 l,.any,.any,.sl 16 32 (Xf kQ) true,.ref 0 0 0,.osl 1 (QP l i).length 8 0 (QP l i).length,I i,.any],[],[.row 0 8 (Xf (vC B)),.row (QP l i).length ((QP l i).length*8) (XD vC 8 v0 (QP l i))]⟩) (fun i=>i≤16) (fun i=>16-i) 0 (by omega)
  (Sub.trans (Kk 5 8 (XD vC 8 v0 []) rfl) (Xi rfl ⟨.inr (Xl l).symm,.inl rfl,.inl rfl,.inr rfl,.inr rfl,.inr rfl,.inr rfl,.inl rfl,trivial⟩ trivial rfl)) ?_
 intro i hi next
 have w1:=wj i (by omega);have hlen:=NV l i;have fin:∀ (s:AS),s.get 5=.osl 1 (QP l i).length 8 0 (QP l i).length→True:=fun _ _=>trivial
 by_cases hgo:i<16∧(QP l i).length<12
 ·obtain⟨hi2,hlt⟩:=hgo
  have c4:=QD l i 6 hl (by omega);have bk:=Xv l i 6 (by omega);have hs:=show QP l (i+1)=if(QP l i).length<12∧0<Ab.atF l i 6∧Ab.atF l i 6<4 then QP l i ++ [(Tg l).add (Lo l i)]else QP l i from rfl
  have hk1:=R5 l i;have hco:=show Lo l i=⟨Rat.divInt ((wayL.getD i (0,0)).1*Ab.atF l i 6) 2,Rat.divInt ((wayL.getD i (0,0)).2*Ab.atF l i 6) 2⟩from rfl;have nx:=next (i+1)
  rw[hB]at hs;generalize Lo l i=q at *;generalize Ab.atF l i 6=k at *;obtain⟨hx,hy⟩:=pA hi2;obtain⟨bx,by'⟩:=kR i;generalize wayL.getD i (0,0)=w at *;have m1:=VZ bx bk;have m2:=VZ by' bk;generalize hP:QP l i=P at *;have w2:IntKind.i64.wrap (w.1*k)=w.1*k:=by rw[IntKind.wrap_i64];omega
  have w3:IntKind.i64.wrap (w.2*k)=w.2*k:=by rw[IntKind.wrap_i64];omega
  have c5:=XP (w.1*k) 2 ⟨by omega,by omega⟩ ⟨by omega,by omega⟩;have c6:=XP (w.2*k) 2 ⟨by omega,by omega⟩ ⟨by omega,by omega⟩;have c7:=Je B q (by unfold vm;omega) (by unfold vm;omega);refine Xk ?_;simp(disch:=omega)only[↓Xd,wG,seval];refine X0 c4 (X2 _) ?_;by_cases hk:0<k∧k<4
  ·rw[if_pos ⟨hlt,hk⟩]at hs
   have hap:=Az vC 8 v0 P (B.add q) (by omega);rw[←hs]at hap;have hl2:(QP l (i+1)).length=P.length+1:=by rw[hs];simp
   rw[hl2]at nx;simp(disch:=omega)only[hk.1,hk.2,hx,hy,w2,w3,vC,qC,↓Xd,wG,seval];refine X0 c5 (X2 _) ?_;simp(disch:=omega)only[hx,hy,w2,w3,↓Xd,wG,seval];refine X0 c6 (X2 _) ?_;simp(disch:=omega)only[↓Xd,wG,seval];refine X0 c7 ⟨Weak.rfl' _,by rw[hco];exact Weak.rfl' _,trivial⟩ ?_;simp(disch:=omega)only[vA,vC,qC,↓Xd,wG,seval];exact⟨fun j hj=>kE (B.add q) j hj,nx _ (by omega) (by omega) (BA (by simp[Xm,I,Xl]) (by rw[←hap];rfl))⟩
  ·rw[if_neg (fun h=>hk h.2)]at hs
   rw[hs]at nx;by_cases hk0:0<k
   ·simp(disch:=omega)only[hk0,show ¬k<4 by omega,↓Xd,wG,seval]
    exact nx _ (by omega) (by omega) (BA (by simp[Xm,I,Xl]) rfl)
   ·simp(disch:=omega)only[hk0,↓Xd,wG,seval]
    exact nx _ (by omega) (by omega) (BA (by simp[Xm,I,Xl]) rfl)
 ·have hp:QP l 16=QP l i:=by
   by_cases h16:i=16
   ·rw[h16]
   ·have:=M6 l (i:=i) (by omega) (16-i)
    rwa[show i+(16-i)=16 by omega]at this
  rw[hp]at hR;have cv:=GE (QP l i) (AM (fun x hx=>Nat.le_trans (Gx l i x hx) (by omega)) (by omega)) (by omega);have b0:=Xv l 0 2 (by omega);have c8:=Kh 4 0 ⟨by omega,by omega⟩ ⟨by omega,by omega⟩;have c9:=QD l 0 2 hl (by omega);have c10:=Kh (1+Ab.atF l 0 2) 3 ⟨by omega,by omega⟩ ⟨by omega,by omega⟩;have c11:=Kh 1 1 ⟨by omega,by omega⟩ ⟨by omega,by omega⟩;have v1:=FR 4 0 (by omega) (by omega);have v2:=FR (1+Ab.atF l 0 2) 3 (by omega) (by omega);have v3:=FR 1 1 (by omega) (by omega);change Fn _ _ _ (vA (pI 4 0))at c8;change Fn _ _ _ (vA (pI (1+Ab.atF l 0 2) 3))at c10;change Fn _ _ _ (vA (pI 1 1))at c11;have c12:=Je B (pI 4 0) (by unfold vm;omega) (by unfold vm;omega);have c13:=Je B (pI (1+Ab.atF l 0 2) 3) (by unfold vm;omega) (by unfold vm;omega);have c14:=Je B (pI 1 1) (by unfold vm;omega) (by unfold vm;omega);have sv:∀H:List AO,H[1]?=some (.row (QP l i).length ((QP l i).length*8) (XD vC 8 v0 (QP l i)))→Zs H (.osl 1 (QP l i).length 8 0 (QP l i).length) (Ql (QP l i)):=fun H h=>be _ h rfl
  generalize hP:QP l i=P at *;generalize Ab.atF l 0 2=k at *;generalize pI 4 0=a1 at *;generalize pI (1+k) 3=a2 at *;generalize pI 1 1=a3 at *;have h12:i<16→¬P.length<12:=fun h h2=>hgo ⟨h,h2⟩
  refine Xk ?_;by_cases h16:i<16
  all_goals
   simp(disch:=omega)only[h16,h12,↓Xd,wG,seval];refine Nl cv rfl ⟨sv _ rfl,trivial⟩ (YQ _) ?_;simp(disch:=omega)only[↓Xd,wG,seval];refine⟨fun h=>C4 rfl (by rw[hR,if_pos h];exact sv _ rfl),fun h=>?_⟩;rw[if_neg h]at hR;refine X0 c8 (X2 _) ?_;simp(disch:=omega)only[vA,vC,qC,↓Xd,wG,seval];refine X0 c12 (X2 _) ?_;simp(disch:=omega)only[vA,vC,qC,↓Xd,wG,seval];refine X0 c9 ⟨by rw[Xl];exact Weak.rfl' _,Weak.rfl' _,Weak.rfl' _,trivial⟩ ?_;simp(disch:=omega)only[↓Xd,wG,seval];refine X0 c10 (X2 _) ?_;simp(disch:=omega)only[vA,vC,qC,↓Xd,wG,seval];refine X0 c13 (X2 _) ?_;simp(disch:=omega)only[vA,vC,qC,↓Xd,wG,seval];refine X0 c11 (X2 _) ?_;simp(disch:=omega)only[vA,vC,qC,↓Xd,wG,seval];refine X0 c14 (X2 _) ?_;simp(disch:=omega)only[vA,vC,qC,↓Xd,wG,seval];exact C4 rfl (XF (Xq _) (by rw[hR];exact JD vC 8 v0 (fun _=>rfl) [B,B.add a1,B.add a2,B.add a3] _ _ _ _ rfl rfl rfl))
def P3 (a b:V2):V2:=(a.add b).scale (Rat.divInt 1 2)
theorem iR (a b:V2):vb (P3 a b)≤vb a+vb b+2:=by
 have h1:=ZD a b;have h2:=EA (a.add b) (Rat.divInt 1 2);have h3:=Fm 1 2 (by omega) (by omega);unfold P3;omega
theorem EQ (a b:V2)(ha:vb a≤100000)(hb:vb b≤100000):Fn Tryz.prog 57 [vA a,vA b] (vA (P3 a b)):=by
 have h1:=ZD a b;have h3:=Fm 1 2 (by omega) (by omega);have c1:=Je a b (by unfold vm;omega) (by unfold vm;omega);have c2:=XP 1 2 ⟨by omega,by omega⟩ ⟨by omega,by omega⟩;have c3:=Ap (a.add b) (Rat.divInt 1 2) (by unfold vm;omega) (by unfold vm;omega);rw[show(a.add b).scale (Rat.divInt 1 2)=P3 a b from rfl]at c3;obtain⟨R,hR⟩:∃R,R=vA (P3 a b):=⟨_,rfl⟩
 have sR:Settled R:=hR▸Xt _;rw[←hR]at c3;rw[←hR];refine Fn.intro (fn:=Tryz.f57) Tryz.call57 Tryz.func57 rfl mixed 5 [] [] [] (by kernel_rfl) (Nat.le_of_ble_eq_true rfl) (JY (Xt a) (Xt b)) (Xk ?_);simp(disch:=omega)only[AS.start,vA,vC,↓Xd,wG,seval];refine X0 c1 (X2 _) ?_;simp(disch:=omega)only[vA,vC,↓Xd,wG,seval];refine X0 c2 (X2 _) ?_;simp(disch:=omega)only[qA,qC,↓Xd,wG,seval];refine X0 c3 (X2 _) ?_;simp(disch:=omega)only[hR,vA,vC,↓Xd,wG,seval];exact A0 rfl Jm rfl rfl rfl sR (hR.trans rfl)
theorem jo (l:List Int)(a:Int)(hl:DL l)(ha:0≤a∧a<900):Fn Tryz.prog 56 [X8 l,I a] (oq (Cr (Ab.atF l a 64)) (Bn l (a+1))):=by
 have b1:=Xv l a 64 (by omega);have c1:=QD l a 64 hl (by omega);have c2:=oX (Ab.atF l a 64) ⟨by omega,by omega⟩;have c3:=Wy l (a+1) hl (by omega);obtain⟨R,hR⟩:∃R,R=oq (Cr (Ab.atF l a 64)) (Bn l (a+1)):=⟨_,rfl⟩
 have sR:Settled R:=hR▸Ic _ _;rw[←hR];generalize Cr (Ab.atF l a 64)=t at *;generalize Bn l (a+1)=c at *;generalize Ab.atF l a 64=k at *;refine Fn.intro (fn:=Tryz.f56) Tryz.call56 Tryz.func56 rfl mixed 5 [] [] [] (by kernel_rfl) (Nat.le_of_ble_eq_true rfl) (JY (Xc l) (Xb a)) (Xk ?_);simp(disch:=omega)only[AS.start,↓Xd,wG,seval];refine X0 c1 (X2 _) ?_;simp(disch:=omega)only[↓Xd,wG,seval];refine X0 c2 (X2 _) ?_;simp(disch:=omega)only[vA,vC,↓Xd,wG,seval];refine X0 c3 (X2 _) ?_;simp(disch:=omega)only[vA,vC,↓Xd,wG,seval];exact Bl rfl iE rfl rfl rfl (XF sR (by rw[hR];exact Weak.rfl' _))
def Sn (l:List Int):Int:=1+Ab.atF l 0 6
def Sl (l:List Int):Int:=1+Ab.atF l 1 6
def Sm (l:List Int):Int:=Ab.atF l 2 5-2
def N5 (k w h s:Int):List V2 :=
 if k=1 then [v0,pI (3*w) 0,pI (3*w) h,pI w h,pI w (3*h),pI 0 (3*h)]
 else if k=2 then [v0,pI w (-1),pI (w+2) h,pI w (2*h+1),pI 0 (2*h),pI (-2) h]
 else [v0,pI w 0,pI (w+s) h,pI s h]
def N6 (l:List Int):List V2 :=
 if Ab.atF l 3 5=0 then NU l else DU (Cr (Ab.atF l 4 64)) (Bn l 5) (N5 (Ab.atF l 3 5) (Sn l) (Sl l) (Sm l))
def Nb (L:List V2):Prop:=(3≤L.length∧L.length≤12)∧QN L 7∧∀i,i<L.length→L.getD i v0≠Kx L i
theorem Iz {L:List V2}{i:Nat}(h:i+1=L.length):Kx L i=L.getD 0 v0:=by unfold Kx;rw[h,Nat.mod_self]
theorem Zz {a b c d:Int}:pI a b=pI c d↔a=c∧b=d:=by
 unfold pI;simp only[V2.mk.injEq,Rat.intCast_inj]
theorem Oc:v0=pI 0 0:=rfl
theorem Wo {k w h s:Int}(hw:1≤w∧w≤6)(hh:1≤h∧h≤6)(hs:-2≤s∧s≤2):(4≤(N5 k w h s).length∧(N5 k w h s).length≤6)∧(∀x∈N5 k w h s,vb x≤1)∧∀i,i<(N5 k w h s).length→(N5 k w h s).getD i v0≠Kx (N5 k w h s) i:=by
 have z:vb v0≤1:=by decide +kernel
 unfold N5
 split
 ·refine⟨by simp,?_,?_⟩
  ·simp only[List.mem_cons,List.not_mem_nil,or_false]
   rintro x (rfl |rfl |rfl |rfl |rfl |rfl)
   ·exact z
   all_goals exact FR _ _ (by omega) (by omega)
  ·intro i hi
   match i,hi with
   |0,_=>show v0≠pI (3*w) 0;rw[Oc,Ne,Zz];omega
   |1,_=>show pI (3*w) 0≠pI (3*w) h;rw[Ne,Zz];omega
   |2,_=>show pI (3*w) h≠pI w h;rw[Ne,Zz];omega
   |3,_=>show pI w h≠pI w (3*h);rw[Ne,Zz];omega
   |4,_=>show pI w (3*h)≠pI 0 (3*h);rw[Ne,Zz];omega
   |5,_=>rw[Iz rfl];show pI 0 (3*h)≠v0;rw[Oc,Ne,Zz];omega
   |i+6,h=>simp at h;omega
 ·split
  ·refine⟨by simp,?_,?_⟩
   ·simp only[List.mem_cons,List.not_mem_nil,or_false]
    rintro x (rfl |rfl |rfl |rfl |rfl |rfl)
    ·exact z
    all_goals exact FR _ _ (by omega) (by omega)
   ·intro i hi
    match i,hi with
    |0,_=>show v0≠pI w (-1);rw[Oc,Ne,Zz];omega
    |1,_=>show pI w (-1)≠pI (w+2) h;rw[Ne,Zz];omega
    |2,_=>show pI (w+2) h≠pI w (2*h+1);rw[Ne,Zz];omega
    |3,_=>show pI w (2*h+1)≠pI 0 (2*h);rw[Ne,Zz];omega
    |4,_=>show pI 0 (2*h)≠pI (-2) h;rw[Ne,Zz];omega
    |5,_=>rw[Iz rfl];show pI (-2) h≠v0;rw[Oc,Ne,Zz];omega
    |i+6,h=>simp at h;omega
  ·refine⟨by simp,?_,?_⟩
   ·simp only[List.mem_cons,List.not_mem_nil,or_false]
    rintro x (rfl |rfl |rfl |rfl)
    ·exact z
    all_goals exact FR _ _ (by omega) (by omega)
   ·intro i hi
    match i,hi with
    |0,_=>show v0≠pI w 0;rw[Oc,Ne,Zz];omega
    |1,_=>show pI w 0≠pI (w+s) h;rw[Ne,Zz];omega
    |2,_=>show pI (w+s) h≠pI s h;rw[Ne,Zz];omega
    |3,_=>rw[Iz rfl];show pI s h≠v0;rw[Oc,Ne,Zz];omega
    |i+4,h=>simp at h;omega
theorem oy {t c a b:V2}(ht:Q8 t t=1)(h:put t c a=put t c b):a=b:=by
 unfold put qB V2.add at h;simp only[V2.mk.injEq]at h;obtain⟨h1,h2⟩:=h;unfold Q8 at ht;cases a;cases b;simp only[V2.mk.injEq]at *;constructor <;> grind
theorem sY (l:List Int):Nb (N6 l):=by
 unfold N6
 split
 ·unfold NU
  have hb:=fw l;have b0:=Xv l 0 2 (by omega)
  split
  ·rename_i h
   refine⟨h.1,AM (fun x hx=>Nat.le_trans (Gx l 16 x hx) (by omega)) (by omega),fun i hi=>?_⟩;have:=IH (h.2.1 i hi).1;unfold Ab.N.atF at this;rw[Nat.mod_eq_of_lt hi]at this;exact this
  ·have a1:=ZD (Tg l) (pI 4 0)
   have a2:=ZD (Tg l) (pI (1+Ab.atF l 0 2) 3);have a3:=ZD (Tg l) (pI 1 1);have v1:=FR 4 0 (by omega) (by omega);have v2:=FR (1+Ab.atF l 0 2) 3 (by omega) (by omega);have v3:=FR 1 1 (by omega) (by omega);refine⟨by simp,AM ?_ (by omega),?_⟩
   ·simp only[List.mem_cons,List.not_mem_nil,or_false]
    rintro x (rfl |rfl |rfl |rfl) <;> omega
   ·have ne:∀ {x y:Int} {a:V2},¬ (x=0∧y=0)→a≠a.add (pI x y):=fun {x y a} h e=>h (by
     have e1:a.x=a.x+(x:Rat):=congrArg V2.x e;have e2:a.y=a.y+(y:Rat):=congrArg V2.y e;have h1:(x:Rat)=((0:Int):Rat):=by grind
     have h2:(y:Rat)=((0:Int):Rat):=by grind
     exact⟨Rat.intCast_inj.1 h1,Rat.intCast_inj.1 h2⟩)
    have ne2:∀ {x y u v:Int} {a:V2},¬ (x=u∧y=v)→a.add (pI x y)≠a.add (pI u v):=fun {x y u v a} h e=>h (by
     have e1:a.x+(x:Rat)=a.x+(u:Rat):=congrArg V2.x e;have e2:a.y+(y:Rat)=a.y+(v:Rat):=congrArg V2.y e;exact⟨Rat.intCast_inj.1 (by grind),Rat.intCast_inj.1 (by grind)⟩)
    intro i hi
    match i,hi with
    |0,_=>exact ne (x:=4) (y:=0) (by omega)
    |1,_=>exact ne2 (x:=4) (y:=0) (u:=1+Ab.atF l 0 2) (v:=3) (by omega)
    |2,_=>exact ne2 (x:=1+Ab.atF l 0 2) (y:=3) (u:=1) (v:=1) (by omega)
    |3,_=>rw[Iz rfl];exact(ne (x:=1) (y:=1) (by omega)).symm
    |i+4,h=>simp at h;omega
 ·have b1:=Xv l 0 6 (by omega)
  have b2:=Xv l 1 6 (by omega);have b3:=Xv l 2 5 (by omega);obtain⟨h1,h2,h3⟩:=Wo (k:=Ab.atF l 3 5) (w:=Sn l) (h:=Sl l) (s:=Sm l) (by unfold Sn;omega) (by unfold Sl;omega) (by unfold Sm;omega);obtain⟨t1,t2⟩:=Wx (Ab.atF l 4 64);have c1:=II l 5;generalize N5 (Ab.atF l 3 5) (Sn l) (Sl l) (Sm l)=C at *;generalize Cr (Ab.atF l 4 64)=t at *;generalize Bn l 5=c at *;have hm:∀i,i<C.length→(DU t c C).getD i v0=put t c (C.getD i v0):=fun i hi=>by
   unfold DU;rw[List.getD_eq_getElem?_getD,List.getElem?_map,List.getD_eq_getElem?_getD,List.getElem?_eq_getElem hi];rfl
  have hl:(DU t c C).length=C.length:=by simp[DU]
  refine⟨by rw[hl];omega,AM (fun x hx=>?_) (by omega),fun i hi=>?_⟩
  ·unfold DU at hx
   obtain⟨y,hy,rfl⟩:=List.mem_map.1 hx;have:=h2 y hy;have:=tK t c y;omega
  ·rw[hl]at hi
   unfold Kx;rw[hl,hm i hi,hm _ (Nat.mod_lt _ (by omega))];exact fun e=>h3 i hi (oy t2 e)
theorem oE (l:List Int)(hl:DL l):Fn Tryz.prog 11 [X8 l] (Ql (N6 l)):=by
 have c0:=UB l hl;have b1:=Xv l 0 6 (by omega);have b2:=Xv l 1 6 (by omega);have b3:=Xv l 2 5 (by omega);have b4:=Xv l 3 5 (by omega);have c1:=QD l 0 6 hl (by omega);have c2:=QD l 1 6 hl (by omega);have c3:=QD l 2 5 hl (by omega);have c4:=QD l 3 5 hl (by omega);have c5:=jo l 4 hl (by omega);obtain⟨t1,t2⟩:=Wx (Ab.atF l 4 64);have s1:=II l 5;have hC:=Wo (k:=Ab.atF l 3 5) (w:=Sn l) (h:=Sl l) (s:=Sm l) (by unfold Sn;omega) (by unfold Sl;omega) (by unfold Sm;omega);have c6:=Sf (Cr (Ab.atF l 4 64)) (Bn l 5) (N5 (Ab.atF l 3 5) (Sn l) (Sl l) (Sm l)) 1 (AM hC.2.1 (by omega)) (by omega) (by omega) (by omega) (by omega);obtain⟨R,hR⟩:∃R,R=N6 l:=⟨_,rfl⟩
 have sR:=Xq R;rw[←hR];unfold N6 at hR;rw[show(4:Int)+1=5 from rfl]at c5;unfold Sn Sl Sm at *;generalize Cr (Ab.atF l 4 64)=t at *;generalize Bn l 5=c at *;generalize NU l=G at *;generalize Ab.atF l 0 6=w at *;generalize Ab.atF l 1 6=h at *;generalize Ab.atF l 2 5=s at *;generalize Ab.atF l 3 5=k at *;refine Fn.intro (fn:=Tryz.f11) Tryz.call11 Tryz.func11 rfl mixed 7 [29] [] [] (by kernel_rfl) (Nat.le_of_ble_eq_true rfl) (fun a ha=>List.mem_singleton.1 ha▸Xc l) (Xk ?_);simp(disch:=omega)only[AS.start,↓Xd,wG,seval];refine X0 c1 (X2 _) ?_;simp(disch:=omega)only[↓Xd,wG,seval];refine X0 c2 (X2 _) ?_;simp(disch:=omega)only[↓Xd,wG,seval];have p:∀x y:Int,-100≤x∧x≤100→-100≤y∧y≤100→Fn Tryz.prog 53 [I x,I y] (vA (pI x y)):=fun x y hx hy=>Kh x y ⟨by omega,by omega⟩ ⟨by omega,by omega⟩
 have z:=Kd false;have wl:∀ (L:List V2) (n m:Nat) (F:List AV),F=[AV.bool false,.sl 0 0 (fun _=>.any) false,.bool false,.sl 0 0 (fun _=>.any) false,.bool false,.sl 0 0 (fun _=>.any) false,.bool false,.sl 0 0 (fun _=>.any) false] ++ L.flatMap vC→n=L.length+1→m=(L.length+1)*8→∀tt,Weak (.sl n m (Xf F) tt) (Ql (v0 :: L)):=fun L n m F hF hn hm tt=>by
  subst hF hn hm;have hL:WeakL ([AV.bool false,.sl 0 0 (fun _=>.any) false,.bool false,.sl 0 0 (fun _=>.any) false,.bool false,.sl 0 0 (fun _=>.any) false,.bool false,.sl 0 0 (fun _=>.any) false] ++ L.flatMap vC) ((v0 :: L).flatMap vC):=⟨z.1,z.2.1,z.2.2.1,z.2.2.2.1,z.1,z.2.1,z.2.2.1,z.2.2.2.1,X2 _⟩
  exact JK rfl (Nat.le_refl _) fun j hj=>by
   rw[←Ho vC 8 v0 (fun _=>rfl) (v0 :: L) j hj];exact F8 hL j
 refine X0 c3 (X2 _) ?_;simp(disch:=omega)only[↓Xd,wG,seval];refine X0 (p (1+w) 0 (by omega) (by omega)) (X2 _) ?_;simp(disch:=omega)only[vA,vC,↓Xd,wG,seval];refine X0 (p (1+w+(s-2)) (1+h) (by omega) (by omega)) (X2 _) ?_;simp(disch:=omega)only[vA,vC,↓Xd,wG,seval];refine X0 (p (s-2) (1+h) (by omega) (by omega)) (X2 _) ?_;simp(disch:=omega)only[vA,vC,↓Xd,wG,seval];refine X0 c4 (X2 _) ?_;rcases(show k=0∨k=1∨k=2∨k=3∨k=4 by omega)with rfl |rfl |rfl |rfl |rfl
 all_goals simp(disch:=omega)only[Int.reduceEq,↓Xd,wG,seval]
 ·refine X0 c0 ⟨by rw[Xl];exact Weak.rfl' _,trivial⟩ ?_
  simp(disch:=omega)only[X7,↓Xd,wG,seval];exact Xo rfl rfl sR (by rw[hR,X7];rfl)
 ·refine X0 (p (3*(1+w)) 0 (by omega) (by omega)) (X2 _) ?_
  simp(disch:=omega)only[vA,vC,↓Xd,wG,seval];refine X0 (p (3*(1+w)) (1+h) (by omega) (by omega)) (X2 _) ?_;simp(disch:=omega)only[vA,vC,↓Xd,wG,seval];refine X0 (p (1+w) (1+h) (by omega) (by omega)) (X2 _) ?_;simp(disch:=omega)only[vA,vC,↓Xd,wG,seval];refine X0 (p (1+w) (3*(1+h)) (by omega) (by omega)) (X2 _) ?_;simp(disch:=omega)only[vA,vC,↓Xd,wG,seval];refine X0 (p 0 (3*(1+h)) (by omega) (by omega)) (X2 _) ?_;simp(disch:=omega)only[vA,vC,↓Xd,wG,seval];refine X0 c5 ⟨by rw[Xl];exact Weak.rfl' _,Weak.rfl' _,trivial⟩ ?_;simp(disch:=omega)only[oq,Wb,↓Xd,wG,seval];refine X0 c6 ⟨Weak.rfl' _,wl [pI (3*(1+w)) 0,pI (3*(1+w)) (1+h),pI (1+w) (1+h),pI (1+w) (3*(1+h)),pI 0 (3*(1+h))] _ _ _ rfl rfl rfl _,trivial⟩ ?_;simp(disch:=omega)only[X7,↓Xd,wG,seval];exact Xo rfl rfl sR (by rw[hR,X7];rfl)
 ·refine X0 (p (1+w) (-1) (by omega) (by omega)) (X2 _) ?_
  simp(disch:=omega)only[vA,vC,↓Xd,wG,seval];refine X0 (p (1+w+2) (1+h) (by omega) (by omega)) (X2 _) ?_;simp(disch:=omega)only[vA,vC,↓Xd,wG,seval];refine X0 (p (1+w) (2*(1+h)+1) (by omega) (by omega)) (X2 _) ?_;simp(disch:=omega)only[vA,vC,↓Xd,wG,seval];refine X0 (p 0 (2*(1+h)) (by omega) (by omega)) (X2 _) ?_;simp(disch:=omega)only[vA,vC,↓Xd,wG,seval];refine X0 (p (-2) (1+h) (by omega) (by omega)) (X2 _) ?_;simp(disch:=omega)only[vA,vC,↓Xd,wG,seval];refine X0 c5 ⟨by rw[Xl];exact Weak.rfl' _,Weak.rfl' _,trivial⟩ ?_;simp(disch:=omega)only[oq,Wb,↓Xd,wG,seval];refine X0 c6 ⟨Weak.rfl' _,wl [pI (1+w) (-1),pI (1+w+2) (1+h),pI (1+w) (2*(1+h)+1),pI 0 (2*(1+h)),pI (-2) (1+h)] _ _ _ rfl rfl rfl _,trivial⟩ ?_;simp(disch:=omega)only[X7,↓Xd,wG,seval];exact Xo rfl rfl sR (by rw[hR,X7];rfl)
 ·refine X0 c5 ⟨by rw[Xl];exact Weak.rfl' _,Weak.rfl' _,trivial⟩ ?_
  simp(disch:=omega)only[oq,Wb,↓Xd,wG,seval];refine X0 c6 ⟨Weak.rfl' _,wl [pI (1+w) 0,pI (1+w+(s-2)) (1+h),pI (s-2) (1+h)] _ _ _ rfl rfl rfl _,trivial⟩ ?_;simp(disch:=omega)only[X7,↓Xd,wG,seval];exact Xo rfl rfl sR (by rw[hR,X7];rfl)
 ·refine X0 c5 ⟨by rw[Xl];exact Weak.rfl' _,Weak.rfl' _,trivial⟩ ?_
  simp(disch:=omega)only[oq,Wb,↓Xd,wG,seval];refine X0 c6 ⟨Weak.rfl' _,wl [pI (1+w) 0,pI (1+w+(s-2)) (1+h),pI (s-2) (1+h)] _ _ _ rfl rfl rfl _,trivial⟩ ?_;simp(disch:=omega)only[X7,↓Xd,wG,seval];exact Xo rfl rfl sR (by rw[hR,X7];rfl)
def I6 (L:List V2)(i:Nat):Rat:=Xp ((L.getD i v0).sub (L.getD 0 v0)) ((L.getD (i+1) v0).sub (L.getD 0 v0))*Rat.divInt 1 6
def SV (L:List V2)(i:Nat):V2:=((L.getD 0 v0).add (L.getD i v0)).add (L.getD (i+1) v0)
def DN (L:List V2):Nat→V2
 |0=>v0
 |k+1=>(DN L k).add ((SV L (k+1)).scale (I6 L (k+1)))
def Fh (L:List V2):V2:=if KT L=0 then v0 else(DN L (L.length-2)).scale (Rat.divInt 1 1/KT L)
theorem TY (L:List V2)(h:QN L 7)(i:Nat):vb ((L.getD i v0).sub (L.getD 0 v0))≤15∧vb ((L.getD 0 v0).add (L.getD i v0))≤15∧vb (SV L i)≤23∧qb (I6 L i)≤62:=by
 have h0:=h 0;have h1:=h i;have h2:=h (i+1);have s1:=QO (L.getD i v0) (L.getD 0 v0);have s2:=QO (L.getD (i+1) v0) (L.getD 0 v0);have a1:=ZD (L.getD 0 v0) (L.getD i v0);have a2:=ZD ((L.getD 0 v0).add (L.getD i v0)) (L.getD (i+1) v0);have c1:=JT ((L.getD i v0).sub (L.getD 0 v0)) ((L.getD (i+1) v0).sub (L.getD 0 v0));have m1:=Qk (Xp ((L.getD i v0).sub (L.getD 0 v0)) ((L.getD (i+1) v0).sub (L.getD 0 v0))) (Rat.divInt 1 6);have q6:=Fm 1 6 (by omega) (by omega);refine⟨by omega,by omega,by unfold SV;omega,by unfold I6;omega⟩
theorem It (L:List V2)(h:QN L 7):∀k,vb (DN L k)≤86*k+1
 |0=>by show vb v0≤1;decide +kernel
 |k+1=>by
  have i1:=It L h k;obtain⟨_,_,h3,h4⟩:=TY L h (k+1);have s:=EA (SV L (k+1)) (I6 L (k+1));have a:=ZD (DN L k) ((SV L (k+1)).scale (I6 L (k+1)));show vb ((DN L k).add ((SV L (k+1)).scale (I6 L (k+1))))≤_;omega
theorem OK (L:List V2)(h:QN L 7)(hl:L.length≤12):vb (Fh L)≤1230∧qb (KT L)≤400:=by
 have a1:=FX L 7 h L.length;have a2:=Qk (Au L L.length) (Rat.divInt 1 2);have q2:=Fm 1 2 (by omega) (by omega);have q1:=Fm 1 1 (by omega) (by omega);have a3:qb (KT L)≤362:=by unfold KT;omega
 refine⟨?_,by omega⟩;unfold Fh
 split
 ·exact Nat.le_trans (show vb v0≤1 by decide +kernel) (by omega)
 ·have k1:=It L h (L.length-2)
  have k2:=Ei (Rat.divInt 1 1) (KT L);have k3:=EA (DN L (L.length-2)) (Rat.divInt 1 1/KT L);omega
theorem kS (t:Bool):WeakL [.bool false,.sl 0 0 (fun _=>.any) t,.bool false,.sl 0 0 (fun _=>.any) t,.bool false,.sl 0 0 (fun _=>.any) t,.bool false,.sl 0 0 (fun _=>.any) t] (vC v0):=by
 have w:=Kd t;exact⟨w.1,w.2.1,w.2.2.1,w.2.2.2.1,w.1,w.2.1,w.2.2.1,w.2.2.2.1,trivial⟩
theorem Yv (L:List V2)(h:QN L 7)(hl:2≤L.length∧L.length≤12):Fn Tryz.prog 77 [Ql L] (vA (Fh L)):=by
 obtain⟨bc,ba⟩:=OK L h hl.2;have c1:=Mi L 7 h (by omega) (by omega);have c2:=JU (KT L) (by unfold rm;omega);obtain⟨R,hR⟩:∃R,R=vA (Fh L):=⟨_,rfl⟩
 have sR:Settled R:=hR▸Xt _;rw[←hR];unfold Fh at hR;have s1:=C8 (KT L);refine Fn.intro (fn:=Tryz.f77) Tryz.call77 Tryz.func77 rfl mixed 7 [] [8] [] (by kernel_rfl) (Nat.le_of_ble_eq_true rfl) (fun a ha=>List.mem_singleton.1 ha▸Xq L) (Xk ?_);simp(disch:=omega)only[AS.start,X7,↓Xd,wG,seval];refine X0 c1 ⟨by rw[X7];exact Weak.rfl' _,trivial⟩ ?_;simp(disch:=omega)only[qA,qC,↓Xd,wG,seval];refine X0 c2 (X2 _) ?_;simp(disch:=omega)only[C8,↓Xd,wG,seval];refine⟨fun h0=>?_,fun h0=>?_⟩
 ·exact Bl rfl Jm rfl rfl rfl (XF sR (by rw[hR,if_pos h0];exact DK _))
 rw[if_neg h0]at hR;have bq:∀q i n x,Qa q (.row i n (Xf (qC x)))=True:=fun q i n x=>eq_true (QX (QJ x))
 have bw:∀q i n x,Qa q (.row i n (Xf (vC x)))=True:=fun q i n x=>eq_true (QX (by simp[vC,Xc,X5]))
 have bz:∀q,Qa q (.row 0 8 (Xf [.bool false,.sl 0 0 (fun _=>.any) true,.bool false,.sl 0 0 (fun _=>.any) true,.bool false,.sl 0 0 (fun _=>.any) true,.bool false,.sl 0 0 (fun _=>.any) true]))=True:=fun q=>eq_true (QX (by simp[X5,JB]))
 have bv:∀q,Jq q (Ql L)=True:=fun q=>eq_true (X6 (Xq L))
 generalize KT L=A at *;refine Run.sub ?_ (Qo 2 (Xf (vC (DN L 0))) rfl (fun j hj=>Q3 (F8 (kS true) j)));refine Xj (fun k:Nat=>⟨7,[],[Ql L,.any,.ref 0 0 0,.ref 1 0 0,.ref 2 0 0,I (k+1:Nat),.any],[],[.row 0 8 (Xf [.bool false,.sl 0 0 (fun _=>.any) true,.bool false,.sl 0 0 (fun _=>.any) true,.bool false,.sl 0 0 (fun _=>.any) true,.bool false,.sl 0 0 (fun _=>.any) true]),.row 0 4 (Xf (qC A)),.row 0 8 (Xf (vC (DN L k)))]⟩) (fun k=>k≤L.length-2) (fun k=>L.length-k) 0 (by omega)
  (Xi rfl ⟨.inr (X7 L).symm,.inl rfl,.inr rfl,.inr rfl,.inr rfl,.inr rfl,.inl rfl,trivial⟩ trivial rfl) ?_
 intro k hk next
 have w1:=wj k (by omega);have w2:=wj (k+1) (by omega);obtain⟨h1,h2,h3,h4⟩:=TY L h (k+1);have h1b:=(TY L h (k+2)).1;by_cases hgo:k+2<L.length
 ·have nx:=next (k+1)
  have e0:DN L (k+1)=(DN L k).add ((SV L (k+1)).scale (I6 L (k+1))):=rfl;have e1:SV L (k+1)=((L.getD 0 v0).add (L.getD (k+1) v0)).add (L.getD (k+2) v0):=rfl;have e2:I6 L (k+1)=Xp ((L.getD (k+1) v0).sub (L.getD 0 v0)) ((L.getD (k+2) v0).sub (L.getD 0 v0))*Rat.divInt 1 6:=rfl;have v1:=vF L (k+1);have v2:=vF L (k+2);have vz:=vF L 0;rw[Nat.zero_mul]at vz;simp only[Nat.zero_add]at vz;have z0:=h 0;have z1:=h (k+1);have z2:=h (k+2);have g1:=It L h k;have q6:=Fm 1 6 (by omega) (by omega);rw[e1]at h3;rw[e2]at h4;rw[e0,e1,e2]at nx;generalize DN L k=C at *;generalize L.getD 0 v0=a at *;generalize L.getD (k+1) v0=b at *;generalize L.getD (k+2) v0=c at *;have f1:(k+1<L.length)=True:=eq_true (by omega);have f2:(k+2<L.length)=True:=eq_true (by omega);have f0:(0<L.length)=True:=eq_true (by omega);have qc:=JT (b.sub a) (c.sub a);have d1:=QM b a (by unfold rm;omega) (by unfold rm;omega);have d2:=QM c a (by unfold rm;omega) (by unfold rm;omega);have d3:=Ky (b.sub a) (c.sub a) (by unfold vm;omega) (by unfold vm;omega);have d4:=XP 1 6 ⟨by omega,by omega⟩ ⟨by omega,by omega⟩;have d5:=J1 (Xp (b.sub a) (c.sub a)) (Rat.divInt 1 6) (by unfold rm;omega) (by unfold rm;omega);have d6:=Je a b (by unfold vm;omega) (by unfold vm;omega);have d7:=Je (a.add b) c (by unfold vm;omega) (by unfold vm;omega);generalize Xp (b.sub a) (c.sub a)*Rat.divInt 1 6=p at *;have d8:=Ap ((a.add b).add c) p (by unfold vm;omega) (by unfold vm;omega);have sv:=EA ((a.add b).add c) p;have d9:=Je C (((a.add b).add c).scale p) (by unfold vm;omega) (by unfold vm;omega);refine Xk ?_;simp(disch:=omega)only[X7,w1,w2,f0,f1,f2,v1,v2,vz,↓Xd,wG,seval];refine X0 d1 (X2 _) ?_;simp(disch:=omega)only[X7,w1,w2,f0,f1,f2,v1,v2,vz,vA,vC,qA,qC,↓Xd,wG,seval];refine X0 d2 (X2 _) ?_;simp(disch:=omega)only[X7,w1,w2,f0,f1,f2,v1,v2,vz,vA,vC,qA,qC,↓Xd,wG,seval];refine X0 d3 (X2 _) ?_;simp(disch:=omega)only[X7,w1,w2,f0,f1,f2,v1,v2,vz,vA,vC,qA,qC,↓Xd,wG,seval];refine X0 d4 (X2 _) ?_;simp(disch:=omega)only[X7,w1,w2,f0,f1,f2,v1,v2,vz,vA,vC,qA,qC,↓Xd,wG,seval];refine X0 d5 (X2 _) ?_;simp(disch:=omega)only[X7,w1,w2,f0,f1,f2,v1,v2,vz,vA,vC,qA,qC,↓Xd,wG,seval];refine X0 d6 (X2 _) ?_;simp(disch:=omega)only[X7,w1,w2,f0,f1,f2,v1,v2,vz,vA,vC,qA,qC,↓Xd,wG,seval];refine X0 d7 (X2 _) ?_;simp(disch:=omega)only[X7,w1,w2,f0,f1,f2,v1,v2,vz,vA,vC,qA,qC,↓Xd,wG,seval];refine X0 d8 (X2 _) ?_;simp(disch:=omega)only[X7,w1,w2,f0,f1,f2,v1,v2,vz,vA,vC,qA,qC,↓Xd,wG,seval];refine X0 d9 (X2 _) ?_;simp(disch:=omega)only[X7,w1,w2,f0,f1,f2,v1,v2,vz,vA,vC,qA,qC,↓Xd,wG,seval];exact nx _ (by omega) (by omega) (XT (m:=3) (Nat.zero_le _) rfl (by simp[X7,Xm,I]) (by simp[Xw]) rfl (by simp[XW,bv]) (by simp[XW,bv]) (by simp[bq,bw,bz]))
 ·obtain rfl:k=L.length-2:=by omega
  refine Xk ?_;simp(disch:=omega)only[X7,w1,w2,↓Xd,wG,seval];have g1:=It L h (L.length-2);have q1:=Fm 1 1 (by omega) (by omega);have d1:=XP 1 1 ⟨by omega,by omega⟩ ⟨by omega,by omega⟩;have d2:=Du (Rat.divInt 1 1) A (by unfold vm;omega) (by unfold vm;omega);have d3:=Ei (Rat.divInt 1 1) A;generalize DN L (L.length-2)=C at *;generalize Rat.divInt 1 1=o at *;have d4:=Ap C (o/A) (by unfold vm;omega) (by unfold vm;omega);refine X0 d1 (X2 _) ?_;simp(disch:=omega)only[qA,qC,↓Xd,wG,seval];refine X0 d2 (X2 _) ?_;simp(disch:=omega)only[qA,qC,↓Xd,wG,seval];refine X0 d4 (X2 _) ?_;simp(disch:=omega)only[vA,vC,qC,↓Xd,wG,seval];exact A0 rfl Jm rfl rfl rfl sR (hR.trans rfl)
def vN (l:List Int)(L:List V2):V2:=if Ab.atF l 0 3=0 then((Fh L).add (Bn [Ab.atF l 1 5,Ab.atF l 2 5,0] 0)).add (pI 8 8)else Fh L
def AB (l:List Int):Rat:=Rat.divInt (1+Ab.atF l 3 6) (1+Ab.atF l 4 2)
def Yk (l:List Int)(L:List V2):BB:=⟨vN l L,AB l,AB l+Rat.divInt (Ab.atF l 5 4) 1,Rat.divInt (1+Ab.atF l 6 30) 1⟩
theorem OR {a b:Int}(ha:0<a)(hb:0<b):0<Rat.divInt a b:=by
 have hb0:(0:Rat)<(b:Rat):=Rat.intCast_pos.2 hb;have e:Rat.divInt a b*(b:Rat)=(a:Rat):=by rw[Rat.divInt_eq_div,Rat.div_mul_cancel (by grind)]
 have ha0:(0:Rat)<(a:Rat):=Rat.intCast_pos.2 ha;refine Rat.not_le.1 fun h=>?_
 have:=Rat.mul_nonneg (show 0≤-Rat.divInt a b by grind) (Rat.le_of_lt hb0);grind
def bT (b:BB):Prop:=vb b.c≤1240∧qb b.light≤1∧qb b.heavy≤3∧qb b.strength≤1
theorem bT.s {b:BB}(h:bT b):bS b:=by obtain⟨h1,h2,h3,h4⟩:=h;unfold bS;omega
theorem rq (l:List Int)(L:List V2)(h:Nb L):bT (Yk l L)∧Ag (Yk l L)=true:=by
 obtain⟨h1,h2,h3⟩:=h;obtain⟨hc,_⟩:=OK L h2 h1.2;have b3:=Xv l 3 6 (by omega);have b4:=Xv l 4 2 (by omega);have b5:=Xv l 5 4 (by omega);have b6:=Xv l 6 30 (by omega);have q1:qb (AB l)≤1:=Fm _ _ (by omega) (by omega);have q2:=Fm (Ab.atF l 5 4) 1 (by omega) (by omega);have q3:=Fm (1+Ab.atF l 6 30) 1 (by omega) (by omega);have q4:=ZA (AB l) (Rat.divInt (Ab.atF l 5 4) 1);have p1:0<AB l:=OR (by omega) (by omega);have p2:0≤Rat.divInt (Ab.atF l 5 4) 1:=Rat.divInt_nonneg (by omega) (by omega);have p3:0<Rat.divInt (1+Ab.atF l 6 30) 1:=OR (by omega) (by omega);refine⟨⟨?_,?_,?_,?_⟩,?_⟩
 ·show vb (vN l L)≤1240
  unfold vN
  split
  ·have s1:=II [Ab.atF l 1 5,Ab.atF l 2 5,0] 0
   have s2:=ZD (Fh L) (Bn [Ab.atF l 1 5,Ab.atF l 2 5,0] 0);have s3:=ZD ((Fh L).add (Bn [Ab.atF l 1 5,Ab.atF l 2 5,0] 0)) (pI 8 8);have s4:=FR 8 8 (by omega) (by omega);omega
  ·omega
 ·show qb (AB l)≤1;omega
 ·show qb (AB l+Rat.divInt (Ab.atF l 5 4) 1)≤3;omega
 ·show qb (Rat.divInt (1+Ab.atF l 6 30) 1)≤1;omega
 ·rw[EE]
  exact⟨p1,by show AB l≤AB l+Rat.divInt (Ab.atF l 5 4) 1;grind,p3⟩
theorem Ym (l:List Int)(L:List V2)(hl:DL l)(h:Nb L):Fn Tryz.prog 18 [X8 l,Ql L] (bA (Yk l L)):=by
 obtain⟨h1,h2,h3⟩:=h;obtain⟨hc,_⟩:=OK L h2 h1.2;have b1:=Xv l 1 5 (by omega);have b2:=Xv l 2 5 (by omega);have b3:=Xv l 3 6 (by omega);have b4:=Xv l 4 2 (by omega);have b5:=Xv l 5 4 (by omega);have b6:=Xv l 6 30 (by omega);have q1:qb (AB l)≤1:=Fm _ _ (by omega) (by omega);have q2:=Fm (Ab.atF l 5 4) 1 (by omega) (by omega);have c0:=QD l 0 3 hl (by omega);have c1:=QD l 1 5 hl (by omega);have c2:=QD l 2 5 hl (by omega);have c3:=QD l 3 6 hl (by omega);have c4:=QD l 4 2 hl (by omega);have c5:=QD l 5 4 hl (by omega);have c6:=QD l 6 30 hl (by omega);have d0:=Yv L h2 (by omega);have hs:DL [Ab.atF l 1 5,Ab.atF l 2 5,0]:=by
  intro x hx;simp only[List.mem_cons,List.not_mem_nil,or_false]at hx;unfold BS;rcases hx with rfl |rfl |rfl <;> omega
 have d1:=Wy [Ab.atF l 1 5,Ab.atF l 2 5,0] 0 hs (by omega);have s1:=II [Ab.atF l 1 5,Ab.atF l 2 5,0] 0;obtain⟨R,hR⟩:∃R,R=bA (Yk l L):=⟨_,rfl⟩
 have sR:Settled R:=hR▸Z3 _;rw[←hR];unfold Yk vN at hR;have hlq:AB l=Rat.divInt (1+Ab.atF l 3 6) (1+Ab.atF l 4 2):=rfl;generalize Bn [Ab.atF l 1 5,Ab.atF l 2 5,0] 0=s at *;generalize Fh L=C at *;generalize Ab.atF l 1 5=x1 at *;generalize Ab.atF l 2 5=x2 at *;have d2:=Je C s (by unfold vm;omega) (by unfold vm;omega);have d3:=Kh 8 8 ⟨by omega,by omega⟩ ⟨by omega,by omega⟩;change Fn _ _ _ (vA (pI 8 8))at d3;have s4:=FR 8 8 (by omega) (by omega);have s5:=ZD C s;generalize pI 8 8=e8 at *;have d4:=Je (C.add s) e8 (by unfold vm;omega) (by unfold vm;omega);have d5:=XP (1+Ab.atF l 3 6) (1+Ab.atF l 4 2) ⟨by omega,by omega⟩ ⟨by omega,by omega⟩;rw[←hlq]at d5;have d6:=XP (Ab.atF l 5 4) 1 ⟨by omega,by omega⟩ ⟨by omega,by omega⟩;have d7:=K5 (AB l) (Rat.divInt (Ab.atF l 5 4) 1) (by unfold rm;omega) (by unfold rm;omega);have d8:=XP (1+Ab.atF l 6 30) 1 ⟨by omega,by omega⟩ ⟨by omega,by omega⟩;generalize AB l=lq at *;generalize Rat.divInt (Ab.atF l 5 4) 1=dq at *;generalize Rat.divInt (1+Ab.atF l 6 30) 1=sq at *;refine Fn.intro (fn:=Tryz.f18) Tryz.call18 Tryz.func18 rfl mixed 8 [] [6,7000] [] (by kernel_rfl) (Nat.le_of_ble_eq_true rfl) (JY (Xc l) (Xq L)) (Xk ?_);simp(disch:=omega)only[AS.start,↓Xd,wG,seval];refine X0 d0 (X2 _) ?_;simp(disch:=omega)only[vA,vC,↓Xd,wG,seval];refine X0 c0 (X2 _) ?_;simp(disch:=omega)only[↓Xd,wG,seval];refine⟨fun h0=>?_,fun h0=>?_⟩
 ·refine X0 c1 ⟨by rw[Xl];exact Weak.rfl' _,Weak.rfl' _,Weak.rfl' _,trivial⟩ ?_
  simp(disch:=omega)only[↓Xd,wG,seval];refine X0 c2 ⟨by rw[Xl];exact Weak.rfl' _,Weak.rfl' _,Weak.rfl' _,trivial⟩ ?_;simp(disch:=omega)only[↓Xd,wG,seval];refine X0 d1 ⟨by rw[Xl];exact JK rfl (Nat.le_refl _) fun j hj=>by match j,hj with |0,_=>exact Weak.rfl' _ |1,_=>exact Weak.rfl' _ |2,_=>exact Weak.rfl' _ |j+3,h=>exact absurd h (by simp),Weak.rfl' _,trivial⟩ ?_;simp(disch:=omega)only[vA,vC,qC,↓Xd,wG,seval];refine X0 d2 (X2 _) ?_;simp(disch:=omega)only[vA,vC,qC,↓Xd,wG,seval];refine X0 d3 (X2 _) ?_;simp(disch:=omega)only[vA,vC,qC,↓Xd,wG,seval];refine X0 d4 (X2 _) ?_;simp(disch:=omega)only[vA,vC,qC,↓Xd,wG,seval];refine X0 c3 ⟨by rw[Xl];exact Weak.rfl' _,Weak.rfl' _,Weak.rfl' _,trivial⟩ ?_;simp(disch:=omega)only[↓Xd,wG,seval];refine X0 c4 ⟨by rw[Xl];exact Weak.rfl' _,Weak.rfl' _,Weak.rfl' _,trivial⟩ ?_;simp(disch:=omega)only[↓Xd,wG,seval];refine X0 d5 (X2 _) ?_;simp(disch:=omega)only[qA,qC,↓Xd,wG,seval];refine X0 c5 ⟨by rw[Xl];exact Weak.rfl' _,Weak.rfl' _,Weak.rfl' _,trivial⟩ ?_;simp(disch:=omega)only[↓Xd,wG,seval];refine X0 d6 (X2 _) ?_;simp(disch:=omega)only[qA,qC,↓Xd,wG,seval];refine X0 d7 (X2 _) ?_;simp(disch:=omega)only[qA,qC,↓Xd,wG,seval];refine X0 c6 ⟨by rw[Xl];exact Weak.rfl' _,Weak.rfl' _,Weak.rfl' _,trivial⟩ ?_;simp(disch:=omega)only[↓Xd,wG,seval];refine X0 d8 (X2 _) ?_;simp(disch:=omega)only[qA,qC,↓Xd,wG,seval];rw[if_pos h0]at hR;exact Bl rfl VW rfl rfl rfl (XF sR (by rw[hR];exact Weak.rfl' _))
 ·refine X0 c3 ⟨by rw[Xl];exact Weak.rfl' _,Weak.rfl' _,Weak.rfl' _,trivial⟩ ?_
  simp(disch:=omega)only[↓Xd,wG,seval];refine X0 c4 ⟨by rw[Xl];exact Weak.rfl' _,Weak.rfl' _,Weak.rfl' _,trivial⟩ ?_;simp(disch:=omega)only[↓Xd,wG,seval];refine X0 d5 (X2 _) ?_;simp(disch:=omega)only[qA,qC,↓Xd,wG,seval];refine X0 c5 ⟨by rw[Xl];exact Weak.rfl' _,Weak.rfl' _,Weak.rfl' _,trivial⟩ ?_;simp(disch:=omega)only[↓Xd,wG,seval];refine X0 d6 (X2 _) ?_;simp(disch:=omega)only[qA,qC,↓Xd,wG,seval];refine X0 d7 (X2 _) ?_;simp(disch:=omega)only[qA,qC,↓Xd,wG,seval];refine X0 c6 ⟨by rw[Xl];exact Weak.rfl' _,Weak.rfl' _,Weak.rfl' _,trivial⟩ ?_;simp(disch:=omega)only[↓Xd,wG,seval];refine X0 d8 (X2 _) ?_;simp(disch:=omega)only[qA,qC,↓Xd,wG,seval];rw[if_neg h0]at hR;exact Bl rfl VW rfl rfl rfl (XF sR (by rw[hR];exact Weak.rfl' _))
def Ae (a d x:V2):Rat:=Q8 (x.sub a) d/Q8 d d
def Tj (s t:Rat):Rat:=if NG s t<0 then 0 else NG s t
def Th (s t:Rat):Rat:=if 1<N0 s t then 1 else N0 s t
def MX (a d:V2)(lo hi:Rat):V2:=a.add (d.scale ((lo+hi)*Rat.divInt 1 2))
def U9 (p n b:V2):V2:=p.add (n.scale (Q8 (b.sub p) n/Q8 n n))
def Rl (a b:Sd):V2:=a.b.sub a.a
def Ge (a b:Sd):Rat:=Ae a.a (Rl a b) b.a
def Gf (a b:Sd):Rat:=Ae a.a (Rl a b) b.b
def Im (a b:Sd):Option (V2×V2) :=
 if N2 b.i a.i∧0<Q8 (b.a.sub a.a) a.i then
  if Tj (Ge a b) (Gf a b)<Th (Ge a b) (Gf a b)then
   some (MX a.a (Rl a b) (Tj (Ge a b) (Gf a b)) (Th (Ge a b) (Gf a b)),U9 (MX a.a (Rl a b) (Tj (Ge a b) (Gf a b)) (Th (Ge a b) (Gf a b))) a.i b.a)
  else none
 else none
def oO (s:Sd):AV:=.ptr 24 (Xf (AG s)) 0
def vP (v:V2):AV:=.ptr 8 (Xf (vC v)) 0
theorem SE (s:Sd):Settled (oO s):=XI fun j _=>Xe (Z4 s) j
theorem UW (v:V2):Settled (vP v):=XI fun j _=>Xe (by simp[vC,Xc,X5]) j
theorem wY (s:Sd):Xf (AG s) 0=.bool (sg s.a.x)∧Xf (AG s) 1=X8 (X9 s.a.x.num.natAbs)∧Xf (AG s) 2=.bool false∧Xf (AG s) 3=X8 (X9 (qd s.a.x))∧Xf (AG s) 4=.bool (sg s.a.y)∧Xf (AG s) 5=X8 (X9 s.a.y.num.natAbs)∧Xf (AG s) 6=.bool false∧Xf (AG s) 7=X8 (X9 (qd s.a.y)):=⟨rfl,rfl,rfl,rfl,rfl,rfl,rfl,rfl⟩
theorem wZ (v:V2):Xf (vC v) 0=.bool (sg v.x)∧Xf (vC v) 1=X8 (X9 v.x.num.natAbs)∧Xf (vC v) 2=.bool false∧Xf (vC v) 3=X8 (X9 (qd v.x))∧Xf (vC v) 4=.bool (sg v.y)∧Xf (vC v) 5=X8 (X9 v.y.num.natAbs)∧Xf (vC v) 6=.bool false∧Xf (vC v) 7=X8 (X9 (qd v.y)):=⟨rfl,rfl,rfl,rfl,rfl,rfl,rfl,rfl⟩
theorem LA (a:Sd)(d x:V2)(ha:vb a.a≤1000)(hd:vb d≤2001)(hx:vb x≤1000)(h0:Q8 d d≠0):Fn Tryz.prog 192 [vA x,oO a,vP d] (qA (Ae a.a d x)):=by
 have s1:=QO x a.a;have q1:=KO (x.sub a.a) d;have q2:=KO d d;have c1:=AX x a.a (by unfold rm;omega) (by unfold rm;omega);have c2:=Dm (x.sub a.a) d (by unfold vm;omega) (by unfold vm;omega);have c3:=Dm d d (by unfold vm;omega) (by unfold vm;omega);have c4:=IG (Q8 (x.sub a.a) d) (Q8 d d) h0 (by unfold rm;omega) (by unfold rm;omega);obtain⟨R,hR⟩:∃R,R=qA (Ae a.a d x):=⟨_,rfl⟩
 have sR:Settled R:=hR▸Xa _;rw[show Q8 (x.sub a.a) d/Q8 d d=Ae a.a d x from rfl,←hR]at c4;rw[←hR];have sf:=wY a;have vf:=wZ d;refine Fq Tryz.call192 Tryz.func192 5 [] [] [] (by simp[Xt,SE,UW]) (Xk ?_);simp(disch:=omega)only[AS.start,vA,vC,oO,vP,sf,vf,↓Xd,wG,seval];refine X0 c1 (X2 _) ?_;simp(disch:=omega)only[sf,vf,qA,qC,↓Xd,wG,seval];refine X0 c2 (X2 _) ?_;simp(disch:=omega)only[sf,vf,qA,qC,↓Xd,wG,seval];refine X0 c3 (X2 _) ?_;simp(disch:=omega)only[sf,vf,qA,qC,↓Xd,wG,seval];refine X0 c4 (X2 _) ?_;simp(disch:=omega)only[hR,qA,qC,↓Xd,wG,seval];exact J2 rfl XR rfl rfl rfl sR (hR.trans rfl)
end
end Go.Ab.N
