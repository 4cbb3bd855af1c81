/- Contracts of functions, for every argument that fits. -/
import Derived.Test.YtcmfnmceomhgcaaGreatC10
import Derived.Shelf.Small.Bits
set_option linter.unusedSimpArgs false
set_option linter.unusedVariables false
open Go.Ab.AS renaming start→P',put→ZAm
open Go.Ab.G' renaming intro→ZDu
open Go.IntKind renaming i64→Q_
open Go.Lib renaming bitLen→ZEI
open Int renaming reduceEq→zU,toNat_zero→ZAe,reduceToNat→ZAq,reduceLT→ZAu,reduceLE→ZA6
open Nat renaming max_le→ZDI
open Rat renaming divInt→O_,intCast_inj→ZBw,intCast_pos→ZEY
namespace Go.Ab.N
open Go Go.RowKit Go.Proofs
noncomputable section
set_option maxRecDepth 10000
set_option maxHeartbeats 4000000
open Classical
theorem ww (a b:Rat):O_ (a.num*b.den) (a.den*b.num)=a/b:=by
 rw[←Rat.divInt_mul_divInt,ZAS,Rat.inv_def,Rat.num_divInt_den]
theorem Bl (a b:Rat)(ha:qb a≤vm)(hb:qb b≤vm):Fn Tryz.prog 121 [qA a,qA b] (qA (a/b)):=by
 unfold vm at ha hb;have a1:=K0 a;have a2:=K8 a;have b1:=K0 b;have b2:=K8 b;have m1:=Am a.num b.den (by unfold room;omega) (by unfold room;omega);have m3:=Am a.den b.num (by unfold room;omega) (by unfold room;omega);have n1:=K5 a.num b.den;have n3:=K5 a.den b.num;have k:=Fs (a.num*b.den) (a.den*b.num) (by omega) (by omega);rw[ww]at k;have d1:=AC a;have d2:=AC b;obtain⟨R,hR⟩:∃R,R=qA (a/b):=⟨_,rfl⟩
 have sR:A_ R:=hR▸Xa _;rw[←hR]at k ⊢;refine Fq Tryz.call121 Tryz.func121 5 [] [1,20000002,20000003] [] (by simp[wS]) (Xk ?_);simp(maxSteps:=999999)only[P',↓X6,wF,seval];refine X2 d2 rfl ?_;simp only[↓X6,wF,seval];refine X2 m1 rfl ?_;simp only[↓X6,wF,seval];refine X2 d1 rfl ?_;simp only[↓X6,wF,seval];refine X2 m3 rfl ?_;simp only[↓X6,wF,seval];refine X2 k rfl ?_;simp only[hR,↓X6,wF,seval];exact Jh rfl XY rfl rfl rfl sR (hR.trans rfl)
def YF (t c:V2):List AV:=[.bool (decide (t.x.num<0)),X8 (Xb t.x.num.natAbs),.bool false,X8 (Xb (qd t.x)),.bool (decide (t.y.num<0)),X8 (Xb t.y.num.natAbs),.bool false,X8 (Xb (qd t.y)),
 .bool (decide (c.x.num<0)),X8 (Xb c.x.num.natAbs),.bool false,X8 (Xb (qd c.x)),.bool (decide (c.y.num<0)),X8 (Xb c.y.num.natAbs),.bool false,X8 (Xb (qd c.y))]
def qZ (t c:V2):AV:=.agg (YF t c)
theorem IW (t c:V2):∀x∈YF t c,A_ x:=by simp[YF,Xc,X5]
theorem IV (t c:V2):A_ (qZ t c):=QD (IW t c)
def put (t c a:V2):V2:=(tI t a).add c
theorem xf (t c a:V2):vb (put t c a)≤2*(vb t+vb a)+vb c+2:=by
 have:=nn t a;have:=Z8 (tI t a) c;unfold put;omega
def DP (t c:V2)(L:List V2):List V2:=L.map (put t c)
theorem dP (t c:V2)(L:List V2)(i:Nat)(hi:i<L.length):DP t c (L.take i) ++ [put t c (L.getD i v0)]=DP t c (L.take (i+1)):=by
 rw[Gv _ v0 hi];simp[DP]
theorem ll (t c:V2)(L:List V2)(i:Nat)(hi:i≤L.length):(DP t c (L.take i)).length=i:=by simp[DP];omega
theorem nv {P:Program}{fn:Func}{str hcs:List Nat}{s:AS}{t id ver:Nat}(L:List V2)(hr:fn.results=#[.tmp t])(hs:s.get t=.osl id ver 8 0 L.length)(ho:s.h[id]?=some (.row ver (L.length*8) (Xv vC 8 v0 L))):TAC (JK P fn str hcs (Qm L)) s:=by
 refine A9 hr ?_;rw[hs,X7];refine Kc (.inl ho) (by omega) (fun h=>by rw[h]) fun j hj=>?_
 rw[x_];exact(Xe (by simp[vC,Xc,X5]) _).TBH _
theorem nh (a:V2):∀j,j<8→((vC a).getD j .any).one=true:=fun j hj=>by
 match j,hj with
 |0,_=>rfl
 |1,_=>rfl
 |2,_=>rfl
 |3,_=>rfl
 |4,_=>rfl
 |5,_=>rfl
 |6,_=>rfl
 |7,_=>rfl
 |j+8,h=>omega
theorem Ty (t c:V2)(L:List V2)(k:Nat)(h:Qw L k)(hk:k≤100000)(hl:L.length<1000000)(ht:vb t≤100000)(hc:vb c≤100000):Fn Tryz.prog 55 [qZ t c,Qm L] (Qm (DP t c L)):=by
 have bo:XX 2 (.con 0 16 (Xf (YF t c)))=True:=K_ (fun j _=>X4 (Xe (IW t c) j));have hvc:∀a:V2,∀x∈vC a,A_ x:=fun a=>by simp[vC,Xc,X5]
 have bv:J9 2 (Qm L)=True:=K_ (X4 (Xq L));have br:∀i l n,XX 2 (.row i n (Xv vC 8 v0 l))=True:=fun i l n=>K_ fun j _=>X4 (Xe (hvc _) _)
 obtain⟨R,hR⟩:∃R,R=Qm (DP t c L):=⟨_,rfl⟩
 rw[←hR];refine Fq Tryz.call55 Tryz.func55 7 [] [5,6011,60000002] [] (by simp[IV,Xq]) (Xk ?_);simp only[P',qZ,YF,X7,↓X6,wF,seval];refine Xi (fun i:Nat=>⟨7,[],[.any,Qm L,.ref 0 0 0,.any,.any,.osl 1 i 8 0 i,I i],[],[.con 0 16 (Xf (YF t c)),.row i (i*8) (Xv vC 8 v0 (DP t c (L.take i)))]⟩) (fun i=>i≤L.length) (fun i=>L.length-i) 0 (by omega)
  (ZA8 (XB 0 rfl) (ZA8 (JM 5 8 (Xv vC 8 v0 []) rfl) (Xh rfl (by simp[ZAm,X7,Xm,I]) (by simp[ZAm,Xu]) (by simp[ZAm,YF,Xo,DP])))) ?_
 intro i hi next
 have w1:=wj i (by omega);by_cases hi2:i<L.length
 ·have f1:((i:Int)<L.length)=True:=K_ (by omega)
  have f2:(i<L.length)=True:=K_ hi2;have f3:(i*8+8≤L.length*8)=True:=K_ (by omega);have v1:=vF L i;have hb:=h i;have m:=nn t (L.getD i v0);have c1:=O4 t (L.getD i v0) (by unfold vm;omega) (by unfold vm;omega);have c2:=Jw (tI t (L.getD i v0)) c (by unfold vm;omega) (by unfold vm;omega);have hap:=Zj vC 8 v0 (DP t c (L.take i)) (put t c (L.getD i v0)) (by omega);rw[dP _ _ _ _ hi2,ll _ _ _ _ hi]at hap;refine Xk ?_;simp only[YF,X7,w1,f1,f2,f3,v1,T_,↓X6,wF,seval];refine X2 c1 rfl ?_;simp only[YF,X7,w1,f1,f2,f3,v1,T_,↓X6,wF,seval];refine X2 c2 rfl ?_;simp only[w1,↓X6,wF,seval];exact⟨⟨nh _,by omega,by omega⟩,next (i+1) _ (by omega) (by omega) (mD (m:=2) (by simp[X7,Xm,I]) (by rw[←hap];rfl) (by simp[XK,bv]) (by simp[bo,br]))⟩
 obtain rfl:i=L.length:=by omega
 refine Xk ?_;simp only[YF,X7,ZAE,zZ,↓X6,wF,seval];rw[hR,ZAQ];have hlen:(DP t c L).length=L.length:=by simp[DP]
 exact nv _ rfl (by rw[hlen];rfl) (by rw[hlen];rfl)
structure Sd where
 a:V2
 b:V2
 i:V2
def Bo (s:Sd):List AV:=vC s.a ++ vC s.b ++ vC s.i
def W7 (s:Sd):AV:=.agg (Bo s)
theorem ZC (s:Sd):∀a∈Bo s,A_ a:=by simp[Bo,vC,Xc,X5]
theorem Ky (s:Sd):A_ (W7 s):=QD (ZC s)
theorem B7 (s:Sd):Bo s=[.bool (sg s.a.x),X8 (Xb s.a.x.num.natAbs),.bool false,X8 (Xb (qd s.a.x)),.bool (sg s.a.y),X8 (Xb s.a.y.num.natAbs),.bool false,X8 (Xb (qd s.a.y)),
 .bool (sg s.b.x),X8 (Xb s.b.x.num.natAbs),.bool false,X8 (Xb (qd s.b.x)),.bool (sg s.b.y),X8 (Xb s.b.y.num.natAbs),.bool false,X8 (Xb (qd s.b.y)),
 .bool (sg s.i.x),X8 (Xb s.i.x.num.natAbs),.bool false,X8 (Xb (qd s.i.x)),.bool (sg s.i.y),X8 (Xb s.i.y.num.natAbs),.bool false,X8 (Xb (qd s.i.y))]:=rfl
def Lh:Sd:=⟨v0,v0,v0⟩
def W8 (l:List Sd):AV:=g8 Bo 24 Lh l
theorem Jr (l:List Sd):W8 l=.sl l.length (l.length*24) (Xv Bo 24 Lh l) false:=C_ rfl
theorem ET (l:List Sd):A_ (W8 l):=KZ fun a x hx=>ZC a x hx
theorem ry (s:Sd):∀j,j<24→((Bo s).getD j .any).one=true:=fun j hj=>by
 rw[B7]
 match j,hj with
 |0,_ |1,_ |2,_ |3,_ |4,_ |5,_ |6,_ |7,_ |8,_ |9,_ |10,_ |11,_ |12,_ |13,_ |14,_ |15,_ |16,_ |17,_ |18,_ |19,_ |20,_ |21,_ |22,_ |23,_=>rfl
 |j+24,h=>omega
def FN (p q:V2):V2:=⟨p.y-q.y,q.x-p.x⟩
def Ze (L:List V2)(i:Nat):V2:=L.getD ((i+1)%L.length) v0
def JL (L:List V2)(i:Nat):Sd:=⟨L.getD i v0,Ze L i,FN (L.getD i v0) (Ze L i)⟩
def B9 (L:List V2)(k:Nat):List Sd:=(List.range k).map (JL L)
theorem U3 (L:List V2)(k:Nat):B9 L k ++ [JL L k]=B9 L (k+1):=by unfold B9;rw[List.range_succ,List.map_append];rfl
theorem E6 (L:List V2)(k:Nat):(B9 L k).length=k:=by simp[B9]
theorem fF (L:List V2){k i:Nat}(h:i<k):(B9 L k).getD i Lh=JL L i:=by
 unfold B9;rw[K',ZAi,List.getElem?_range h];rfl
def Kf (L:List V2):List Sd:=B9 L L.length
theorem OG (L:List V2)(h:Qw L 1000)(hl:L.length<1000000):Fn Tryz.prog 64 [Qm L] (W8 (Kf L)):=by
 have bv:J9 1 (Qm L)=True:=K_ (X4 (Xq L));have br:∀i l n,XX 1 (.row i n (Xv Bo 24 Lh l))=True:=fun i l n=>K_ fun j _=>X4 (Xe (ZC _) _)
 obtain⟨R,hR⟩:∃R,R=W8 (Kf L):=⟨_,rfl⟩
 rw[←hR];refine y_ (fn:=Tryz.f64) Tryz.call64 Tryz.func64 rfl mixed 7 [7,8,9] [] [] (by kernel_rfl) (L' rfl) (fun a ha=>a_.1 ha▸Xq L) (Xk ?_);simp(disch:=omega)only[P',X7,↓Xd,wG,seval];refine Xi (fun i:Nat=>⟨7,[7,8,9],[Qm L,.any,.any,.osl 0 i 24 0 i,.any,.any,.any],[(7,Qm L),(8,I L.length),(9,I i)],[.row i (i*24) (Xv Bo 24 Lh (B9 L i))]⟩) (fun i=>i≤L.length) (fun i=>L.length-i) 0 (by omega)
  (ZA8 (JM 3 24 (Xv Bo 24 Lh []) rfl) (Xh rfl (by simp[ZAm,Xm,I,X7]) (by simp[ZAm,Xu,XJ,X7,I]) (by simp[ZAm,B9]))) ?_
 intro i hi next
 have w1:=wj i (by omega);by_cases hi2:i<L.length
 ·have f6:((L.length:Int)=0)=False:=Q' (by omega)
  have f6':(L.length=0)=False:=Q' (by omega);have hm:((i+1:Nat):Int).tmod L.length=(((i+1)%L.length:Nat):Int):=rfl;have hml:(i+1)%L.length<L.length:=z_ _ (by omega);have f2:(i<L.length)=True:=K_ hi2;have v1:=vF L i;have v2:=vF L ((i+1)%L.length);have hb1:=h i;have hb2:=h ((i+1)%L.length);have x1:=Jk (L.getD i v0);have y1:=Jc (L.getD i v0);have x2:=Jk (Ze L i);have y2:=Jc (Ze L i);have hb3:vb (Ze L i)≤1000:=hb2;have c1:=FC (L.getD i v0).y (Ze L i).y (by unfold rm;omega) (by unfold rm;omega);have c2:=FC (Ze L i).x (L.getD i v0).x (by unfold rm;omega) (by unfold rm;omega);have hap:=Zj Bo 24 Lh (B9 L i) (JL L i) (by omega);rw[U3,E6]at hap;have nx:=next (i+1)
  have e:L.getD ((i+1)%L.length) v0=Ze L i:=rfl;rw[e]at v2;refine Xk ?_;simp(disch:=omega)only[X7,w1,f2,f6,f6',hm,K_ hml,v1,v2,↓Xd,wG,seval];refine X0 c1 (X1 _) ?_;simp(disch:=omega)only[↓Xd,wG,seval];refine X0 c2 (X1 _) ?_;simp(disch:=omega)only[qA,qC,↓Xd,wG,seval];exact⟨fun j hj=>ry (JL L i) j hj,nx _ (by omega) (by omega) (XD (m:=1) (p_ _) rfl (by simp[X7,Xm,I]) (by simp[Xu,XJ,X7,I]) (by rw[←hap];rfl) (by simp[XK,bv]) (by simp[XK,bv]) (by simp[br]))⟩
 obtain rfl:i=L.length:=by omega
 refine Xk ?_;simp(disch:=omega)only[X7,↓Xd,wG,seval];rw[hR];refine A9 rfl ?_;show Zs _ (.osl 0 L.length 24 0 L.length) (W8 (Kf L));rw[Jr,show(Kf L).length=L.length from E6 L _];refine Kc (.inl rfl) (by omega) (fun h=>by rw[h]) fun j hj=>?_
 rw[x_];exact(Xe (ZC _) _).TBH _
def kH (a b x:Rat):Bool:=decide (a≤x∧x≤b∨b≤x∧x≤a)
theorem Yj (a b x:Rat)(ha:qb a≤rm)(hb:qb b≤rm)(hx:qb x≤rm):Fn Tryz.prog 148 [qA a,qA b,qA x] (.bool (kH a b x)):=by
 have c1:=J6 a x ha hx;have c2:=J6 x b hx hb;have c3:=J6 b x hb hx;have c4:=J6 x a hx ha;obtain⟨R,hR⟩:∃R,R=kH a b x:=⟨_,rfl⟩
 rw[←hR];unfold kH at hR;refine Fq Tryz.call148 Tryz.func148 7 [] [] [] (by simp[Xa]) (Xk ?_);simp(disch:=omega)only[P',qA,qC,↓Xd,wG,seval];refine X0 c1 (X1 _) ?_;simp(disch:=omega)only[KL,↓Xd,wG,seval];refine⟨fun h1=>?_,fun h1=>?_⟩
 ·refine X0 c2 (X1 _) ?_
  simp(disch:=omega)only[h1,KL,↓Xd,wG,seval];refine⟨fun h2=>?_,fun h2=>?_⟩
  ·simp(disch:=omega)only[h1,h2,KL,↓Xd,wG,seval]
   exact Xp (v:=.bool true) rfl rfl (X5 _) (by rw[hR];simp[h1,h2])
  ·refine X0 c3 (X1 _) ?_
   simp(disch:=omega)only[h1,h2,KL,↓Xd,wG,seval];refine⟨fun h3=>?_,fun h3=>?_⟩
   ·refine X0 c4 (X1 _) ?_
    simp(disch:=omega)only[h1,h2,h3,KL,↓Xd,wG,seval];exact Xp (v:=.bool (decide (x≤a))) rfl rfl (X5 _) (by rw[hR];simp[h1,h2,h3])
   ·simp(disch:=omega)only[h1,h2,h3,KL,↓Xd,wG,seval]
    exact Xp (v:=.bool false) rfl rfl (X5 _) (by rw[hR];simp[h1,h2,h3])
 ·refine X0 c3 (X1 _) ?_
  simp(disch:=omega)only[h1,KL,↓Xd,wG,seval];refine⟨fun h3=>?_,fun h3=>?_⟩
  ·refine X0 c4 (X1 _) ?_
   simp(disch:=omega)only[h1,h3,KL,↓Xd,wG,seval];exact Xp (v:=.bool (decide (x≤a))) rfl rfl (X5 _) (by rw[hR];simp[h1,h3])
  ·simp(disch:=omega)only[h1,h3,KL,↓Xd,wG,seval]
   exact Xp (v:=.bool false) rfl rfl (X5 _) (by rw[hR];simp[h1,h3])
def MI (s:Sd)(p:V2):Bool:=decide (Kz s.a s.b p=0) && (kH s.a.x s.b.x p.x && kH s.a.y s.b.y p.y)
def wL (s:Sd)(k:Nat):Prop:=vb s.a≤k∧vb s.b≤k∧vb s.i≤k
theorem kC (s:Sd)(p:V2)(hs:wL s vs)(hp:vb p≤vs):Fn Tryz.prog 67 [W7 s,vA p] (.bool (MI s p)):=by
 obtain⟨h1,h2,h3⟩:=hs;have x1:=Jk s.a;have y1:=Jc s.a;have x2:=Jk s.b;have y2:=Jc s.b;have x3:=Jk p;have y3:=Jc p;have c1:=Co s.a s.b p h1 h2 hp;unfold vs at h1 h2 hp;have c2:=Yj s.a.x s.b.x p.x (by unfold rm;omega) (by unfold rm;omega) (by unfold rm;omega);have c3:=Yj s.a.y s.b.y p.y (by unfold rm;omega) (by unfold rm;omega) (by unfold rm;omega);have hd:MI s p=(decide (Kz s.a s.b p=0) && (kH s.a.x s.b.x p.x && kH s.a.y s.b.y p.y)):=rfl;generalize MI s p=R at *;generalize kH s.a.x s.b.x p.x=b1 at *;generalize kH s.a.y s.b.y p.y=b2 at *;generalize Kz s.a s.b p=d at *;refine y_ (fn:=Tryz.f67) Tryz.call67 Tryz.func67 rfl mixed 6 [] [] [] (by kernel_rfl) (L' rfl) (KS (Ky s) (Xx p)) (Xk ?_);simp(disch:=omega)only[P',W7,B7,vA,vC,Xo,↓Xd,wG,seval];refine X0 c1 (X1 _) ?_;simp(disch:=omega)only[↓Xd,wG,seval];refine⟨fun h=>?_,fun h=>?_⟩
 ·exact Xp (v:=.bool false) rfl rfl (X5 _) (by rw[hd,Y_ h];rfl)
 ·refine X0 c2 (X1 _) ?_
  simp(disch:=omega)only[↓Xd,wG,seval];refine Qs (fun e=>?_) (fun e=>?_)
  ·refine X0 c3 (X1 _) ?_
   simp(disch:=omega)only[↓Xd,wG,seval];exact Xp (v:=.bool b2) rfl rfl (X5 _) (by rw[hd,e];simp;grind)
  ·exact Xp (v:=.bool false) rfl rfl (X5 _) (by rw[hd,e];simp)
def CZ (g:GG)(s:Sd):Bool:=decide (s.i=g.n) && MI s g.p
def BA (g:GG)(s:Sd):Bool:=decide (Ig s.i g.n) && MI s g.q
theorem E4 (g:GG):A_ (gP g):=XP fun j _=>Xe (Ke g) j
theorem jO (g:GG)(s:Sd)(hs:wL s 10000)(hg:vb g.p≤10000∧vb g.n≤10000):Fn Tryz.prog 65 [W7 s,gP g] (.bool (CZ g s)):=by
 obtain⟨h1,h2,h3⟩:=hs;have c1:=r8 s.i g.n (by unfold vm;omega) (by unfold vm;omega);have c2:=kC s g.p (by unfold wL vs;omega) (by unfold vs;omega);have hd:CZ g s=(decide (s.i=g.n) && MI s g.p):=rfl;have gf:=gF g;generalize CZ g s=R at *;generalize MI s g.p=b at *;generalize decide (s.i=g.n)=a at *;refine y_ (fn:=Tryz.f65) Tryz.call65 Tryz.func65 rfl mixed 4 [] [] [] (by kernel_rfl) (L' rfl) (KS (Ky s) (E4 g)) (Xk ?_);simp(disch:=omega)only[P',W7,B7,vA,vC,gP,gf,Xo,↓Xd,wG,seval];refine X0 c1 (X1 _) ?_;simp(disch:=omega)only[gf,↓Xd,wG,seval];refine Qs (fun e=>?_) (fun e=>?_)
 ·refine X0 c2 (X1 _) ?_
  simp(disch:=omega)only[↓Xd,wG,seval];exact Xp (v:=.bool b) rfl rfl (X5 _) (by rw[hd,e];simp)
 ·exact Xp (v:=.bool false) rfl rfl (X5 _) (by rw[hd,e];simp)
theorem fD (g:GG)(s:Sd)(hs:wL s 10000)(hg:vb g.q≤10000∧vb g.n≤10000):Fn Tryz.prog 68 [W7 s,gP g] (.bool (BA g s)):=by
 obtain⟨h1,h2,h3⟩:=hs;have c1:=Yh s.i g.n (by unfold vm;omega) (by unfold vm;omega);have c2:=kC s g.q (by unfold wL vs;omega) (by unfold vs;omega);have hd:BA g s=(decide (Ig s.i g.n) && MI s g.q):=rfl;have gf:=gF g;generalize BA g s=R at *;generalize MI s g.q=b at *;generalize decide (Ig s.i g.n)=a at *;refine y_ (fn:=Tryz.f68) Tryz.call68 Tryz.func68 rfl mixed 4 [] [] [] (by kernel_rfl) (L' rfl) (KS (Ky s) (E4 g)) (Xk ?_);simp(disch:=omega)only[P',W7,B7,vA,vC,gP,gf,Xo,↓Xd,wG,seval];refine X0 c1 (X1 _) ?_;simp(disch:=omega)only[gf,↓Xd,wG,seval];refine Qs (fun e=>?_) (fun e=>?_)
 ·refine X0 c2 (X1 _) ?_
  simp(disch:=omega)only[↓Xd,wG,seval];exact Xp (v:=.bool b) rfl rfl (X5 _) (by rw[hd,e];simp)
 ·exact Xp (v:=.bool false) rfl rfl (X5 _) (by rw[hd,e];simp)
theorem dl (s:List Sd)(f:FuncId)(G_:List AV)(p:Sd→Bool)(hl:s.length<1000000)(hc:∀ a∈G_,A_ a)(hp:∀x∈s,Fn Tryz.prog f ([W7 x] ++ G_) (.bool (p x))) :
  Fn Tryz.prog 151 [W8 s,.fn f G_] (I (Lf p s)):=by
 refine y_ (fn:=Tryz.f151) Tryz.call151 Tryz.func151 rfl mixed 6 [6,7,8] [] [] (by kernel_rfl) (L' rfl) (KS (ET s) (Kd hc)) (Xk ?_);simp(disch:=omega)only[P',Jr,↓Xd,wG,seval];refine Xi (fun j:Nat=>⟨6,[6,7,8],[W8 s,.fn f G_,.any,.any,.any,.any],[(6,W8 s),(7,I s.length),(8,I j)],[]⟩) (fun j=>j≤s.length∧∀i,i<j→p (s.getD i Lh)=false) (fun j=>s.length-j) 0 ⟨by omega,by omega⟩
  (Xh rfl (by simp[Xm,I,Jr]) (by simp[Xu,XJ,I,Jr]) rfl) ?_
 rintro j ⟨hj,hno⟩ next
 by_cases h:j<s.length
 ·have l0:=Kg Bo 24 Lh s j (by omega)
  have l1:=JE Bo 24 Lh s j;have c1:=hp _ (Q9 Lh h);refine Xk ?_;simp(disch:=omega)only[Jr,l0,l1,B7,↓Xd,wG,seval];refine X0 c1 (X1 _) ?_;simp(disch:=omega)only[↓Xd,wG,seval];refine Qs (fun ht=>Xp (v:=I j) rfl rfl (X9 _) ?_) (fun hf=>next (j+1) _ ⟨by omega,fun i hi=>?_⟩ (by omega) (Xh rfl ?_ ?_ rfl))
  ·rw[MM Lh h ht hno]
  ·by_cases e:i=j
   ·rw[e];exact hf
   ·exact hno i (by omega)
  ·simp[Xm,I,Jr]
  ·simp[Xu,XJ,I,Jr]
 ·obtain rfl:j=s.length:=by omega
  refine Xk ?_;simp(disch:=omega)only[Jr,↓Xd,wG,seval];exact Xp (v:=I (-1)) rfl rfl (X9 _) (by rw[Ic Lh fun i hi=>hno i hi])
theorem GJ (s:List Sd)(f:FuncId)(G_:List AV)(p:Sd→Bool)(hl:s.length<1000000)(hc:∀ a∈G_,A_ a)(hp:∀x∈s,Fn Tryz.prog f ([W7 x] ++ G_) (.bool (p x))) :
  Fn Tryz.prog 70 [W8 s,.fn f G_] (.bool (s.any p)):=by
 refine y_ (fn:=Tryz.f70) Tryz.call70 Tryz.func70 rfl mixed 4 [] [] [] (by kernel_rfl) (L' rfl) (KS (ET s) (Kd hc)) (Xk ?_);simp(disch:=omega)only[P',↓Xd,wG,seval];refine X0 (dl s f G_ p hl hc hp) (X1 _) ?_;simp(disch:=omega)only[↓Xd,wG,seval];exact Xp (v:=.bool (decide (0≤Lf p s))) rfl rfl (X5 _) (by rw[ML])
theorem MN (p q:V2):(q.sub p).F'=FN p q:=by
 unfold V2.F' V2.sub FN;simp only[V2.mk.injEq,and_true];grind
theorem Um (p q:V2):vb (FN p q)≤vb p+vb q+1:=by
 rw[←MN,Cc];have:=J3 q p;omega
theorem Ng (L:List V2)(i:Nat)(h:Qw L 1000)(hl:L.length<1000000)(hi:i<L.length):Fn Tryz.prog 59 [Qm L,I i] (vA (FN (L.getD i v0) (Ze L i))):=by
 have hb1:=h i;have hb2:vb (Ze L i)≤1000:=h ((i+1)%L.length);have hb3:=J3 (Ze L i) (L.getD i v0);have c1:=Ft L i hl hi;have c2:=J1 (Ze L i) (L.getD i v0) (by unfold rm;omega) (by unfold rm;omega);have c3:=IP ((Ze L i).sub (L.getD i v0)) (by unfold rm;omega);rw[MN]at c3;have v1:=vF L i;have e:L.getD ((i+1)%L.length) v0=Ze L i:=rfl;rw[e]at c1;have f2:(i<L.length)=True:=K_ hi;obtain⟨R,hR⟩:∃R,R=vA (FN (L.getD i v0) (Ze L i)):=⟨_,rfl⟩
 have sR:A_ R:=hR▸Xx _;rw[←hR]at c3;rw[←hR];refine y_ (fn:=Tryz.f59) Tryz.call59 Tryz.func59 rfl mixed 5 [] [] [] (by kernel_rfl) (L' rfl) (KS (Xq L) (X9 i)) (Xk ?_);simp(disch:=omega)only[P',X7,↓Xd,wG,seval];refine X0 c1 ⟨by rw[X7];exact X' _,X' _,trivial⟩ ?_;simp(disch:=omega)only[X7,f2,v1,↓Xd,wG,seval];refine X0 c2 (X1 _) ?_;simp(disch:=omega)only[↓Xd,wG,seval];refine X0 c3 (X1 _) ?_;simp(disch:=omega)only[hR,vA,vC,↓Xd,wG,seval];exact At rfl JH rfl rfl rfl sR (hR.trans rfl)
def lH (a b p:V2):Bool:=decide (Xr (a.sub p) (b.sub p)=0∧Qb (a.sub p) (b.sub p)≤0)
theorem oP (u v s t:Rat)(h:u*t-v*s=0):u*s+v*t≤0↔(u*s≤0∧v*t≤0):=by
 constructor
 ·intro hd
  have e:(u*s)*(v*t)=(u*t)*(u*t):=by
   have:u*t=v*s:=by grind
   grind
  have sq:0≤(u*t)*(u*t):=by
   rcases Rat.le_total (a:=0) (b:=u*t)with g |g
   ·exact zY g g
   ·have:=zY (a:=-(u*t)) (b:=-(u*t)) (by grind) (by grind)
    grind
  rw[←e]at sq;generalize u*s=x at *;generalize v*t=y at *;have key:∀ {x y:Rat},x+y≤0→0≤x*y→x≤0:=fun {x y} h1 h2=>by
   refine ZAW.1 fun hx=>?_
   have hy:y<0:=by grind
   have:=ZBG hx (show(0:Rat) < -y by grind);grind
  exact⟨key hd sq,key (x:=y) (y:=x) (by grind) (by grind)⟩
 ·rintro⟨h1,h2⟩;grind
theorem Yn (a b x:Rat):kH a b x=true↔(a-x)*(b-x)≤0:=by
 unfold kH;rw[decide_eq_true_eq];constructor
 ·rintro(⟨h1,h2⟩ | ⟨h1,h2⟩)
  ·have:=zY (a:=x-a) (b:=b-x) (by grind) (by grind)
   grind
  ·have:=zY (a:=a-x) (b:=x-b) (by grind) (by grind)
   grind
 ·intro h
  by_cases h1:a≤x
  ·by_cases h2:x≤b
   ·exact .inl ⟨h1,h2⟩
   ·by_cases h3:x≤a
    ·exact .inr ⟨by grind,h3⟩
    ·have:=ZBG (a:=x-a) (b:=x-b) (by grind) (by grind)
     grind
  ·by_cases h2:b≤x
   ·exact .inr ⟨h2,by grind⟩
   ·have:=ZBG (a:=a-x) (b:=b-x) (by grind) (by grind)
    grind
theorem Wg (a b p:V2):Kz a b p=0↔Xr (a.sub p) (b.sub p)=0:=by
 have e:Xr (b.sub a) (p.sub a)=Xr (a.sub p) (b.sub p):=by unfold Xr V2.sub;grind
 unfold Kz;rw[e];exact Cz _
theorem Rf (a b i p:V2):MI ⟨a,b,i⟩ p=lH a b p:=by
 rw[Bool.eq_iff_iff];unfold MI lH;rw[w_,w_,decide_eq_true_eq,decide_eq_true_eq,Wg,Yn,Yn];refine and_congr_right fun h=>?_
 exact(oP (a.x-p.x) (a.y-p.y) (b.x-p.x) (b.y-p.y) h).symm
end
end Go.Ab.N
namespace Go.Ab.N
open Go Go.RowKit Go.Proofs
open Go.Shelf
noncomputable section
set_option maxRecDepth 10000
set_option maxHeartbeats 4000000
open Classical
def O2 (a b:Rat):Rat:=if b<a then b else a
def NH (a b:Rat):Rat:=if b<a then a else b
theorem mh {P:Program}{fn:Func}{str hcs:List Nat}{b:Nat}{H:List AO}{s:AS}(hr:fn.results=#[])(hH:s.h=H):TBS (Ms P fn str hcs b (.tup []) H) s :=
 ⟨.tup [],by show Al P fn s=_;simp[Al,hr,JC,BH],rfl,hH⟩
def Pk (v:Nat)(a b:Rat):AO:=.row v 8 (Xf (qC a ++ qC b))
theorem Vz (o0 o1 o2 o3 o4:AO)(v:Nat)(a b:Rat)(ha:qb a≤rm)(hb:qb b≤rm) :
  G' Tryz.prog 241 [.osl 5 v 4 0 2,I 0,I 2,.fn 41 []] [o0,o1,o2,o3,o4,Pk v a b] (.tup []) [o0,o1,o2,o3,o4,Pk v (O2 a b) (NH a b)]:=by
 have c:=J6 b a hb ha;refine ZDu (fn:=Tryz.f241) Tryz.call241 Tryz.func241 rfl mixed 10 [] [4,5008,5013,6,7009,7013] [] (by kernel_rfl) (L' rfl) (Xk ?_);simp(disch:=omega)only[P',Pk,qC,↓Xd,wG,seval];refine FD ?_;refine Xk ?_;simp(disch:=omega)only[↓Xd,wG,seval];refine FD ?_;refine Xk ?_;simp(disch:=omega)only[↓Xd,wG,seval];refine X0 c (X1 _) ?_;simp(disch:=omega)only[CP,↓Xd,wG,seval];have e1:O2 a b=if b<a then b else a:=rfl
 have e2:NH a b=if b<a then a else b:=rfl
 refine⟨fun h=>?_,fun h=>?_⟩
 ·rw[N_ h]at e1 e2
  rw[e1,e2];refine E0 ?_;refine Xk ?_;simp(disch:=omega)only[↓Xd,wG,seval];refine E0 ?_;refine Xk ?_;simp(disch:=omega)only[↓Xd,wG,seval];exact mh rfl rfl
 ·rw[M_ h]at e1 e2
  rw[e1,e2];refine E0 ?_;refine Xk ?_;simp(disch:=omega)only[↓Xd,wG,seval];exact mh rfl rfl
def zN:Go.Shelf.Ren:=⟨fun k=>if k=125 then 227 else if k=128 then 249 else 250,fun t=>if t=46 then 214 else if t=51 then 230 else if t=53 then 185 else t,fun x=>x⟩
theorem ym:Lays.n125 Tryz.prog zN where
 mixed:=mixed
 f125:=Tryz.func227.trans (t_ some rfl)
 f128:=Tryz.func249.trans (t_ some rfl)
 f129:=Tryz.func250.trans (t_ some rfl)
 t3:=Tryz.underlying3
 a3:=Tryz.isAgg3
 z3:=Tryz.sizeOf3
 v3:=Tryz.zeroValue3
 t4:=Tryz.underlying4
 a4:=Tryz.isAgg4
 z4:=Tryz.sizeOf4
 v4:=Tryz.zeroValue4
 t5:=Tryz.underlying5
 a5:=Tryz.isAgg5
 z5:=Tryz.sizeOf5
 v5:=Tryz.zeroValue5
 t9:=Tryz.underlying9
 a9:=Tryz.isAgg9
 z9:=Tryz.sizeOf9
 v9:=Tryz.zeroValue9
 t46:=Tryz.underlying214
 a46:=Tryz.isAgg214
 z46:=Tryz.sizeOf214
 v46:=Tryz.zeroValue214
 t51:=Tryz.underlying230
 a51:=Tryz.isAgg230
 z51:=Tryz.sizeOf230
 v51:=Tryz.zeroValue230
 t53:=Tryz.underlying185
 a53:=Tryz.isAgg185
 z53:=Tryz.sizeOf185
 v53:=Tryz.zeroValue185
theorem vU (n:Nat)(h:n<1000000):Fn Tryz.prog 227 [.int .u64 n] (I (ZEI n)):=by
 refine⟨⟨Tryz.call227,?_⟩,fun a ha=>by rw[a_.1 ha];exact Jn _ _⟩;rintro w S vs hS ⟨hv1,hv2⟩;have hx:=hv2 0 (by simp);have h3:vs.size=1:=hv1;have e1:vs=#[vs.getD 0 undef]:=by
  apply Array.ext
  ·simp[h3]
  ·intro j g1 g2
   match j,g1 with
   |0,_=>simp[Array.getD,h3]
   |j+1,g=>omega
 rw[e1];generalize vs.getD 0 undef=x at *;replace hx:Rep (.bare w S) x (.int .u64 n):=hx;cases hx;have key:=Any.bits_Len ym (n:Int) w (by omega) (by omega);refine key.mono ?_;rintro e w' ⟨rfl,rfl⟩;rw[T_];exact⟨_,S,rfl,.int _ _,hS,Ext.refl _⟩
theorem wB {P:Program}{fn:Func}{str hcs:List Nat}{b:Nat}{H:List AO}{s:AS}(hr:fn.results=#[])(hH:s.h=H):TAC (Ms P fn str hcs b (.tup []) H) s :=
 ⟨.tup [],by show Al P fn s=_;simp[Al,hr,JC,BH],rfl,hH⟩
theorem x6 {o0 o1 o2 o3 o4 o5:AO}(h:∀ o∈[o0,o1,o2,o3,o4],o≠.D_)(h5:o5≠.D_)(id:Nat):[o0,o1,o2,o3,o4,o5][id]?≠some .D_:=by
 intro hh;have:=ZAC hh;rw[show [o0,o1,o2,o3,o4,o5]=[o0,o1,o2,o3,o4] ++ [o5]from rfl,m_,a_]at this;rcases this with g |g
 ·exact h _ g rfl
 ·exact h5 g.symm
theorem qX (o0 o1 o2 o3 o4:AO)(hu:∀ o∈[o0,o1,o2,o3,o4],o≠.D_)(v lim:Nat)(a b:Rat)(ha:qb a≤rm)(hb:qb b≤rm) :
  G' Tryz.prog 226 [.osl 5 v 4 0 2,I 0,I 2,I lim,.fn 41 []] [o0,o1,o2,o3,o4,Pk v a b] (.tup []) [o0,o1,o2,o3,o4,Pk v (O2 a b) (NH a b)]:=by
 have c:=Vz o0 o1 o2 o3 o4 v a b ha hb;refine ZDu (fn:=Tryz.f226) Tryz.call226 Tryz.func226 rfl mixed 21 [] [] [4] (by kernel_rfl) (L' rfl) (Xk ?_);simp(disch:=omega)only[P',↓Xd,wG,seval];refine FD ?_;refine Xk ?_;simp(disch:=omega)only[↓Xd,wG,seval];refine Xz rfl c (QT (id:=5) (o:=Pk v a b) rfl (by simp[Pk]) (by simp[Pk])) (x6 hu (by simp[Pk])) (X1 _) ?_;simp(disch:=omega)only[↓Xd,wG,seval];exact wB rfl rfl
theorem mJ (o0 o1 o2 o3 o4:AO)(hu:∀ o∈[o0,o1,o2,o3,o4],o≠.D_)(v:Nat)(a b:Rat)(ha:qb a≤rm)(hb:qb b≤rm) :
  G' Tryz.prog 194 [.osl 5 v 4 0 2,.fn 41 []] [o0,o1,o2,o3,o4,Pk v a b] (.tup []) [o0,o1,o2,o3,o4,Pk v (O2 a b) (NH a b)]:=by
 have c:=qX o0 o1 o2 o3 o4 hu v (ZEI 2) a b ha hb;have cl:=vU 2 (by omega);generalize ZEI 2=lim at *;refine ZDu (fn:=Tryz.f194) Tryz.call194 Tryz.func194 rfl mixed 5 [] [] [1] (by kernel_rfl) (L' rfl) (Xk ?_);have hw:IntKind.u64.wrap 2=2:=by decide
 simp(disch:=omega)only[P',hw,↓Xd,wG,seval];refine X0 cl (X1 _) ?_;simp(disch:=omega)only[↓Xd,wG,seval];refine Xz rfl c (QT (id:=5) (o:=Pk v a b) rfl (by simp[Pk]) (by simp[Pk])) (x6 hu (by simp[Pk])) (X1 _) ?_;simp(disch:=omega)only[↓Xd,wG,seval];exact mh rfl rfl
end
end Go.Ab.N
namespace Go.Ab.N
open Go Go.RowKit Go.Proofs
noncomputable section
set_option maxRecDepth 10000
set_option maxHeartbeats 4000000
open Classical
theorem xM {z:Int}(h:-1000000000<z∧z<1000000000):bl z≤1:=by
 unfold bl;by_cases h0:z.natAbs=0
 ·rw[h0,Qu];decide
 ·rw[GN h0 (by omega)];exact N' 1
theorem Fz (p q:Int)(hp:-1000000000<p∧p<1000000000)(hq:-1000000000<q∧q<1000000000):qb (O_ p q)≤1:=Zk p q 1 (N' _) (xM hp) (xM hq)
theorem yv (p:Int)(hp:-1000000000<p∧p<1000000000):qb (p:Rat)≤1:=m7 p 1 (N' _) (xM hp)
theorem Ea (x y:Int)(hx:-1000000000<x∧x<1000000000)(hy:-1000000000<y∧y<1000000000):vb (pI x y)≤1:=ZDI.2 ⟨yv x hx,yv y hy⟩
def BN (l:List Int)(a:Int):V2 :=
 ⟨O_ (Ab.atF l a (16*(1+Ab.atF l (a+2) 2)+1)-8*(1+Ab.atF l (a+2) 2)) (1+Ab.atF l (a+2) 2),O_ (Ab.atF l (a+1) (16*(1+Ab.atF l (a+2) 2)+1)-8*(1+Ab.atF l (a+2) 2)) (1+Ab.atF l (a+2) 2)⟩
theorem LF (l:List Int)(a:Int):vb (BN l a)≤1:=by
 unfold BN;have b1:=XO l (a+2) 2 (by omega);generalize Ab.atF l (a+2) 2=x at *;have b2:=XO l a (16*(1+x)+1) (by omega);have b3:=XO l (a+1) (16*(1+x)+1) (by omega);exact ZDI.2 ⟨Fz _ _ (by omega) (by omega),Fz _ _ (by omega) (by omega)⟩
theorem ag (l:List Int)(a:Int)(hl:FR l)(ha:0≤a∧a<1000):Fn Tryz.prog 60 [X8 l,I a] (vA (BN l a)):=by
 have b1:=XO l (a+2) 2 (by omega);have c1:=JY l (a+2) 2 hl (by omega);obtain⟨R,hR⟩:∃R,R=vA (BN l a):=⟨_,rfl⟩
 have sR:A_ R:=hR▸Xx _;rw[←hR];unfold BN at hR;generalize Ab.atF l (a+2) 2=x at *;obtain⟨q,hq⟩:∃q,q=1+x:=⟨_,rfl⟩
 rw[←hq]at hR;have c2:=JY l a (16*q+1) hl (by omega);have c3:=JY l (a+1) (16*q+1) hl (by omega);have b2:=XO l a (16*q+1) (by omega);have b3:=XO l (a+1) (16*q+1) (by omega);generalize Ab.atF l a (16*q+1)=y at *;generalize Ab.atF l (a+1) (16*q+1)=z at *;have c4:=XS (y-8*q) q ⟨by omega,by omega⟩ ⟨by omega,by omega⟩;have c5:=XS (z-8*q) q ⟨by omega,by omega⟩ ⟨by omega,by omega⟩;refine y_ (fn:=Tryz.f60) Tryz.call60 Tryz.func60 rfl mixed 6 [] [] [] (by kernel_rfl) (L' rfl) (KS (Xc l) (X9 a)) (Xk ?_);simp(disch:=omega)only[P',←hq,↓Xd,wG,seval];refine X0 c1 (X1 _) ?_;simp(disch:=omega)only[←hq,↓Xd,wG,seval];refine X0 c2 (X1 _) ?_;simp(disch:=omega)only[↓Xd,wG,seval];refine X0 c4 (X1 _) ?_;simp(disch:=omega)only[↓Xd,wG,seval];refine X0 c3 (X1 _) ?_;simp(disch:=omega)only[↓Xd,wG,seval];refine X0 c5 (X1 _) ?_;simp(disch:=omega)only[qA,qC,↓Xd,wG,seval];exact At rfl JH rfl rfl rfl sR (hR.trans rfl)
def TCT:List (Int×Int×Int):=[(1,0,1),(0,1,1),(-1,0,1),(0,-1,1),(3,4,5),(-4,3,5),(5,-12,13),(-3,-4,5)]
def CA (n:Int):V2 :=
 let x:=TCT.getD (XA n 8).toNat (1,0,1)
 ⟨O_ x.1 x.2.2,O_ x.2.1 x.2.2⟩
theorem mK:TCT.all (fun x=>decide (qb (O_ x.1 x.2.2)≤1) && decide (qb (O_ x.2.1 x.2.2)≤1) && decide (O_ x.1 x.2.2*O_ x.1 x.2.2+O_ x.2.1 x.2.2*O_ x.2.1 x.2.2=1))=true:=by decide +kernel
theorem ae (n:Int):vb (CA n)≤1∧Qb (CA n) (CA n)=1:=by
 have b:=Qf n 8 (by omega);unfold CA;generalize XA n 8=k at *;have h:=ZA1.1 mK (TCT.getD k.toNat (1,0,1)) (Q9 _ (show k.toNat<8 by omega));simp only[w_,decide_eq_true_eq]at h;exact⟨ZDI.2 ⟨h.1.1,h.1.2⟩,h.2⟩
theorem rF (n:Int)(hn:ZO n):Fn Tryz.prog 140 [I n] (vA (CA n)):=by
 have c1:=K2 n 8 hn (by omega);have b:=Qf n 8 (by omega);obtain⟨R,hR⟩:∃R,R=vA (CA n):=⟨_,rfl⟩
 have sR:A_ R:=hR▸Xx _;rw[←hR];unfold CA at hR;generalize XA n 8=k at *;refine y_ (fn:=Tryz.f140) Tryz.call140 Tryz.func140 rfl mixed 5 [] [] [] (by kernel_rfl) (L' rfl) (fun a ha=>a_.1 ha▸X9 n) (Xk ?_);simp(disch:=omega)only[P',↓Xd,wG,seval];refine X0 c1 (X1 _) ?_;rcases(show k=0∨k=1∨k=2∨k=3∨k=4∨k=5∨k=6∨k=7 by omega)with rfl |rfl |rfl |rfl |rfl |rfl |rfl |rfl
 all_goals
  simp(disch:=omega)only[ZAq,ZAe,ZAu,ZA6,zU,↓Xd,wG,seval]
 ·refine X2 (XS 1 1 ⟨by omega,by omega⟩ ⟨by omega,by omega⟩) rfl ?_
  simp(disch:=omega)only[ZAq,ZAe,ZAu,ZA6,zU,↓Xd,wG,seval];refine X2 (XS 0 1 ⟨by omega,by omega⟩ ⟨by omega,by omega⟩) rfl ?_;simp(disch:=omega)only[qA,qC,↓Xd,wG,seval];exact At rfl GZ rfl rfl rfl sR (hR.trans rfl)
 ·refine X2 (XS 0 1 ⟨by omega,by omega⟩ ⟨by omega,by omega⟩) rfl ?_
  simp(disch:=omega)only[ZAq,ZAe,ZAu,ZA6,zU,↓Xd,wG,seval];refine X2 (XS 1 1 ⟨by omega,by omega⟩ ⟨by omega,by omega⟩) rfl ?_;simp(disch:=omega)only[qA,qC,↓Xd,wG,seval];exact At rfl GZ rfl rfl rfl sR (hR.trans rfl)
 ·refine X2 (XS (-1) 1 ⟨by omega,by omega⟩ ⟨by omega,by omega⟩) rfl ?_
  simp(disch:=omega)only[ZAq,ZAe,ZAu,ZA6,zU,↓Xd,wG,seval];refine X2 (XS 0 1 ⟨by omega,by omega⟩ ⟨by omega,by omega⟩) rfl ?_;simp(disch:=omega)only[qA,qC,↓Xd,wG,seval];exact At rfl GZ rfl rfl rfl sR (hR.trans rfl)
 ·refine X2 (XS 0 1 ⟨by omega,by omega⟩ ⟨by omega,by omega⟩) rfl ?_
  simp(disch:=omega)only[ZAq,ZAe,ZAu,ZA6,zU,↓Xd,wG,seval];refine X2 (XS (-1) 1 ⟨by omega,by omega⟩ ⟨by omega,by omega⟩) rfl ?_;simp(disch:=omega)only[qA,qC,↓Xd,wG,seval];exact At rfl GZ rfl rfl rfl sR (hR.trans rfl)
 ·refine X2 (XS 3 5 ⟨by omega,by omega⟩ ⟨by omega,by omega⟩) rfl ?_
  simp(disch:=omega)only[ZAq,ZAe,ZAu,ZA6,zU,↓Xd,wG,seval];refine X2 (XS 4 5 ⟨by omega,by omega⟩ ⟨by omega,by omega⟩) rfl ?_;simp(disch:=omega)only[qA,qC,↓Xd,wG,seval];exact At rfl GZ rfl rfl rfl sR (hR.trans rfl)
 ·refine X2 (XS (-4) 5 ⟨by omega,by omega⟩ ⟨by omega,by omega⟩) rfl ?_
  simp(disch:=omega)only[ZAq,ZAe,ZAu,ZA6,zU,↓Xd,wG,seval];refine X2 (XS 3 5 ⟨by omega,by omega⟩ ⟨by omega,by omega⟩) rfl ?_;simp(disch:=omega)only[qA,qC,↓Xd,wG,seval];exact At rfl GZ rfl rfl rfl sR (hR.trans rfl)
 ·refine X2 (XS 5 13 ⟨by omega,by omega⟩ ⟨by omega,by omega⟩) rfl ?_
  simp(disch:=omega)only[ZAq,ZAe,ZAu,ZA6,zU,↓Xd,wG,seval];refine X2 (XS (-12) 13 ⟨by omega,by omega⟩ ⟨by omega,by omega⟩) rfl ?_;simp(disch:=omega)only[qA,qC,↓Xd,wG,seval];exact At rfl GZ rfl rfl rfl sR (hR.trans rfl)
 ·refine X2 (XS (-3) 5 ⟨by omega,by omega⟩ ⟨by omega,by omega⟩) rfl ?_
  simp(disch:=omega)only[ZAq,ZAe,ZAu,ZA6,zU,↓Xd,wG,seval];refine X2 (XS (-4) 5 ⟨by omega,by omega⟩ ⟨by omega,by omega⟩) rfl ?_;simp(disch:=omega)only[qA,qC,↓Xd,wG,seval];exact At rfl GZ rfl rfl rfl sR (hR.trans rfl)
def TBc:List (Int×Int):=[(4,0),(4,2),(3,3),(2,4),(0,4),(-2,4),(-3,3),(-4,2),(-4,0),(-4,-2),(-3,-3),(-2,-4),(0,-4),(2,-4),(3,-3),(4,-2)]
def nw:List AV:=TBc.flatMap fun x=>[I x.1,I x.2]
theorem sa {i:Nat}(h:i<16):Xf nw (i*2)=I (TBc.getD i (0,0)).1∧Xf nw (i*2+1)=I (TBc.getD i (0,0)).2:=by
 match i,h with
 |0,_ |1,_ |2,_ |3,_ |4,_ |5,_ |6,_ |7,_ |8,_ |9,_ |10,_ |11,_ |12,_ |13,_ |14,_ |15,_=>exact⟨rfl,rfl⟩
 |i+16,h=>omega
theorem nz (i:Nat):(-4≤(TBc.getD i (0,0)).1∧(TBc.getD i (0,0)).1≤4)∧-4≤(TBc.getD i (0,0)).2∧(TBc.getD i (0,0)).2≤4:=by
 match i with
 |0 |1 |2 |3 |4 |5 |6 |7 |8 |9 |10 |11 |12 |13 |14 |15=>decide
 |i+16=>exact⟨⟨by show(-4:Int)≤0;omega,by show(0:Int)≤4;omega⟩,by show(-4:Int)≤0;omega,by show(0:Int)≤4;omega⟩
def PR (l:List Int):V2:=pI (Ab.atF l 16 9-4) (Ab.atF l 17 9-4)
def Mk (l:List Int)(i:Nat):V2:=⟨O_ ((TBc.getD i (0,0)).1*Ab.atF l i 6) 2,O_ ((TBc.getD i (0,0)).2*Ab.atF l i 6) 2⟩
def J5 (l:List Int):Nat→List V2
 |0=>[]
 |i+1=>if(J5 l i).length<12∧0<Ab.atF l i 6∧Ab.atF l i 6<4 then J5 l i ++ [(PR l).add (Mk l i)]else J5 l i
theorem P5 (l:List Int):∀i,(J5 l i).length≤12
 |0=>by simp[J5]
 |i+1=>by
  have:=P5 l i;unfold J5
  split
  ·rw[f_];simp only[ZAF,ZAc];omega
  ·exact this
theorem WO (l:List Int):vb (PR l)≤1:=by
 have b1:=XO l 16 9 (by omega);have b2:=XO l 17 9 (by omega);exact Ea _ _ (by omega) (by omega)
theorem Yr {w k:Int}(hw:-4≤w∧w≤4)(hk:0≤k∧k<6):-20≤w*k∧w*k≤20:=by
 rcases(show k=0∨k=1∨k=2∨k=3∨k=4∨k=5 by omega)with rfl |rfl |rfl |rfl |rfl |rfl <;> omega
theorem Su (l:List Int)(i:Nat):vb (Mk l i)≤1:=by
 have b:=XO l i 6 (by omega);obtain⟨h1,h2⟩:=nz i;have m1:=Yr h1 b;have m2:=Yr h2 b;exact ZDI.2 ⟨Fz _ _ (by omega) (by omega),Fz _ _ (by omega) (by omega)⟩
theorem EK (l:List Int):∀i,∀x∈J5 l i,vb x≤3
 |0,x,h=>by simp[J5]at h
 |i+1,x,h=>by
  unfold J5 at h
  split at h
  ·rcases m_.1 h with h |h
   ·exact EK l i x h
   ·rw[a_.1 h]
    have:=Z8 (PR l) (Mk l i);have:=WO l;have:=Su l i;omega
  ·exact EK l i x h
theorem Z7 {L:List V2}{k:Nat}(h:∀ x∈L,vb x≤k)(h1:1≤k):Qw L k:=fun i=>by
 by_cases hi:i<L.length
 ·exact h _ (Q9 _ hi)
 ·rw[K',j_ (by omega)]
  exact k_ (show vb v0≤1 by decide +kernel) h1
theorem N0 (l:List Int){i:Nat}(h:12≤(J5 l i).length):∀j,J5 l (i+j)=J5 l i
 |0=>rfl
 |j+1=>by
  have ih:=N0 l h j;show(if(J5 l (i+j)).length<12∧0<Ab.atF l ((i+j:Nat):Int) 6∧Ab.atF l ((i+j:Nat):Int) 6<4 then J5 l (i+j) ++ [(PR l).add (Mk l (i+j))]else J5 l (i+j))=_;rw[ih,M_ (by omega)]
theorem fE {H:List AO}{id ver n:Nat}(L:List V2)(ho:H[id]?=some (.row ver (L.length*8) (Xv vC 8 v0 L))) (hn:n=L.length):Zs H (.osl id ver 8 0 n) (Qm L):=by
 subst hn;rw[X7];refine Kc (.inl ho) (by omega) (fun h=>by rw[h]) fun j hj=>?_
 rw[x_];exact(Xe (by simp[vC,Xc,X5]) _).TBH _
def MZ (l:List Int):List V2 :=
 if ZQ (J5 l 16)then J5 l 16 else [PR l,(PR l).add (pI 4 0),(PR l).add (pI (1+Ab.atF l 0 2) 3),(PR l).add (pI 1 1)]
theorem VT (l:List Int)(hl:FR l):Fn Tryz.prog 54 [X8 l] (Qm (MZ l)):=by
 have k0:=WO l;have b1:=XO l 16 9 (by omega);have b2:=XO l 17 9 (by omega);have c1:=JY l 16 9 hl (by omega);have c2:=JY l 17 9 hl (by omega);have c3:=Kq (Ab.atF l 16 9-4) (Ab.atF l 17 9-4) ⟨by omega,by omega⟩ ⟨by omega,by omega⟩;rw[show(⟨((Ab.atF l 16 9-4:Int):Rat),((Ab.atF l 17 9-4:Int):Rat)⟩:V2)=PR l from rfl]at c3;have bw:∀q,J9 q (.sl 16 32 (Xf nw) false)=True:=fun q=>K_ (X4 (QF fun j _=>Xe (by simp[nw,TBc,X9]) j))
 have bi:∀q,J9 q (X8 l)=True:=fun q=>K_ (X4 (Xc l))
 have bb:∀q,XX q (.con 0 8 (Xf (vC (PR l))))=True:=fun q=>K_ fun j _=>X4 (Xe (by simp[vC,Xc,X5]) j)
 have bp:∀q,J9 q (.ptr 8 (Xf (vC (PR l))) 0)=True:=fun q=>K_ (X4 (XP fun j _=>Xe (by simp[vC,Xc,X5]) j))
 have br:∀q i n L,XX q (.row i n (Xv vC 8 v0 L))=True:=fun q i n L=>K_ fun j _=>X4 (Xe (by simp[vC,Xc,X5]) _)
 obtain⟨R,hR⟩:∃R,R=MZ l:=⟨_,rfl⟩
 have sR:=Xq R;rw[←hR];unfold MZ at hR;generalize hB:PR l=B at *;refine y_ (fn:=Tryz.f54) Tryz.call54 Tryz.func54 rfl mixed 8 [] [] [] (by kernel_rfl) (L' rfl) (fun a ha=>a_.1 ha▸Xc l) (Xk ?_);simp(disch:=omega)only[P',Xo,↓Xd,wG,seval];refine X0 c1 ⟨by rw[Xo];exact X' _,X' _,X' _,trivial⟩ ?_;simp(disch:=omega)only[↓Xd,wG,seval];refine X0 c2 ⟨by rw[Xo];exact X' _,X' _,X' _,trivial⟩ ?_;simp(disch:=omega)only[↓Xd,wG,seval];refine X0 c3 (X1 _) ?_;simp(disch:=omega)only[vA,vC,qC,↓Xd,wG,seval];refine Xi (fun i:Nat=>⟨8,[],[X8 l,.any,.any,.sl 16 32 (Xf nw) true,.ref 0 0 0,.osl 1 (J5 l i).length 8 0 (J5 l i).length,I i,.any],[],[.row 0 8 (Xf (vC B)),.row (J5 l i).length ((J5 l i).length*8) (Xv vC 8 v0 (J5 l i))]⟩) (fun i=>i≤16) (fun i=>16-i) 0 (by omega)
  (ZA8 (JM 5 8 (Xv vC 8 v0 []) rfl) (Xh rfl ⟨.inr (Xo l).symm,.inl rfl,.inl rfl,.inr rfl,.inr rfl,.inr rfl,.inr rfl,.inl rfl,trivial⟩ trivial rfl)) ?_
 intro i hi next
 have w1:=wj i (by omega);have hlen:=P5 l i;have fin:∀ (s:AS),s.get 5=.osl 1 (J5 l i).length 8 0 (J5 l i).length→True:=fun _ _=>trivial
 by_cases hgo:i<16∧(J5 l i).length<12
 ·obtain⟨hi2,hlt⟩:=hgo
  have c4:=JY l i 6 hl (by omega);have bk:=XO l i 6 (by omega);have hs:=show J5 l (i+1)=if(J5 l i).length<12∧0<Ab.atF l i 6∧Ab.atF l i 6<4 then J5 l i ++ [(PR l).add (Mk l i)]else J5 l i from rfl
  have hk1:=Su l i;have hco:=show Mk l i=⟨O_ ((TBc.getD i (0,0)).1*Ab.atF l i 6) 2,O_ ((TBc.getD i (0,0)).2*Ab.atF l i 6) 2⟩from rfl;have nx:=next (i+1)
  rw[hB]at hs;generalize Mk l i=q at *;generalize Ab.atF l i 6=k at *;obtain⟨hx,hy⟩:=sa hi2;obtain⟨bx,by'⟩:=nz i;generalize TBc.getD i (0,0)=w at *;have m1:=Yr bx bk;have m2:=Yr by' bk;generalize hP:J5 l i=P at *;have w2:Q_.wrap (w.1*k)=w.1*k:=by rw[M'];omega
  have w3:Q_.wrap (w.2*k)=w.2*k:=by rw[M'];omega
  have c5:=XS (w.1*k) 2 ⟨by omega,by omega⟩ ⟨by omega,by omega⟩;have c6:=XS (w.2*k) 2 ⟨by omega,by omega⟩ ⟨by omega,by omega⟩;have c7:=Jw B q (by unfold vm;omega) (by unfold vm;omega);refine Xk ?_;simp(disch:=omega)only[↓Xd,wG,seval];refine X0 c4 (X1 _) ?_;by_cases hk:0<k∧k<4
  ·rw[N_ ⟨hlt,hk⟩]at hs
   have hap:=Zj vC 8 v0 P (B.add q) (by omega);rw[←hs]at hap;have hl2:(J5 l (i+1)).length=P.length+1:=by rw[hs];simp
   rw[hl2]at nx;simp(disch:=omega)only[hk.1,hk.2,hx,hy,w2,w3,vC,qC,↓Xd,wG,seval];refine X0 c5 (X1 _) ?_;simp(disch:=omega)only[hx,hy,w2,w3,↓Xd,wG,seval];refine X0 c6 (X1 _) ?_;simp(disch:=omega)only[↓Xd,wG,seval];refine X0 c7 ⟨X' _,by rw[hco];exact X' _,trivial⟩ ?_;simp(disch:=omega)only[vA,vC,qC,↓Xd,wG,seval];exact⟨fun j hj=>nh (B.add q) j hj,nx _ (by omega) (by omega) (ZS (by simp[Xm,I,Xo]) (by rw[←hap];rfl))⟩
  ·rw[M_ (fun h=>hk h.2)]at hs
   rw[hs]at nx;by_cases hk0:0<k
   ·simp(disch:=omega)only[hk0,show ¬k<4 by omega,↓Xd,wG,seval]
    exact nx _ (by omega) (by omega) (ZS (by simp[Xm,I,Xo]) rfl)
   ·simp(disch:=omega)only[hk0,↓Xd,wG,seval]
    exact nx _ (by omega) (by omega) (ZS (by simp[Xm,I,Xo]) rfl)
 ·have hp:J5 l 16=J5 l i:=by
   by_cases h16:i=16
   ·rw[h16]
   ·have:=N0 l (i:=i) (by omega) (16-i)
    rwa[show i+(16-i)=16 by omega]at this
  rw[hp]at hR;have cv:=DV (J5 l i) (Z7 (fun x hx=>k_ (EK l i x hx) (by omega)) (by omega)) (by omega);have b0:=XO l 0 2 (by omega);have c8:=Kq 4 0 ⟨by omega,by omega⟩ ⟨by omega,by omega⟩;have c9:=JY l 0 2 hl (by omega);have c10:=Kq (1+Ab.atF l 0 2) 3 ⟨by omega,by omega⟩ ⟨by omega,by omega⟩;have c11:=Kq 1 1 ⟨by omega,by omega⟩ ⟨by omega,by omega⟩;have v1:=Ea 4 0 (by omega) (by omega);have v2:=Ea (1+Ab.atF l 0 2) 3 (by omega) (by omega);have v3:=Ea 1 1 (by omega) (by omega);change Fn _ _ _ (vA (pI 4 0))at c8;change Fn _ _ _ (vA (pI (1+Ab.atF l 0 2) 3))at c10;change Fn _ _ _ (vA (pI 1 1))at c11;have c12:=Jw B (pI 4 0) (by unfold vm;omega) (by unfold vm;omega);have c13:=Jw B (pI (1+Ab.atF l 0 2) 3) (by unfold vm;omega) (by unfold vm;omega);have c14:=Jw B (pI 1 1) (by unfold vm;omega) (by unfold vm;omega);have sv:∀H:List AO,H[1]?=some (.row (J5 l i).length ((J5 l i).length*8) (Xv vC 8 v0 (J5 l i)))→Zs H (.osl 1 (J5 l i).length 8 0 (J5 l i).length) (Qm (J5 l i)):=fun H h=>fE _ h rfl
  generalize hP:J5 l i=P at *;generalize Ab.atF l 0 2=k at *;generalize pI 4 0=a1 at *;generalize pI (1+k) 3=a2 at *;generalize pI 1 1=a3 at *;have h12:i<16→¬P.length<12:=fun h h2=>hgo ⟨h,h2⟩
  refine Xk ?_;by_cases h16:i<16
  all_goals
   simp(disch:=omega)only[h16,h12,↓Xd,wG,seval];refine Oq cv rfl ⟨sv _ rfl,trivial⟩ (cT _) ?_;simp(disch:=omega)only[↓Xd,wG,seval];refine⟨fun h=>A9 rfl (by rw[hR,N_ h];exact sv _ rfl),fun h=>?_⟩;rw[M_ h]at hR;refine X0 c8 (X1 _) ?_;simp(disch:=omega)only[vA,vC,qC,↓Xd,wG,seval];refine X0 c12 (X1 _) ?_;simp(disch:=omega)only[vA,vC,qC,↓Xd,wG,seval];refine X0 c9 ⟨by rw[Xo];exact X' _,X' _,X' _,trivial⟩ ?_;simp(disch:=omega)only[↓Xd,wG,seval];refine X0 c10 (X1 _) ?_;simp(disch:=omega)only[vA,vC,qC,↓Xd,wG,seval];refine X0 c13 (X1 _) ?_;simp(disch:=omega)only[vA,vC,qC,↓Xd,wG,seval];refine X0 c11 (X1 _) ?_;simp(disch:=omega)only[vA,vC,qC,↓Xd,wG,seval];refine X0 c14 (X1 _) ?_;simp(disch:=omega)only[vA,vC,qC,↓Xd,wG,seval];exact A9 rfl (Xw (Xq _) (by rw[hR];exact Kt vC 8 v0 (fun _=>rfl) [B,B.add a1,B.add a2,B.add a3] _ _ _ _ rfl rfl rfl))
def Gl (a b:V2):V2:=(a.add b).scale (O_ 1 2)
theorem dN (a b:V2)(ha:vb a≤100000)(hb:vb b≤100000):Fn Tryz.prog 57 [vA a,vA b] (vA (Gl a b)):=by
 have h1:=Z8 a b;have h3:=Fz 1 2 (by omega) (by omega);have c1:=Jw a b (by unfold vm;omega) (by unfold vm;omega);have c2:=XS 1 2 ⟨by omega,by omega⟩ ⟨by omega,by omega⟩;have c3:=AZ (a.add b) (O_ 1 2) (by unfold vm;omega) (by unfold vm;omega);rw[show(a.add b).scale (O_ 1 2)=Gl a b from rfl]at c3;obtain⟨R,hR⟩:∃R,R=vA (Gl a b):=⟨_,rfl⟩
 have sR:A_ R:=hR▸Xx _;rw[←hR]at c3;rw[←hR];refine y_ (fn:=Tryz.f57) Tryz.call57 Tryz.func57 rfl mixed 5 [] [] [] (by kernel_rfl) (L' rfl) (KS (Xx a) (Xx b)) (Xk ?_);simp(disch:=omega)only[P',vA,vC,↓Xd,wG,seval];refine X0 c1 (X1 _) ?_;simp(disch:=omega)only[vA,vC,↓Xd,wG,seval];refine X0 c2 (X1 _) ?_;simp(disch:=omega)only[qA,qC,↓Xd,wG,seval];refine X0 c3 (X1 _) ?_;simp(disch:=omega)only[hR,vA,vC,↓Xd,wG,seval];exact At rfl JH rfl rfl rfl sR (hR.trans rfl)
theorem lV (l:List Int)(a:Int)(hl:FR l)(ha:0≤a∧a<900):Fn Tryz.prog 56 [X8 l,I a] (qZ (CA (Ab.atF l a 64)) (BN l (a+1))):=by
 have b1:=XO l a 64 (by omega);have c1:=JY l a 64 hl (by omega);have c2:=rF (Ab.atF l a 64) ⟨by omega,by omega⟩;have c3:=ag l (a+1) hl (by omega);obtain⟨R,hR⟩:∃R,R=qZ (CA (Ab.atF l a 64)) (BN l (a+1)):=⟨_,rfl⟩
 have sR:A_ R:=hR▸IV _ _;rw[←hR];generalize CA (Ab.atF l a 64)=t at *;generalize BN l (a+1)=c at *;generalize Ab.atF l a 64=k at *;refine y_ (fn:=Tryz.f56) Tryz.call56 Tryz.func56 rfl mixed 5 [] [] [] (by kernel_rfl) (L' rfl) (KS (Xc l) (X9 a)) (Xk ?_);simp(disch:=omega)only[P',↓Xd,wG,seval];refine X0 c1 (X1 _) ?_;simp(disch:=omega)only[↓Xd,wG,seval];refine X0 c2 (X1 _) ?_;simp(disch:=omega)only[vA,vC,↓Xd,wG,seval];refine X0 c3 (X1 _) ?_;simp(disch:=omega)only[vA,vC,↓Xd,wG,seval];exact Cv rfl kQ rfl rfl rfl (Xw sR (by rw[hR];exact X' _))
def O9 (l:List Int):Int:=1+Ab.atF l 0 6
def O7 (l:List Int):Int:=1+Ab.atF l 1 6
def O8 (l:List Int):Int:=Ab.atF l 2 5-2
def Lg (k w h s:Int):List V2 :=
 if k=1 then [v0,pI (3*w) 0,pI (3*w) h,pI w h,pI w (3*h),pI 0 (3*h)]
 else if k=2 then [v0,pI w (-1),pI (w+2) h,pI w (2*h+1),pI 0 (2*h),pI (-2) h]
 else [v0,pI w 0,pI (w+s) h,pI s h]
def O6 (l:List Int):List V2 :=
 if Ab.atF l 3 5=0 then MZ l else DP (CA (Ab.atF l 4 64)) (BN l 5) (Lg (Ab.atF l 3 5) (O9 l) (O7 l) (O8 l))
def Wv (L:List V2):Prop:=(3≤L.length∧L.length≤12)∧Qw L 7∧∀i,i<L.length→L.getD i v0≠Ze L i
theorem Lv {L:List V2}{i:Nat}(h:i+1=L.length):Ze L i=L.getD 0 v0:=by unfold Ze;rw[h,ZC1]
theorem A7 {a b c d:Int}:pI a b=pI c d↔a=c∧b=d:=by
 unfold pI;simp only[V2.mk.injEq,ZBw]
theorem NA:v0=pI 0 0:=rfl
theorem YS {k w h s:Int}(hw:1≤w∧w≤6)(hh:1≤h∧h≤6)(hs:-2≤s∧s≤2):(4≤(Lg k w h s).length∧(Lg k w h s).length≤6)∧(∀x∈Lg k w h s,vb x≤1)∧∀i,i<(Lg k w h s).length→(Lg k w h s).getD i v0≠Ze (Lg k w h s) i:=by
 have z:vb v0≤1:=by decide +kernel
 unfold Lg
 split
 ·refine⟨by simp,?_,?_⟩
  ·simp only[b_,V',or_false]
   rintro x (rfl |rfl |rfl |rfl |rfl |rfl)
   ·exact z
   all_goals exact Ea _ _ (by omega) (by omega)
  ·intro i hi
   match i,hi with
   |0,_=>show v0≠pI (3*w) 0;rw[NA,Ne,A7];omega
   |1,_=>show pI (3*w) 0≠pI (3*w) h;rw[Ne,A7];omega
   |2,_=>show pI (3*w) h≠pI w h;rw[Ne,A7];omega
   |3,_=>show pI w h≠pI w (3*h);rw[Ne,A7];omega
   |4,_=>show pI w (3*h)≠pI 0 (3*h);rw[Ne,A7];omega
   |5,_=>rw[Lv rfl];show pI 0 (3*h)≠v0;rw[NA,Ne,A7];omega
   |i+6,h=>simp at h;omega
 ·split
  ·refine⟨by simp,?_,?_⟩
   ·simp only[b_,V',or_false]
    rintro x (rfl |rfl |rfl |rfl |rfl |rfl)
    ·exact z
    all_goals exact Ea _ _ (by omega) (by omega)
   ·intro i hi
    match i,hi with
    |0,_=>show v0≠pI w (-1);rw[NA,Ne,A7];omega
    |1,_=>show pI w (-1)≠pI (w+2) h;rw[Ne,A7];omega
    |2,_=>show pI (w+2) h≠pI w (2*h+1);rw[Ne,A7];omega
    |3,_=>show pI w (2*h+1)≠pI 0 (2*h);rw[Ne,A7];omega
    |4,_=>show pI 0 (2*h)≠pI (-2) h;rw[Ne,A7];omega
    |5,_=>rw[Lv rfl];show pI (-2) h≠v0;rw[NA,Ne,A7];omega
    |i+6,h=>simp at h;omega
  ·refine⟨by simp,?_,?_⟩
   ·simp only[b_,V',or_false]
    rintro x (rfl |rfl |rfl |rfl)
    ·exact z
    all_goals exact Ea _ _ (by omega) (by omega)
   ·intro i hi
    match i,hi with
    |0,_=>show v0≠pI w 0;rw[NA,Ne,A7];omega
    |1,_=>show pI w 0≠pI (w+s) h;rw[Ne,A7];omega
    |2,_=>show pI (w+s) h≠pI s h;rw[Ne,A7];omega
    |3,_=>rw[Lv rfl];show pI s h≠v0;rw[NA,Ne,A7];omega
    |i+4,h=>simp at h;omega
theorem rc {t c a b:V2}(ht:Qb t t=1)(h:put t c a=put t c b):a=b:=by
 unfold put tI V2.add at h;simp only[V2.mk.injEq]at h;obtain⟨h1,h2⟩:=h;unfold Qb at ht;cases a;cases b;simp only[V2.mk.injEq]at *;constructor <;> grind
theorem wC (l:List Int):Wv (O6 l):=by
 unfold O6
 split
 ·unfold MZ
  have hb:=WO l;have b0:=XO l 0 2 (by omega)
  split
  ·rename_i h
   refine⟨h.1,Z7 (fun x hx=>k_ (EK l 16 x hx) (by omega)) (by omega),fun i hi=>?_⟩;have:=LC (h.2.1 i hi).1;unfold Ab.N.atF at this;rw[ZAB hi]at this;exact this
  ·have a1:=Z8 (PR l) (pI 4 0)
   have a2:=Z8 (PR l) (pI (1+Ab.atF l 0 2) 3);have a3:=Z8 (PR l) (pI 1 1);have v1:=Ea 4 0 (by omega) (by omega);have v2:=Ea (1+Ab.atF l 0 2) 3 (by omega) (by omega);have v3:=Ea 1 1 (by omega) (by omega);refine⟨by simp,Z7 ?_ (by omega),?_⟩
   ·simp only[b_,V',or_false]
    rintro x (rfl |rfl |rfl |rfl) <;> omega
   ·have ne:∀ {x y:Int} {a:V2},¬ (x=0∧y=0)→a≠a.add (pI x y):=fun {x y a} h e=>h (by
     have e1:a.x=a.x+(x:Rat):=t_ V2.x e;have e2:a.y=a.y+(y:Rat):=t_ V2.y e;have h1:(x:Rat)=((0:Int):Rat):=by grind
     have h2:(y:Rat)=((0:Int):Rat):=by grind
     exact⟨ZBw.1 h1,ZBw.1 h2⟩)
    have ne2:∀ {x y u v:Int} {a:V2},¬ (x=u∧y=v)→a.add (pI x y)≠a.add (pI u v):=fun {x y u v a} h e=>h (by
     have e1:a.x+(x:Rat)=a.x+(u:Rat):=t_ V2.x e;have e2:a.y+(y:Rat)=a.y+(v:Rat):=t_ V2.y e;exact⟨ZBw.1 (by grind),ZBw.1 (by grind)⟩)
    intro i hi
    match i,hi with
    |0,_=>exact ne (x:=4) (y:=0) (by omega)
    |1,_=>exact ne2 (x:=4) (y:=0) (u:=1+Ab.atF l 0 2) (v:=3) (by omega)
    |2,_=>exact ne2 (x:=1+Ab.atF l 0 2) (y:=3) (u:=1) (v:=1) (by omega)
    |3,_=>rw[Lv rfl];exact(ne (x:=1) (y:=1) (by omega)).symm
    |i+4,h=>simp at h;omega
 ·have b1:=XO l 0 6 (by omega)
  have b2:=XO l 1 6 (by omega);have b3:=XO l 2 5 (by omega);obtain⟨h1,h2,h3⟩:=YS (k:=Ab.atF l 3 5) (w:=O9 l) (h:=O7 l) (s:=O8 l) (by unfold O9;omega) (by unfold O7;omega) (by unfold O8;omega);obtain⟨t1,t2⟩:=ae (Ab.atF l 4 64);have c1:=LF l 5;generalize Lg (Ab.atF l 3 5) (O9 l) (O7 l) (O8 l)=C at *;generalize CA (Ab.atF l 4 64)=t at *;generalize BN l 5=c at *;have hm:∀i,i<C.length→(DP t c C).getD i v0=put t c (C.getD i v0):=fun i hi=>by
   unfold DP;rw[K',ZAi,K',U_ hi];rfl
  have hl:(DP t c C).length=C.length:=by simp[DP]
  refine⟨by rw[hl];omega,Z7 (fun x hx=>?_) (by omega),fun i hi=>?_⟩
  ·unfold DP at hx
   obtain⟨y,hy,rfl⟩:=ZA3.1 hx;have:=h2 y hy;have:=xf t c y;omega
  ·rw[hl]at hi
   unfold Ze;rw[hl,hm i hi,hm _ (z_ _ (by omega))];exact fun e=>h3 i hi (rc t2 e)
theorem rk (l:List Int)(hl:FR l):Fn Tryz.prog 11 [X8 l] (Qm (O6 l)):=by
 have c0:=VT l hl;have b1:=XO l 0 6 (by omega);have b2:=XO l 1 6 (by omega);have b3:=XO l 2 5 (by omega);have b4:=XO l 3 5 (by omega);have c1:=JY l 0 6 hl (by omega);have c2:=JY l 1 6 hl (by omega);have c3:=JY l 2 5 hl (by omega);have c4:=JY l 3 5 hl (by omega);have c5:=lV l 4 hl (by omega);obtain⟨t1,t2⟩:=ae (Ab.atF l 4 64);have s1:=LF l 5;have hC:=YS (k:=Ab.atF l 3 5) (w:=O9 l) (h:=O7 l) (s:=O8 l) (by unfold O9;omega) (by unfold O7;omega) (by unfold O8;omega);have c6:=Ty (CA (Ab.atF l 4 64)) (BN l 5) (Lg (Ab.atF l 3 5) (O9 l) (O7 l) (O8 l)) 1 (Z7 hC.2.1 (by omega)) (by omega) (by omega) (by omega) (by omega);obtain⟨R,hR⟩:∃R,R=O6 l:=⟨_,rfl⟩
 have sR:=Xq R;rw[←hR];unfold O6 at hR;rw[show(4:Int)+1=5 from rfl]at c5;unfold O9 O7 O8 at *;generalize CA (Ab.atF l 4 64)=t at *;generalize BN l 5=c at *;generalize MZ l=G at *;generalize Ab.atF l 0 6=w at *;generalize Ab.atF l 1 6=h at *;generalize Ab.atF l 2 5=s at *;generalize Ab.atF l 3 5=k at *;refine y_ (fn:=Tryz.f11) Tryz.call11 Tryz.func11 rfl mixed 7 [29] [] [] (by kernel_rfl) (L' rfl) (fun a ha=>a_.1 ha▸Xc l) (Xk ?_);simp(disch:=omega)only[P',↓Xd,wG,seval];refine X0 c1 (X1 _) ?_;simp(disch:=omega)only[↓Xd,wG,seval];refine X0 c2 (X1 _) ?_;simp(disch:=omega)only[↓Xd,wG,seval];have p:∀x y:Int,-100≤x∧x≤100→-100≤y∧y≤100→Fn Tryz.prog 53 [I x,I y] (vA (pI x y)):=fun x y hx hy=>Kq x y ⟨by omega,by omega⟩ ⟨by omega,by omega⟩
 have z:=Jj false;have wl:∀ (L:List V2) (n m:Nat) (F:List AV),F=[AV.bool false,.sl 0 0 (fun _=>.any) false,.bool false,.sl 0 0 (fun _=>.any) false,.bool false,.sl 0 0 (fun _=>.any) false,.bool false,.sl 0 0 (fun _=>.any) false] ++ L.flatMap vC→n=L.length+1→m=(L.length+1)*8→∀tt,B_ (.sl n m (Xf F) tt) (Qm (v0 :: L)):=fun L n m F hF hn hm tt=>by
  subst hF hn hm;have hL:TAR ([AV.bool false,.sl 0 0 (fun _=>.any) false,.bool false,.sl 0 0 (fun _=>.any) false,.bool false,.sl 0 0 (fun _=>.any) false,.bool false,.sl 0 0 (fun _=>.any) false] ++ L.flatMap vC) ((v0 :: L).flatMap vC):=⟨z.1,z.2.1,z.2.2.1,z.2.2.2.1,z.1,z.2.1,z.2.2.1,z.2.2.2.1,X1 _⟩
  exact JJ rfl (N' _) fun j hj=>by
   rw[←I9 vC 8 v0 (fun _=>rfl) (v0 :: L) j hj];exact FI hL j
 refine X0 c3 (X1 _) ?_;simp(disch:=omega)only[↓Xd,wG,seval];refine X0 (p (1+w) 0 (by omega) (by omega)) (X1 _) ?_;simp(disch:=omega)only[vA,vC,↓Xd,wG,seval];refine X0 (p (1+w+(s-2)) (1+h) (by omega) (by omega)) (X1 _) ?_;simp(disch:=omega)only[vA,vC,↓Xd,wG,seval];refine X0 (p (s-2) (1+h) (by omega) (by omega)) (X1 _) ?_;simp(disch:=omega)only[vA,vC,↓Xd,wG,seval];refine X0 c4 (X1 _) ?_;rcases(show k=0∨k=1∨k=2∨k=3∨k=4 by omega)with rfl |rfl |rfl |rfl |rfl
 all_goals simp(disch:=omega)only[zU,↓Xd,wG,seval]
 ·refine X0 c0 ⟨by rw[Xo];exact X' _,trivial⟩ ?_
  simp(disch:=omega)only[X7,↓Xd,wG,seval];exact Xp rfl rfl sR (by rw[hR,X7];rfl)
 ·refine X0 (p (3*(1+w)) 0 (by omega) (by omega)) (X1 _) ?_
  simp(disch:=omega)only[vA,vC,↓Xd,wG,seval];refine X0 (p (3*(1+w)) (1+h) (by omega) (by omega)) (X1 _) ?_;simp(disch:=omega)only[vA,vC,↓Xd,wG,seval];refine X0 (p (1+w) (1+h) (by omega) (by omega)) (X1 _) ?_;simp(disch:=omega)only[vA,vC,↓Xd,wG,seval];refine X0 (p (1+w) (3*(1+h)) (by omega) (by omega)) (X1 _) ?_;simp(disch:=omega)only[vA,vC,↓Xd,wG,seval];refine X0 (p 0 (3*(1+h)) (by omega) (by omega)) (X1 _) ?_;simp(disch:=omega)only[vA,vC,↓Xd,wG,seval];refine X0 c5 ⟨by rw[Xo];exact X' _,X' _,trivial⟩ ?_;simp(disch:=omega)only[qZ,YF,↓Xd,wG,seval];refine X0 c6 ⟨X' _,wl [pI (3*(1+w)) 0,pI (3*(1+w)) (1+h),pI (1+w) (1+h),pI (1+w) (3*(1+h)),pI 0 (3*(1+h))] _ _ _ rfl rfl rfl _,trivial⟩ ?_;simp(disch:=omega)only[X7,↓Xd,wG,seval];exact Xp rfl rfl sR (by rw[hR,X7];rfl)
 ·refine X0 (p (1+w) (-1) (by omega) (by omega)) (X1 _) ?_
  simp(disch:=omega)only[vA,vC,↓Xd,wG,seval];refine X0 (p (1+w+2) (1+h) (by omega) (by omega)) (X1 _) ?_;simp(disch:=omega)only[vA,vC,↓Xd,wG,seval];refine X0 (p (1+w) (2*(1+h)+1) (by omega) (by omega)) (X1 _) ?_;simp(disch:=omega)only[vA,vC,↓Xd,wG,seval];refine X0 (p 0 (2*(1+h)) (by omega) (by omega)) (X1 _) ?_;simp(disch:=omega)only[vA,vC,↓Xd,wG,seval];refine X0 (p (-2) (1+h) (by omega) (by omega)) (X1 _) ?_;simp(disch:=omega)only[vA,vC,↓Xd,wG,seval];refine X0 c5 ⟨by rw[Xo];exact X' _,X' _,trivial⟩ ?_;simp(disch:=omega)only[qZ,YF,↓Xd,wG,seval];refine X0 c6 ⟨X' _,wl [pI (1+w) (-1),pI (1+w+2) (1+h),pI (1+w) (2*(1+h)+1),pI 0 (2*(1+h)),pI (-2) (1+h)] _ _ _ rfl rfl rfl _,trivial⟩ ?_;simp(disch:=omega)only[X7,↓Xd,wG,seval];exact Xp rfl rfl sR (by rw[hR,X7];rfl)
 ·refine X0 c5 ⟨by rw[Xo];exact X' _,X' _,trivial⟩ ?_
  simp(disch:=omega)only[qZ,YF,↓Xd,wG,seval];refine X0 c6 ⟨X' _,wl [pI (1+w) 0,pI (1+w+(s-2)) (1+h),pI (s-2) (1+h)] _ _ _ rfl rfl rfl _,trivial⟩ ?_;simp(disch:=omega)only[X7,↓Xd,wG,seval];exact Xp rfl rfl sR (by rw[hR,X7];rfl)
 ·refine X0 c5 ⟨by rw[Xo];exact X' _,X' _,trivial⟩ ?_
  simp(disch:=omega)only[qZ,YF,↓Xd,wG,seval];refine X0 c6 ⟨X' _,wl [pI (1+w) 0,pI (1+w+(s-2)) (1+h),pI (s-2) (1+h)] _ _ _ rfl rfl rfl _,trivial⟩ ?_;simp(disch:=omega)only[X7,↓Xd,wG,seval];exact Xp rfl rfl sR (by rw[hR,X7];rfl)
def IK (L:List V2)(i:Nat):Rat:=Xr ((L.getD i v0).sub (L.getD 0 v0)) ((L.getD (i+1) v0).sub (L.getD 0 v0))*O_ 1 6
def Uf (L:List V2)(i:Nat):V2:=((L.getD 0 v0).add (L.getD i v0)).add (L.getD (i+1) v0)
def Ee (L:List V2):Nat→V2
 |0=>v0
 |k+1=>(Ee L k).add ((Uf L (k+1)).scale (IK L (k+1)))
def FU (L:List V2):V2:=if Zu L=0 then v0 else(Ee L (L.length-2)).scale (O_ 1 1/Zu L)
theorem Vd (L:List V2)(h:Qw L 7)(i:Nat):vb ((L.getD i v0).sub (L.getD 0 v0))≤15∧vb ((L.getD 0 v0).add (L.getD i v0))≤15∧vb (Uf L i)≤23∧qb (IK L i)≤62:=by
 have h0:=h 0;have h1:=h i;have h2:=h (i+1);have s1:=J3 (L.getD i v0) (L.getD 0 v0);have s2:=J3 (L.getD (i+1) v0) (L.getD 0 v0);have a1:=Z8 (L.getD 0 v0) (L.getD i v0);have a2:=Z8 ((L.getD 0 v0).add (L.getD i v0)) (L.getD (i+1) v0);have c1:=Kv ((L.getD i v0).sub (L.getD 0 v0)) ((L.getD (i+1) v0).sub (L.getD 0 v0));have m1:=Qo (Xr ((L.getD i v0).sub (L.getD 0 v0)) ((L.getD (i+1) v0).sub (L.getD 0 v0))) (O_ 1 6);have q6:=Fz 1 6 (by omega) (by omega);refine⟨by omega,by omega,by unfold Uf;omega,by unfold IK;omega⟩
theorem Lm (L:List V2)(h:Qw L 7):∀k,vb (Ee L k)≤86*k+1
 |0=>by show vb v0≤1;decide +kernel
 |k+1=>by
  have i1:=Lm L h k;obtain⟨_,_,h3,h4⟩:=Vd L h (k+1);have s:=F0 (Uf L (k+1)) (IK L (k+1));have a:=Z8 (Ee L k) ((Uf L (k+1)).scale (IK L (k+1)));show vb ((Ee L k).add ((Uf L (k+1)).scale (IK L (k+1))))≤_;omega
theorem PT (L:List V2)(h:Qw L 7)(hl:L.length≤12):vb (FU L)≤1230∧qb (Zu L)≤400:=by
 have a1:=GA L 7 h L.length;have a2:=Qo (Bc L L.length) (O_ 1 2);have q2:=Fz 1 2 (by omega) (by omega);have q1:=Fz 1 1 (by omega) (by omega);have a3:qb (Zu L)≤362:=by unfold Zu;omega
 refine⟨?_,by omega⟩;unfold FU
 split
 ·exact k_ (show vb v0≤1 by decide +kernel) (by omega)
 ·have k1:=Lm L h (L.length-2)
  have k2:=BR (O_ 1 1) (Zu L);have k3:=F0 (Ee L (L.length-2)) (O_ 1 1/Zu L);omega
theorem nA (t:Bool):TAR [.bool false,.sl 0 0 (fun _=>.any) t,.bool false,.sl 0 0 (fun _=>.any) t,.bool false,.sl 0 0 (fun _=>.any) t,.bool false,.sl 0 0 (fun _=>.any) t] (vC v0):=by
 have w:=Jj t;exact⟨w.1,w.2.1,w.2.2.1,w.2.2.2.1,w.1,w.2.1,w.2.2.1,w.2.2.2.1,trivial⟩
theorem bW (L:List V2)(h:Qw L 7)(hl:2≤L.length∧L.length≤12):Fn Tryz.prog 77 [Qm L] (vA (FU L)):=by
 obtain⟨bc,ba⟩:=PT L h hl.2;have c1:=Nb L 7 h (by omega) (by omega);have c2:=Qz (Zu L) (by unfold rm;omega);obtain⟨R,hR⟩:∃R,R=vA (FU L):=⟨_,rfl⟩
 have sR:A_ R:=hR▸Xx _;rw[←hR];unfold FU at hR;have s1:=Cz (Zu L);refine y_ (fn:=Tryz.f77) Tryz.call77 Tryz.func77 rfl mixed 7 [] [8] [] (by kernel_rfl) (L' rfl) (fun a ha=>a_.1 ha▸Xq L) (Xk ?_);simp(disch:=omega)only[P',X7,↓Xd,wG,seval];refine X0 c1 ⟨by rw[X7];exact X' _,trivial⟩ ?_;simp(disch:=omega)only[qA,qC,↓Xd,wG,seval];refine X0 c2 (X1 _) ?_;simp(disch:=omega)only[Cz,↓Xd,wG,seval];refine⟨fun h0=>?_,fun h0=>?_⟩
 ·exact Cv rfl JH rfl rfl rfl (Xw sR (by rw[hR,N_ h0];exact Eb _))
 rw[M_ h0]at hR;have bq:∀q i n x,XX q (.row i n (Xf (qC x)))=True:=fun q i n x=>K_ (QN (XV x))
 have bw:∀q i n x,XX q (.row i n (Xf (vC x)))=True:=fun q i n x=>K_ (QN (by simp[vC,Xc,X5]))
 have bz:∀q,XX q (.row 0 8 (Xf [.bool false,.sl 0 0 (fun _=>.any) true,.bool false,.sl 0 0 (fun _=>.any) true,.bool false,.sl 0 0 (fun _=>.any) true,.bool false,.sl 0 0 (fun _=>.any) true]))=True:=fun q=>K_ (QN (by simp[X5,J7]))
 have bv:∀q,J9 q (Qm L)=True:=fun q=>K_ (X4 (Xq L))
 generalize Zu L=A at *;refine e_ ?_ (Qh 2 (Xf (vC (Ee L 0))) rfl (fun j hj=>XI (FI (nA true) j)));refine Xi (fun k:Nat=>⟨7,[],[Qm L,.any,.ref 0 0 0,.ref 1 0 0,.ref 2 0 0,I (k+1:Nat),.any],[],[.row 0 8 (Xf [.bool false,.sl 0 0 (fun _=>.any) true,.bool false,.sl 0 0 (fun _=>.any) true,.bool false,.sl 0 0 (fun _=>.any) true,.bool false,.sl 0 0 (fun _=>.any) true]),.row 0 4 (Xf (qC A)),.row 0 8 (Xf (vC (Ee L k)))]⟩) (fun k=>k≤L.length-2) (fun k=>L.length-k) 0 (by omega)
  (Xh rfl ⟨.inr (X7 L).symm,.inl rfl,.inr rfl,.inr rfl,.inr rfl,.inr rfl,.inl rfl,trivial⟩ trivial rfl) ?_
 intro k hk next
 have w1:=wj k (by omega);have w2:=wj (k+1) (by omega);obtain⟨h1,h2,h3,h4⟩:=Vd L h (k+1);have h1b:=(Vd L h (k+2)).1;by_cases hgo:k+2<L.length
 ·have nx:=next (k+1)
  have e0:Ee L (k+1)=(Ee L k).add ((Uf L (k+1)).scale (IK L (k+1))):=rfl;have e1:Uf L (k+1)=((L.getD 0 v0).add (L.getD (k+1) v0)).add (L.getD (k+2) v0):=rfl;have e2:IK L (k+1)=Xr ((L.getD (k+1) v0).sub (L.getD 0 v0)) ((L.getD (k+2) v0).sub (L.getD 0 v0))*O_ 1 6:=rfl;have v1:=vF L (k+1);have v2:=vF L (k+2);have vz:=vF L 0;rw[ZAo]at vz;simp only[x_]at vz;have z0:=h 0;have z1:=h (k+1);have z2:=h (k+2);have g1:=Lm L h k;have q6:=Fz 1 6 (by omega) (by omega);rw[e1]at h3;rw[e2]at h4;rw[e0,e1,e2]at nx;generalize Ee L k=C at *;generalize L.getD 0 v0=a at *;generalize L.getD (k+1) v0=b at *;generalize L.getD (k+2) v0=c at *;have f1:(k+1<L.length)=True:=K_ (by omega);have f2:(k+2<L.length)=True:=K_ (by omega);have f0:(0<L.length)=True:=K_ (by omega);have qc:=Kv (b.sub a) (c.sub a);have d1:=J1 b a (by unfold rm;omega) (by unfold rm;omega);have d2:=J1 c a (by unfold rm;omega) (by unfold rm;omega);have d3:=Z4 (b.sub a) (c.sub a) (by unfold vm;omega) (by unfold vm;omega);have d4:=XS 1 6 ⟨by omega,by omega⟩ ⟨by omega,by omega⟩;have d5:=QR (Xr (b.sub a) (c.sub a)) (O_ 1 6) (by unfold rm;omega) (by unfold rm;omega);have d6:=Jw a b (by unfold vm;omega) (by unfold vm;omega);have d7:=Jw (a.add b) c (by unfold vm;omega) (by unfold vm;omega);generalize Xr (b.sub a) (c.sub a)*O_ 1 6=p at *;have d8:=AZ ((a.add b).add c) p (by unfold vm;omega) (by unfold vm;omega);have sv:=F0 ((a.add b).add c) p;have d9:=Jw C (((a.add b).add c).scale p) (by unfold vm;omega) (by unfold vm;omega);refine Xk ?_;simp(disch:=omega)only[X7,w1,w2,f0,f1,f2,v1,v2,vz,↓Xd,wG,seval];refine X0 d1 (X1 _) ?_;simp(disch:=omega)only[X7,w1,w2,f0,f1,f2,v1,v2,vz,vA,vC,qA,qC,↓Xd,wG,seval];refine X0 d2 (X1 _) ?_;simp(disch:=omega)only[X7,w1,w2,f0,f1,f2,v1,v2,vz,vA,vC,qA,qC,↓Xd,wG,seval];refine X0 d3 (X1 _) ?_;simp(disch:=omega)only[X7,w1,w2,f0,f1,f2,v1,v2,vz,vA,vC,qA,qC,↓Xd,wG,seval];refine X0 d4 (X1 _) ?_;simp(disch:=omega)only[X7,w1,w2,f0,f1,f2,v1,v2,vz,vA,vC,qA,qC,↓Xd,wG,seval];refine X0 d5 (X1 _) ?_;simp(disch:=omega)only[X7,w1,w2,f0,f1,f2,v1,v2,vz,vA,vC,qA,qC,↓Xd,wG,seval];refine X0 d6 (X1 _) ?_;simp(disch:=omega)only[X7,w1,w2,f0,f1,f2,v1,v2,vz,vA,vC,qA,qC,↓Xd,wG,seval];refine X0 d7 (X1 _) ?_;simp(disch:=omega)only[X7,w1,w2,f0,f1,f2,v1,v2,vz,vA,vC,qA,qC,↓Xd,wG,seval];refine X0 d8 (X1 _) ?_;simp(disch:=omega)only[X7,w1,w2,f0,f1,f2,v1,v2,vz,vA,vC,qA,qC,↓Xd,wG,seval];refine X0 d9 (X1 _) ?_;simp(disch:=omega)only[X7,w1,w2,f0,f1,f2,v1,v2,vz,vA,vC,qA,qC,↓Xd,wG,seval];exact nx _ (by omega) (by omega) (XD (m:=3) (p_ _) rfl (by simp[X7,Xm,I]) (by simp[Xu]) rfl (by simp[XK,bv]) (by simp[XK,bv]) (by simp[bq,bw,bz]))
 ·obtain rfl:k=L.length-2:=by omega
  refine Xk ?_;simp(disch:=omega)only[X7,w1,w2,↓Xd,wG,seval];have g1:=Lm L h (L.length-2);have q1:=Fz 1 1 (by omega) (by omega);have d1:=XS 1 1 ⟨by omega,by omega⟩ ⟨by omega,by omega⟩;have d2:=Bl (O_ 1 1) A (by unfold vm;omega) (by unfold vm;omega);have d3:=BR (O_ 1 1) A;generalize Ee L (L.length-2)=C at *;generalize O_ 1 1=o at *;have d4:=AZ C (o/A) (by unfold vm;omega) (by unfold vm;omega);refine X0 d1 (X1 _) ?_;simp(disch:=omega)only[qA,qC,↓Xd,wG,seval];refine X0 d2 (X1 _) ?_;simp(disch:=omega)only[qA,qC,↓Xd,wG,seval];refine X0 d4 (X1 _) ?_;simp(disch:=omega)only[vA,vC,qC,↓Xd,wG,seval];exact At rfl JH rfl rfl rfl sR (hR.trans rfl)
def yI (l:List Int)(L:List V2):V2:=if Ab.atF l 0 3=0 then((FU L).add (BN [Ab.atF l 1 5,Ab.atF l 2 5,0] 0)).add (pI 8 8)else FU L
def Bi (l:List Int):Rat:=O_ (1+Ab.atF l 3 6) (1+Ab.atF l 4 2)
def be (l:List Int)(L:List V2):BB:=⟨yI l L,Bi l,Bi l+O_ (Ab.atF l 5 4) 1,O_ (1+Ab.atF l 6 30) 1⟩
theorem Vi {a b:Int}(ha:0<a)(hb:0<b):0<O_ a b:=by
 have hb0:(0:Rat)<(b:Rat):=ZEY.2 hb;have e:O_ a b*(b:Rat)=(a:Rat):=by rw[Rat.divInt_eq_div,Rat.div_mul_cancel (by grind)]
 have ha0:(0:Rat)<(a:Rat):=ZEY.2 ha;refine ZBA.1 fun h=>?_
 have:=zY (show 0≤-O_ a b by grind) (ZAy hb0);grind
def bT (b:BB):Prop:=vb b.c≤1240∧qb b.TAX≤1∧qb b.TAJ≤3∧qb b.TAB≤1
theorem bT.s {b:BB}(h:bT b):bS b:=by obtain⟨h1,h2,h3,h4⟩:=h;unfold bS;omega
theorem uK (l:List Int)(L:List V2)(h:Wv L):bT (be l L)∧Zb (be l L)=true:=by
 obtain⟨h1,h2,h3⟩:=h;obtain⟨hc,_⟩:=PT L h2 h1.2;have b3:=XO l 3 6 (by omega);have b4:=XO l 4 2 (by omega);have b5:=XO l 5 4 (by omega);have b6:=XO l 6 30 (by omega);have q1:qb (Bi l)≤1:=Fz _ _ (by omega) (by omega);have q2:=Fz (Ab.atF l 5 4) 1 (by omega) (by omega);have q3:=Fz (1+Ab.atF l 6 30) 1 (by omega) (by omega);have q4:=A8 (Bi l) (O_ (Ab.atF l 5 4) 1);have p1:0<Bi l:=Vi (by omega) (by omega);have p2:0≤O_ (Ab.atF l 5 4) 1:=Rat.divInt_nonneg (by omega) (by omega);have p3:0<O_ (1+Ab.atF l 6 30) 1:=Vi (by omega) (by omega);refine⟨⟨?_,?_,?_,?_⟩,?_⟩
 ·show vb (yI l L)≤1240
  unfold yI
  split
  ·have s1:=LF [Ab.atF l 1 5,Ab.atF l 2 5,0] 0
   have s2:=Z8 (FU L) (BN [Ab.atF l 1 5,Ab.atF l 2 5,0] 0);have s3:=Z8 ((FU L).add (BN [Ab.atF l 1 5,Ab.atF l 2 5,0] 0)) (pI 8 8);have s4:=Ea 8 8 (by omega) (by omega);omega
  ·omega
 ·show qb (Bi l)≤1;omega
 ·show qb (Bi l+O_ (Ab.atF l 5 4) 1)≤3;omega
 ·show qb (O_ (1+Ab.atF l 6 30) 1)≤1;omega
 ·rw[Fd]
  exact⟨p1,by show Bi l≤Bi l+O_ (Ab.atF l 5 4) 1;grind,p3⟩
theorem bg (l:List Int)(L:List V2)(hl:FR l)(h:Wv L):Fn Tryz.prog 18 [X8 l,Qm L] (bA (be l L)):=by
 obtain⟨h1,h2,h3⟩:=h;obtain⟨hc,_⟩:=PT L h2 h1.2;have b1:=XO l 1 5 (by omega);have b2:=XO l 2 5 (by omega);have b3:=XO l 3 6 (by omega);have b4:=XO l 4 2 (by omega);have b5:=XO l 5 4 (by omega);have b6:=XO l 6 30 (by omega);have q1:qb (Bi l)≤1:=Fz _ _ (by omega) (by omega);have q2:=Fz (Ab.atF l 5 4) 1 (by omega) (by omega);have c0:=JY l 0 3 hl (by omega);have c1:=JY l 1 5 hl (by omega);have c2:=JY l 2 5 hl (by omega);have c3:=JY l 3 6 hl (by omega);have c4:=JY l 4 2 hl (by omega);have c5:=JY l 5 4 hl (by omega);have c6:=JY l 6 30 hl (by omega);have d0:=bW L h2 (by omega);have hs:FR [Ab.atF l 1 5,Ab.atF l 2 5,0]:=by
  intro x hx;simp only[b_,V',or_false]at hx;unfold ZO;rcases hx with rfl |rfl |rfl <;> omega
 have d1:=ag [Ab.atF l 1 5,Ab.atF l 2 5,0] 0 hs (by omega);have s1:=LF [Ab.atF l 1 5,Ab.atF l 2 5,0] 0;obtain⟨R,hR⟩:∃R,R=bA (be l L):=⟨_,rfl⟩
 have sR:A_ R:=hR▸Jz _;rw[←hR];unfold be yI at hR;have hlq:Bi l=O_ (1+Ab.atF l 3 6) (1+Ab.atF l 4 2):=rfl;generalize BN [Ab.atF l 1 5,Ab.atF l 2 5,0] 0=s at *;generalize FU L=C at *;generalize Ab.atF l 1 5=x1 at *;generalize Ab.atF l 2 5=x2 at *;have d2:=Jw C s (by unfold vm;omega) (by unfold vm;omega);have d3:=Kq 8 8 ⟨by omega,by omega⟩ ⟨by omega,by omega⟩;change Fn _ _ _ (vA (pI 8 8))at d3;have s4:=Ea 8 8 (by omega) (by omega);have s5:=Z8 C s;generalize pI 8 8=e8 at *;have d4:=Jw (C.add s) e8 (by unfold vm;omega) (by unfold vm;omega);have d5:=XS (1+Ab.atF l 3 6) (1+Ab.atF l 4 2) ⟨by omega,by omega⟩ ⟨by omega,by omega⟩;rw[←hlq]at d5;have d6:=XS (Ab.atF l 5 4) 1 ⟨by omega,by omega⟩ ⟨by omega,by omega⟩;have d7:=JU (Bi l) (O_ (Ab.atF l 5 4) 1) (by unfold rm;omega) (by unfold rm;omega);have d8:=XS (1+Ab.atF l 6 30) 1 ⟨by omega,by omega⟩ ⟨by omega,by omega⟩;generalize Bi l=lq at *;generalize O_ (Ab.atF l 5 4) 1=dq at *;generalize O_ (1+Ab.atF l 6 30) 1=sq at *;refine y_ (fn:=Tryz.f18) Tryz.call18 Tryz.func18 rfl mixed 8 [] [6,7000] [] (by kernel_rfl) (L' rfl) (KS (Xc l) (Xq L)) (Xk ?_);simp(disch:=omega)only[P',↓Xd,wG,seval];refine X0 d0 (X1 _) ?_;simp(disch:=omega)only[vA,vC,↓Xd,wG,seval];refine X0 c0 (X1 _) ?_;simp(disch:=omega)only[↓Xd,wG,seval];refine⟨fun h0=>?_,fun h0=>?_⟩
 ·refine X0 c1 ⟨by rw[Xo];exact X' _,X' _,X' _,trivial⟩ ?_
  simp(disch:=omega)only[↓Xd,wG,seval];refine X0 c2 ⟨by rw[Xo];exact X' _,X' _,X' _,trivial⟩ ?_;simp(disch:=omega)only[↓Xd,wG,seval];refine X0 d1 ⟨by rw[Xo];exact JJ rfl (N' _) fun j hj=>by match j,hj with |0,_=>exact X' _ |1,_=>exact X' _ |2,_=>exact X' _ |j+3,h=>exact absurd h (by simp),X' _,trivial⟩ ?_;simp(disch:=omega)only[vA,vC,qC,↓Xd,wG,seval];refine X0 d2 (X1 _) ?_;simp(disch:=omega)only[vA,vC,qC,↓Xd,wG,seval];refine X0 d3 (X1 _) ?_;simp(disch:=omega)only[vA,vC,qC,↓Xd,wG,seval];refine X0 d4 (X1 _) ?_;simp(disch:=omega)only[vA,vC,qC,↓Xd,wG,seval];refine X0 c3 ⟨by rw[Xo];exact X' _,X' _,X' _,trivial⟩ ?_;simp(disch:=omega)only[↓Xd,wG,seval];refine X0 c4 ⟨by rw[Xo];exact X' _,X' _,X' _,trivial⟩ ?_;simp(disch:=omega)only[↓Xd,wG,seval];refine X0 d5 (X1 _) ?_;simp(disch:=omega)only[qA,qC,↓Xd,wG,seval];refine X0 c5 ⟨by rw[Xo];exact X' _,X' _,X' _,trivial⟩ ?_;simp(disch:=omega)only[↓Xd,wG,seval];refine X0 d6 (X1 _) ?_;simp(disch:=omega)only[qA,qC,↓Xd,wG,seval];refine X0 d7 (X1 _) ?_;simp(disch:=omega)only[qA,qC,↓Xd,wG,seval];refine X0 c6 ⟨by rw[Xo];exact X' _,X' _,X' _,trivial⟩ ?_;simp(disch:=omega)only[↓Xd,wG,seval];refine X0 d8 (X1 _) ?_;simp(disch:=omega)only[qA,qC,↓Xd,wG,seval];rw[N_ h0]at hR;exact Cv rfl Yo rfl rfl rfl (Xw sR (by rw[hR];exact X' _))
 ·refine X0 c3 ⟨by rw[Xo];exact X' _,X' _,X' _,trivial⟩ ?_
  simp(disch:=omega)only[↓Xd,wG,seval];refine X0 c4 ⟨by rw[Xo];exact X' _,X' _,X' _,trivial⟩ ?_;simp(disch:=omega)only[↓Xd,wG,seval];refine X0 d5 (X1 _) ?_;simp(disch:=omega)only[qA,qC,↓Xd,wG,seval];refine X0 c5 ⟨by rw[Xo];exact X' _,X' _,X' _,trivial⟩ ?_;simp(disch:=omega)only[↓Xd,wG,seval];refine X0 d6 (X1 _) ?_;simp(disch:=omega)only[qA,qC,↓Xd,wG,seval];refine X0 d7 (X1 _) ?_;simp(disch:=omega)only[qA,qC,↓Xd,wG,seval];refine X0 c6 ⟨by rw[Xo];exact X' _,X' _,X' _,trivial⟩ ?_;simp(disch:=omega)only[↓Xd,wG,seval];refine X0 d8 (X1 _) ?_;simp(disch:=omega)only[qA,qC,↓Xd,wG,seval];rw[M_ h0]at hR;exact Cv rfl Yo rfl rfl rfl (Xw sR (by rw[hR];exact X' _))
def JP (a d x:V2):Rat:=Qb (x.sub a) d/Qb d d
def OM (s t:Rat):Rat:=if O2 s t<0 then 0 else O2 s t
def OH (s t:Rat):Rat:=if 1<NH s t then 1 else NH s t
def Mu (a d:V2)(lo hi:Rat):V2:=a.add (d.scale ((lo+hi)*O_ 1 2))
def Rb (p n b:V2):V2:=p.add (n.scale (Qb (b.sub p) n/Qb n n))
def Ra (a b:Sd):V2:=a.b.sub a.a
def Gf (a b:Sd):Rat:=JP a.a (Ra a b) b.a
def Gg (a b:Sd):Rat:=JP a.a (Ra a b) b.b
def GQ (a b:Sd):Option (V2×V2) :=
 if Ig b.i a.i∧0<Qb (b.a.sub a.a) a.i then
  if OM (Gf a b) (Gg a b)<OH (Gf a b) (Gg a b)then
   some (Mu a.a (Ra a b) (OM (Gf a b) (Gg a b)) (OH (Gf a b) (Gg a b)),Rb (Mu a.a (Ra a b) (OM (Gf a b) (Gg a b)) (OH (Gf a b) (Gg a b))) a.i b.a)
  else none
 else none
def rz (s:Sd):AV:=.ptr 24 (Xf (Bo s)) 0
def vP (v:V2):AV:=.ptr 8 (Xf (vC v)) 0
theorem U0 (s:Sd):A_ (rz s):=XP fun j _=>Xe (ZC s) j
theorem We (v:V2):A_ (vP v):=XP fun j _=>Xe (by simp[vC,Xc,X5]) j
theorem zQ (s:Sd):Xf (Bo s) 0=.bool (sg s.a.x)∧Xf (Bo s) 1=X8 (Xb s.a.x.num.natAbs)∧Xf (Bo s) 2=.bool false∧Xf (Bo s) 3=X8 (Xb (qd s.a.x))∧Xf (Bo s) 4=.bool (sg s.a.y)∧Xf (Bo s) 5=X8 (Xb s.a.y.num.natAbs)∧Xf (Bo s) 6=.bool false∧Xf (Bo s) 7=X8 (Xb (qd s.a.y)):=⟨rfl,rfl,rfl,rfl,rfl,rfl,rfl,rfl⟩
theorem zS (v:V2):Xf (vC v) 0=.bool (sg v.x)∧Xf (vC v) 1=X8 (Xb v.x.num.natAbs)∧Xf (vC v) 2=.bool false∧Xf (vC v) 3=X8 (Xb (qd v.x))∧Xf (vC v) 4=.bool (sg v.y)∧Xf (vC v) 5=X8 (Xb v.y.num.natAbs)∧Xf (vC v) 6=.bool false∧Xf (vC v) 7=X8 (Xb (qd v.y)):=⟨rfl,rfl,rfl,rfl,rfl,rfl,rfl,rfl⟩
theorem Mv (a:Sd)(d x:V2)(ha:vb a.a≤1000)(hd:vb d≤2001)(hx:vb x≤1000)(h0:Qb d d≠0):Fn Tryz.prog 192 [vA x,rz a,vP d] (qA (JP a.a d x)):=by
 have s1:=J3 x a.a;have q1:=Zn (x.sub a.a) d;have q2:=Zn d d;have c1:=Bx x a.a (by unfold rm;omega) (by unfold rm;omega);have c2:=DR (x.sub a.a) d (by unfold vm;omega) (by unfold vm;omega);have c3:=DR d d (by unfold vm;omega) (by unfold vm;omega);have c4:=LB (Qb (x.sub a.a) d) (Qb d d) h0 (by unfold rm;omega) (by unfold rm;omega);obtain⟨R,hR⟩:∃R,R=qA (JP a.a d x):=⟨_,rfl⟩
 have sR:A_ R:=hR▸Xa _;rw[show Qb (x.sub a.a) d/Qb d d=JP a.a d x from rfl,←hR]at c4;rw[←hR];have sf:=zQ a;have vf:=zS d;refine Fq Tryz.call192 Tryz.func192 5 [] [] [] (by simp[Xx,U0,We]) (Xk ?_);simp(disch:=omega)only[P',vA,vC,rz,vP,sf,vf,↓Xd,wG,seval];refine X0 c1 (X1 _) ?_;simp(disch:=omega)only[sf,vf,qA,qC,↓Xd,wG,seval];refine X0 c2 (X1 _) ?_;simp(disch:=omega)only[sf,vf,qA,qC,↓Xd,wG,seval];refine X0 c3 (X1 _) ?_;simp(disch:=omega)only[sf,vf,qA,qC,↓Xd,wG,seval];refine X0 c4 (X1 _) ?_;simp(disch:=omega)only[hR,qA,qC,↓Xd,wG,seval];exact Jh rfl XY rfl rfl rfl sR (hR.trans rfl)
end
end Go.Ab.N
