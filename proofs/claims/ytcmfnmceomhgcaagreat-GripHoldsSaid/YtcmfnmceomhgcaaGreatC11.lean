/- Contracts of functions, for every argument that fits. -/
import Derived.Test.YtcmfnmceomhgcaaGreatC10
import Derived.Shelf.Small.Bits
set_option linter.unusedSimpArgs false
set_option linter.unusedVariables false
open Go.Ab.AS renaming start→O_,put→ZAt
open Go.Ab.G' renaming intro→ZDx
open Go.IntKind renaming i64→Q_
open Go.Lib renaming bitLen→ZEL
open Int renaming reduceEq→ZAC,toNat_zero→ZAo,reduceToNat→ZAw,reduceLT→ZAz,reduceLE→ZBA
open Nat renaming max_le→ZDP
open Rat renaming divInt→P',intCast_inj→ZBx,intCast_pos→ZEa
namespace Go.Ab.N
open Go Go.RowKit Go.Proofs
noncomputable section
set_option maxRecDepth 10000
set_option maxHeartbeats 4000000
open Classical
theorem wU (a b:Rat):P' (a.num*b.den) (a.den*b.num)=a/b:=by
 rw[←Rat.divInt_mul_divInt,ZAr,Rat.inv_def,Rat.num_divInt_den]
theorem Bl (a b:Rat)(ha:qb a≤vm:=by unfold vm;omega)(hb:qb b≤vm:=by unfold vm;omega):Fn Tryz.prog 121 [qA a,qA b] (qA (a/b)):=by
 unfold vm at ha hb;have a1:=Jy a;have a2:=JZ a;have b1:=Jy b;have b2:=JZ b;have m1:=Zl a.num b.den;have m3:=Zl a.den b.num;have n1:=JV a.num b.den;have n3:=JV a.den b.num;have k:=Dr (a.num*b.den) (a.den*b.num);rw[wU]at k;have d1:=Zr a;have d2:=Zr b;obtain⟨R,hR⟩:∃R,R=qA (a/b):=⟨_,rfl⟩
 have sR:A_ R:=hR▸Xb _;rw[←hR]at k ⊢;refine Fq Tryz.call121 Tryz.func121 5 [] [1,20000002,20000003] [] (by simp[wS]) (Xk ?_);simp(maxSteps:=999999)only[O_,↓X6,wF,seval];refine X2 d2 rfl ?_;simp only[↓X6,wF,seval];refine X2 m1 rfl ?_;simp only[↓X6,wF,seval];refine X2 d1 rfl ?_;simp only[↓X6,wF,seval];refine X2 m3 rfl ?_;simp only[↓X6,wF,seval];refine X2 k rfl ?_;simp only[hR,↓X6,wF,seval];exact Jf rfl XT rfl rfl rfl sR (hR.trans rfl)
def ag (t c:V2):List AV:=[.bool (decide (t.x.num<0)),X9 (Xa t.x.num.natAbs),.bool false,X9 (Xa (qd t.x)),.bool (decide (t.y.num<0)),X9 (Xa t.y.num.natAbs),.bool false,X9 (Xa (qd t.y)),
 .bool (decide (c.x.num<0)),X9 (Xa c.x.num.natAbs),.bool false,X9 (Xa (qd c.x)),.bool (decide (c.y.num<0)),X9 (Xa c.y.num.natAbs),.bool false,X9 (Xa (qd c.y))]
def rs (t c:V2):AV:=.agg (ag t c)
theorem Lg (t c:V2):∀x∈ag t c,A_ x:=by simp[ag,Xd,X5]
theorem Lf (t c:V2):A_ (rs t c):=XE (Lg t c)
def put (t c a:V2):V2:=(ue t a).add c
theorem xA (t c a:V2):vb (put t c a)≤2*(vb t+vb a)+vb c+2:=by
 have:=nH t a;have:=KW (ue t a) c;unfold put;omega
def Ez (t c:V2)(L:List V2):List V2:=L.map (put t c)
theorem eW (t c:V2)(L:List V2)(i:Nat)(hi:i<L.length):Ez t c (L.take i) ++ [put t c (L.getD i v0)]=Ez t c (L.take (i+1)):=by
 rw[GA _ v0 hi];simp[Ez]
theorem lW (t c:V2)(L:List V2)(i:Nat)(hi:i≤L.length):(Ez t c (L.take i)).length=i:=by simp[Ez];omega
theorem nP {P:Program}{fn:Func}{str hcs:List Nat}{s:AS}{t id ver:Nat}(L:List V2)(hr:fn.results=#[.tmp t])(hs:s.get t=.osl id ver 8 0 L.length)(ho:s.h[id]?=some (.row ver (L.length*8) (Xw vC 8 v0 L))):TAC (JK P fn str hcs (Qx L)) s:=by
 refine C4 hr ?_;rw[hs,X7];refine Kw (.inl ho) (by omega) (fun h=>by rw[h]) fun j hj=>?_
 rw[z_];exact(Xe (by simp[vC,Xd,X5]) _).TBI _
theorem nE (a:V2):∀j,j<8→((vC a).getD j .any).one=true:=fun j hj=>by
 match j,hj with
 |0,_=>rfl
 |1,_=>rfl
 |2,_=>rfl
 |3,_=>rfl
 |4,_=>rfl
 |5,_=>rfl
 |6,_=>rfl
 |7,_=>rfl
 |j+8,h=>omega
theorem TP (t c:V2)(L:List V2)(k:Nat)(h:J3 L k)(hk:k≤100000)(hl:L.length<1000000)(ht:vb t≤100000)(hc:vb c≤100000):Fn Tryz.prog 55 [rs t c,Qx L] (Qx (Ez t c L)):=by
 have bo:Q0 2 (.con 0 16 (Xf (ag t c)))=True:=L' (fun j _=>X4 (Xe (Lg t c) j));have hvc:∀a:V2,∀x∈vC a,A_ x:=fun a=>by simp[vC,Xd,X5]
 have bv:Jl 2 (Qx L)=True:=L' (X4 (Xs L));have br:∀i l n,Q0 2 (.row i n (Xw vC 8 v0 l))=True:=fun i l n=>L' fun j _=>X4 (Xe (hvc _) _)
 obtain⟨R,hR⟩:∃R,R=Qx (Ez t c L):=⟨_,rfl⟩
 rw[←hR];refine Fq Tryz.call55 Tryz.func55 7 [] [5,6011,60000002] [] (by simp[Lf,Xs]) (Xk ?_);simp only[O_,rs,ag,X7,↓X6,wF,seval];refine Xj (fun i:Nat=>⟨7,[],[.any,Qx L,.ref 0 0 0,.any,.any,.osl 1 i 8 0 i,I i],[],[.con 0 16 (Xf (ag t c)),.row i (i*8) (Xw vC 8 v0 (Ez t c (L.take i)))]⟩) (fun i=>i≤L.length) (fun i=>L.length-i) 0 (by omega)
  (ZAZ (Xz 0 rfl) (ZAZ (JS 5 8 (Xw vC 8 v0 []) rfl) (Xh rfl (by simp[ZAt,X7,Xo,I]) (by simp[ZAt,Xx]) (by simp[ZAt,ag,Xl,Ez])))) ?_
 intro i hi next
 have w1:=wj i;by_cases hi2:i<L.length
 ·have f1:((i:Int)<L.length)=True:=L' (by omega)
  have f2:(i<L.length)=True:=L' hi2;have f3:(i*8+8≤L.length*8)=True:=L' (by omega);have v1:=vF L i;have hb:=h i;have m:=nH t (L.getD i v0);have c1:=O6 t (L.getD i v0) (by unfold vm;omega) (by unfold vm;omega);have c2:=QR (ue t (L.getD i v0)) c;have hap:=Zp vC 8 v0 (Ez t c (L.take i)) (put t c (L.getD i v0));rw[eW _ _ _ _ hi2,lW _ _ _ _ hi]at hap;refine Xk ?_;simp only[ag,X7,w1,f1,f2,f3,v1,U',↓X6,wF,seval];refine X2 c1 rfl ?_;simp only[ag,X7,w1,f1,f2,f3,v1,U',↓X6,wF,seval];refine X2 c2 rfl ?_;simp only[w1,↓X6,wF,seval];exact⟨⟨nE _,by omega,by omega⟩,next (i+1) _ (by omega) (by omega) (rM (m:=2) (by simp[X7,Xo,I]) (by rw[←hap];rfl) (by simp[XP,bv]) (by simp[bo,br]))⟩
 obtain rfl:i=L.length:=by omega
 refine Xk ?_;simp only[ag,X7,ZAM,ZAG,↓X6,wF,seval];rw[hR,ZAW];have hlen:(Ez t c L).length=L.length:=by simp[Ez]
 exact nP _ rfl (by rw[hlen];rfl) (by rw[hlen];rfl)
structure Sd where
 a:V2
 b:V2
 i:V2
def Bp (s:Sd):List AV:=vC s.a ++ vC s.b ++ vC s.i
def Ws (s:Sd):AV:=.agg (Bp s)
theorem ZL (s:Sd):∀a∈Bp s,A_ a:=by simp[Bp,vC,Xd,X5]
theorem Kx (s:Sd):A_ (Ws s):=XE (ZL s)
theorem B7 (s:Sd):Bp s=[.bool (sg s.a.x),X9 (Xa s.a.x.num.natAbs),.bool false,X9 (Xa (qd s.a.x)),.bool (sg s.a.y),X9 (Xa s.a.y.num.natAbs),.bool false,X9 (Xa (qd s.a.y)),
 .bool (sg s.b.x),X9 (Xa s.b.x.num.natAbs),.bool false,X9 (Xa (qd s.b.x)),.bool (sg s.b.y),X9 (Xa s.b.y.num.natAbs),.bool false,X9 (Xa (qd s.b.y)),
 .bool (sg s.i.x),X9 (Xa s.i.x.num.natAbs),.bool false,X9 (Xa (qd s.i.x)),.bool (sg s.i.y),X9 (Xa s.i.y.num.natAbs),.bool false,X9 (Xa (qd s.i.y))]:=rfl
def Lv:Sd:=⟨v0,v0,v0⟩
def Wt (l:List Sd):AV:=gE Bp 24 Lv l
theorem JA (l:List Sd):Wt l=.sl l.length (l.length*24) (Xw Bp 24 Lv l) false:=C_ rfl
theorem Ff (l:List Sd):A_ (Wt l):=Z4 fun a x hx=>ZL a x hx
theorem rN (s:Sd):∀j,j<24→((Bp s).getD j .any).one=true:=fun j hj=>by
 rw[B7]
 match j,hj with
 |0,_ |1,_ |2,_ |3,_ |4,_ |5,_ |6,_ |7,_ |8,_ |9,_ |10,_ |11,_ |12,_ |13,_ |14,_ |15,_ |16,_ |17,_ |18,_ |19,_ |20,_ |21,_ |22,_ |23,_=>rfl
 |j+24,h=>omega
def IU (p q:V2):V2:=⟨p.y-q.y,q.x-p.x⟩
def Za (L:List V2)(i:Nat):V2:=L.getD ((i+1)%L.length) v0
def Kf (L:List V2)(i:Nat):Sd:=⟨L.getD i v0,Za L i,IU (L.getD i v0) (Za L i)⟩
def Br (L:List V2)(k:Nat):List Sd:=(List.range k).map (Kf L)
theorem Uk (L:List V2)(k:Nat):Br L k ++ [Kf L k]=Br L (k+1):=by unfold Br;rw[List.range_succ,List.map_append];rfl
theorem Ej (L:List V2)(k:Nat):(Br L k).length=k:=by simp[Br]
theorem fY (L:List V2){k i:Nat}(h:i<k):(Br L k).getD i Lv=Kf L i:=by
 unfold Br;rw[K',ZBy,List.getElem?_range h];rfl
def KJ (L:List V2):List Sd:=Br L L.length
theorem OH (L:List V2)(h:J3 L 1000)(hl:L.length<1000000):Fn Tryz.prog 64 [Qx L] (Wt (KJ L)):=by
 have bv:Jl 1 (Qx L)=True:=L' (X4 (Xs L));have br:∀i l n,Q0 1 (.row i n (Xw Bp 24 Lv l))=True:=fun i l n=>L' fun j _=>X4 (Xe (ZL _) _)
 obtain⟨R,hR⟩:∃R,R=Wt (KJ L):=⟨_,rfl⟩
 rw[←hR];refine q_ (fn:=Tryz.f64) Tryz.call64 Tryz.func64 rfl mixed 7 [7,8,9] [] [] (by kernel_rfl) (K_ rfl) (fun a ha=>Y_.1 ha▸Xs L) (Xk ?_);simp(disch:=omega)only[O_,X7,↓Xc,wG,seval];refine Xj (fun i:Nat=>⟨7,[7,8,9],[Qx L,.any,.any,.osl 0 i 24 0 i,.any,.any,.any],[(7,Qx L),(8,I L.length),(9,I i)],[.row i (i*24) (Xw Bp 24 Lv (Br L i))]⟩) (fun i=>i≤L.length) (fun i=>L.length-i) 0 (by omega)
  (ZAZ (JS 3 24 (Xw Bp 24 Lv []) rfl) (Xh rfl (by simp[ZAt,Xo,I,X7]) (by simp[ZAt,Xx,XM,X7,I]) (by simp[ZAt,Br]))) ?_
 intro i hi next
 have w1:=wj i;by_cases hi2:i<L.length
 ·have f6:((L.length:Int)=0)=False:=R_ (by omega)
  have f6':(L.length=0)=False:=R_ (by omega);have hm:((i+1:Nat):Int).tmod L.length=(((i+1)%L.length:Nat):Int):=rfl;have hml:(i+1)%L.length<L.length:=ZAI _ (by omega);have f2:(i<L.length)=True:=L' hi2;have v1:=vF L i;have v2:=vF L ((i+1)%L.length);have hb1:=h i;have hb2:=h ((i+1)%L.length);have x1:=Ja (L.getD i v0);have y1:=J7 (L.getD i v0);have x2:=Ja (Za L i);have y2:=J7 (Za L i);have hb3:vb (Za L i)≤1000:=hb2;have c1:=FM (L.getD i v0).y (Za L i).y;have c2:=FM (Za L i).x (L.getD i v0).x;have hap:=Zp Bp 24 Lv (Br L i) (Kf L i);rw[Uk,Ej]at hap;have nx:=next (i+1)
  have e:L.getD ((i+1)%L.length) v0=Za L i:=rfl;rw[e]at v2;refine Xk ?_;simp(disch:=omega)only[X7,w1,f2,f6,f6',hm,L' hml,v1,v2,↓Xc,wG,seval];refine X0 c1 (X1 _) ?_;simp(disch:=omega)only[↓Xc,wG,seval];refine X0 c2 (X1 _) ?_;simp(disch:=omega)only[qA,qC,↓Xc,wG,seval];exact⟨fun j hj=>rN (Kf L i) j hj,nx _ (by omega) (by omega) (XG (m:=1) (p_ _) rfl (by simp[X7,Xo,I]) (by simp[Xx,XM,X7,I]) (by rw[←hap];rfl) (by simp[XP,bv]) (by simp[XP,bv]) (by simp[br]))⟩
 obtain rfl:i=L.length:=by omega
 refine Xk ?_;simp(disch:=omega)only[X7,↓Xc,wG,seval];rw[hR];refine C4 rfl ?_;show ZA _ (.osl 0 L.length 24 0 L.length) (Wt (KJ L));rw[JA,show(KJ L).length=L.length from Ej L _];refine Kw (.inl rfl) (by omega) (fun h=>by rw[h]) fun j hj=>?_
 rw[z_];exact(Xe (ZL _) _).TBI _
def lf (a b x:Rat):Bool:=decide (a≤x∧x≤b∨b≤x∧x≤a)
theorem YK (a b x:Rat)(ha:qb a≤rm:=by unfold rm;omega)(hb:qb b≤rm:=by unfold rm;omega)(hx:qb x≤rm:=by unfold rm;omega):Fn Tryz.prog 148 [qA a,qA b,qA x] (.bool (lf a b x)):=by
 have c1:=Ju a x ha hx;have c2:=Ju x b hx hb;have c3:=Ju b x hb hx;have c4:=Ju x a hx ha;obtain⟨R,hR⟩:∃R,R=lf a b x:=⟨_,rfl⟩
 rw[←hR];unfold lf at hR;refine Fq Tryz.call148 Tryz.func148 7 [] [] [] (by simp[Xb]) (Xk ?_);simp(disch:=omega)only[O_,qA,qC,↓Xc,wG,seval];refine X0 c1 (X1 _) ?_;simp(disch:=omega)only[Kt,↓Xc,wG,seval];refine⟨fun h1=>?_,fun h1=>?_⟩
 ·refine X0 c2 (X1 _) ?_
  simp(disch:=omega)only[h1,Kt,↓Xc,wG,seval];refine⟨fun h2=>?_,fun h2=>?_⟩
  ·simp(disch:=omega)only[h1,h2,Kt,↓Xc,wG,seval]
   exact Xn (v:=.bool true) rfl rfl (X5 _) (by rw[hR];simp[h1,h2])
  ·refine X0 c3 (X1 _) ?_
   simp(disch:=omega)only[h1,h2,Kt,↓Xc,wG,seval];refine⟨fun h3=>?_,fun h3=>?_⟩
   ·refine X0 c4 (X1 _) ?_
    simp(disch:=omega)only[h1,h2,h3,Kt,↓Xc,wG,seval];exact Xn (v:=.bool (decide (x≤a))) rfl rfl (X5 _) (by rw[hR];simp[h1,h2,h3])
   ·simp(disch:=omega)only[h1,h2,h3,Kt,↓Xc,wG,seval]
    exact Xn (v:=.bool false) rfl rfl (X5 _) (by rw[hR];simp[h1,h2,h3])
 ·refine X0 c3 (X1 _) ?_
  simp(disch:=omega)only[h1,Kt,↓Xc,wG,seval];refine⟨fun h3=>?_,fun h3=>?_⟩
  ·refine X0 c4 (X1 _) ?_
   simp(disch:=omega)only[h1,h3,Kt,↓Xc,wG,seval];exact Xn (v:=.bool (decide (x≤a))) rfl rfl (X5 _) (by rw[hR];simp[h1,h3])
  ·simp(disch:=omega)only[h1,h3,Kt,↓Xc,wG,seval]
   exact Xn (v:=.bool false) rfl rfl (X5 _) (by rw[hR];simp[h1,h3])
def MM (s:Sd)(p:V2):Bool:=decide (Ky s.a s.b p=0) && (lf s.a.x s.b.x p.x && lf s.a.y s.b.y p.y)
def xa (s:Sd)(k:Nat):Prop:=vb s.a≤k∧vb s.b≤k∧vb s.i≤k
theorem kZ (s:Sd)(p:V2)(hs:xa s vs)(hp:vb p≤vs):Fn Tryz.prog 67 [Ws s,vA p] (.bool (MM s p)):=by
 obtain⟨h1,h2,h3⟩:=hs;have x1:=Ja s.a;have y1:=J7 s.a;have x2:=Ja s.b;have y2:=J7 s.b;have x3:=Ja p;have y3:=J7 p;have c1:=CC s.a s.b p h1 h2 hp;unfold vs at h1 h2 hp;have c2:=YK s.a.x s.b.x p.x;have c3:=YK s.a.y s.b.y p.y;have hd:MM s p=(decide (Ky s.a s.b p=0) && (lf s.a.x s.b.x p.x && lf s.a.y s.b.y p.y)):=rfl;generalize MM s p=R at *;generalize lf s.a.x s.b.x p.x=b1 at *;generalize lf s.a.y s.b.y p.y=b2 at *;generalize Ky s.a s.b p=d at *;refine q_ (fn:=Tryz.f67) Tryz.call67 Tryz.func67 rfl mixed 6 [] [] [] (by kernel_rfl) (K_ rfl) (Kk (Kx s) (Xv p)) (Xk ?_);simp(disch:=omega)only[O_,Ws,B7,vA,vC,Xl,↓Xc,wG,seval];refine X0 c1 (X1 _) ?_;simp(disch:=omega)only[↓Xc,wG,seval];refine⟨fun h=>?_,fun h=>?_⟩
 ·exact Xn (v:=.bool false) rfl rfl (X5 _) (by rw[hd,Z_ h];rfl)
 ·refine X0 c2 (X1 _) ?_
  simp(disch:=omega)only[↓Xc,wG,seval];refine Qs (fun e=>?_) (fun e=>?_)
  ·refine X0 c3 (X1 _) ?_
   simp(disch:=omega)only[↓Xc,wG,seval];exact Xn (v:=.bool b2) rfl rfl (X5 _) (by rw[hd,e];simp;grind)
  ·exact Xn (v:=.bool false) rfl rfl (X5 _) (by rw[hd,e];simp)
def DY (g:GG)(s:Sd):Bool:=decide (s.i=g.n) && MM s g.p
def Ci (g:GG)(s:Sd):Bool:=decide (O5 s.i g.n) && MM s g.q
theorem Eh (g:GG):A_ (gP g):=XR fun j _=>Xe (Kh g) j
theorem ko (g:GG)(s:Sd)(hs:xa s 10000)(hg:vb g.p≤10000∧vb g.n≤10000):Fn Tryz.prog 65 [Ws s,gP g] (.bool (DY g s)):=by
 obtain⟨h1,h2,h3⟩:=hs;have c1:=ry s.i g.n (by unfold vm;omega) (by unfold vm;omega);have c2:=kZ s g.p (by unfold xa vs;omega) (by unfold vs;omega);have hd:DY g s=(decide (s.i=g.n) && MM s g.p):=rfl;have gf:=gF g;generalize DY g s=R at *;generalize MM s g.p=b at *;generalize decide (s.i=g.n)=a at *;refine q_ (fn:=Tryz.f65) Tryz.call65 Tryz.func65 rfl mixed 4 [] [] [] (by kernel_rfl) (K_ rfl) (Kk (Kx s) (Eh g)) (Xk ?_);simp(disch:=omega)only[O_,Ws,B7,vA,vC,gP,gf,Xl,↓Xc,wG,seval];refine X0 c1 (X1 _) ?_;simp(disch:=omega)only[gf,↓Xc,wG,seval];refine Qs (fun e=>?_) (fun e=>?_)
 ·refine X0 c2 (X1 _) ?_
  simp(disch:=omega)only[↓Xc,wG,seval];exact Xn (v:=.bool b) rfl rfl (X5 _) (by rw[hd,e];simp)
 ·exact Xn (v:=.bool false) rfl rfl (X5 _) (by rw[hd,e];simp)
theorem fW (g:GG)(s:Sd)(hs:xa s 10000)(hg:vb g.q≤10000∧vb g.n≤10000):Fn Tryz.prog 68 [Ws s,gP g] (.bool (Ci g s)):=by
 obtain⟨h1,h2,h3⟩:=hs;have c1:=YI s.i g.n;have c2:=kZ s g.q (by unfold xa vs;omega) (by unfold vs;omega);have hd:Ci g s=(decide (O5 s.i g.n) && MM s g.q):=rfl;have gf:=gF g;generalize Ci g s=R at *;generalize MM s g.q=b at *;generalize decide (O5 s.i g.n)=a at *;refine q_ (fn:=Tryz.f68) Tryz.call68 Tryz.func68 rfl mixed 4 [] [] [] (by kernel_rfl) (K_ rfl) (Kk (Kx s) (Eh g)) (Xk ?_);simp(disch:=omega)only[O_,Ws,B7,vA,vC,gP,gf,Xl,↓Xc,wG,seval];refine X0 c1 (X1 _) ?_;simp(disch:=omega)only[gf,↓Xc,wG,seval];refine Qs (fun e=>?_) (fun e=>?_)
 ·refine X0 c2 (X1 _) ?_
  simp(disch:=omega)only[↓Xc,wG,seval];exact Xn (v:=.bool b) rfl rfl (X5 _) (by rw[hd,e];simp)
 ·exact Xn (v:=.bool false) rfl rfl (X5 _) (by rw[hd,e];simp)
theorem dX (s:List Sd)(f:FuncId)(G_:List AV)(p:Sd→Bool)(hl:s.length<1000000)(hc:∀ a∈G_,A_ a)(hp:∀x∈s,Fn Tryz.prog f ([Ws x] ++ G_) (.bool (p x))) :
  Fn Tryz.prog 151 [Wt s,.fn f G_] (I (Lu p s)):=by
 refine q_ (fn:=Tryz.f151) Tryz.call151 Tryz.func151 rfl mixed 6 [6,7,8] [] [] (by kernel_rfl) (K_ rfl) (Kk (Ff s) (Kg hc)) (Xk ?_);simp(disch:=omega)only[O_,JA,↓Xc,wG,seval];refine Xj (fun j:Nat=>⟨6,[6,7,8],[Wt s,.fn f G_,.any,.any,.any,.any],[(6,Wt s),(7,I s.length),(8,I j)],[]⟩) (fun j=>j≤s.length∧∀i,i<j→p (s.getD i Lv)=false) (fun j=>s.length-j) 0 ⟨by omega,by omega⟩
  (Xh rfl (by simp[Xo,I,JA]) (by simp[Xx,XM,I,JA]) rfl) ?_
 rintro j ⟨hj,hno⟩ next
 by_cases h:j<s.length
 ·have l0:=ZO Bp 24 Lv s j
  have l1:=Ze Bp 24 Lv s j;have c1:=hp _ (Qp Lv h);refine Xk ?_;simp(disch:=omega)only[JA,l0,l1,B7,↓Xc,wG,seval];refine X0 c1 (X1 _) ?_;simp(disch:=omega)only[↓Xc,wG,seval];refine Qs (fun ht=>Xn (v:=I j) rfl rfl (X8 _) ?_) (fun hf=>next (j+1) _ ⟨by omega,fun i hi=>?_⟩ (by omega) (Xh rfl ?_ ?_ rfl))
  ·rw[MR Lv h ht hno]
  ·by_cases e:i=j
   ·rw[e];exact hf
   ·exact hno i (by omega)
  ·simp[Xo,I,JA]
  ·simp[Xx,XM,I,JA]
 ·obtain rfl:j=s.length:=by omega
  refine Xk ?_;simp(disch:=omega)only[JA,↓Xc,wG,seval];exact Xn (v:=I (-1)) rfl rfl (X8 _) (by rw[Io Lv fun i hi=>hno i hi])
theorem GQ (s:List Sd)(f:FuncId)(G_:List AV)(p:Sd→Bool)(hl:s.length<1000000)(hc:∀ a∈G_,A_ a)(hp:∀x∈s,Fn Tryz.prog f ([Ws x] ++ G_) (.bool (p x))) :
  Fn Tryz.prog 70 [Wt s,.fn f G_] (.bool (s.any p)):=by
 refine q_ (fn:=Tryz.f70) Tryz.call70 Tryz.func70 rfl mixed 4 [] [] [] (by kernel_rfl) (K_ rfl) (Kk (Ff s) (Kg hc)) (Xk ?_);simp(disch:=omega)only[O_,↓Xc,wG,seval];refine X0 (dX s f G_ p hl hc hp) (X1 _) ?_;simp(disch:=omega)only[↓Xc,wG,seval];exact Xn (v:=.bool (decide (0≤Lu p s))) rfl rfl (X5 _) (by rw[MQ])
theorem MT (p q:V2):(q.sub p).F'=IU p q:=by
 unfold V2.F' V2.sub IU;simp only[V2.mk.injEq,and_true];grind
theorem Pv (p q:V2):vb (IU p q)≤vb p+vb q+1:=by
 rw[←MT,AJ];have:=J4 q p;omega
theorem E9 (L:List V2)(i:Nat)(h:J3 L 1000)(hl:L.length<1000000)(hi:i<L.length):Fn Tryz.prog 59 [Qx L,I i] (vA (IU (L.getD i v0) (Za L i))):=by
 have hb1:=h i;have hb2:vb (Za L i)≤1000:=h ((i+1)%L.length);have hb3:=J4 (Za L i) (L.getD i v0);have c1:=Cc L i hl hi;have c2:=QS (Za L i) (L.getD i v0);have c3:=Fb ((Za L i).sub (L.getD i v0));rw[MT]at c3;have v1:=vF L i;have e:L.getD ((i+1)%L.length) v0=Za L i:=rfl;rw[e]at c1;have f2:(i<L.length)=True:=L' hi;obtain⟨R,hR⟩:∃R,R=vA (IU (L.getD i v0) (Za L i)):=⟨_,rfl⟩
 have sR:A_ R:=hR▸Xv _;rw[←hR]at c3;rw[←hR];refine q_ (fn:=Tryz.f59) Tryz.call59 Tryz.func59 rfl mixed 5 [] [] [] (by kernel_rfl) (K_ rfl) (Kk (Xs L) (X8 i)) (Xk ?_);simp(disch:=omega)only[O_,X7,↓Xc,wG,seval];refine X0 c1 ⟨by rw[X7];exact U_ _,U_ _,trivial⟩ ?_;simp(disch:=omega)only[X7,f2,v1,↓Xc,wG,seval];refine X0 c2 (X1 _) ?_;simp(disch:=omega)only[↓Xc,wG,seval];refine X0 c3 (X1 _) ?_;simp(disch:=omega)only[hR,vA,vC,↓Xc,wG,seval];exact ZK rfl Jn rfl rfl rfl sR (hR.trans rfl)
def zu (a b p:V2):Bool:=decide (Xq (a.sub p) (b.sub p)=0∧Qn (a.sub p) (b.sub p)≤0)
theorem pi (u v s t:Rat)(h:u*t-v*s=0):u*s+v*t≤0↔(u*s≤0∧v*t≤0):=by
 constructor
 ·intro hd
  have e:(u*s)*(v*t)=(u*t)*(u*t):=by
   have:u*t=v*s:=by grind
   grind
  have sq:0≤(u*t)*(u*t):=by
   rcases Rat.le_total (a:=0) (b:=u*t)with g |g
   ·exact ZAS g g
   ·have:=ZAS (a:=-(u*t)) (b:=-(u*t)) (by grind) (by grind)
    grind
  rw[←e]at sq;generalize u*s=x at *;generalize v*t=y at *;have key:∀ {x y:Rat},x+y≤0→0≤x*y→x≤0:=fun {x y} h1 h2=>by
   refine ZAf.1 fun hx=>?_
   have hy:y<0:=by grind
   have:=ZBJ hx (show(0:Rat) < -y by grind);grind
  exact⟨key hd sq,key (x:=y) (y:=x) (by grind) (by grind)⟩
 ·rintro⟨h1,h2⟩;grind
theorem YM (a b x:Rat):lf a b x=true↔(a-x)*(b-x)≤0:=by
 unfold lf;rw[decide_eq_true_eq];constructor
 ·rintro(⟨h1,h2⟩ | ⟨h1,h2⟩)
  ·have:=ZAS (a:=x-a) (b:=b-x) (by grind) (by grind)
   grind
  ·have:=ZAS (a:=a-x) (b:=x-b) (by grind) (by grind)
   grind
 ·intro h
  by_cases h1:a≤x
  ·by_cases h2:x≤b
   ·exact .inl ⟨h1,h2⟩
   ·by_cases h3:x≤a
    ·exact .inr ⟨by grind,h3⟩
    ·have:=ZBJ (a:=x-a) (b:=x-b) (by grind) (by grind)
     grind
  ·by_cases h2:b≤x
   ·exact .inr ⟨h2,by grind⟩
   ·have:=ZBJ (a:=a-x) (b:=b-x) (by grind) (by grind)
    grind
theorem WB (a b p:V2):Ky a b p=0↔Xq (a.sub p) (b.sub p)=0:=by
 have e:Xq (b.sub a) (p.sub a)=Xq (a.sub p) (b.sub p):=by unfold Xq V2.sub;grind
 unfold Ky;rw[e];exact BU _
theorem l6 (a b i p:V2):MM ⟨a,b,i⟩ p=zu a b p:=by
 rw[Bool.eq_iff_iff];unfold MM zu;rw[x_,x_,decide_eq_true_eq,decide_eq_true_eq,WB,YM,YM];refine and_congr_right fun h=>?_
 exact(pi (a.x-p.x) (a.y-p.y) (b.x-p.x) (b.y-p.y) h).symm
end
end Go.Ab.N
namespace Go.Ab.N
open Go Go.RowKit Go.Proofs
open Go.Shelf
noncomputable section
set_option maxRecDepth 10000
set_option maxHeartbeats 4000000
open Classical
def OP (a b:Rat):Rat:=if b<a then b else a
def O3 (a b:Rat):Rat:=if b<a then a else b
theorem mG {P:Program}{fn:Func}{str hcs:List Nat}{b:Nat}{H:List AO}{s:AS}(hr:fn.results=#[])(hH:s.h=H):TBT (MB P fn str hcs b (.tup []) H) s :=
 ⟨.tup [],by show Au P fn s=_;simp[Au,hr,JL,BO],rfl,hH⟩
def Pp (v:Nat)(a b:Rat):AO:=.row v 8 (Xf (qC a ++ qC b))
theorem VU (o0 o1 o2 o3 o4:AO)(v:Nat)(a b:Rat)(ha:qb a≤rm)(hb:qb b≤rm) :
  G' Tryz.prog 241 [.osl 5 v 4 0 2,I 0,I 2,.fn 41 []] [o0,o1,o2,o3,o4,Pp v a b] (.tup []) [o0,o1,o2,o3,o4,Pp v (OP a b) (O3 a b)]:=by
 have c:=Ju b a hb ha;refine ZDx (fn:=Tryz.f241) Tryz.call241 Tryz.func241 rfl mixed 10 [] [4,5008,5013,6,7009,7013] [] (by kernel_rfl) (K_ rfl) (Xk ?_);simp(disch:=omega)only[O_,Pp,qC,↓Xc,wG,seval];refine FN ?_;refine Xk ?_;simp(disch:=omega)only[↓Xc,wG,seval];refine FN ?_;refine Xk ?_;simp(disch:=omega)only[↓Xc,wG,seval];refine X0 c (X1 _) ?_;simp(disch:=omega)only[CV,↓Xc,wG,seval];have e1:OP a b=if b<a then b else a:=rfl
 have e2:O3 a b=if b<a then a else b:=rfl
 refine⟨fun h=>?_,fun h=>?_⟩
 ·rw[N_ h]at e1 e2
  rw[e1,e2];refine Ed ?_;refine Xk ?_;simp(disch:=omega)only[↓Xc,wG,seval];refine Ed ?_;refine Xk ?_;simp(disch:=omega)only[↓Xc,wG,seval];exact mG rfl rfl
 ·rw[M_ h]at e1 e2
  rw[e1,e2];refine Ed ?_;refine Xk ?_;simp(disch:=omega)only[↓Xc,wG,seval];exact mG rfl rfl
def rnL:Go.Shelf.Ren:=⟨fun k=>if k=125 then 227 else if k=128 then 249 else 250,fun t=>if t=46 then 214 else if t=51 then 230 else if t=53 then 185 else t,fun x=>x⟩
theorem yJ:Lays.n125 Tryz.prog rnL where
 mixed:=mixed
 f125:=Tryz.func227.trans (y_ some rfl)
 f128:=Tryz.func249.trans (y_ some rfl)
 f129:=Tryz.func250.trans (y_ some rfl)
 t3:=Tryz.underlying3
 a3:=Tryz.isAgg3
 z3:=Tryz.sizeOf3
 v3:=Tryz.zeroValue3
 t4:=Tryz.underlying4
 a4:=Tryz.isAgg4
 z4:=Tryz.sizeOf4
 v4:=Tryz.zeroValue4
 t5:=Tryz.underlying5
 a5:=Tryz.isAgg5
 z5:=Tryz.sizeOf5
 v5:=Tryz.zeroValue5
 t9:=Tryz.underlying9
 a9:=Tryz.isAgg9
 z9:=Tryz.sizeOf9
 v9:=Tryz.zeroValue9
 t46:=Tryz.underlying214
 a46:=Tryz.isAgg214
 z46:=Tryz.sizeOf214
 v46:=Tryz.zeroValue214
 t51:=Tryz.underlying230
 a51:=Tryz.isAgg230
 z51:=Tryz.sizeOf230
 v51:=Tryz.zeroValue230
 t53:=Tryz.underlying185
 a53:=Tryz.isAgg185
 z53:=Tryz.sizeOf185
 v53:=Tryz.zeroValue185
theorem wu (n:Nat)(h:n<1000000):Fn Tryz.prog 227 [.int .u64 n] (I (ZEL n)):=by
 refine⟨⟨Tryz.call227,?_⟩,fun a ha=>by rw[Y_.1 ha];exact Jv _ _⟩;rintro w S vs hS ⟨hv1,hv2⟩;have hx:=hv2 0 (by simp);have h3:vs.size=1:=hv1;have e1:vs=#[vs.getD 0 undef]:=by
  apply Array.ext
  ·simp[h3]
  ·intro j g1 g2
   match j,g1 with
   |0,_=>simp[Array.getD,h3]
   |j+1,g=>omega
 rw[e1];generalize vs.getD 0 undef=x at *;replace hx:Rep (.bare w S) x (.int .u64 n):=hx;cases hx;have key:=Any.bits_Len yJ (n:Int) w (by omega) (by omega);refine key.mono ?_;rintro e w' ⟨rfl,rfl⟩;rw[U'];exact⟨_,S,rfl,.int _ _,hS,Ext.refl _⟩
theorem wX {P:Program}{fn:Func}{str hcs:List Nat}{b:Nat}{H:List AO}{s:AS}(hr:fn.results=#[])(hH:s.h=H):TAC (MB P fn str hcs b (.tup []) H) s :=
 ⟨.tup [],by show Au P fn s=_;simp[Au,hr,JL,BO],rfl,hH⟩
theorem xu {o0 o1 o2 o3 o4 o5:AO}(h:∀ o∈[o0,o1,o2,o3,o4],o≠.D_)(h5:o5≠.D_)(id:Nat):[o0,o1,o2,o3,o4,o5][id]?≠some .D_:=by
 intro hh;have:=ZAK hh;rw[show [o0,o1,o2,o3,o4,o5]=[o0,o1,o2,o3,o4] ++ [o5]from rfl,n_,Y_]at this;rcases this with g |g
 ·exact h _ g rfl
 ·exact h5 g.symm
theorem rp (o0 o1 o2 o3 o4:AO)(hu:∀ o∈[o0,o1,o2,o3,o4],o≠.D_)(v lim:Nat)(a b:Rat)(ha:qb a≤rm)(hb:qb b≤rm) :
  G' Tryz.prog 226 [.osl 5 v 4 0 2,I 0,I 2,I lim,.fn 41 []] [o0,o1,o2,o3,o4,Pp v a b] (.tup []) [o0,o1,o2,o3,o4,Pp v (OP a b) (O3 a b)]:=by
 have c:=VU o0 o1 o2 o3 o4 v a b ha hb;refine ZDx (fn:=Tryz.f226) Tryz.call226 Tryz.func226 rfl mixed 21 [] [] [4] (by kernel_rfl) (K_ rfl) (Xk ?_);simp(disch:=omega)only[O_,↓Xc,wG,seval];refine FN ?_;refine Xk ?_;simp(disch:=omega)only[↓Xc,wG,seval];refine XC rfl c (QY (id:=5) (o:=Pp v a b) rfl (by simp[Pp]) (by simp[Pp])) (xu hu (by simp[Pp])) (X1 _) ?_;simp(disch:=omega)only[↓Xc,wG,seval];exact wX rfl rfl
theorem ng (o0 o1 o2 o3 o4:AO)(hu:∀ o∈[o0,o1,o2,o3,o4],o≠.D_)(v:Nat)(a b:Rat)(ha:qb a≤rm)(hb:qb b≤rm) :
  G' Tryz.prog 194 [.osl 5 v 4 0 2,.fn 41 []] [o0,o1,o2,o3,o4,Pp v a b] (.tup []) [o0,o1,o2,o3,o4,Pp v (OP a b) (O3 a b)]:=by
 have c:=rp o0 o1 o2 o3 o4 hu v (ZEL 2) a b ha hb;have cl:=wu 2 (by omega);generalize ZEL 2=lim at *;refine ZDx (fn:=Tryz.f194) Tryz.call194 Tryz.func194 rfl mixed 5 [] [] [1] (by kernel_rfl) (K_ rfl) (Xk ?_);have hw:IntKind.u64.wrap 2=2:=by decide
 simp(disch:=omega)only[O_,hw,↓Xc,wG,seval];refine X0 cl (X1 _) ?_;simp(disch:=omega)only[↓Xc,wG,seval];refine XC rfl c (QY (id:=5) (o:=Pp v a b) rfl (by simp[Pp]) (by simp[Pp])) (xu hu (by simp[Pp])) (X1 _) ?_;simp(disch:=omega)only[↓Xc,wG,seval];exact mG rfl rfl
end
end Go.Ab.N
namespace Go.Ab.N
open Go Go.RowKit Go.Proofs
noncomputable section
set_option maxRecDepth 10000
set_option maxHeartbeats 4000000
open Classical
theorem yb {z:Int}(h:-1000000000<z∧z<1000000000):bl z≤1:=by
 unfold bl;by_cases h0:z.natAbs=0
 ·rw[h0,Qu];decide
 ·rw[GV h0];exact N' 1
theorem Ew (p q:Int)(hp:-1000000000<p∧p<1000000000:=by omega)(hq:-1000000000<q∧q<1000000000:=by omega):qb (P' p q)≤1:=Zq p q 1 (N' _) (yb hp) (yb hq)
theorem yV (p:Int)(hp:-1000000000<p∧p<1000000000):qb (p:Rat)≤1:=mv p 1 (N' _) (yb hp)
theorem GB (x y:Int)(hx:-1000000000<x∧x<1000000000:=by omega)(hy:-1000000000<y∧y<1000000000:=by omega):vb (pI x y)≤1:=ZDP.2 ⟨yV x hx,yV y hy⟩
def Av (l:List Int)(a:Int):V2 :=
 ⟨P' (Ab.atF l a (16*(1+Ab.atF l (a+2) 2)+1)-8*(1+Ab.atF l (a+2) 2)) (1+Ab.atF l (a+2) 2),P' (Ab.atF l (a+1) (16*(1+Ab.atF l (a+2) 2)+1)-8*(1+Ab.atF l (a+2) 2)) (1+Ab.atF l (a+2) 2)⟩
theorem FO (l:List Int)(a:Int):vb (Av l a)≤1:=by
 unfold Av;have b1:=XF l (a+2) 2;generalize Ab.atF l (a+2) 2=x at *;have b2:=XF l a (16*(1+x)+1);have b3:=XF l (a+1) (16*(1+x)+1);exact ZDP.2 ⟨Ew _ _,Ew _ _⟩
theorem RJ (l:List Int)(a:Int)(hl:Eo l)(ha:0≤a∧a<1000):Fn Tryz.prog 60 [X9 l,I a] (vA (Av l a)):=by
 have b1:=XF l (a+2) 2;have c1:=QW l (a+2) 2 hl;obtain⟨R,hR⟩:∃R,R=vA (Av l a):=⟨_,rfl⟩
 have sR:A_ R:=hR▸Xv _;rw[←hR];unfold Av at hR;generalize Ab.atF l (a+2) 2=x at *;obtain⟨q,hq⟩:∃q,q=1+x:=⟨_,rfl⟩
 rw[←hq]at hR;have c2:=QW l a (16*q+1) hl;have c3:=QW l (a+1) (16*q+1) hl;have b2:=XF l a (16*q+1);have b3:=XF l (a+1) (16*q+1);generalize Ab.atF l a (16*q+1)=y at *;generalize Ab.atF l (a+1) (16*q+1)=z at *;have c4:=XL (y-8*q) q ⟨by omega,by omega⟩ ⟨by omega,by omega⟩;have c5:=XL (z-8*q) q ⟨by omega,by omega⟩ ⟨by omega,by omega⟩;refine q_ (fn:=Tryz.f60) Tryz.call60 Tryz.func60 rfl mixed 6 [] [] [] (by kernel_rfl) (K_ rfl) (Kk (Xd l) (X8 a)) (Xk ?_);simp(disch:=omega)only[O_,←hq,↓Xc,wG,seval];refine X0 c1 (X1 _) ?_;simp(disch:=omega)only[←hq,↓Xc,wG,seval];refine X0 c2 (X1 _) ?_;simp(disch:=omega)only[↓Xc,wG,seval];refine X0 c4 (X1 _) ?_;simp(disch:=omega)only[↓Xc,wG,seval];refine X0 c3 (X1 _) ?_;simp(disch:=omega)only[↓Xc,wG,seval];refine X0 c5 (X1 _) ?_;simp(disch:=omega)only[qA,qC,↓Xc,wG,seval];exact ZK rfl Jn rfl rfl rfl sR (hR.trans rfl)
def TC6:List (Int×Int×Int):=[(1,0,1),(0,1,1),(-1,0,1),(0,-1,1),(3,4,5),(-4,3,5),(5,-12,13),(-3,-4,5)]
def D1 (n:Int):V2 :=
 let x:=TC6.getD (Qk n 8).toNat (1,0,1)
 ⟨P' x.1 x.2.2,P' x.2.1 x.2.2⟩
theorem nh:TC6.all (fun x=>decide (qb (P' x.1 x.2.2)≤1) && decide (qb (P' x.2.1 x.2.2)≤1) && decide (P' x.1 x.2.2*P' x.1 x.2.2+P' x.2.1 x.2.2*P' x.2.1 x.2.2=1))=true:=by decide +kernel
theorem aJ (n:Int):vb (D1 n)≤1∧Qn (D1 n) (D1 n)=1:=by
 have b:=QE n 8 (by omega);unfold D1;generalize Qk n 8=k at *;have h:=ZA5.1 nh (TC6.getD k.toNat (1,0,1)) (Qp _ (show k.toNat<8 by omega));simp only[x_,decide_eq_true_eq]at h;exact⟨ZDP.2 ⟨h.1.1,h.1.2⟩,h.2⟩
theorem rY (n:Int)(hn:Ap n):Fn Tryz.prog 140 [I n] (vA (D1 n)):=by
 have c1:=Kq n 8 hn (by omega);have b:=QE n 8 (by omega);obtain⟨R,hR⟩:∃R,R=vA (D1 n):=⟨_,rfl⟩
 have sR:A_ R:=hR▸Xv _;rw[←hR];unfold D1 at hR;generalize Qk n 8=k at *;refine q_ (fn:=Tryz.f140) Tryz.call140 Tryz.func140 rfl mixed 5 [] [] [] (by kernel_rfl) (K_ rfl) (fun a ha=>Y_.1 ha▸X8 n) (Xk ?_);simp(disch:=omega)only[O_,↓Xc,wG,seval];refine X0 c1 (X1 _) ?_;rcases(show k=0∨k=1∨k=2∨k=3∨k=4∨k=5∨k=6∨k=7 by omega)with rfl |rfl |rfl |rfl |rfl |rfl |rfl |rfl
 all_goals
  simp(disch:=omega)only[ZAw,ZAo,ZAz,ZBA,ZAC,↓Xc,wG,seval]
 ·refine X2 (XL 1 1 ⟨by omega,by omega⟩ ⟨by omega,by omega⟩) rfl ?_
  simp(disch:=omega)only[ZAw,ZAo,ZAz,ZBA,ZAC,↓Xc,wG,seval];refine X2 (XL 0 1 ⟨by omega,by omega⟩ ⟨by omega,by omega⟩) rfl ?_;simp(disch:=omega)only[qA,qC,↓Xc,wG,seval];exact ZK rfl Hb rfl rfl rfl sR (hR.trans rfl)
 ·refine X2 (XL 0 1 ⟨by omega,by omega⟩ ⟨by omega,by omega⟩) rfl ?_
  simp(disch:=omega)only[ZAw,ZAo,ZAz,ZBA,ZAC,↓Xc,wG,seval];refine X2 (XL 1 1 ⟨by omega,by omega⟩ ⟨by omega,by omega⟩) rfl ?_;simp(disch:=omega)only[qA,qC,↓Xc,wG,seval];exact ZK rfl Hb rfl rfl rfl sR (hR.trans rfl)
 ·refine X2 (XL (-1) 1 ⟨by omega,by omega⟩ ⟨by omega,by omega⟩) rfl ?_
  simp(disch:=omega)only[ZAw,ZAo,ZAz,ZBA,ZAC,↓Xc,wG,seval];refine X2 (XL 0 1 ⟨by omega,by omega⟩ ⟨by omega,by omega⟩) rfl ?_;simp(disch:=omega)only[qA,qC,↓Xc,wG,seval];exact ZK rfl Hb rfl rfl rfl sR (hR.trans rfl)
 ·refine X2 (XL 0 1 ⟨by omega,by omega⟩ ⟨by omega,by omega⟩) rfl ?_
  simp(disch:=omega)only[ZAw,ZAo,ZAz,ZBA,ZAC,↓Xc,wG,seval];refine X2 (XL (-1) 1 ⟨by omega,by omega⟩ ⟨by omega,by omega⟩) rfl ?_;simp(disch:=omega)only[qA,qC,↓Xc,wG,seval];exact ZK rfl Hb rfl rfl rfl sR (hR.trans rfl)
 ·refine X2 (XL 3 5 ⟨by omega,by omega⟩ ⟨by omega,by omega⟩) rfl ?_
  simp(disch:=omega)only[ZAw,ZAo,ZAz,ZBA,ZAC,↓Xc,wG,seval];refine X2 (XL 4 5 ⟨by omega,by omega⟩ ⟨by omega,by omega⟩) rfl ?_;simp(disch:=omega)only[qA,qC,↓Xc,wG,seval];exact ZK rfl Hb rfl rfl rfl sR (hR.trans rfl)
 ·refine X2 (XL (-4) 5 ⟨by omega,by omega⟩ ⟨by omega,by omega⟩) rfl ?_
  simp(disch:=omega)only[ZAw,ZAo,ZAz,ZBA,ZAC,↓Xc,wG,seval];refine X2 (XL 3 5 ⟨by omega,by omega⟩ ⟨by omega,by omega⟩) rfl ?_;simp(disch:=omega)only[qA,qC,↓Xc,wG,seval];exact ZK rfl Hb rfl rfl rfl sR (hR.trans rfl)
 ·refine X2 (XL 5 13 ⟨by omega,by omega⟩ ⟨by omega,by omega⟩) rfl ?_
  simp(disch:=omega)only[ZAw,ZAo,ZAz,ZBA,ZAC,↓Xc,wG,seval];refine X2 (XL (-12) 13 ⟨by omega,by omega⟩ ⟨by omega,by omega⟩) rfl ?_;simp(disch:=omega)only[qA,qC,↓Xc,wG,seval];exact ZK rfl Hb rfl rfl rfl sR (hR.trans rfl)
 ·refine X2 (XL (-3) 5 ⟨by omega,by omega⟩ ⟨by omega,by omega⟩) rfl ?_
  simp(disch:=omega)only[ZAw,ZAo,ZAz,ZBA,ZAC,↓Xc,wG,seval];refine X2 (XL (-4) 5 ⟨by omega,by omega⟩ ⟨by omega,by omega⟩) rfl ?_;simp(disch:=omega)only[qA,qC,↓Xc,wG,seval];exact ZK rfl Hb rfl rfl rfl sR (hR.trans rfl)
def TBc:List (Int×Int):=[(4,0),(4,2),(3,3),(2,4),(0,4),(-2,4),(-3,3),(-4,2),(-4,0),(-4,-2),(-3,-3),(-2,-4),(0,-4),(2,-4),(3,-3),(4,-2)]
def nQ:List AV:=TBc.flatMap fun x=>[I x.1,I x.2]
theorem sS {i:Nat}(h:i<16):Xf nQ (i*2)=I (TBc.getD i (0,0)).1∧Xf nQ (i*2+1)=I (TBc.getD i (0,0)).2:=by
 match i,h with
 |0,_ |1,_ |2,_ |3,_ |4,_ |5,_ |6,_ |7,_ |8,_ |9,_ |10,_ |11,_ |12,_ |13,_ |14,_ |15,_=>exact⟨rfl,rfl⟩
 |i+16,h=>omega
theorem nR (i:Nat):(-4≤(TBc.getD i (0,0)).1∧(TBc.getD i (0,0)).1≤4)∧-4≤(TBc.getD i (0,0)).2∧(TBc.getD i (0,0)).2≤4:=by
 match i with
 |0 |1 |2 |3 |4 |5 |6 |7 |8 |9 |10 |11 |12 |13 |14 |15=>decide
 |i+16=>exact⟨⟨by show(-4:Int)≤0;omega,by show(0:Int)≤4;omega⟩,by show(-4:Int)≤0;omega,by show(0:Int)≤4;omega⟩
def UP (l:List Int):V2:=pI (Ab.atF l 16 9-4) (Ab.atF l 17 9-4)
def Mu (l:List Int)(i:Nat):V2:=⟨P' ((TBc.getD i (0,0)).1*Ab.atF l i 6) 2,P' ((TBc.getD i (0,0)).2*Ab.atF l i 6) 2⟩
def Je (l:List Int):Nat→List V2
 |0=>[]
 |i+1=>if(Je l i).length<12∧0<Ab.atF l i 6∧Ab.atF l i 6<4 then Je l i ++ [(UP l).add (Mu l i)]else Je l i
theorem P6 (l:List Int):∀i,(Je l i).length≤12
 |0=>by simp[Je]
 |i+1=>by
  have:=P6 l i;unfold Je
  split
  ·rw[j_];simp only[ZAA,ZAN];omega
  ·exact this
theorem js (l:List Int):vb (UP l)≤1:=by
 have b1:=XF l 16 9;have b2:=XF l 17 9;exact GB _ _
theorem YQ {w k:Int}(hw:-4≤w∧w≤4)(hk:0≤k∧k<6):-20≤w*k∧w*k≤20:=by
 rcases(show k=0∨k=1∨k=2∨k=3∨k=4∨k=5 by omega)with rfl |rfl |rfl |rfl |rfl |rfl <;> omega
theorem SH (l:List Int)(i:Nat):vb (Mu l i)≤1:=by
 have b:=XF l i 6;obtain⟨h1,h2⟩:=nR i;have m1:=YQ h1 b;have m2:=YQ h2 b;exact ZDP.2 ⟨Ew _ _,Ew _ _⟩
theorem Hq (l:List Int):∀i,∀x∈Je l i,vb x≤3
 |0,x,h=>by simp[Je]at h
 |i+1,x,h=>by
  unfold Je at h
  split at h
  ·rcases n_.1 h with h |h
   ·exact Hq l i x h
   ·rw[Y_.1 h]
    have:=KW (UP l) (Mu l i);have:=js l;have:=SH l i;omega
  ·exact Hq l i x h
theorem Bt {L:List V2}{k:Nat}(h:∀ x∈L,vb x≤k)(h1:1≤k:=by omega):J3 L k:=fun i=>by
 by_cases hi:i<L.length
 ·exact h _ (Qp _ hi)
 ·rw[K',k_ (by omega)]
  exact m_ (show vb v0≤1 by decide +kernel) h1
theorem N6 (l:List Int){i:Nat}(h:12≤(Je l i).length):∀j,Je l (i+j)=Je l i
 |0=>rfl
 |j+1=>by
  have ih:=N6 l h j;show(if(Je l (i+j)).length<12∧0<Ab.atF l ((i+j:Nat):Int) 6∧Ab.atF l ((i+j:Nat):Int) 6<4 then Je l (i+j) ++ [(UP l).add (Mu l (i+j))]else Je l (i+j))=_;rw[ih,M_ (by omega)]
theorem fX {H:List AO}{id ver n:Nat}(L:List V2)(ho:H[id]?=some (.row ver (L.length*8) (Xw vC 8 v0 L))) (hn:n=L.length):ZA H (.osl id ver 8 0 n) (Qx L):=by
 subst hn;rw[X7];refine Kw (.inl ho) (by omega) (fun h=>by rw[h]) fun j hj=>?_
 rw[z_];exact(Xe (by simp[vC,Xd,X5]) _).TBI _
def P5 (l:List Int):List V2 :=
 if Ax (Je l 16)then Je l 16 else [UP l,(UP l).add (pI 4 0),(UP l).add (pI (1+Ab.atF l 0 2) 3),(UP l).add (pI 1 1)]
theorem We (l:List Int)(hl:Eo l):Fn Tryz.prog 54 [X9 l] (Qx (P5 l)):=by
 have k0:=js l;have b1:=XF l 16 9;have b2:=XF l 17 9;have c1:=QW l 16 9 hl;have c2:=QW l 17 9 hl;have c3:=KQ (Ab.atF l 16 9-4) (Ab.atF l 17 9-4) ⟨by omega,by omega⟩ ⟨by omega,by omega⟩;rw[show(⟨((Ab.atF l 16 9-4:Int):Rat),((Ab.atF l 17 9-4:Int):Rat)⟩:V2)=UP l from rfl]at c3;have bw:∀q,Jl q (.sl 16 32 (Xf nQ) false)=True:=fun q=>L' (X4 (Qw fun j _=>Xe (by simp[nQ,TBc,X8]) j))
 have bi:∀q,Jl q (X9 l)=True:=fun q=>L' (X4 (Xd l))
 have bb:∀q,Q0 q (.con 0 8 (Xf (vC (UP l))))=True:=fun q=>L' fun j _=>X4 (Xe (by simp[vC,Xd,X5]) j)
 have bp:∀q,Jl q (.ptr 8 (Xf (vC (UP l))) 0)=True:=fun q=>L' (X4 (XR fun j _=>Xe (by simp[vC,Xd,X5]) j))
 have br:∀q i n L,Q0 q (.row i n (Xw vC 8 v0 L))=True:=fun q i n L=>L' fun j _=>X4 (Xe (by simp[vC,Xd,X5]) _)
 obtain⟨R,hR⟩:∃R,R=P5 l:=⟨_,rfl⟩
 have sR:=Xs R;rw[←hR];unfold P5 at hR;generalize hB:UP l=B at *;refine q_ (fn:=Tryz.f54) Tryz.call54 Tryz.func54 rfl mixed 8 [] [] [] (by kernel_rfl) (K_ rfl) (fun a ha=>Y_.1 ha▸Xd l) (Xk ?_);simp(disch:=omega)only[O_,Xl,↓Xc,wG,seval];refine X0 c1 ⟨by rw[Xl];exact U_ _,U_ _,U_ _,trivial⟩ ?_;simp(disch:=omega)only[↓Xc,wG,seval];refine X0 c2 ⟨by rw[Xl];exact U_ _,U_ _,U_ _,trivial⟩ ?_;simp(disch:=omega)only[↓Xc,wG,seval];refine X0 c3 (X1 _) ?_;simp(disch:=omega)only[vA,vC,qC,↓Xc,wG,seval];refine Xj (fun i:Nat=>⟨8,[],[X9 l,.any,.any,.sl 16 32 (Xf nQ) true,.ref 0 0 0,.osl 1 (Je l i).length 8 0 (Je l i).length,I i,.any],[],[.row 0 8 (Xf (vC B)),.row (Je l i).length ((Je l i).length*8) (Xw vC 8 v0 (Je l i))]⟩) (fun i=>i≤16) (fun i=>16-i) 0 (by omega)
  (ZAZ (JS 5 8 (Xw vC 8 v0 []) rfl) (Xh rfl ⟨.inr (Xl l).symm,.inl rfl,.inl rfl,.inr rfl,.inr rfl,.inr rfl,.inr rfl,.inl rfl,trivial⟩ trivial rfl)) ?_
 intro i hi next
 have w1:=wj i;have hlen:=P6 l i;have fin:∀ (s:AS),s.get 5=.osl 1 (Je l i).length 8 0 (Je l i).length→True:=fun _ _=>trivial
 by_cases hgo:i<16∧(Je l i).length<12
 ·obtain⟨hi2,hlt⟩:=hgo
  have c4:=QW l i 6 hl;have bk:=XF l i 6;have hs:=show Je l (i+1)=if(Je l i).length<12∧0<Ab.atF l i 6∧Ab.atF l i 6<4 then Je l i ++ [(UP l).add (Mu l i)]else Je l i from rfl
  have hk1:=SH l i;have hco:=show Mu l i=⟨P' ((TBc.getD i (0,0)).1*Ab.atF l i 6) 2,P' ((TBc.getD i (0,0)).2*Ab.atF l i 6) 2⟩from rfl;have nx:=next (i+1)
  rw[hB]at hs;generalize Mu l i=q at *;generalize Ab.atF l i 6=k at *;obtain⟨hx,hy⟩:=sS hi2;obtain⟨bx,by'⟩:=nR i;generalize TBc.getD i (0,0)=w at *;have m1:=YQ bx bk;have m2:=YQ by' bk;generalize hP:Je l i=P at *;have w2:Q_.wrap (w.1*k)=w.1*k:=by rw[M'];omega
  have w3:Q_.wrap (w.2*k)=w.2*k:=by rw[M'];omega
  have c5:=XL (w.1*k) 2 ⟨by omega,by omega⟩ ⟨by omega,by omega⟩;have c6:=XL (w.2*k) 2 ⟨by omega,by omega⟩ ⟨by omega,by omega⟩;have c7:=QR B q;refine Xk ?_;simp(disch:=omega)only[↓Xc,wG,seval];refine X0 c4 (X1 _) ?_;by_cases hk:0<k∧k<4
  ·rw[N_ ⟨hlt,hk⟩]at hs
   have hap:=Zp vC 8 v0 P (B.add q);rw[←hs]at hap;have hl2:(Je l (i+1)).length=P.length+1:=by rw[hs];simp
   rw[hl2]at nx;simp(disch:=omega)only[hk.1,hk.2,hx,hy,w2,w3,vC,qC,↓Xc,wG,seval];refine X0 c5 (X1 _) ?_;simp(disch:=omega)only[hx,hy,w2,w3,↓Xc,wG,seval];refine X0 c6 (X1 _) ?_;simp(disch:=omega)only[↓Xc,wG,seval];refine X0 c7 ⟨U_ _,by rw[hco];exact U_ _,trivial⟩ ?_;simp(disch:=omega)only[vA,vC,qC,↓Xc,wG,seval];exact⟨fun j hj=>nE (B.add q) j hj,nx _ (by omega) (by omega) (ZZ (by simp[Xo,I,Xl]) (by rw[←hap];rfl))⟩
  ·rw[M_ (fun h=>hk h.2)]at hs
   rw[hs]at nx;by_cases hk0:0<k
   ·simp(disch:=omega)only[hk0,show ¬k<4 by omega,↓Xc,wG,seval]
    exact nx _ (by omega) (by omega) (ZZ (by simp[Xo,I,Xl]) rfl)
   ·simp(disch:=omega)only[hk0,↓Xc,wG,seval]
    exact nx _ (by omega) (by omega) (ZZ (by simp[Xo,I,Xl]) rfl)
 ·have hp:Je l 16=Je l i:=by
   by_cases h16:i=16
   ·rw[h16]
   ·have:=N6 l (i:=i) (by omega) (16-i)
    rwa[show i+(16-i)=16 by omega]at this
  rw[hp]at hR;have cv:=HA (Je l i) (Bt (fun x hx=>m_ (Hq l i x hx) (by omega))) (by omega);have b0:=XF l 0 2;have c8:=KQ 4 0 ⟨by omega,by omega⟩ ⟨by omega,by omega⟩;have c9:=QW l 0 2 hl;have c10:=KQ (1+Ab.atF l 0 2) 3 ⟨by omega,by omega⟩ ⟨by omega,by omega⟩;have c11:=KQ 1 1 ⟨by omega,by omega⟩ ⟨by omega,by omega⟩;have v1:=GB 4 0;have v2:=GB (1+Ab.atF l 0 2) 3;have v3:=GB 1 1;change Fn _ _ _ (vA (pI 4 0))at c8;change Fn _ _ _ (vA (pI (1+Ab.atF l 0 2) 3))at c10;change Fn _ _ _ (vA (pI 1 1))at c11;have c12:=QR B (pI 4 0);have c13:=QR B (pI (1+Ab.atF l 0 2) 3);have c14:=QR B (pI 1 1);have sv:∀H:List AO,H[1]?=some (.row (Je l i).length ((Je l i).length*8) (Xw vC 8 v0 (Je l i)))→ZA H (.osl 1 (Je l i).length 8 0 (Je l i).length) (Qx (Je l i)):=fun H h=>fX _ h rfl
  generalize hP:Je l i=P at *;generalize Ab.atF l 0 2=k at *;generalize pI 4 0=a1 at *;generalize pI (1+k) 3=a2 at *;generalize pI 1 1=a3 at *;have h12:i<16→¬P.length<12:=fun h h2=>hgo ⟨h,h2⟩
  refine Xk ?_;by_cases h16:i<16
  all_goals
   simp(disch:=omega)only[h16,h12,↓Xc,wG,seval];refine Oq cv rfl ⟨sv _ rfl,trivial⟩ (dK _) ?_;simp(disch:=omega)only[↓Xc,wG,seval];refine⟨fun h=>C4 rfl (by rw[hR,N_ h];exact sv _ rfl),fun h=>?_⟩;rw[M_ h]at hR;refine X0 c8 (X1 _) ?_;simp(disch:=omega)only[vA,vC,qC,↓Xc,wG,seval];refine X0 c12 (X1 _) ?_;simp(disch:=omega)only[vA,vC,qC,↓Xc,wG,seval];refine X0 c9 ⟨by rw[Xl];exact U_ _,U_ _,U_ _,trivial⟩ ?_;simp(disch:=omega)only[↓Xc,wG,seval];refine X0 c10 (X1 _) ?_;simp(disch:=omega)only[vA,vC,qC,↓Xc,wG,seval];refine X0 c13 (X1 _) ?_;simp(disch:=omega)only[vA,vC,qC,↓Xc,wG,seval];refine X0 c11 (X1 _) ?_;simp(disch:=omega)only[vA,vC,qC,↓Xc,wG,seval];refine X0 c14 (X1 _) ?_;simp(disch:=omega)only[vA,vC,qC,↓Xc,wG,seval];exact C4 rfl (Xp (Xs _) (by rw[hR];exact JH vC 8 v0 (fun _=>rfl) [B,B.add a1,B.add a2,B.add a3] _ _ _ _ rfl rfl rfl))
def Ro (a b:V2):V2:=(a.add b).scale (P' 1 2)
theorem lN (a b:V2):vb (Ro a b)≤vb a+vb b+2:=by
 have h1:=KW a b;have h2:=Bx (a.add b) (P' 1 2);have h3:=Ew 1 2;unfold Ro;omega
theorem FE (a b:V2)(ha:vb a≤100000:=by omega)(hb:vb b≤100000:=by omega):Fn Tryz.prog 57 [vA a,vA b] (vA (Ro a b)):=by
 have h1:=KW a b;have h3:=Ew 1 2;have c1:=QR a b;have c2:=XL 1 2 ⟨by omega,by omega⟩ ⟨by omega,by omega⟩;have c3:=Zb (a.add b) (P' 1 2);rw[show(a.add b).scale (P' 1 2)=Ro a b from rfl]at c3;obtain⟨R,hR⟩:∃R,R=vA (Ro a b):=⟨_,rfl⟩
 have sR:A_ R:=hR▸Xv _;rw[←hR]at c3;rw[←hR];refine q_ (fn:=Tryz.f57) Tryz.call57 Tryz.func57 rfl mixed 5 [] [] [] (by kernel_rfl) (K_ rfl) (Kk (Xv a) (Xv b)) (Xk ?_);simp(disch:=omega)only[O_,vA,vC,↓Xc,wG,seval];refine X0 c1 (X1 _) ?_;simp(disch:=omega)only[vA,vC,↓Xc,wG,seval];refine X0 c2 (X1 _) ?_;simp(disch:=omega)only[qA,qC,↓Xc,wG,seval];refine X0 c3 (X1 _) ?_;simp(disch:=omega)only[hR,vA,vC,↓Xc,wG,seval];exact ZK rfl Jn rfl rfl rfl sR (hR.trans rfl)
theorem mo (l:List Int)(a:Int)(hl:Eo l)(ha:0≤a∧a<900):Fn Tryz.prog 56 [X9 l,I a] (rs (D1 (Ab.atF l a 64)) (Av l (a+1))):=by
 have b1:=XF l a 64;have c1:=QW l a 64 hl;have c2:=rY (Ab.atF l a 64) ⟨by omega,by omega⟩;have c3:=RJ l (a+1) hl (by omega);obtain⟨R,hR⟩:∃R,R=rs (D1 (Ab.atF l a 64)) (Av l (a+1)):=⟨_,rfl⟩
 have sR:A_ R:=hR▸Lf _ _;rw[←hR];generalize D1 (Ab.atF l a 64)=t at *;generalize Av l (a+1)=c at *;generalize Ab.atF l a 64=k at *;refine q_ (fn:=Tryz.f56) Tryz.call56 Tryz.func56 rfl mixed 5 [] [] [] (by kernel_rfl) (K_ rfl) (Kk (Xd l) (X8 a)) (Xk ?_);simp(disch:=omega)only[O_,↓Xc,wG,seval];refine X0 c1 (X1 _) ?_;simp(disch:=omega)only[↓Xc,wG,seval];refine X0 c2 (X1 _) ?_;simp(disch:=omega)only[vA,vC,↓Xc,wG,seval];refine X0 c3 (X1 _) ?_;simp(disch:=omega)only[vA,vC,↓Xc,wG,seval];exact Kc rfl ll rfl rfl rfl (Xp sR (by rw[hR];exact U_ _))
def TY (l:List Int):Int:=1+Ab.atF l 0 6
def TW (l:List Int):Int:=1+Ab.atF l 1 6
def TX (l:List Int):Int:=Ab.atF l 2 5-2
def O7 (k w h s:Int):List V2 :=
 if k=1 then [v0,pI (3*w) 0,pI (3*w) h,pI w h,pI w (3*h),pI 0 (3*h)]
 else if k=2 then [v0,pI w (-1),pI (w+2) h,pI w (2*h+1),pI 0 (2*h),pI (-2) h]
 else [v0,pI w 0,pI (w+s) h,pI s h]
def O8 (l:List Int):List V2 :=
 if Ab.atF l 3 5=0 then P5 l else Ez (D1 (Ab.atF l 4 64)) (Av l 5) (O7 (Ab.atF l 3 5) (TY l) (TW l) (TX l))
def Oe (L:List V2):Prop:=(3≤L.length∧L.length≤12)∧J3 L 7∧∀i,i<L.length→L.getD i v0≠Za L i
theorem LJ {L:List V2}{i:Nat}(h:i+1=L.length):Za L i=L.getD 0 v0:=by unfold Za;rw[h,ZC6]
theorem Af {a b c d:Int}:pI a b=pI c d↔a=c∧b=d:=by
 unfold pI;simp only[V2.mk.injEq,ZBx]
theorem Pu:v0=pI 0 0:=rfl
theorem az {k w h s:Int}(hw:1≤w∧w≤6)(hh:1≤h∧h≤6)(hs:-2≤s∧s≤2):(4≤(O7 k w h s).length∧(O7 k w h s).length≤6)∧(∀x∈O7 k w h s,vb x≤1)∧∀i,i<(O7 k w h s).length→(O7 k w h s).getD i v0≠Za (O7 k w h s) i:=by
 have z:vb v0≤1:=by decide +kernel
 unfold O7
 split
 ·refine⟨by simp,?_,?_⟩
  ·simp only[b_,V_,or_false]
   rintro x (rfl |rfl |rfl |rfl |rfl |rfl)
   ·exact z
   all_goals exact GB _ _
  ·intro i hi
   match i,hi with
   |0,_=>show v0≠pI (3*w) 0;rw[Pu,Ne,Af];omega
   |1,_=>show pI (3*w) 0≠pI (3*w) h;rw[Ne,Af];omega
   |2,_=>show pI (3*w) h≠pI w h;rw[Ne,Af];omega
   |3,_=>show pI w h≠pI w (3*h);rw[Ne,Af];omega
   |4,_=>show pI w (3*h)≠pI 0 (3*h);rw[Ne,Af];omega
   |5,_=>rw[LJ rfl];show pI 0 (3*h)≠v0;rw[Pu,Ne,Af];omega
   |i+6,h=>simp at h;omega
 ·split
  ·refine⟨by simp,?_,?_⟩
   ·simp only[b_,V_,or_false]
    rintro x (rfl |rfl |rfl |rfl |rfl |rfl)
    ·exact z
    all_goals exact GB _ _
   ·intro i hi
    match i,hi with
    |0,_=>show v0≠pI w (-1);rw[Pu,Ne,Af];omega
    |1,_=>show pI w (-1)≠pI (w+2) h;rw[Ne,Af];omega
    |2,_=>show pI (w+2) h≠pI w (2*h+1);rw[Ne,Af];omega
    |3,_=>show pI w (2*h+1)≠pI 0 (2*h);rw[Ne,Af];omega
    |4,_=>show pI 0 (2*h)≠pI (-2) h;rw[Ne,Af];omega
    |5,_=>rw[LJ rfl];show pI (-2) h≠v0;rw[Pu,Ne,Af];omega
    |i+6,h=>simp at h;omega
  ·refine⟨by simp,?_,?_⟩
   ·simp only[b_,V_,or_false]
    rintro x (rfl |rfl |rfl |rfl)
    ·exact z
    all_goals exact GB _ _
   ·intro i hi
    match i,hi with
    |0,_=>show v0≠pI w 0;rw[Pu,Ne,Af];omega
    |1,_=>show pI w 0≠pI (w+s) h;rw[Ne,Af];omega
    |2,_=>show pI (w+s) h≠pI s h;rw[Ne,Af];omega
    |3,_=>rw[LJ rfl];show pI s h≠v0;rw[Pu,Ne,Af];omega
    |i+4,h=>simp at h;omega
theorem rA {t c a b:V2}(ht:Qn t t=1)(h:put t c a=put t c b):a=b:=by
 unfold put ue V2.add at h;simp only[V2.mk.injEq]at h;obtain⟨h1,h2⟩:=h;unfold Qn at ht;cases a;cases b;simp only[V2.mk.injEq]at *;constructor <;> grind
theorem wY (l:List Int):Oe (O8 l):=by
 unfold O8
 split
 ·unfold P5
  have hb:=js l;have b0:=XF l 0 2
  split
  ·rename_i h
   refine⟨h.1,Bt (fun x hx=>m_ (Hq l 16 x hx) (by omega)),fun i hi=>?_⟩;have:=LR (h.2.1 i hi).1;unfold Ab.N.atF at this;rw[ZAJ hi]at this;exact this
  ·have a1:=KW (UP l) (pI 4 0)
   have a2:=KW (UP l) (pI (1+Ab.atF l 0 2) 3);have a3:=KW (UP l) (pI 1 1);have v1:=GB 4 0;have v2:=GB (1+Ab.atF l 0 2) 3;have v3:=GB 1 1;refine⟨by simp,Bt ?_,?_⟩
   ·simp only[b_,V_,or_false]
    rintro x (rfl |rfl |rfl |rfl) <;> omega
   ·have ne:∀ {x y:Int} {a:V2},¬ (x=0∧y=0)→a≠a.add (pI x y):=fun {x y a} h e=>h (by
     have e1:a.x=a.x+(x:Rat):=y_ V2.x e;have e2:a.y=a.y+(y:Rat):=y_ V2.y e;have h1:(x:Rat)=((0:Int):Rat):=by grind
     have h2:(y:Rat)=((0:Int):Rat):=by grind
     exact⟨ZBx.1 h1,ZBx.1 h2⟩)
    have ne2:∀ {x y u v:Int} {a:V2},¬ (x=u∧y=v)→a.add (pI x y)≠a.add (pI u v):=fun {x y u v a} h e=>h (by
     have e1:a.x+(x:Rat)=a.x+(u:Rat):=y_ V2.x e;have e2:a.y+(y:Rat)=a.y+(v:Rat):=y_ V2.y e;exact⟨ZBx.1 (by grind),ZBx.1 (by grind)⟩)
    intro i hi
    match i,hi with
    |0,_=>exact ne (x:=4) (y:=0) (by omega)
    |1,_=>exact ne2 (x:=4) (y:=0) (u:=1+Ab.atF l 0 2) (v:=3) (by omega)
    |2,_=>exact ne2 (x:=1+Ab.atF l 0 2) (y:=3) (u:=1) (v:=1) (by omega)
    |3,_=>rw[LJ rfl];exact(ne (x:=1) (y:=1) (by omega)).symm
    |i+4,h=>simp at h;omega
 ·have b1:=XF l 0 6
  have b2:=XF l 1 6;have b3:=XF l 2 5;obtain⟨h1,h2,h3⟩:=az (k:=Ab.atF l 3 5) (w:=TY l) (h:=TW l) (s:=TX l) (by unfold TY;omega) (by unfold TW;omega) (by unfold TX;omega);obtain⟨t1,t2⟩:=aJ (Ab.atF l 4 64);have c1:=FO l 5;generalize O7 (Ab.atF l 3 5) (TY l) (TW l) (TX l)=C at *;generalize D1 (Ab.atF l 4 64)=t at *;generalize Av l 5=c at *;have hm:∀i,i<C.length→(Ez t c C).getD i v0=put t c (C.getD i v0):=fun i hi=>by
   unfold Ez;rw[K',ZBy,K',V' hi];rfl
  have hl:(Ez t c C).length=C.length:=by simp[Ez]
  refine⟨by rw[hl];omega,Bt (fun x hx=>?_),fun i hi=>?_⟩
  ·unfold Ez at hx
   obtain⟨y,hy,rfl⟩:=ZBj.1 hx;have:=h2 y hy;have:=xA t c y;omega
  ·rw[hl]at hi
   unfold Za;rw[hl,hm i hi,hm _ (ZAI _ (by omega))];exact fun e=>h3 i hi (rA t2 e)
theorem rF (l:List Int)(hl:Eo l):Fn Tryz.prog 11 [X9 l] (Qx (O8 l)):=by
 have c0:=We l hl;have b1:=XF l 0 6;have b2:=XF l 1 6;have b3:=XF l 2 5;have b4:=XF l 3 5;have c1:=QW l 0 6 hl;have c2:=QW l 1 6 hl;have c3:=QW l 2 5 hl;have c4:=QW l 3 5 hl;have c5:=mo l 4 hl (by omega);obtain⟨t1,t2⟩:=aJ (Ab.atF l 4 64);have s1:=FO l 5;have hC:=az (k:=Ab.atF l 3 5) (w:=TY l) (h:=TW l) (s:=TX l) (by unfold TY;omega) (by unfold TW;omega) (by unfold TX;omega);have c6:=TP (D1 (Ab.atF l 4 64)) (Av l 5) (O7 (Ab.atF l 3 5) (TY l) (TW l) (TX l)) 1 (Bt hC.2.1) (by omega) (by omega) (by omega) (by omega);obtain⟨R,hR⟩:∃R,R=O8 l:=⟨_,rfl⟩
 have sR:=Xs R;rw[←hR];unfold O8 at hR;rw[show(4:Int)+1=5 from rfl]at c5;unfold TY TW TX at *;generalize D1 (Ab.atF l 4 64)=t at *;generalize Av l 5=c at *;generalize P5 l=G at *;generalize Ab.atF l 0 6=w at *;generalize Ab.atF l 1 6=h at *;generalize Ab.atF l 2 5=s at *;generalize Ab.atF l 3 5=k at *;refine q_ (fn:=Tryz.f11) Tryz.call11 Tryz.func11 rfl mixed 7 [29] [] [] (by kernel_rfl) (K_ rfl) (fun a ha=>Y_.1 ha▸Xd l) (Xk ?_);simp(disch:=omega)only[O_,↓Xc,wG,seval];refine X0 c1 (X1 _) ?_;simp(disch:=omega)only[↓Xc,wG,seval];refine X0 c2 (X1 _) ?_;simp(disch:=omega)only[↓Xc,wG,seval];have p:∀x y:Int,-100≤x∧x≤100→-100≤y∧y≤100→Fn Tryz.prog 53 [I x,I y] (vA (pI x y)):=fun x y hx hy=>KQ x y ⟨by omega,by omega⟩ ⟨by omega,by omega⟩
 have z:=QB false;have wl:∀ (L:List V2) (n m:Nat) (F:List AV),F=[AV.bool false,.sl 0 0 (fun _=>.any) false,.bool false,.sl 0 0 (fun _=>.any) false,.bool false,.sl 0 0 (fun _=>.any) false,.bool false,.sl 0 0 (fun _=>.any) false] ++ L.flatMap vC→n=L.length+1→m=(L.length+1)*8→∀tt,B' (.sl n m (Xf F) tt) (Qx (v0 :: L)):=fun L n m F hF hn hm tt=>by
  subst hF hn hm;have hL:TAF ([AV.bool false,.sl 0 0 (fun _=>.any) false,.bool false,.sl 0 0 (fun _=>.any) false,.bool false,.sl 0 0 (fun _=>.any) false,.bool false,.sl 0 0 (fun _=>.any) false] ++ L.flatMap vC) ((v0 :: L).flatMap vC):=⟨z.1,z.2.1,z.2.2.1,z.2.2.2.1,z.1,z.2.1,z.2.2.1,z.2.2.2.1,X1 _⟩
  exact QC rfl (N' _) fun j hj=>by
   rw[←Cl vC 8 v0 (fun _=>rfl) (v0 :: L) j hj];exact DF hL j
 refine X0 c3 (X1 _) ?_;simp(disch:=omega)only[↓Xc,wG,seval];refine X0 (p (1+w) 0 (by omega) (by omega)) (X1 _) ?_;simp(disch:=omega)only[vA,vC,↓Xc,wG,seval];refine X0 (p (1+w+(s-2)) (1+h) (by omega) (by omega)) (X1 _) ?_;simp(disch:=omega)only[vA,vC,↓Xc,wG,seval];refine X0 (p (s-2) (1+h) (by omega) (by omega)) (X1 _) ?_;simp(disch:=omega)only[vA,vC,↓Xc,wG,seval];refine X0 c4 (X1 _) ?_;rcases(show k=0∨k=1∨k=2∨k=3∨k=4 by omega)with rfl |rfl |rfl |rfl |rfl
 all_goals simp(disch:=omega)only[ZAC,↓Xc,wG,seval]
 ·refine X0 c0 ⟨by rw[Xl];exact U_ _,trivial⟩ ?_
  simp(disch:=omega)only[X7,↓Xc,wG,seval];exact Xn rfl rfl sR (by rw[hR,X7];rfl)
 ·refine X0 (p (3*(1+w)) 0 (by omega) (by omega)) (X1 _) ?_
  simp(disch:=omega)only[vA,vC,↓Xc,wG,seval];refine X0 (p (3*(1+w)) (1+h) (by omega) (by omega)) (X1 _) ?_;simp(disch:=omega)only[vA,vC,↓Xc,wG,seval];refine X0 (p (1+w) (1+h) (by omega) (by omega)) (X1 _) ?_;simp(disch:=omega)only[vA,vC,↓Xc,wG,seval];refine X0 (p (1+w) (3*(1+h)) (by omega) (by omega)) (X1 _) ?_;simp(disch:=omega)only[vA,vC,↓Xc,wG,seval];refine X0 (p 0 (3*(1+h)) (by omega) (by omega)) (X1 _) ?_;simp(disch:=omega)only[vA,vC,↓Xc,wG,seval];refine X0 c5 ⟨by rw[Xl];exact U_ _,U_ _,trivial⟩ ?_;simp(disch:=omega)only[rs,ag,↓Xc,wG,seval];refine X0 c6 ⟨U_ _,wl [pI (3*(1+w)) 0,pI (3*(1+w)) (1+h),pI (1+w) (1+h),pI (1+w) (3*(1+h)),pI 0 (3*(1+h))] _ _ _ rfl rfl rfl _,trivial⟩ ?_;simp(disch:=omega)only[X7,↓Xc,wG,seval];exact Xn rfl rfl sR (by rw[hR,X7];rfl)
 ·refine X0 (p (1+w) (-1) (by omega) (by omega)) (X1 _) ?_
  simp(disch:=omega)only[vA,vC,↓Xc,wG,seval];refine X0 (p (1+w+2) (1+h) (by omega) (by omega)) (X1 _) ?_;simp(disch:=omega)only[vA,vC,↓Xc,wG,seval];refine X0 (p (1+w) (2*(1+h)+1) (by omega) (by omega)) (X1 _) ?_;simp(disch:=omega)only[vA,vC,↓Xc,wG,seval];refine X0 (p 0 (2*(1+h)) (by omega) (by omega)) (X1 _) ?_;simp(disch:=omega)only[vA,vC,↓Xc,wG,seval];refine X0 (p (-2) (1+h) (by omega) (by omega)) (X1 _) ?_;simp(disch:=omega)only[vA,vC,↓Xc,wG,seval];refine X0 c5 ⟨by rw[Xl];exact U_ _,U_ _,trivial⟩ ?_;simp(disch:=omega)only[rs,ag,↓Xc,wG,seval];refine X0 c6 ⟨U_ _,wl [pI (1+w) (-1),pI (1+w+2) (1+h),pI (1+w) (2*(1+h)+1),pI 0 (2*(1+h)),pI (-2) (1+h)] _ _ _ rfl rfl rfl _,trivial⟩ ?_;simp(disch:=omega)only[X7,↓Xc,wG,seval];exact Xn rfl rfl sR (by rw[hR,X7];rfl)
 ·refine X0 c5 ⟨by rw[Xl];exact U_ _,U_ _,trivial⟩ ?_
  simp(disch:=omega)only[rs,ag,↓Xc,wG,seval];refine X0 c6 ⟨U_ _,wl [pI (1+w) 0,pI (1+w+(s-2)) (1+h),pI (s-2) (1+h)] _ _ _ rfl rfl rfl _,trivial⟩ ?_;simp(disch:=omega)only[X7,↓Xc,wG,seval];exact Xn rfl rfl sR (by rw[hR,X7];rfl)
 ·refine X0 c5 ⟨by rw[Xl];exact U_ _,U_ _,trivial⟩ ?_
  simp(disch:=omega)only[rs,ag,↓Xc,wG,seval];refine X0 c6 ⟨U_ _,wl [pI (1+w) 0,pI (1+w+(s-2)) (1+h),pI (s-2) (1+h)] _ _ _ rfl rfl rfl _,trivial⟩ ?_;simp(disch:=omega)only[X7,↓Xc,wG,seval];exact Xn rfl rfl sR (by rw[hR,X7];rfl)
def L4 (L:List V2)(i:Nat):Rat:=Xq ((L.getD i v0).sub (L.getD 0 v0)) ((L.getD (i+1) v0).sub (L.getD 0 v0))*P' 1 6
def Uv (L:List V2)(i:Nat):V2:=((L.getD 0 v0).add (L.getD i v0)).add (L.getD (i+1) v0)
def Er (L:List V2):Nat→V2
 |0=>v0
 |k+1=>(Er L k).add ((Uv L (k+1)).scale (L4 L (k+1)))
def G0 (L:List V2):V2:=if ZB L=0 then v0 else(Er L (L.length-2)).scale (P' 1 1/ZB L)
theorem Vv (L:List V2)(h:J3 L 7)(i:Nat):vb ((L.getD i v0).sub (L.getD 0 v0))≤15∧vb ((L.getD 0 v0).add (L.getD i v0))≤15∧vb (Uv L i)≤23∧qb (L4 L i)≤62:=by
 have h0:=h 0;have h1:=h i;have h2:=h (i+1);have s1:=J4 (L.getD i v0) (L.getD 0 v0);have s2:=J4 (L.getD (i+1) v0) (L.getD 0 v0);have a1:=KW (L.getD 0 v0) (L.getD i v0);have a2:=KW ((L.getD 0 v0).add (L.getD i v0)) (L.getD (i+1) v0);have c1:=K1 ((L.getD i v0).sub (L.getD 0 v0)) ((L.getD (i+1) v0).sub (L.getD 0 v0));have m1:=Qa (Xq ((L.getD i v0).sub (L.getD 0 v0)) ((L.getD (i+1) v0).sub (L.getD 0 v0))) (P' 1 6);have q6:=Ew 1 6;refine⟨by omega,by omega,by unfold Uv;omega,by unfold L4;omega⟩
theorem Lz (L:List V2)(h:J3 L 7):∀k,vb (Er L k)≤86*k+1
 |0=>by show vb v0≤1;decide +kernel
 |k+1=>by
  have i1:=Lz L h k;obtain⟨_,_,h3,h4⟩:=Vv L h (k+1);have s:=Bx (Uv L (k+1)) (L4 L (k+1));have a:=KW (Er L k) ((Uv L (k+1)).scale (L4 L (k+1)));show vb ((Er L k).add ((Uv L (k+1)).scale (L4 L (k+1))))≤_;omega
theorem R0 (L:List V2)(h:J3 L 7)(hl:L.length≤12):vb (G0 L)≤1230∧qb (ZB L)≤400:=by
 have a1:=GH L 7 h L.length;have a2:=Qa (Ba L L.length) (P' 1 2);have q2:=Ew 1 2;have q1:=Ew 1 1;have a3:qb (ZB L)≤362:=by unfold ZB;omega
 refine⟨?_,by omega⟩;unfold G0
 split
 ·exact m_ (show vb v0≤1 by decide +kernel) (by omega)
 ·have k1:=Lz L h (L.length-2)
  have k2:=C2 (P' 1 1) (ZB L);have k3:=Bx (Er L (L.length-2)) (P' 1 1/ZB L);omega
theorem nS (t:Bool):TAF [.bool false,.sl 0 0 (fun _=>.any) t,.bool false,.sl 0 0 (fun _=>.any) t,.bool false,.sl 0 0 (fun _=>.any) t,.bool false,.sl 0 0 (fun _=>.any) t] (vC v0):=by
 have w:=QB t;exact⟨w.1,w.2.1,w.2.2.1,w.2.2.2.1,w.1,w.2.1,w.2.2.1,w.2.2.2.1,trivial⟩
theorem de (L:List V2)(h:J3 L 7)(hl:2≤L.length∧L.length≤12):Fn Tryz.prog 77 [Qx L] (vA (G0 L)):=by
 obtain⟨bc,ba⟩:=R0 L h hl.2;have c1:=Ni L 7 h (by omega) (by omega);have c2:=Q8 (ZB L);obtain⟨R,hR⟩:∃R,R=vA (G0 L):=⟨_,rfl⟩
 have sR:A_ R:=hR▸Xv _;rw[←hR];unfold G0 at hR;have s1:=BU (ZB L);refine q_ (fn:=Tryz.f77) Tryz.call77 Tryz.func77 rfl mixed 7 [] [8] [] (by kernel_rfl) (K_ rfl) (fun a ha=>Y_.1 ha▸Xs L) (Xk ?_);simp(disch:=omega)only[O_,X7,↓Xc,wG,seval];refine X0 c1 ⟨by rw[X7];exact U_ _,trivial⟩ ?_;simp(disch:=omega)only[qA,qC,↓Xc,wG,seval];refine X0 c2 (X1 _) ?_;simp(disch:=omega)only[BU,↓Xc,wG,seval];refine⟨fun h0=>?_,fun h0=>?_⟩
 ·exact Kc rfl Jn rfl rfl rfl (Xp sR (by rw[hR,N_ h0];exact D5 _))
 rw[M_ h0]at hR;have bq:∀q i n x,Q0 q (.row i n (Xf (qC x)))=True:=fun q i n x=>L' (QZ (XU x))
 have bw:∀q i n x,Q0 q (.row i n (Xf (vC x)))=True:=fun q i n x=>L' (QZ (by simp[vC,Xd,X5]))
 have bz:∀q,Q0 q (.row 0 8 (Xf [.bool false,.sl 0 0 (fun _=>.any) true,.bool false,.sl 0 0 (fun _=>.any) true,.bool false,.sl 0 0 (fun _=>.any) true,.bool false,.sl 0 0 (fun _=>.any) true]))=True:=fun q=>L' (QZ (by simp[X5,JQ]))
 have bv:∀q,Jl q (Qx L)=True:=fun q=>L' (X4 (Xs L))
 generalize ZB L=A at *;refine d_ ?_ (Qe 2 (Xf (vC (Er L 0))) rfl (fun j hj=>Xy (DF (nS true) j)));refine Xj (fun k:Nat=>⟨7,[],[Qx L,.any,.ref 0 0 0,.ref 1 0 0,.ref 2 0 0,I (k+1:Nat),.any],[],[.row 0 8 (Xf [.bool false,.sl 0 0 (fun _=>.any) true,.bool false,.sl 0 0 (fun _=>.any) true,.bool false,.sl 0 0 (fun _=>.any) true,.bool false,.sl 0 0 (fun _=>.any) true]),.row 0 4 (Xf (qC A)),.row 0 8 (Xf (vC (Er L k)))]⟩) (fun k=>k≤L.length-2) (fun k=>L.length-k) 0 (by omega)
  (Xh rfl ⟨.inr (X7 L).symm,.inl rfl,.inr rfl,.inr rfl,.inr rfl,.inr rfl,.inl rfl,trivial⟩ trivial rfl) ?_
 intro k hk next
 have w1:=wj k;have w2:=wj (k+1);obtain⟨h1,h2,h3,h4⟩:=Vv L h (k+1);have h1b:=(Vv L h (k+2)).1;by_cases hgo:k+2<L.length
 ·have nx:=next (k+1)
  have e0:Er L (k+1)=(Er L k).add ((Uv L (k+1)).scale (L4 L (k+1))):=rfl;have e1:Uv L (k+1)=((L.getD 0 v0).add (L.getD (k+1) v0)).add (L.getD (k+2) v0):=rfl;have e2:L4 L (k+1)=Xq ((L.getD (k+1) v0).sub (L.getD 0 v0)) ((L.getD (k+2) v0).sub (L.getD 0 v0))*P' 1 6:=rfl;have v1:=vF L (k+1);have v2:=vF L (k+2);have vz:=vF L 0;rw[ZA8]at vz;simp only[z_]at vz;have z0:=h 0;have z1:=h (k+1);have z2:=h (k+2);have g1:=Lz L h k;have q6:=Ew 1 6;rw[e1]at h3;rw[e2]at h4;rw[e0,e1,e2]at nx;generalize Er L k=C at *;generalize L.getD 0 v0=a at *;generalize L.getD (k+1) v0=b at *;generalize L.getD (k+2) v0=c at *;have f1:(k+1<L.length)=True:=L' (by omega);have f2:(k+2<L.length)=True:=L' (by omega);have f0:(0<L.length)=True:=L' (by omega);have qc:=K1 (b.sub a) (c.sub a);have d1:=QS b a;have d2:=QS c a;have d3:=K4 (b.sub a) (c.sub a);have d4:=XL 1 6 ⟨by omega,by omega⟩ ⟨by omega,by omega⟩;have d5:=Qm (Xq (b.sub a) (c.sub a)) (P' 1 6);have d6:=QR a b;have d7:=QR (a.add b) c;generalize Xq (b.sub a) (c.sub a)*P' 1 6=p at *;have d8:=Zb ((a.add b).add c) p;have sv:=Bx ((a.add b).add c) p;have d9:=QR C (((a.add b).add c).scale p);refine Xk ?_;simp(disch:=omega)only[X7,w1,w2,f0,f1,f2,v1,v2,vz,↓Xc,wG,seval];refine X0 d1 (X1 _) ?_;simp(disch:=omega)only[X7,w1,w2,f0,f1,f2,v1,v2,vz,vA,vC,qA,qC,↓Xc,wG,seval];refine X0 d2 (X1 _) ?_;simp(disch:=omega)only[X7,w1,w2,f0,f1,f2,v1,v2,vz,vA,vC,qA,qC,↓Xc,wG,seval];refine X0 d3 (X1 _) ?_;simp(disch:=omega)only[X7,w1,w2,f0,f1,f2,v1,v2,vz,vA,vC,qA,qC,↓Xc,wG,seval];refine X0 d4 (X1 _) ?_;simp(disch:=omega)only[X7,w1,w2,f0,f1,f2,v1,v2,vz,vA,vC,qA,qC,↓Xc,wG,seval];refine X0 d5 (X1 _) ?_;simp(disch:=omega)only[X7,w1,w2,f0,f1,f2,v1,v2,vz,vA,vC,qA,qC,↓Xc,wG,seval];refine X0 d6 (X1 _) ?_;simp(disch:=omega)only[X7,w1,w2,f0,f1,f2,v1,v2,vz,vA,vC,qA,qC,↓Xc,wG,seval];refine X0 d7 (X1 _) ?_;simp(disch:=omega)only[X7,w1,w2,f0,f1,f2,v1,v2,vz,vA,vC,qA,qC,↓Xc,wG,seval];refine X0 d8 (X1 _) ?_;simp(disch:=omega)only[X7,w1,w2,f0,f1,f2,v1,v2,vz,vA,vC,qA,qC,↓Xc,wG,seval];refine X0 d9 (X1 _) ?_;simp(disch:=omega)only[X7,w1,w2,f0,f1,f2,v1,v2,vz,vA,vC,qA,qC,↓Xc,wG,seval];exact nx _ (by omega) (by omega) (XG (m:=3) (p_ _) rfl (by simp[X7,Xo,I]) (by simp[Xx]) rfl (by simp[XP,bv]) (by simp[XP,bv]) (by simp[bq,bw,bz]))
 ·obtain rfl:k=L.length-2:=by omega
  refine Xk ?_;simp(disch:=omega)only[X7,w1,w2,↓Xc,wG,seval];have g1:=Lz L h (L.length-2);have q1:=Ew 1 1;have d1:=XL 1 1 ⟨by omega,by omega⟩ ⟨by omega,by omega⟩;have d2:=Bl (P' 1 1) A;have d3:=C2 (P' 1 1) A;generalize Er L (L.length-2)=C at *;generalize P' 1 1=o at *;have d4:=Zb C (o/A);refine X0 d1 (X1 _) ?_;simp(disch:=omega)only[qA,qC,↓Xc,wG,seval];refine X0 d2 (X1 _) ?_;simp(disch:=omega)only[qA,qC,↓Xc,wG,seval];refine X0 d4 (X1 _) ?_;simp(disch:=omega)only[vA,vC,qC,↓Xc,wG,seval];exact ZK rfl Jn rfl rfl rfl sR (hR.trans rfl)
def zo (l:List Int)(L:List V2):V2:=if Ab.atF l 0 3=0 then((G0 L).add (Av [Ab.atF l 1 5,Ab.atF l 2 5,0] 0)).add (pI 8 8)else G0 L
def Bg (l:List Int):Rat:=P' (1+Ab.atF l 3 6) (1+Ab.atF l 4 2)
def cP (l:List Int)(L:List V2):BB:=⟨zo l L,Bg l,Bg l+P' (Ab.atF l 5 4) 1,P' (1+Ab.atF l 6 30) 1⟩
theorem Ra {a b:Int}(ha:0<a:=by omega)(hb:0<b:=by omega):0<P' a b:=by
 have hb0:(0:Rat)<(b:Rat):=ZEa.2 hb;have e:P' a b*(b:Rat)=(a:Rat):=by rw[Rat.divInt_eq_div,ZCT (by grind)]
 have ha0:(0:Rat)<(a:Rat):=ZEa.2 ha;refine ZBD.1 fun h=>?_
 have:=ZAS (show 0≤-P' a b by grind) (ZBI hb0);grind
def bT (b:BB):Prop:=vb b.c≤1240∧qb b.TAS≤1∧qb b.TAD≤3∧qb b.TAB≤1
theorem bT.s {b:BB}(h:bT b):bS b:=by obtain⟨h1,h2,h3,h4⟩:=h;unfold bS;omega
theorem v6 (l:List Int)(L:List V2)(h:Oe L):bT (cP l L)∧K9 (cP l L)=true:=by
 obtain⟨h1,h2,h3⟩:=h;obtain⟨hc,_⟩:=R0 L h2 h1.2;have b3:=XF l 3 6;have b4:=XF l 4 2;have b5:=XF l 5 4;have b6:=XF l 6 30;have q1:qb (Bg l)≤1:=Ew _ _;have q2:=Ew (Ab.atF l 5 4) 1;have q3:=Ew (1+Ab.atF l 6 30) 1;have q4:=KE (Bg l) (P' (Ab.atF l 5 4) 1);have p1:0<Bg l:=Ra;have p2:0≤P' (Ab.atF l 5 4) 1:=Rat.divInt_nonneg (by omega) (by omega);have p3:0<P' (1+Ab.atF l 6 30) 1:=Ra;refine⟨⟨?_,?_,?_,?_⟩,?_⟩
 ·show vb (zo l L)≤1240
  unfold zo
  split
  ·have s1:=FO [Ab.atF l 1 5,Ab.atF l 2 5,0] 0
   have s2:=KW (G0 L) (Av [Ab.atF l 1 5,Ab.atF l 2 5,0] 0);have s3:=KW ((G0 L).add (Av [Ab.atF l 1 5,Ab.atF l 2 5,0] 0)) (pI 8 8);have s4:=GB 8 8;omega
  ·omega
 ·show qb (Bg l)≤1;omega
 ·show qb (Bg l+P' (Ab.atF l 5 4) 1)≤3;omega
 ·show qb (P' (1+Ab.atF l 6 30) 1)≤1;omega
 ·rw[Fs]
  exact⟨p1,by show Bg l≤Bg l+P' (Ab.atF l 5 4) 1;grind,p3⟩
theorem cQ (l:List Int)(L:List V2)(hl:Eo l)(h:Oe L):Fn Tryz.prog 18 [X9 l,Qx L] (bA (cP l L)):=by
 obtain⟨h1,h2,h3⟩:=h;obtain⟨hc,_⟩:=R0 L h2 h1.2;have b1:=XF l 1 5;have b2:=XF l 2 5;have b3:=XF l 3 6;have b4:=XF l 4 2;have b5:=XF l 5 4;have b6:=XF l 6 30;have q1:qb (Bg l)≤1:=Ew _ _;have q2:=Ew (Ab.atF l 5 4) 1;have c0:=QW l 0 3 hl;have c1:=QW l 1 5 hl;have c2:=QW l 2 5 hl;have c3:=QW l 3 6 hl;have c4:=QW l 4 2 hl;have c5:=QW l 5 4 hl;have c6:=QW l 6 30 hl;have d0:=de L h2 (by omega);have hs:Eo [Ab.atF l 1 5,Ab.atF l 2 5,0]:=by
  intro x hx;simp only[b_,V_,or_false]at hx;unfold Ap;rcases hx with rfl |rfl |rfl <;> omega
 have d1:=RJ [Ab.atF l 1 5,Ab.atF l 2 5,0] 0 hs (by omega);have s1:=FO [Ab.atF l 1 5,Ab.atF l 2 5,0] 0;obtain⟨R,hR⟩:∃R,R=bA (cP l L):=⟨_,rfl⟩
 have sR:A_ R:=hR▸QU _;rw[←hR];unfold cP zo at hR;have hlq:Bg l=P' (1+Ab.atF l 3 6) (1+Ab.atF l 4 2):=rfl;generalize Av [Ab.atF l 1 5,Ab.atF l 2 5,0] 0=s at *;generalize G0 L=C at *;generalize Ab.atF l 1 5=x1 at *;generalize Ab.atF l 2 5=x2 at *;have d2:=QR C s;have d3:=KQ 8 8 ⟨by omega,by omega⟩ ⟨by omega,by omega⟩;change Fn _ _ _ (vA (pI 8 8))at d3;have s4:=GB 8 8;have s5:=KW C s;generalize pI 8 8=e8 at *;have d4:=QR (C.add s) e8;have d5:=XL (1+Ab.atF l 3 6) (1+Ab.atF l 4 2) ⟨by omega,by omega⟩ ⟨by omega,by omega⟩;rw[←hlq]at d5;have d6:=XL (Ab.atF l 5 4) 1 ⟨by omega,by omega⟩ ⟨by omega,by omega⟩;have d7:=QT (Bg l) (P' (Ab.atF l 5 4) 1);have d8:=XL (1+Ab.atF l 6 30) 1 ⟨by omega,by omega⟩ ⟨by omega,by omega⟩;generalize Bg l=lq at *;generalize P' (Ab.atF l 5 4) 1=dq at *;generalize P' (1+Ab.atF l 6 30) 1=sq at *;refine q_ (fn:=Tryz.f18) Tryz.call18 Tryz.func18 rfl mixed 8 [] [6,7000] [] (by kernel_rfl) (K_ rfl) (Kk (Xd l) (Xs L)) (Xk ?_);simp(disch:=omega)only[O_,↓Xc,wG,seval];refine X0 d0 (X1 _) ?_;simp(disch:=omega)only[vA,vC,↓Xc,wG,seval];refine X0 c0 (X1 _) ?_;simp(disch:=omega)only[↓Xc,wG,seval];refine⟨fun h0=>?_,fun h0=>?_⟩
 ·refine X0 c1 ⟨by rw[Xl];exact U_ _,U_ _,U_ _,trivial⟩ ?_
  simp(disch:=omega)only[↓Xc,wG,seval];refine X0 c2 ⟨by rw[Xl];exact U_ _,U_ _,U_ _,trivial⟩ ?_;simp(disch:=omega)only[↓Xc,wG,seval];refine X0 d1 ⟨by rw[Xl];exact QC rfl (N' _) fun j hj=>by match j,hj with |0,_=>exact U_ _ |1,_=>exact U_ _ |2,_=>exact U_ _ |j+3,h=>exact absurd h (by simp),U_ _,trivial⟩ ?_;simp(disch:=omega)only[vA,vC,qC,↓Xc,wG,seval];refine X0 d2 (X1 _) ?_;simp(disch:=omega)only[vA,vC,qC,↓Xc,wG,seval];refine X0 d3 (X1 _) ?_;simp(disch:=omega)only[vA,vC,qC,↓Xc,wG,seval];refine X0 d4 (X1 _) ?_;simp(disch:=omega)only[vA,vC,qC,↓Xc,wG,seval];refine X0 c3 ⟨by rw[Xl];exact U_ _,U_ _,U_ _,trivial⟩ ?_;simp(disch:=omega)only[↓Xc,wG,seval];refine X0 c4 ⟨by rw[Xl];exact U_ _,U_ _,U_ _,trivial⟩ ?_;simp(disch:=omega)only[↓Xc,wG,seval];refine X0 d5 (X1 _) ?_;simp(disch:=omega)only[qA,qC,↓Xc,wG,seval];refine X0 c5 ⟨by rw[Xl];exact U_ _,U_ _,U_ _,trivial⟩ ?_;simp(disch:=omega)only[↓Xc,wG,seval];refine X0 d6 (X1 _) ?_;simp(disch:=omega)only[qA,qC,↓Xc,wG,seval];refine X0 d7 (X1 _) ?_;simp(disch:=omega)only[qA,qC,↓Xc,wG,seval];refine X0 c6 ⟨by rw[Xl];exact U_ _,U_ _,U_ _,trivial⟩ ?_;simp(disch:=omega)only[↓Xc,wG,seval];refine X0 d8 (X1 _) ?_;simp(disch:=omega)only[qA,qC,↓Xc,wG,seval];rw[N_ h0]at hR;exact Kc rfl YN rfl rfl rfl (Xp sR (by rw[hR];exact U_ _))
 ·refine X0 c3 ⟨by rw[Xl];exact U_ _,U_ _,U_ _,trivial⟩ ?_
  simp(disch:=omega)only[↓Xc,wG,seval];refine X0 c4 ⟨by rw[Xl];exact U_ _,U_ _,U_ _,trivial⟩ ?_;simp(disch:=omega)only[↓Xc,wG,seval];refine X0 d5 (X1 _) ?_;simp(disch:=omega)only[qA,qC,↓Xc,wG,seval];refine X0 c5 ⟨by rw[Xl];exact U_ _,U_ _,U_ _,trivial⟩ ?_;simp(disch:=omega)only[↓Xc,wG,seval];refine X0 d6 (X1 _) ?_;simp(disch:=omega)only[qA,qC,↓Xc,wG,seval];refine X0 d7 (X1 _) ?_;simp(disch:=omega)only[qA,qC,↓Xc,wG,seval];refine X0 c6 ⟨by rw[Xl];exact U_ _,U_ _,U_ _,trivial⟩ ?_;simp(disch:=omega)only[↓Xc,wG,seval];refine X0 d8 (X1 _) ?_;simp(disch:=omega)only[qA,qC,↓Xc,wG,seval];rw[M_ h0]at hR;exact Kc rfl YN rfl rfl rfl (Xp sR (by rw[hR];exact U_ _))
def AM (a d x:V2):Rat:=Qn (x.sub a) d/Qn d d
def UR (s t:Rat):Rat:=if OP s t<0 then 0 else OP s t
def UQ (s t:Rat):Rat:=if 1<O3 s t then 1 else O3 s t
def O0 (a d:V2)(lo hi:Rat):V2:=a.add (d.scale ((lo+hi)*P' 1 2))
def VG (p n b:V2):V2:=p.add (n.scale (Qn (b.sub p) n/Qn n n))
def SW (a b:Sd):V2:=a.b.sub a.a
def GZ (a b:Sd):Rat:=AM a.a (SW a b) b.a
def H3 (a b:Sd):Rat:=AM a.a (SW a b) b.b
def Lr (a b:Sd):Option (V2×V2) :=
 if O5 b.i a.i∧0<Qn (b.a.sub a.a) a.i then
  if UR (GZ a b) (H3 a b)<UQ (GZ a b) (H3 a b)then
   some (O0 a.a (SW a b) (UR (GZ a b) (H3 a b)) (UQ (GZ a b) (H3 a b)),VG (O0 a.a (SW a b) (UR (GZ a b) (H3 a b)) (UQ (GZ a b) (H3 a b))) a.i b.a)
  else none
 else none
def rO (s:Sd):AV:=.ptr 24 (Xf (Bp s)) 0
def vP (v:V2):AV:=.ptr 8 (Xf (vC v)) 0
theorem Uh (s:Sd):A_ (rO s):=XR fun j _=>Xe (ZL s) j
theorem Wy (v:V2):A_ (vP v):=XR fun j _=>Xe (by simp[vC,Xd,X5]) j
theorem sdF (s:Sd):Xf (Bp s) 0=.bool (sg s.a.x)∧Xf (Bp s) 1=X9 (Xa s.a.x.num.natAbs)∧Xf (Bp s) 2=.bool false∧Xf (Bp s) 3=X9 (Xa (qd s.a.x))∧Xf (Bp s) 4=.bool (sg s.a.y)∧Xf (Bp s) 5=X9 (Xa s.a.y.num.natAbs)∧Xf (Bp s) 6=.bool false∧Xf (Bp s) 7=X9 (Xa (qd s.a.y)):=⟨rfl,rfl,rfl,rfl,rfl,rfl,rfl,rfl⟩
theorem vCF (v:V2):Xf (vC v) 0=.bool (sg v.x)∧Xf (vC v) 1=X9 (Xa v.x.num.natAbs)∧Xf (vC v) 2=.bool false∧Xf (vC v) 3=X9 (Xa (qd v.x))∧Xf (vC v) 4=.bool (sg v.y)∧Xf (vC v) 5=X9 (Xa v.y.num.natAbs)∧Xf (vC v) 6=.bool false∧Xf (vC v) 7=X9 (Xa (qd v.y)):=⟨rfl,rfl,rfl,rfl,rfl,rfl,rfl,rfl⟩
theorem MD (a:Sd)(d x:V2)(ha:vb a.a≤1000)(hd:vb d≤2001)(hx:vb x≤1000)(h0:Qn d d≠0):Fn Tryz.prog 192 [vA x,rO a,vP d] (qA (AM a.a d x)):=by
 have s1:=J4 x a.a;have q1:=Zu (x.sub a.a) d;have q2:=Zu d d;have c1:=BE x a.a;have c2:=E4 (x.sub a.a) d;have c3:=E4 d d;have c4:=LQ (Qn (x.sub a.a) d) (Qn d d) h0;obtain⟨R,hR⟩:∃R,R=qA (AM a.a d x):=⟨_,rfl⟩
 have sR:A_ R:=hR▸Xb _;rw[show Qn (x.sub a.a) d/Qn d d=AM a.a d x from rfl,←hR]at c4;rw[←hR];have sf:=sdF a;have vf:=vCF d;refine Fq Tryz.call192 Tryz.func192 5 [] [] [] (by simp[Xv,Uh,Wy]) (Xk ?_);simp(disch:=omega)only[O_,vA,vC,rO,vP,sf,vf,↓Xc,wG,seval];refine X0 c1 (X1 _) ?_;simp(disch:=omega)only[sf,vf,qA,qC,↓Xc,wG,seval];refine X0 c2 (X1 _) ?_;simp(disch:=omega)only[sf,vf,qA,qC,↓Xc,wG,seval];refine X0 c3 (X1 _) ?_;simp(disch:=omega)only[sf,vf,qA,qC,↓Xc,wG,seval];refine X0 c4 (X1 _) ?_;simp(disch:=omega)only[hR,qA,qC,↓Xc,wG,seval];exact Jf rfl XT rfl rfl rfl sR (hR.trans rfl)
end
end Go.Ab.N
