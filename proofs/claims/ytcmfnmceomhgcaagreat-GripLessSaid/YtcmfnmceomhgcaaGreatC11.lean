/- Contracts of functions, for every argument that fits. -/
import Derived.Test.YtcmfnmceomhgcaaGreatC10
import Derived.Shelf.Small.Bits
set_option linter.unusedSimpArgs false
set_option linter.unusedVariables false
namespace Go.Ab.N
open Go Go.RowKit Go.Proofs
noncomputable section
set_option maxRecDepth 10000
set_option maxHeartbeats 4000000
open Classical
theorem sH (a b:Rat):Rat.divInt (a.num*b.den) (a.den*b.num)=a / b:=by
 rw [← Rat.divInt_mul_divInt,Rat.div_def,Rat.inv_def,Rat.num_divInt_den]
theorem Dq (a b:Rat) (ha:qb a≤vm) (hb:qb b≤vm):Fn Tryz.prog 121 [qA a,qA b] (qA (a / b)):=by
 unfold vm at ha hb
 have a1:=Jv a; have a2:=JB a; have b1:=Jv b; have b2:=JB b
 have m1:=ZN a.num b.den (by unfold room; omega) (by unfold room; omega)
 have m3:=ZN a.den b.num (by unfold room; omega) (by unfold room; omega)
 have n1:=Jy a.num b.den
 have n3:=Jy a.den b.num
 have k:=EI (a.num*b.den) (a.den*b.num) (by omega) (by omega)
 rw [sH] at k
 have d1:=A8 a
 have d2:=A8 b
 obtain ⟨R,hR⟩:∃ R,R=qA (a / b):=⟨_,rfl⟩
 have sR:Settled R:=hR▸Xc _
 rw [← hR] at k ⊢
 refine Fq Tryz.call121 Tryz.func121 5 [] [1,20000002,20000003] [] (by simp [wS]) (Xm ?_); simp (maxSteps:=999999) only [AS.start,↓X4,wF,seval]
 refine X2 d2 rfl ?_
 simp only [↓X4,wF,seval]
 refine X2 m1 rfl ?_
 simp only [↓X4,wF,seval]
 refine X2 d1 rfl ?_
 simp only [↓X4,wF,seval]
 refine X2 m3 rfl ?_
 simp only [↓X4,wF,seval]
 refine X2 k rfl ?_
 simp only [hR,↓X4,wF,seval]
 exact Jf rfl XS rfl rfl rfl sR (hR.trans rfl)
def W3 (t c:V2):List AV:=[.bool (decide (t.x.num<0)),X8 (X9 t.x.num.natAbs),.bool false,X8 (X9 (qd t.x)),.bool (decide (t.y.num<0)),X8 (X9 t.y.num.natAbs),.bool false,X8 (X9 (qd t.y)),
 .bool (decide (c.x.num<0)),X8 (X9 c.x.num.natAbs),.bool false,X8 (X9 (qd c.x)),.bool (decide (c.y.num<0)),X8 (X9 c.y.num.natAbs),.bool false,X8 (X9 (qd c.y))]
def nU (t c:V2):AV:=.agg (W3 t c)
theorem I2 (t c:V2):∀ x∈W3 t c,Settled x:=by simp [W3,Xb,X5]
theorem I1 (t c:V2):Settled (nU t c):=QB (I2 t c)
def put (t c a:V2):V2:=(qj t a).add c
theorem tB (t c a:V2):vb (put t c a)≤2*(vb t+vb a)+vb c+2:=by
 have:=ka t a; have:=Kw (qj t a) c
 unfold put; omega
def DP (t c:V2) (L:List V2):List V2:=L.map (put t c)
theorem ak (t c:V2) (L:List V2) (i:Nat) (hi:i<L.length):DP t c (L.take i) ++ [put t c (L.getD i v0)]=DP t c (L.take (i+1)):=by
 rw [Mv _ v0 hi]; simp [DP]
theorem iG (t c:V2) (L:List V2) (i:Nat) (hi:i≤L.length):(DP t c (L.take i)).length=i:=by simp [DP]; omega
theorem kp {P:Program} {fn:Func} {str hcs:List Nat} {s:AS} {t id ver:Nat} (L:List V2) (hr:fn.results=#[.tmp t]) (hs:s.get t=.osl id ver 8 0 L.length) (ho:s.h[id]?=some (.row ver (L.length*8) (XO vC 8 v0 L))):RetOk (Jq P fn str hcs (Qh L)) s:=by
 refine BX hr ?_
 rw [hs,X7]
 refine ZP (.inl ho) (by omega) (fun h=>by rw [h]) fun j hj=>?_
 rw [Nat.zero_add]
 exact (Xf (by simp [vC,Xb,X5]) _).sees _
theorem jY (a:V2):∀ j,j<8→((vC a).getD j .any).one=true:=fun j hj=>by
 match j,hj with
 | 0,_=>rfl
 | 1,_=>rfl
 | 2,_=>rfl
 | 3,_=>rfl
 | 4,_=>rfl
 | 5,_=>rfl
 | 6,_=>rfl
 | 7,_=>rfl
 | j+8,h=>omega
theorem Sa (t c:V2) (L:List V2) (k:Nat) (h:QT L k) (hk:k≤100000) (hl:L.length<1000000) (ht:vb t≤100000) (hc:vb c≤100000):Fn Tryz.prog 55 [nU t c,Qh L] (Qh (DP t c L)):=by
 have bo:Qc 2 (.con 0 16 (Xh (W3 t c)))=True:=eq_true (fun j _=>X6 (Xf (I2 t c) j))
 have hvc:∀ a:V2,∀ x∈vC a,Settled x:=fun a=>by simp [vC,Xb,X5]
 have bv:Ju 2 (Qh L)=True:=eq_true (X6 (Xq L))
 have br:∀ i l n,Qc 2 (.row i n (XO vC 8 v0 l))=True:=fun i l n=>eq_true fun j _=>X6 (Xf (hvc _) _)
 obtain ⟨R,hR⟩:∃ R,R=Qh (DP t c L):=⟨_,rfl⟩
 rw [← hR]
 refine Fq Tryz.call55 Tryz.func55 7 [] [5,6011,60000002] [] (by simp [I1,Xq]) (Xm ?_)
 simp only [AS.start,nU,W3,X7,↓X4,wF,seval]
 refine Xl (fun i:Nat=>⟨7,[],[.any,Qh L,.ref 0 0 0,.any,.any,.osl 1 i 8 0 i,I i],[],[.con 0 16 (Xh (W3 t c)),.row i (i*8) (XO vC 8 v0 (DP t c (L.take i)))]⟩) (fun i=>i≤L.length) (fun i=>L.length - i) 0 (by omega)
  (Sub.trans (Q3 0 rfl) (Sub.trans (Kg 5 8 (XO vC 8 v0 []) rfl) (Xk rfl (by simp [AS.put,X7,Xo,I]) (by simp [AS.put,Xw]) (by simp [AS.put,W3,Xj,DP])))) ?_
 intro i hi next
 have w1:=wj i (by omega)
 by_cases hi2:i<L.length
 ·have f1:((i:Int)<L.length)=True:=eq_true (by omega)
  have f2:(i<L.length)=True:=eq_true hi2
  have f3:(i*8+8≤L.length*8)=True:=eq_true (by omega)
  have v1:=vF L i
  have hb:=h i
  have m:=ka t (L.getD i v0)
  have c1:=MX t (L.getD i v0) (by unfold vm; omega) (by unfold vm; omega)
  have c2:=QE (qj t (L.getD i v0)) c (by unfold vm; omega) (by unfold vm; omega)
  have hap:=Ay vC 8 v0 (DP t c (L.take i)) (put t c (L.getD i v0)) (by omega)
  rw [ak _ _ _ _ hi2,iG _ _ _ _ hi] at hap
  refine Xm ?_
  simp only [W3,X7,w1,f1,f2,f3,v1,Int.toNat_natCast,↓X4,wF,seval]
  refine X2 c1 rfl ?_
  simp only [W3,X7,w1,f1,f2,f3,v1,Int.toNat_natCast,↓X4,wF,seval]
  refine X2 c2 rfl ?_
  simp only [w1,↓X4,wF,seval]
  exact ⟨⟨jY _,by omega,by omega⟩,next (i+1) _ (by omega) (by omega) (sS (m:=2) (by simp [X7,Xo,I]) (by rw [← hap]; rfl) (by simp [XM,bv]) (by simp [bo,br]))⟩
 obtain rfl:i=L.length:=by omega
 refine Xm ?_
 simp only [W3,X7,Int.lt_irrefl,Nat.lt_irrefl,↓X4,wF,seval]
 rw [hR,List.take_length]
 have hlen:(DP t c L).length=L.length:=by simp [DP]
 exact kp _ rfl (by rw [hlen]; rfl) (by rw [hlen]; rfl)
structure Sd where
 a:V2
 b:V2
 i:V2
def AJ (s:Sd):List AV:=vC s.a ++ vC s.b ++ vC s.i
def UH (s:Sd):AV:=.agg (AJ s)
theorem Z3 (s:Sd):∀ a∈AJ s,Settled a:=by simp [AJ,vC,Xb,X5]
theorem JQ (s:Sd):Settled (UH s):=QB (Z3 s)
theorem Ao (s:Sd):AJ s=[.bool (sg s.a.x),X8 (X9 s.a.x.num.natAbs),.bool false,X8 (X9 (qd s.a.x)),.bool (sg s.a.y),X8 (X9 s.a.y.num.natAbs),.bool false,X8 (X9 (qd s.a.y)),
 .bool (sg s.b.x),X8 (X9 s.b.x.num.natAbs),.bool false,X8 (X9 (qd s.b.x)),.bool (sg s.b.y),X8 (X9 s.b.y.num.natAbs),.bool false,X8 (X9 (qd s.b.y)),
 .bool (sg s.i.x),X8 (X9 s.i.x.num.natAbs),.bool false,X8 (X9 (qd s.i.x)),.bool (sg s.i.y),X8 (X9 s.i.y.num.natAbs),.bool false,X8 (X9 (qd s.i.y))]:=rfl
def Id:Sd:=⟨v0,v0,v0⟩
def UI (l:List Sd):AV:=jE AJ 24 Id l
theorem J4 (l:List Sd):UI l=.sl l.length (l.length*24) (XO AJ 24 Id l) false:=nrfl rfl
theorem Em (l:List Sd):Settled (UI l):=Z4 fun a x hx=>Z3 a x hx
theorem ot (s:Sd):∀ j,j<24→((AJ s).getD j .any).one=true:=fun j hj=>by
 rw [Ao]
 match j,hj with
 | 0,_ | 1,_ | 2,_ | 3,_ | 4,_ | 5,_ | 6,_ | 7,_ | 8,_ | 9,_ | 10,_ | 11,_ | 12,_ | 13,_ | 14,_ | 15,_ | 16,_ | 17,_ | 18,_ | 19,_ | 20,_ | 21,_ | 22,_ | 23,_=>rfl
 | j+24,h=>omega
def HN (p q:V2):V2:=⟨p.y - q.y,q.x - p.x⟩
def KG (L:List V2) (i:Nat):V2:=L.getD ((i+1) % L.length) v0
def JD (L:List V2) (i:Nat):Sd:=⟨L.getD i v0,KG L i,HN (L.getD i v0) (KG L i)⟩
def AM (L:List V2) (k:Nat):List Sd:=(List.range k).map (JD L)
theorem SA (L:List V2) (k:Nat):AM L k ++ [JD L k]=AM L (k+1):=by unfold AM; rw [List.range_succ,List.map_append]; rfl
theorem Dz (L:List V2) (k:Nat):(AM L k).length=k:=by simp [AM]
theorem aR (L:List V2) {k i:Nat} (h:i<k):(AM L k).getD i Id=JD L i:=by
 unfold AM
 rw [List.getD_eq_getElem?_getD,List.getElem?_map,List.getElem?_range h]; rfl
def K1 (L:List V2):List Sd:=AM L L.length
theorem Nr (L:List V2) (h:QT L 1000) (hl:L.length<1000000):Fn Tryz.prog 64 [Qh L] (UI (K1 L)):=by
 have bv:Ju 1 (Qh L)=True:=eq_true (X6 (Xq L))
 have br:∀ i l n,Qc 1 (.row i n (XO AJ 24 Id l))=True:=fun i l n=>eq_true fun j _=>X6 (Xf (Z3 _) _)
 obtain ⟨R,hR⟩:∃ R,R=UI (K1 L):=⟨_,rfl⟩
 rw [← hR]
 refine Fn.intro (fn:=Tryz.f64) Tryz.call64 Tryz.func64 rfl mixed 7 [7,8,9] [] [] (by kernel_rfl) (Nat.le_of_ble_eq_true rfl) (fun a ha=>List.mem_singleton.1 ha▸Xq L) (Xm ?_)
 simp (disch:=omega) only [AS.start,X7,↓Xd,wG,seval]
 refine Xl (fun i:Nat=>⟨7,[7,8,9],[Qh L,.any,.any,.osl 0 i 24 0 i,.any,.any,.any],[(7,Qh L),(8,I L.length),(9,I i)],[.row i (i*24) (XO AJ 24 Id (AM L i))]⟩) (fun i=>i≤L.length) (fun i=>L.length - i) 0 (by omega)
  (Sub.trans (Kg 3 24 (XO AJ 24 Id []) rfl) (Xk rfl (by simp [AS.put,Xo,I,X7]) (by simp [AS.put,Xw,XA,X7,I]) (by simp [AS.put,AM]))) ?_
 intro i hi next
 have w1:=wj i (by omega)
 by_cases hi2:i<L.length
 ·have f6:((L.length:Int)=0)=False:=eq_false (by omega)
  have f6':(L.length=0)=False:=eq_false (by omega)
  have hm:((i+1:Nat):Int).tmod L.length=(((i+1) % L.length:Nat):Int):=rfl
  have hml:(i+1) % L.length<L.length:=Nat.mod_lt _ (by omega)
  have f2:(i<L.length)=True:=eq_true hi2
  have v1:=vF L i
  have v2:=vF L ((i+1) % L.length)
  have hb1:=h i
  have hb2:=h ((i+1) % L.length)
  have x1:=Jc (L.getD i v0); have y1:=J3 (L.getD i v0)
  have x2:=Jc (KG L i); have y2:=J3 (KG L i)
  have hb3:vb (KG L i)≤1000:=hb2
  have c1:=ER (L.getD i v0).y (KG L i).y (by unfold rm; omega) (by unfold rm; omega)
  have c2:=ER (KG L i).x (L.getD i v0).x (by unfold rm; omega) (by unfold rm; omega)
  have hap:=Ay AJ 24 Id (AM L i) (JD L i) (by omega)
  rw [SA,Dz] at hap
  have nx:=next (i+1)
  have e:L.getD ((i+1) % L.length) v0=KG L i:=rfl
  rw [e] at v2
  refine Xm ?_
  simp (disch:=omega) only [X7,w1,f2,f6,f6',hm,eq_true hml,v1,v2,↓Xd,wG,seval]
  refine X0 c1 (X1 _) ?_
  simp (disch:=omega) only [↓Xd,wG,seval]
  refine X0 c2 (X1 _) ?_
  simp (disch:=omega) only [qA,qC,↓Xd,wG,seval]
  exact ⟨fun j hj=>ot (JD L i) j hj,nx _ (by omega) (by omega) (XI (m:=1) (Nat.zero_le _) rfl (by simp [X7,Xo,I]) (by simp [Xw,XA,X7,I]) (by rw [← hap]; rfl) (by simp [XM,bv]) (by simp [XM,bv]) (by simp [br]))⟩
 obtain rfl:i=L.length:=by omega
 refine Xm ?_
 simp (disch:=omega) only [X7,↓Xd,wG,seval]
 rw [hR]
 refine BX rfl ?_
 show Zq _ (.osl 0 L.length 24 0 L.length) (UI (K1 L))
 rw [J4,show (K1 L).length=L.length from Dz L _]
 refine ZP (.inl rfl) (by omega) (fun h=>by rw [h]) fun j hj=>?_
 rw [Nat.zero_add]
 exact (Xf (Z3 _) _).sees _
def ic (a b x:Rat):Bool:=decide (a≤x∧x≤b∨b≤x∧x≤a)
theorem VK (a b x:Rat) (ha:qb a≤rm) (hb:qb b≤rm) (hx:qb x≤rm):Fn Tryz.prog 148 [qA a,qA b,qA x] (.bool (ic a b x)):=by
 have c1:=Qo a x ha hx
 have c2:=Qo x b hx hb
 have c3:=Qo b x hb hx
 have c4:=Qo x a hx ha
 obtain ⟨R,hR⟩:∃ R,R=ic a b x:=⟨_,rfl⟩
 rw [← hR]
 unfold ic at hR
 refine Fq Tryz.call148 Tryz.func148 7 [] [] [] (by simp [Xc]) (Xm ?_)
 simp (disch:=omega) only [AS.start,qA,qC,↓Xd,wG,seval]
 refine X0 c1 (X1 _) ?_
 simp (disch:=omega) only [Zh,↓Xd,wG,seval]
 refine ⟨fun h1=>?_,fun h1=>?_⟩
 ·refine X0 c2 (X1 _) ?_
  simp (disch:=omega) only [h1,Zh,↓Xd,wG,seval]
  refine ⟨fun h2=>?_,fun h2=>?_⟩
  ·simp (disch:=omega) only [h1,h2,Zh,↓Xd,wG,seval]
   exact Xp (v:=.bool true) rfl rfl (X5 _) (by rw [hR]; simp [h1,h2])
  ·refine X0 c3 (X1 _) ?_
   simp (disch:=omega) only [h1,h2,Zh,↓Xd,wG,seval]
   refine ⟨fun h3=>?_,fun h3=>?_⟩
   ·refine X0 c4 (X1 _) ?_
    simp (disch:=omega) only [h1,h2,h3,Zh,↓Xd,wG,seval]
    exact Xp (v:=.bool (decide (x≤a))) rfl rfl (X5 _) (by rw [hR]; simp [h1,h2,h3])
   ·simp (disch:=omega) only [h1,h2,h3,Zh,↓Xd,wG,seval]
    exact Xp (v:=.bool false) rfl rfl (X5 _) (by rw [hR]; simp [h1,h2,h3])
 ·refine X0 c3 (X1 _) ?_
  simp (disch:=omega) only [h1,Zh,↓Xd,wG,seval]
  refine ⟨fun h3=>?_,fun h3=>?_⟩
  ·refine X0 c4 (X1 _) ?_
   simp (disch:=omega) only [h1,h3,Zh,↓Xd,wG,seval]
   exact Xp (v:=.bool (decide (x≤a))) rfl rfl (X5 _) (by rw [hR]; simp [h1,h3])
  ·simp (disch:=omega) only [h1,h3,Zh,↓Xd,wG,seval]
   exact Xp (v:=.bool false) rfl rfl (X5 _) (by rw [hR]; simp [h1,h3])
def LA (s:Sd) (p:V2):Bool:=decide (JR s.a s.b p=0) && (ic s.a.x s.b.x p.x && ic s.a.y s.b.y p.y)
def sU (s:Sd) (k:Nat):Prop:=vb s.a≤k∧vb s.b≤k∧vb s.i≤k
theorem gV (s:Sd) (p:V2) (hs:sU s vs) (hp:vb p≤vs):Fn Tryz.prog 67 [UH s,vA p] (.bool (LA s p)):=by
 obtain ⟨h1,h2,h3⟩:=hs
 have x1:=Jc s.a; have y1:=J3 s.a; have x2:=Jc s.b; have y2:=J3 s.b; have x3:=Jc p; have y3:=J3 p
 have c1:=BQ s.a s.b p h1 h2 hp
 unfold vs at h1 h2 hp
 have c2:=VK s.a.x s.b.x p.x (by unfold rm; omega) (by unfold rm; omega) (by unfold rm; omega)
 have c3:=VK s.a.y s.b.y p.y (by unfold rm; omega) (by unfold rm; omega) (by unfold rm; omega)
 have hd:LA s p=(decide (JR s.a s.b p=0) && (ic s.a.x s.b.x p.x && ic s.a.y s.b.y p.y)):=rfl
 generalize LA s p=R at *
 generalize ic s.a.x s.b.x p.x=b1 at *
 generalize ic s.a.y s.b.y p.y=b2 at *
 generalize JR s.a s.b p=d at *
 refine Fn.intro (fn:=Tryz.f67) Tryz.call67 Tryz.func67 rfl mixed 6 [] [] [] (by kernel_rfl) (Nat.le_of_ble_eq_true rfl) (Kp (JQ s) (Xu p)) (Xm ?_)
 simp (disch:=omega) only [AS.start,UH,Ao,vA,vC,Xj,↓Xd,wG,seval]
 refine X0 c1 (X1 _) ?_
 simp (disch:=omega) only [↓Xd,wG,seval]
 refine ⟨fun h=>?_,fun h=>?_⟩
 ·exact Xp (v:=.bool false) rfl rfl (X5 _) (by rw [hd,decide_eq_false h]; rfl)
 ·refine X0 c2 (X1 _) ?_
  simp (disch:=omega) only [↓Xd,wG,seval]
  refine Qe (fun e=>?_) (fun e=>?_)
  ·refine X0 c3 (X1 _) ?_
   simp (disch:=omega) only [↓Xd,wG,seval]
   exact Xp (v:=.bool b2) rfl rfl (X5 _) (by rw [hd,e]; simp; grind)
  ·exact Xp (v:=.bool false) rfl rfl (X5 _) (by rw [hd,e]; simp)
def Dc (g:GG) (s:Sd):Bool:=decide (s.i=g.n) && LA s g.p
def Bu (g:GG) (s:Sd):Bool:=decide (MW s.i g.n) && LA s g.q
theorem Dy (g:GG):Settled (gP g):=XV fun j _=>Xf (K0 g) j
theorem ga (g:GG) (s:Sd) (hs:sU s 10000) (hg:vb g.p≤10000∧vb g.n≤10000):Fn Tryz.prog 65 [UH s,gP g] (.bool (Dc g s)):=by
 obtain ⟨h1,h2,h3⟩:=hs
 have c1:=nY s.i g.n (by unfold vm; omega) (by unfold vm; omega)
 have c2:=gV s g.p (by unfold sU vs; omega) (by unfold vs; omega)
 have hd:Dc g s=(decide (s.i=g.n) && LA s g.p):=rfl
 have gf:=gF g
 generalize Dc g s=R at *
 generalize LA s g.p=b at *
 generalize decide (s.i=g.n)=a at *
 refine Fn.intro (fn:=Tryz.f65) Tryz.call65 Tryz.func65 rfl mixed 4 [] [] [] (by kernel_rfl) (Nat.le_of_ble_eq_true rfl) (Kp (JQ s) (Dy g)) (Xm ?_)
 simp (disch:=omega) only [AS.start,UH,Ao,vA,vC,gP,gf,Xj,↓Xd,wG,seval]
 refine X0 c1 (X1 _) ?_
 simp (disch:=omega) only [gf,↓Xd,wG,seval]
 refine Qe (fun e=>?_) (fun e=>?_)
 ·refine X0 c2 (X1 _) ?_
  simp (disch:=omega) only [↓Xd,wG,seval]
  exact Xp (v:=.bool b) rfl rfl (X5 _) (by rw [hd,e]; simp)
 ·exact Xp (v:=.bool false) rfl rfl (X5 _) (by rw [hd,e]; simp)
theorem aP (g:GG) (s:Sd) (hs:sU s 10000) (hg:vb g.q≤10000∧vb g.n≤10000):Fn Tryz.prog 68 [UH s,gP g] (.bool (Bu g s)):=by
 obtain ⟨h1,h2,h3⟩:=hs
 have c1:=VI s.i g.n (by unfold vm; omega) (by unfold vm; omega)
 have c2:=gV s g.q (by unfold sU vs; omega) (by unfold vs; omega)
 have hd:Bu g s=(decide (MW s.i g.n) && LA s g.q):=rfl
 have gf:=gF g
 generalize Bu g s=R at *
 generalize LA s g.q=b at *
 generalize decide (MW s.i g.n)=a at *
 refine Fn.intro (fn:=Tryz.f68) Tryz.call68 Tryz.func68 rfl mixed 4 [] [] [] (by kernel_rfl) (Nat.le_of_ble_eq_true rfl) (Kp (JQ s) (Dy g)) (Xm ?_)
 simp (disch:=omega) only [AS.start,UH,Ao,vA,vC,gP,gf,Xj,↓Xd,wG,seval]
 refine X0 c1 (X1 _) ?_
 simp (disch:=omega) only [gf,↓Xd,wG,seval]
 refine Qe (fun e=>?_) (fun e=>?_)
 ·refine X0 c2 (X1 _) ?_
  simp (disch:=omega) only [↓Xd,wG,seval]
  exact Xp (v:=.bool b) rfl rfl (X5 _) (by rw [hd,e]; simp)
 ·exact Xp (v:=.bool false) rfl rfl (X5 _) (by rw [hd,e]; simp)
theorem YR (s:List Sd) (f:FuncId) (caps:List AV) (p:Sd→Bool) (hl:s.length<1000000) (hc:∀ a∈caps,Settled a) (hp:∀ x∈s,Fn Tryz.prog f ([UH x] ++ caps) (.bool (p x))) :
  Fn Tryz.prog 151 [UI s,.fn f caps] (I (Ic p s)):=by
 refine Fn.intro (fn:=Tryz.f151) Tryz.call151 Tryz.func151 rfl mixed 6 [6,7,8] [] [] (by kernel_rfl) (Nat.le_of_ble_eq_true rfl) (Kp (Em s) (JE hc)) (Xm ?_)
 simp (disch:=omega) only [AS.start,J4,↓Xd,wG,seval]
 refine Xl (fun j:Nat=>⟨6,[6,7,8],[UI s,.fn f caps,.any,.any,.any,.any],[(6,UI s),(7,I s.length),(8,I j)],[]⟩) (fun j=>j≤s.length∧∀ i,i<j→p (s.getD i Id)=false) (fun j=>s.length - j) 0 ⟨by omega,by omega⟩
  (Xk rfl (by simp [Xo,I,J4]) (by simp [Xw,XA,I,J4]) rfl) ?_
 rintro j ⟨hj,hno⟩ next
 by_cases h:j<s.length
 ·have l0:=Ap AJ 24 Id s j (by omega)
  have l1:=ZU AJ 24 Id s j
  have c1:=hp _ (QN Id h)
  refine Xm ?_
  simp (disch:=omega) only [J4,l0,l1,Ao,↓Xd,wG,seval]
  refine X0 c1 (X1 _) ?_
  simp (disch:=omega) only [↓Xd,wG,seval]
  refine Qe (fun ht=>Xp (v:=I j) rfl rfl (Xa _) ?_) (fun hf=>next (j+1) _ ⟨by omega,fun i hi=>?_⟩ (by omega) (Xk rfl ?_ ?_ rfl))
  ·rw [LF Id h ht hno]
  ·by_cases e:i=j
   ·rw [e]; exact hf
   ·exact hno i (by omega)
  ·simp [Xo,I,J4]
  ·simp [Xw,XA,I,J4]
 ·obtain rfl:j=s.length:=by omega
  refine Xm ?_
  simp (disch:=omega) only [J4,↓Xd,wG,seval]
  exact Xp (v:=I (-1)) rfl rfl (Xa _) (by rw [Hg Id fun i hi=>hno i hi])
theorem FY (s:List Sd) (f:FuncId) (caps:List AV) (p:Sd→Bool) (hl:s.length<1000000) (hc:∀ a∈caps,Settled a) (hp:∀ x∈s,Fn Tryz.prog f ([UH x] ++ caps) (.bool (p x))) :
  Fn Tryz.prog 70 [UI s,.fn f caps] (.bool (s.any p)):=by
 refine Fn.intro (fn:=Tryz.f70) Tryz.call70 Tryz.func70 rfl mixed 4 [] [] [] (by kernel_rfl) (Nat.le_of_ble_eq_true rfl) (Kp (Em s) (JE hc)) (Xm ?_)
 simp (disch:=omega) only [AS.start,↓Xd,wG,seval]
 refine X0 (YR s f caps p hl hc hp) (X1 _) ?_
 simp (disch:=omega) only [↓Xd,wG,seval]
 exact Xp (v:=.bool (decide (0≤Ic p s))) rfl rfl (X5 _) (by rw [LD])
theorem LG (p q:V2):(q.sub p).turned=HN p q:=by
 unfold V2.turned V2.sub HN
 simp only [V2.mk.injEq,and_true]
 grind
theorem O5 (p q:V2):vb (HN p q)≤vb p+vb q+1:=by
 rw [← LG,CV]
 have:=QZ q p
 omega
theorem Dt (L:List V2) (i:Nat) (h:QT L 1000) (hl:L.length<1000000) (hi:i<L.length):Fn Tryz.prog 59 [Qh L,I i] (vA (HN (L.getD i v0) (KG L i))):=by
 have hb1:=h i
 have hb2:vb (KG L i)≤1000:=h ((i+1) % L.length)
 have hb3:=QZ (KG L i) (L.getD i v0)
 have c1:=Br L i hl hi
 have c2:=Ja (KG L i) (L.getD i v0) (by unfold rm; omega) (by unfold rm; omega)
 have c3:=Sn ((KG L i).sub (L.getD i v0)) (by unfold rm; omega)
 rw [LG] at c3
 have v1:=vF L i
 have e:L.getD ((i+1) % L.length) v0=KG L i:=rfl
 rw [e] at c1
 have f2:(i<L.length)=True:=eq_true hi
 obtain ⟨R,hR⟩:∃ R,R=vA (HN (L.getD i v0) (KG L i)):=⟨_,rfl⟩
 have sR:Settled R:=hR▸Xu _
 rw [← hR] at c3
 rw [← hR]
 refine Fn.intro (fn:=Tryz.f59) Tryz.call59 Tryz.func59 rfl mixed 5 [] [] [] (by kernel_rfl) (Nat.le_of_ble_eq_true rfl) (Kp (Xq L) (Xa i)) (Xm ?_)
 simp (disch:=omega) only [AS.start,X7,↓Xd,wG,seval]
 refine X0 c1 ⟨by rw [X7]; exact Weak.rfl' _,Weak.rfl' _,trivial⟩ ?_
 simp (disch:=omega) only [X7,f2,v1,↓Xd,wG,seval]
 refine X0 c2 (X1 _) ?_
 simp (disch:=omega) only [↓Xd,wG,seval]
 refine X0 c3 (X1 _) ?_
 simp (disch:=omega) only [hR,vA,vC,↓Xd,wG,seval]
 exact Zx rfl J5 rfl rfl rfl sR (hR.trans rfl)
def vD (a b p:V2):Bool:=decide (Xn (a.sub p) (b.sub p)=0∧Q8 (a.sub p) (b.sub p)≤0)
theorem lO (u v s t:Rat) (h:u*t - v*s=0):u*s+v*t≤0↔(u*s≤0∧v*t≤0):=by
 constructor
 ·intro hd
  have e:(u*s)*(v*t)=(u*t)*(u*t):=by
   have:u*t=v*s:=by grind
   grind
  have sq:0≤(u*t)*(u*t):=by
   rcases Rat.le_total (a:=0) (b:=u*t) with g | g
   ·exact Rat.mul_nonneg g g
   ·have:=Rat.mul_nonneg (a:=-(u*t)) (b:=-(u*t)) (by grind) (by grind)
    grind
  rw [← e] at sq
  generalize u*s=x at *
  generalize v*t=y at *
  have key:∀ {x y:Rat},x+y≤0→0≤x*y→x≤0:=fun {x y} h1 h2=>by
   refine Rat.not_lt.1 fun hx=>?_
   have hy:y<0:=by grind
   have:=Rat.mul_pos hx (show (0:Rat) < -y by grind)
   grind
  exact ⟨key hd sq,key (x:=y) (y:=x) (by grind) (by grind)⟩
 ·rintro ⟨h1,h2⟩; grind
theorem VN (a b x:Rat):ic a b x=true↔(a - x)*(b - x)≤0:=by
 unfold ic
 rw [decide_eq_true_eq]
 constructor
 ·rintro (⟨h1,h2⟩ | ⟨h1,h2⟩)
  ·have:=Rat.mul_nonneg (a:=x - a) (b:=b - x) (by grind) (by grind)
   grind
  ·have:=Rat.mul_nonneg (a:=a - x) (b:=x - b) (by grind) (by grind)
   grind
 ·intro h
  by_cases h1:a≤x
  ·by_cases h2:x≤b
   ·exact .inl ⟨h1,h2⟩
   ·by_cases h3:x≤a
    ·exact .inr ⟨by grind,h3⟩
    ·have:=Rat.mul_pos (a:=x - a) (b:=x - b) (by grind) (by grind)
     grind
  ·by_cases h2:b≤x
   ·exact .inr ⟨h2,by grind⟩
   ·have:=Rat.mul_pos (a:=a - x) (b:=b - x) (by grind) (by grind)
    grind
theorem UP (a b p:V2):JR a b p=0↔Xn (a.sub p) (b.sub p)=0:=by
 have e:Xn (b.sub a) (p.sub a)=Xn (a.sub p) (b.sub p):=by unfold Xn V2.sub; grind
 unfold JR
 rw [e]
 exact C1 _
theorem gW (a b i p:V2):LA ⟨a,b,i⟩ p=vD a b p:=by
 rw [Bool.eq_iff_iff]
 unfold LA vD
 rw [Bool.and_eq_true,Bool.and_eq_true,decide_eq_true_eq,decide_eq_true_eq,UP,VN,VN]
 refine and_congr_right fun h=>?_
 exact (lO (a.x - p.x) (a.y - p.y) (b.x - p.x) (b.y - p.y) h).symm
end
end Go.Ab.N
namespace Go.Ab.N
open Go Go.RowKit Go.Proofs
open Go.Shelf
noncomputable section
set_option maxRecDepth 10000
set_option maxHeartbeats 4000000
open Classical
def Nz (a b:Rat):Rat:=if b<a then b else a
def MV (a b:Rat):Rat:=if b<a then a else b
theorem jk {P:Program} {fn:Func} {str hcs:List Nat} {b:Nat} {H:List AO} {s:AS} (hr:fn.results=#[]) (hH:s.h=H):RetE (Lj P fn str hcs b (.tup []) H) s :=
 ⟨.tup [],by show ZM P fn s=_; simp [ZM,hr,Je,Bb],rfl,hH⟩
def O0 (v:Nat) (a b:Rat):AO:=.row v 8 (Xh (qC a ++ qC b))
theorem Ua (o0 o1 o2 o3 o4:AO) (v:Nat) (a b:Rat) (ha:qb a≤rm) (hb:qb b≤rm) :
  HCall Tryz.prog 241 [.osl 5 v 4 0 2,I 0,I 2,.fn 41 []] [o0,o1,o2,o3,o4,O0 v a b] (.tup []) [o0,o1,o2,o3,o4,O0 v (Nz a b) (MV a b)]:=by
 have c:=Qo b a hb ha
 refine HCall.intro (fn:=Tryz.f241) Tryz.call241 Tryz.func241 rfl mixed 10 [] [4,5008,5013,6,7009,7013] [] (by kernel_rfl) (Nat.le_of_ble_eq_true rfl) (Xm ?_)
 simp (disch:=omega) only [AS.start,O0,qC,↓Xd,wG,seval]
 refine ES ?_
 refine Xm ?_
 simp (disch:=omega) only [↓Xd,wG,seval]
 refine ES ?_
 refine Xm ?_
 simp (disch:=omega) only [↓Xd,wG,seval]
 refine X0 c (X1 _) ?_
 simp (disch:=omega) only [B0,↓Xd,wG,seval]
 have e1:Nz a b=if b<a then b else a:=rfl
 have e2:MV a b=if b<a then a else b:=rfl
 refine ⟨fun h=>?_,fun h=>?_⟩
 ·rw [if_pos h] at e1 e2
  rw [e1,e2]
  refine Dw ?_
  refine Xm ?_
  simp (disch:=omega) only [↓Xd,wG,seval]
  refine Dw ?_
  refine Xm ?_
  simp (disch:=omega) only [↓Xd,wG,seval]
  exact jk rfl rfl
 ·rw [if_neg h] at e1 e2
  rw [e1,e2]
  refine Dw ?_
  refine Xm ?_
  simp (disch:=omega) only [↓Xd,wG,seval]
  exact jk rfl rfl
def wJ:Go.Shelf.Ren:=⟨fun k=>if k=125 then 227 else if k=128 then 249 else 250,fun t=>if t=46 then 214 else if t=51 then 230 else if t=53 then 185 else t,fun x=>x⟩
theorem uM:Lays.n125 Tryz.prog wJ where
 mixed:=mixed
 f125:=Tryz.func227.trans (congrArg some rfl)
 f128:=Tryz.func249.trans (congrArg some rfl)
 f129:=Tryz.func250.trans (congrArg some rfl)
 t3:=Tryz.underlying3
 a3:=Tryz.isAgg3
 z3:=Tryz.sizeOf3
 v3:=Tryz.zeroValue3
 t4:=Tryz.underlying4
 a4:=Tryz.isAgg4
 z4:=Tryz.sizeOf4
 v4:=Tryz.zeroValue4
 t5:=Tryz.underlying5
 a5:=Tryz.isAgg5
 z5:=Tryz.sizeOf5
 v5:=Tryz.zeroValue5
 t9:=Tryz.underlying9
 a9:=Tryz.isAgg9
 z9:=Tryz.sizeOf9
 v9:=Tryz.zeroValue9
 t46:=Tryz.underlying214
 a46:=Tryz.isAgg214
 z46:=Tryz.sizeOf214
 v46:=Tryz.zeroValue214
 t51:=Tryz.underlying230
 a51:=Tryz.isAgg230
 z51:=Tryz.sizeOf230
 v51:=Tryz.zeroValue230
 t53:=Tryz.underlying185
 a53:=Tryz.isAgg185
 z53:=Tryz.sizeOf185
 v53:=Tryz.zeroValue185
theorem rZ (n:Nat) (h:n<1000000):Fn Tryz.prog 227 [.int .u64 n] (I (Lib.bitLen n)):=by
 refine ⟨⟨Tryz.call227,?_⟩,fun a ha=>by rw [List.mem_singleton.1 ha]; exact Jm _ _⟩
 rintro w S vs hS ⟨hv1,hv2⟩
 have hx:=hv2 0 (by simp)
 have h3:vs.size=1:=hv1
 have e1:vs=#[vs.getD 0 undef]:=by
  apply Array.ext
  ·simp [h3]
  ·intro j g1 g2
   match j,g1 with
   | 0,_=>simp [Array.getD,h3]
   | j+1,g=>omega
 rw [e1]
 generalize vs.getD 0 undef=x at *
 replace hx:Rep (.bare w S) x (.int .u64 n):=hx
 cases hx
 have key:=Any.bits_Len uM (n:Int) w (by omega) (by omega)
 refine key.mono ?_
 rintro e w' ⟨rfl,rfl⟩
 rw [Int.toNat_natCast]
 exact ⟨_,S,rfl,.int _ _,hS,Ext.refl _⟩
theorem sJ {P:Program} {fn:Func} {str hcs:List Nat} {b:Nat} {H:List AO} {s:AS} (hr:fn.results=#[]) (hH:s.h=H):RetOk (Lj P fn str hcs b (.tup []) H) s :=
 ⟨.tup [],by show ZM P fn s=_; simp [ZM,hr,Je,Bb],rfl,hH⟩
theorem th {o0 o1 o2 o3 o4 o5:AO} (h:∀ o∈[o0,o1,o2,o3,o4],o≠.unborn) (h5:o5≠.unborn) (id:Nat):[o0,o1,o2,o3,o4,o5][id]?≠some .unborn:=by
 intro hh
 have:=List.mem_of_getElem? hh
 rw [show [o0,o1,o2,o3,o4,o5]=[o0,o1,o2,o3,o4] ++ [o5] from rfl,List.mem_append,List.mem_singleton] at this
 rcases this with g | g
 ·exact h _ g rfl
 ·exact h5 g.symm
theorem nS (o0 o1 o2 o3 o4:AO) (hu:∀ o∈[o0,o1,o2,o3,o4],o≠.unborn) (v lim:Nat) (a b:Rat) (ha:qb a≤rm) (hb:qb b≤rm) :
  HCall Tryz.prog 226 [.osl 5 v 4 0 2,I 0,I 2,I lim,.fn 41 []] [o0,o1,o2,o3,o4,O0 v a b] (.tup []) [o0,o1,o2,o3,o4,O0 v (Nz a b) (MV a b)]:=by
 have c:=Ua o0 o1 o2 o3 o4 v a b ha hb
 refine HCall.intro (fn:=Tryz.f226) Tryz.call226 Tryz.func226 rfl mixed 21 [] [] [4] (by kernel_rfl) (Nat.le_of_ble_eq_true rfl) (Xm ?_)
 simp (disch:=omega) only [AS.start,↓Xd,wG,seval]
 refine ES ?_
 refine Xm ?_
 simp (disch:=omega) only [↓Xd,wG,seval]
 refine XD rfl c (QC (id:=5) (o:=O0 v a b) rfl (by simp [O0]) (by simp [O0])) (th hu (by simp [O0])) (X1 _) ?_
 simp (disch:=omega) only [↓Xd,wG,seval]
 exact sJ rfl rfl
theorem jG (o0 o1 o2 o3 o4:AO) (hu:∀ o∈[o0,o1,o2,o3,o4],o≠.unborn) (v:Nat) (a b:Rat) (ha:qb a≤rm) (hb:qb b≤rm) :
  HCall Tryz.prog 194 [.osl 5 v 4 0 2,.fn 41 []] [o0,o1,o2,o3,o4,O0 v a b] (.tup []) [o0,o1,o2,o3,o4,O0 v (Nz a b) (MV a b)]:=by
 have c:=nS o0 o1 o2 o3 o4 hu v (Lib.bitLen 2) a b ha hb
 have cl:=rZ 2 (by omega)
 generalize Lib.bitLen 2=lim at *
 refine HCall.intro (fn:=Tryz.f194) Tryz.call194 Tryz.func194 rfl mixed 5 [] [] [1] (by kernel_rfl) (Nat.le_of_ble_eq_true rfl) (Xm ?_)
 have hw:IntKind.u64.wrap 2=2:=by decide
 simp (disch:=omega) only [AS.start,hw,↓Xd,wG,seval]
 refine X0 cl (X1 _) ?_
 simp (disch:=omega) only [↓Xd,wG,seval]
 refine XD rfl c (QC (id:=5) (o:=O0 v a b) rfl (by simp [O0]) (by simp [O0])) (th hu (by simp [O0])) (X1 _) ?_
 simp (disch:=omega) only [↓Xd,wG,seval]
 exact jk rfl rfl
end
end Go.Ab.N
namespace Go.Ab.N
open Go Go.RowKit Go.Proofs
noncomputable section
set_option maxRecDepth 10000
set_option maxHeartbeats 4000000
open Classical
theorem ud {z:Int} (h:-1000000000<z∧z<1000000000):bl z≤1:=by
 unfold bl
 by_cases h0:z.natAbs=0
 ·rw [h0,Qj]; decide
 ·rw [G1 h0 (by omega)]; exact Nat.le_refl 1
theorem CP (p q:Int) (hp:-1000000000<p∧p<1000000000) (hq:-1000000000<q∧q<1000000000):qb (Rat.divInt p q)≤1:=KH p q 1 (Nat.le_refl _) (ud hp) (ud hq)
theorem uW (p:Int) (hp:-1000000000<p∧p<1000000000):qb (p:Rat)≤1:=jc p 1 (Nat.le_refl _) (ud hp)
theorem FL (x y:Int) (hx:-1000000000<x∧x<1000000000) (hy:-1000000000<y∧y<1000000000):vb (pI x y)≤1:=Nat.max_le.2 ⟨uW x hx,uW y hy⟩
def Bo (l:List Int) (a:Int):V2 :=
 ⟨Rat.divInt (Ab.atF l a (16*(1+Ab.atF l (a+2) 2)+1) - 8*(1+Ab.atF l (a+2) 2)) (1+Ab.atF l (a+2) 2),Rat.divInt (Ab.atF l (a+1) (16*(1+Ab.atF l (a+2) 2)+1) - 8*(1+Ab.atF l (a+2) 2)) (1+Ab.atF l (a+2) 2)⟩
theorem Iy (l:List Int) (a:Int):vb (Bo l a)≤1:=by
 unfold Bo
 have b1:=Xs l (a+2) 2 (by omega)
 generalize Ab.atF l (a+2) 2=x at *
 have b2:=Xs l a (16*(1+x)+1) (by omega)
 have b3:=Xs l (a+1) (16*(1+x)+1) (by omega)
 exact Nat.max_le.2 ⟨CP _ _ (by omega) (by omega),CP _ _ (by omega) (by omega)⟩
theorem Wr (l:List Int) (a:Int) (hl:ZC l) (ha:0≤a∧a<1000):Fn Tryz.prog 60 [X8 l,I a] (vA (Bo l a)):=by
 have b1:=Xs l (a+2) 2 (by omega)
 have c1:=Qd l (a+2) 2 hl (by omega)
 obtain ⟨R,hR⟩:∃ R,R=vA (Bo l a):=⟨_,rfl⟩
 have sR:Settled R:=hR▸Xu _
 rw [← hR]
 unfold Bo at hR
 generalize Ab.atF l (a+2) 2=x at *
 obtain ⟨q,hq⟩:∃ q,q=1+x:=⟨_,rfl⟩
 rw [← hq] at hR
 have c2:=Qd l a (16*q+1) hl (by omega)
 have c3:=Qd l (a+1) (16*q+1) hl (by omega)
 have b2:=Xs l a (16*q+1) (by omega)
 have b3:=Xs l (a+1) (16*q+1) (by omega)
 generalize Ab.atF l a (16*q+1)=y at *
 generalize Ab.atF l (a+1) (16*q+1)=z at *
 have c4:=XB (y - 8*q) q ⟨by omega,by omega⟩ ⟨by omega,by omega⟩
 have c5:=XB (z - 8*q) q ⟨by omega,by omega⟩ ⟨by omega,by omega⟩
 refine Fn.intro (fn:=Tryz.f60) Tryz.call60 Tryz.func60 rfl mixed 6 [] [] [] (by kernel_rfl) (Nat.le_of_ble_eq_true rfl) (Kp (Xb l) (Xa a)) (Xm ?_)
 simp (disch:=omega) only [AS.start,← hq,↓Xd,wG,seval]
 refine X0 c1 (X1 _) ?_
 simp (disch:=omega) only [← hq,↓Xd,wG,seval]
 refine X0 c2 (X1 _) ?_
 simp (disch:=omega) only [↓Xd,wG,seval]
 refine X0 c4 (X1 _) ?_
 simp (disch:=omega) only [↓Xd,wG,seval]
 refine X0 c3 (X1 _) ?_
 simp (disch:=omega) only [↓Xd,wG,seval]
 refine X0 c5 (X1 _) ?_
 simp (disch:=omega) only [qA,qC,↓Xd,wG,seval]
 exact Zx rfl J5 rfl rfl rfl sR (hR.trans rfl)
def spinL:List (Int×Int×Int):=[(1,0,1),(0,1,1),(-1,0,1),(0,-1,1),(3,4,5),(-4,3,5),(5,-12,13),(-3,-4,5)]
def Cq (n:Int):V2 :=
 let x:=spinL.getD (QR n 8).toNat (1,0,1)
 ⟨Rat.divInt x.1 x.2.2,Rat.divInt x.2.1 x.2.2⟩
theorem jH:spinL.all (fun x=>decide (qb (Rat.divInt x.1 x.2.2)≤1) && decide (qb (Rat.divInt x.2.1 x.2.2)≤1) && decide (Rat.divInt x.1 x.2.2*Rat.divInt x.1 x.2.2+Rat.divInt x.2.1 x.2.2*Rat.divInt x.2.1 x.2.2=1))=true:=by decide +kernel
theorem Wq (n:Int):vb (Cq n)≤1∧Q8 (Cq n) (Cq n)=1:=by
 have b:=Qp n 8 (by omega)
 unfold Cq
 generalize QR n 8=k at *
 have h:=List.all_eq_true.1 jH (spinL.getD k.toNat (1,0,1)) (QN _ (show k.toNat<8 by omega))
 simp only [Bool.and_eq_true,decide_eq_true_eq] at h
 exact ⟨Nat.max_le.2 ⟨h.1.1,h.1.2⟩,h.2⟩
theorem oA (n:Int) (hn:Ze n):Fn Tryz.prog 140 [I n] (vA (Cq n)):=by
 have c1:=Ji n 8 hn (by omega)
 have b:=Qp n 8 (by omega)
 obtain ⟨R,hR⟩:∃ R,R=vA (Cq n):=⟨_,rfl⟩
 have sR:Settled R:=hR▸Xu _
 rw [← hR]
 unfold Cq at hR
 generalize QR n 8=k at *
 refine Fn.intro (fn:=Tryz.f140) Tryz.call140 Tryz.func140 rfl mixed 5 [] [] [] (by kernel_rfl) (Nat.le_of_ble_eq_true rfl) (fun a ha=>List.mem_singleton.1 ha▸Xa n) (Xm ?_)
 simp (disch:=omega) only [AS.start,↓Xd,wG,seval]
 refine X0 c1 (X1 _) ?_
 rcases (show k=0∨k=1∨k=2∨k=3∨k=4∨k=5∨k=6∨k=7 by omega) with rfl | rfl | rfl | rfl | rfl | rfl | rfl | rfl
 all_goals
  simp (disch:=omega) only [Int.reduceToNat,Int.toNat_zero,Int.reduceLT,Int.reduceLE,Int.reduceEq,↓Xd,wG,seval]
 ·refine X2 (XB 1 1 ⟨by omega,by omega⟩ ⟨by omega,by omega⟩) rfl ?_
  simp (disch:=omega) only [Int.reduceToNat,Int.toNat_zero,Int.reduceLT,Int.reduceLE,Int.reduceEq,↓Xd,wG,seval]
  refine X2 (XB 0 1 ⟨by omega,by omega⟩ ⟨by omega,by omega⟩) rfl ?_
  simp (disch:=omega) only [qA,qC,↓Xd,wG,seval]
  exact Zx rfl Ga rfl rfl rfl sR (hR.trans rfl)
 ·refine X2 (XB 0 1 ⟨by omega,by omega⟩ ⟨by omega,by omega⟩) rfl ?_
  simp (disch:=omega) only [Int.reduceToNat,Int.toNat_zero,Int.reduceLT,Int.reduceLE,Int.reduceEq,↓Xd,wG,seval]
  refine X2 (XB 1 1 ⟨by omega,by omega⟩ ⟨by omega,by omega⟩) rfl ?_
  simp (disch:=omega) only [qA,qC,↓Xd,wG,seval]
  exact Zx rfl Ga rfl rfl rfl sR (hR.trans rfl)
 ·refine X2 (XB (-1) 1 ⟨by omega,by omega⟩ ⟨by omega,by omega⟩) rfl ?_
  simp (disch:=omega) only [Int.reduceToNat,Int.toNat_zero,Int.reduceLT,Int.reduceLE,Int.reduceEq,↓Xd,wG,seval]
  refine X2 (XB 0 1 ⟨by omega,by omega⟩ ⟨by omega,by omega⟩) rfl ?_
  simp (disch:=omega) only [qA,qC,↓Xd,wG,seval]
  exact Zx rfl Ga rfl rfl rfl sR (hR.trans rfl)
 ·refine X2 (XB 0 1 ⟨by omega,by omega⟩ ⟨by omega,by omega⟩) rfl ?_
  simp (disch:=omega) only [Int.reduceToNat,Int.toNat_zero,Int.reduceLT,Int.reduceLE,Int.reduceEq,↓Xd,wG,seval]
  refine X2 (XB (-1) 1 ⟨by omega,by omega⟩ ⟨by omega,by omega⟩) rfl ?_
  simp (disch:=omega) only [qA,qC,↓Xd,wG,seval]
  exact Zx rfl Ga rfl rfl rfl sR (hR.trans rfl)
 ·refine X2 (XB 3 5 ⟨by omega,by omega⟩ ⟨by omega,by omega⟩) rfl ?_
  simp (disch:=omega) only [Int.reduceToNat,Int.toNat_zero,Int.reduceLT,Int.reduceLE,Int.reduceEq,↓Xd,wG,seval]
  refine X2 (XB 4 5 ⟨by omega,by omega⟩ ⟨by omega,by omega⟩) rfl ?_
  simp (disch:=omega) only [qA,qC,↓Xd,wG,seval]
  exact Zx rfl Ga rfl rfl rfl sR (hR.trans rfl)
 ·refine X2 (XB (-4) 5 ⟨by omega,by omega⟩ ⟨by omega,by omega⟩) rfl ?_
  simp (disch:=omega) only [Int.reduceToNat,Int.toNat_zero,Int.reduceLT,Int.reduceLE,Int.reduceEq,↓Xd,wG,seval]
  refine X2 (XB 3 5 ⟨by omega,by omega⟩ ⟨by omega,by omega⟩) rfl ?_
  simp (disch:=omega) only [qA,qC,↓Xd,wG,seval]
  exact Zx rfl Ga rfl rfl rfl sR (hR.trans rfl)
 ·refine X2 (XB 5 13 ⟨by omega,by omega⟩ ⟨by omega,by omega⟩) rfl ?_
  simp (disch:=omega) only [Int.reduceToNat,Int.toNat_zero,Int.reduceLT,Int.reduceLE,Int.reduceEq,↓Xd,wG,seval]
  refine X2 (XB (-12) 13 ⟨by omega,by omega⟩ ⟨by omega,by omega⟩) rfl ?_
  simp (disch:=omega) only [qA,qC,↓Xd,wG,seval]
  exact Zx rfl Ga rfl rfl rfl sR (hR.trans rfl)
 ·refine X2 (XB (-3) 5 ⟨by omega,by omega⟩ ⟨by omega,by omega⟩) rfl ?_
  simp (disch:=omega) only [Int.reduceToNat,Int.toNat_zero,Int.reduceLT,Int.reduceLE,Int.reduceEq,↓Xd,wG,seval]
  refine X2 (XB (-4) 5 ⟨by omega,by omega⟩ ⟨by omega,by omega⟩) rfl ?_
  simp (disch:=omega) only [qA,qC,↓Xd,wG,seval]
  exact Zx rfl Ga rfl rfl rfl sR (hR.trans rfl)
def wayL:List (Int×Int):=[(4,0),(4,2),(3,3),(2,4),(0,4),(-2,4),(-3,3),(-4,2),(-4,0),(-4,-2),(-3,-3),(-2,-4),(0,-4),(2,-4),(3,-3),(4,-2)]
def kq:List AV:=wayL.flatMap fun x=>[I x.1,I x.2]
theorem oZ {i:Nat} (h:i<16):Xh kq (i*2)=I (wayL.getD i (0,0)).1∧Xh kq (i*2+1)=I (wayL.getD i (0,0)).2:=by
 match i,h with
 | 0,_ | 1,_ | 2,_ | 3,_ | 4,_ | 5,_ | 6,_ | 7,_ | 8,_ | 9,_ | 10,_ | 11,_ | 12,_ | 13,_ | 14,_ | 15,_=>exact ⟨rfl,rfl⟩
 | i+16,h=>omega
theorem ku (i:Nat):(-4≤(wayL.getD i (0,0)).1∧(wayL.getD i (0,0)).1≤4)∧-4≤(wayL.getD i (0,0)).2∧(wayL.getD i (0,0)).2≤4:=by
 match i with
 | 0 | 1 | 2 | 3 | 4 | 5 | 6 | 7 | 8 | 9 | 10 | 11 | 12 | 13 | 14 | 15=>decide
 | i+16=>exact ⟨⟨by show (-4:Int)≤0; omega,by show (0:Int)≤4; omega⟩,by show (-4:Int)≤0; omega,by show (0:Int)≤4; omega⟩
def T9 (l:List Int):V2:=pI (Ab.atF l 16 9 - 4) (Ab.atF l 17 9 - 4)
def Lc (l:List Int) (i:Nat):V2:=⟨Rat.divInt ((wayL.getD i (0,0)).1*Ab.atF l i 6) 2,Rat.divInt ((wayL.getD i (0,0)).2*Ab.atF l i 6) 2⟩
def QO (l:List Int):Nat→List V2
 | 0=>[]
 | i+1=>if (QO l i).length<12∧0<Ab.atF l i 6∧Ab.atF l i 6<4 then QO l i ++ [(T9 l).add (Lc l i)] else QO l i
theorem NP (l:List Int):∀ i,(QO l i).length≤12
 | 0=>by simp [QO]
 | i+1=>by
  have:=NP l i
  unfold QO
  split
  ·rw [List.length_append]; simp only [List.length_cons,List.length_nil]; omega
  ·exact this
theorem eY (l:List Int):vb (T9 l)≤1:=by
 have b1:=Xs l 16 9 (by omega)
 have b2:=Xs l 17 9 (by omega)
 exact FL _ _ (by omega) (by omega)
theorem VR {w k:Int} (hw:-4≤w∧w≤4) (hk:0≤k∧k<6):-20≤w*k∧w*k≤20:=by
 rcases (show k=0∨k=1∨k=2∨k=3∨k=4∨k=5 by omega) with rfl | rfl | rfl | rfl | rfl | rfl <;> omega
theorem R3 (l:List Int) (i:Nat):vb (Lc l i)≤1:=by
 have b:=Xs l i 6 (by omega)
 obtain ⟨h1,h2⟩:=ku i
 have m1:=VR h1 b
 have m2:=VR h2 b
 exact Nat.max_le.2 ⟨CP _ _ (by omega) (by omega),CP _ _ (by omega) (by omega)⟩
theorem Gm (l:List Int):∀ i,∀ x∈QO l i,vb x≤3
 | 0,x,h=>by simp [QO] at h
 | i+1,x,h=>by
  unfold QO at h
  split at h
  ·rcases List.mem_append.1 h with h | h
   ·exact Gm l i x h
   ·rw [List.mem_singleton.1 h]
    have:=Kw (T9 l) (Lc l i)
    have:=eY l
    have:=R3 l i
    omega
  ·exact Gm l i x h
theorem AP {L:List V2} {k:Nat} (h:∀ x∈L,vb x≤k) (h1:1≤k):QT L k:=fun i=>by
 by_cases hi:i<L.length
 ·exact h _ (QN _ hi)
 ·rw [List.getD_eq_getElem?_getD,List.getElem?_eq_none (by omega)]
  exact Nat.le_trans (show vb v0≤1 by decide +kernel) h1
theorem LV (l:List Int) {i:Nat} (h:12≤(QO l i).length):∀ j,QO l (i+j)=QO l i
 | 0=>rfl
 | j+1=>by
  have ih:=LV l h j
  show (if (QO l (i+j)).length<12∧0<Ab.atF l ((i+j:Nat):Int) 6∧Ab.atF l ((i+j:Nat):Int) 6<4 then QO l (i+j) ++ [(T9 l).add (Lc l (i+j))] else QO l (i+j))=_
  rw [ih,if_neg (by omega)]
theorem aQ {H:List AO} {id ver n:Nat} (L:List V2) (ho:H[id]?=some (.row ver (L.length*8) (XO vC 8 v0 L))) (hn:n=L.length):Zq H (.osl id ver 8 0 n) (Qh L):=by
 subst hn
 rw [X7]
 refine ZP (.inl ho) (by omega) (fun h=>by rw [h]) fun j hj=>?_
 rw [Nat.zero_add]
 exact (Xf (by simp [vC,Xb,X5]) _).sees _
def NO (l:List Int):List V2 :=
 if ZR (QO l 16) then QO l 16 else [T9 l,(T9 l).add (pI 4 0),(T9 l).add (pI (1+Ab.atF l 0 2) 3),(T9 l).add (pI 1 1)]
theorem Uu (l:List Int) (hl:ZC l):Fn Tryz.prog 54 [X8 l] (Qh (NO l)):=by
 have k0:=eY l
 have b1:=Xs l 16 9 (by omega)
 have b2:=Xs l 17 9 (by omega)
 have c1:=Qd l 16 9 hl (by omega)
 have c2:=Qd l 17 9 hl (by omega)
 have c3:=Kd (Ab.atF l 16 9 - 4) (Ab.atF l 17 9 - 4) ⟨by omega,by omega⟩ ⟨by omega,by omega⟩
 rw [show (⟨((Ab.atF l 16 9 - 4:Int):Rat),((Ab.atF l 17 9 - 4:Int):Rat)⟩:V2)=T9 l from rfl] at c3
 have bw:∀ q,Ju q (.sl 16 32 (Xh kq) false)=True:=fun q=>eq_true (X6 (QF fun j _=>Xf (by simp [kq,wayL,Xa]) j))
 have bi:∀ q,Ju q (X8 l)=True:=fun q=>eq_true (X6 (Xb l))
 have bb:∀ q,Qc q (.con 0 8 (Xh (vC (T9 l))))=True:=fun q=>eq_true fun j _=>X6 (Xf (by simp [vC,Xb,X5]) j)
 have bp:∀ q,Ju q (.ptr 8 (Xh (vC (T9 l))) 0)=True:=fun q=>eq_true (X6 (XV fun j _=>Xf (by simp [vC,Xb,X5]) j))
 have br:∀ q i n L,Qc q (.row i n (XO vC 8 v0 L))=True:=fun q i n L=>eq_true fun j _=>X6 (Xf (by simp [vC,Xb,X5]) _)
 obtain ⟨R,hR⟩:∃ R,R=NO l:=⟨_,rfl⟩
 have sR:=Xq R
 rw [← hR]
 unfold NO at hR
 generalize hB:T9 l=B at *
 refine Fn.intro (fn:=Tryz.f54) Tryz.call54 Tryz.func54 rfl mixed 8 [] [] [] (by kernel_rfl) (Nat.le_of_ble_eq_true rfl) (fun a ha=>List.mem_singleton.1 ha▸Xb l) (Xm ?_)
 simp (disch:=omega) only [AS.start,Xj,↓Xd,wG,seval]
 refine X0 c1 ⟨by rw [Xj]; exact Weak.rfl' _,Weak.rfl' _,Weak.rfl' _,trivial⟩ ?_
 simp (disch:=omega) only [↓Xd,wG,seval]
 refine X0 c2 ⟨by rw [Xj]; exact Weak.rfl' _,Weak.rfl' _,Weak.rfl' _,trivial⟩ ?_
 simp (disch:=omega) only [↓Xd,wG,seval]
 refine X0 c3 (X1 _) ?_
 simp (disch:=omega) only [vA,vC,qC,↓Xd,wG,seval]
 refine Xl (fun i:Nat=>⟨8,[],[X8 l,.any,.any,.sl 16 32 (Xh kq) true,.ref 0 0 0,.osl 1 (QO l i).length 8 0 (QO l i).length,I i,.any],[],[.row 0 8 (Xh (vC B)),.row (QO l i).length ((QO l i).length*8) (XO vC 8 v0 (QO l i))]⟩) (fun i=>i≤16) (fun i=>16 - i) 0 (by omega)
  (Sub.trans (Kg 5 8 (XO vC 8 v0 []) rfl) (Xk rfl ⟨.inr (Xj l).symm,.inl rfl,.inl rfl,.inr rfl,.inr rfl,.inr rfl,.inr rfl,.inl rfl,trivial⟩ trivial rfl)) ?_
 intro i hi next
 have w1:=wj i (by omega)
 have hlen:=NP l i
 have fin:∀ (s:AS),s.get 5=.osl 1 (QO l i).length 8 0 (QO l i).length→True:=fun _ _=>trivial
 by_cases hgo:i<16∧(QO l i).length<12
 ·obtain ⟨hi2,hlt⟩:=hgo
  have c4:=Qd l i 6 hl (by omega)
  have bk:=Xs l i 6 (by omega)
  have hs:=show QO l (i+1)=if (QO l i).length<12∧0<Ab.atF l i 6∧Ab.atF l i 6<4 then QO l i ++ [(T9 l).add (Lc l i)] else QO l i from rfl
  have hk1:=R3 l i
  have hco:=show Lc l i=⟨Rat.divInt ((wayL.getD i (0,0)).1*Ab.atF l i 6) 2,Rat.divInt ((wayL.getD i (0,0)).2*Ab.atF l i 6) 2⟩ from rfl
  have nx:=next (i+1)
  rw [hB] at hs
  generalize Lc l i=q at *
  generalize Ab.atF l i 6=k at *
  obtain ⟨hx,hy⟩:=oZ hi2
  obtain ⟨bx,by'⟩:=ku i
  generalize wayL.getD i (0,0)=w at *
  have m1:=VR bx bk
  have m2:=VR by' bk
  generalize hP:QO l i=P at *
  have w2:IntKind.i64.wrap (w.1*k)=w.1*k:=by rw [IntKind.wrap_i64]; omega
  have w3:IntKind.i64.wrap (w.2*k)=w.2*k:=by rw [IntKind.wrap_i64]; omega
  have c5:=XB (w.1*k) 2 ⟨by omega,by omega⟩ ⟨by omega,by omega⟩
  have c6:=XB (w.2*k) 2 ⟨by omega,by omega⟩ ⟨by omega,by omega⟩
  have c7:=QE B q (by unfold vm; omega) (by unfold vm; omega)
  refine Xm ?_
  simp (disch:=omega) only [↓Xd,wG,seval]
  refine X0 c4 (X1 _) ?_
  by_cases hk:0<k∧k<4
  ·rw [if_pos ⟨hlt,hk⟩] at hs
   have hap:=Ay vC 8 v0 P (B.add q) (by omega)
   rw [← hs] at hap
   have hl2:(QO l (i+1)).length=P.length+1:=by rw [hs]; simp
   rw [hl2] at nx
   simp (disch:=omega) only [hk.1,hk.2,hx,hy,w2,w3,vC,qC,↓Xd,wG,seval]
   refine X0 c5 (X1 _) ?_
   simp (disch:=omega) only [hx,hy,w2,w3,↓Xd,wG,seval]
   refine X0 c6 (X1 _) ?_
   simp (disch:=omega) only [↓Xd,wG,seval]
   refine X0 c7 ⟨Weak.rfl' _,by rw [hco]; exact Weak.rfl' _,trivial⟩ ?_
   simp (disch:=omega) only [vA,vC,qC,↓Xd,wG,seval]
   exact ⟨fun j hj=>jY (B.add q) j hj,nx _ (by omega) (by omega) (C7 (by simp [Xo,I,Xj]) (by rw [← hap]; rfl))⟩
  ·rw [if_neg (fun h=>hk h.2)] at hs
   rw [hs] at nx
   by_cases hk0:0<k
   ·simp (disch:=omega) only [hk0,show ¬ k<4 by omega,↓Xd,wG,seval]
    exact nx _ (by omega) (by omega) (C7 (by simp [Xo,I,Xj]) rfl)
   ·simp (disch:=omega) only [hk0,↓Xd,wG,seval]
    exact nx _ (by omega) (by omega) (C7 (by simp [Xo,I,Xj]) rfl)
 ·have hp:QO l 16=QO l i:=by
   by_cases h16:i=16
   ·rw [h16]
   ·have:=LV l (i:=i) (by omega) (16 - i)
    rwa [show i+(16 - i)=16 by omega] at this
  rw [hp] at hR
  have cv:=Gt (QO l i) (AP (fun x hx=>Nat.le_trans (Gm l i x hx) (by omega)) (by omega)) (by omega)
  have b0:=Xs l 0 2 (by omega)
  have c8:=Kd 4 0 ⟨by omega,by omega⟩ ⟨by omega,by omega⟩
  have c9:=Qd l 0 2 hl (by omega)
  have c10:=Kd (1+Ab.atF l 0 2) 3 ⟨by omega,by omega⟩ ⟨by omega,by omega⟩
  have c11:=Kd 1 1 ⟨by omega,by omega⟩ ⟨by omega,by omega⟩
  have v1:=FL 4 0 (by omega) (by omega)
  have v2:=FL (1+Ab.atF l 0 2) 3 (by omega) (by omega)
  have v3:=FL 1 1 (by omega) (by omega)
  change Fn _ _ _ (vA (pI 4 0)) at c8
  change Fn _ _ _ (vA (pI (1+Ab.atF l 0 2) 3)) at c10
  change Fn _ _ _ (vA (pI 1 1)) at c11
  have c12:=QE B (pI 4 0) (by unfold vm; omega) (by unfold vm; omega)
  have c13:=QE B (pI (1+Ab.atF l 0 2) 3) (by unfold vm; omega) (by unfold vm; omega)
  have c14:=QE B (pI 1 1) (by unfold vm; omega) (by unfold vm; omega)
  have sv:∀ H:List AO,H[1]?=some (.row (QO l i).length ((QO l i).length*8) (XO vC 8 v0 (QO l i)))→Zq H (.osl 1 (QO l i).length 8 0 (QO l i).length) (Qh (QO l i)):=fun H h=>aQ _ h rfl
  generalize hP:QO l i=P at *
  generalize Ab.atF l 0 2=k at *
  generalize pI 4 0=a1 at *
  generalize pI (1+k) 3=a2 at *
  generalize pI 1 1=a3 at *
  have h12:i<16→¬ P.length<12:=fun h h2=>hgo ⟨h,h2⟩
  refine Xm ?_
  by_cases h16:i<16
  all_goals
   simp (disch:=omega) only [h16,h12,↓Xd,wG,seval]
   refine Nd cv rfl ⟨sv _ rfl,trivial⟩ (YI _) ?_
   simp (disch:=omega) only [↓Xd,wG,seval]
   refine ⟨fun h=>BX rfl (by rw [hR,if_pos h]; exact sv _ rfl),fun h=>?_⟩
   rw [if_neg h] at hR
   refine X0 c8 (X1 _) ?_
   simp (disch:=omega) only [vA,vC,qC,↓Xd,wG,seval]
   refine X0 c12 (X1 _) ?_
   simp (disch:=omega) only [vA,vC,qC,↓Xd,wG,seval]
   refine X0 c9 ⟨by rw [Xj]; exact Weak.rfl' _,Weak.rfl' _,Weak.rfl' _,trivial⟩ ?_
   simp (disch:=omega) only [↓Xd,wG,seval]
   refine X0 c10 (X1 _) ?_
   simp (disch:=omega) only [vA,vC,qC,↓Xd,wG,seval]
   refine X0 c13 (X1 _) ?_
   simp (disch:=omega) only [vA,vC,qC,↓Xd,wG,seval]
   refine X0 c11 (X1 _) ?_
   simp (disch:=omega) only [vA,vC,qC,↓Xd,wG,seval]
   refine X0 c14 (X1 _) ?_
   simp (disch:=omega) only [vA,vC,qC,↓Xd,wG,seval]
   exact BX rfl (XC (Xq _) (by rw [hR]; exact KK vC 8 v0 (fun _=>rfl) [B,B.add a1,B.add a2,B.add a3] _ _ _ _ rfl rfl rfl))
def OU (a b:V2):V2:=(a.add b).scale (Rat.divInt 1 2)
theorem iy (a b:V2):vb (OU a b)≤vb a+vb b+2:=by
 have h1:=Kw a b
 have h2:=DD (a.add b) (Rat.divInt 1 2)
 have h3:=CP 1 2 (by omega) (by omega)
 unfold OU; omega
theorem EJ (a b:V2) (ha:vb a≤100000) (hb:vb b≤100000):Fn Tryz.prog 57 [vA a,vA b] (vA (OU a b)):=by
 have h1:=Kw a b
 have h3:=CP 1 2 (by omega) (by omega)
 have c1:=QE a b (by unfold vm; omega) (by unfold vm; omega)
 have c2:=XB 1 2 ⟨by omega,by omega⟩ ⟨by omega,by omega⟩
 have c3:=Zi (a.add b) (Rat.divInt 1 2) (by unfold vm; omega) (by unfold vm; omega)
 rw [show (a.add b).scale (Rat.divInt 1 2)=OU a b from rfl] at c3
 obtain ⟨R,hR⟩:∃ R,R=vA (OU a b):=⟨_,rfl⟩
 have sR:Settled R:=hR▸Xu _
 rw [← hR] at c3
 rw [← hR]
 refine Fn.intro (fn:=Tryz.f57) Tryz.call57 Tryz.func57 rfl mixed 5 [] [] [] (by kernel_rfl) (Nat.le_of_ble_eq_true rfl) (Kp (Xu a) (Xu b)) (Xm ?_)
 simp (disch:=omega) only [AS.start,vA,vC,↓Xd,wG,seval]
 refine X0 c1 (X1 _) ?_
 simp (disch:=omega) only [vA,vC,↓Xd,wG,seval]
 refine X0 c2 (X1 _) ?_
 simp (disch:=omega) only [qA,qC,↓Xd,wG,seval]
 refine X0 c3 (X1 _) ?_
 simp (disch:=omega) only [hR,vA,vC,↓Xd,wG,seval]
 exact Zx rfl J5 rfl rfl rfl sR (hR.trans rfl)
theorem iZ (l:List Int) (a:Int) (hl:ZC l) (ha:0≤a∧a<900):Fn Tryz.prog 56 [X8 l,I a] (nU (Cq (Ab.atF l a 64)) (Bo l (a+1))):=by
 have b1:=Xs l a 64 (by omega)
 have c1:=Qd l a 64 hl (by omega)
 have c2:=oA (Ab.atF l a 64) ⟨by omega,by omega⟩
 have c3:=Wr l (a+1) hl (by omega)
 obtain ⟨R,hR⟩:∃ R,R=nU (Cq (Ab.atF l a 64)) (Bo l (a+1)):=⟨_,rfl⟩
 have sR:Settled R:=hR▸I1 _ _
 rw [← hR]
 generalize Cq (Ab.atF l a 64)=t at *
 generalize Bo l (a+1)=c at *
 generalize Ab.atF l a 64=k at *
 refine Fn.intro (fn:=Tryz.f56) Tryz.call56 Tryz.func56 rfl mixed 5 [] [] [] (by kernel_rfl) (Nat.le_of_ble_eq_true rfl) (Kp (Xb l) (Xa a)) (Xm ?_)
 simp (disch:=omega) only [AS.start,↓Xd,wG,seval]
 refine X0 c1 (X1 _) ?_
 simp (disch:=omega) only [↓Xd,wG,seval]
 refine X0 c2 (X1 _) ?_
 simp (disch:=omega) only [vA,vC,↓Xd,wG,seval]
 refine X0 c3 (X1 _) ?_
 simp (disch:=omega) only [vA,vC,↓Xd,wG,seval]
 exact Cv rfl im rfl rfl rfl (XC sR (by rw [hR]; exact Weak.rfl' _))
def Sj (l:List Int):Int:=1+Ab.atF l 0 6
def Sh (l:List Int):Int:=1+Ab.atF l 1 6
def Si (l:List Int):Int:=Ab.atF l 2 5 - 2
def MY (k w h s:Int):List V2 :=
 if k=1 then [v0,pI (3*w) 0,pI (3*w) h,pI w h,pI w (3*h),pI 0 (3*h)]
 else if k=2 then [v0,pI w (-1),pI (w+2) h,pI w (2*h+1),pI 0 (2*h),pI (-2) h]
 else [v0,pI w 0,pI (w+s) h,pI s h]
def CQ (l:List Int):List V2 :=
 if Ab.atF l 3 5=0 then NO l else DP (Cq (Ab.atF l 4 64)) (Bo l 5) (MY (Ab.atF l 3 5) (Sj l) (Sh l) (Si l))
def N3 (L:List V2):Prop:=(3≤L.length∧L.length≤12)∧QT L 7∧∀ i,i<L.length→L.getD i v0≠KG L i
theorem Io {L:List V2} {i:Nat} (h:i+1=L.length):KG L i=L.getD 0 v0:=by unfold KG; rw [h,Nat.mod_self]
theorem Zw {a b c d:Int}:pI a b=pI c d↔a=c∧b=d:=by
 unfold pI
 simp only [V2.mk.injEq,Rat.intCast_inj]
theorem O4:v0=pI 0 0:=rfl
theorem Wh {k w h s:Int} (hw:1≤w∧w≤6) (hh:1≤h∧h≤6) (hs:-2≤s∧s≤2):(4≤(MY k w h s).length∧(MY k w h s).length≤6)∧(∀ x∈MY k w h s,vb x≤1)∧∀ i,i<(MY k w h s).length→(MY k w h s).getD i v0≠KG (MY k w h s) i:=by
 have z:vb v0≤1:=by decide +kernel
 unfold MY
 split
 ·refine ⟨by simp,?_,?_⟩
  ·simp only [List.mem_cons,List.not_mem_nil,or_false]
   rintro x (rfl | rfl | rfl | rfl | rfl | rfl)
   ·exact z
   all_goals exact FL _ _ (by omega) (by omega)
  ·intro i hi
   match i,hi with
   | 0,_=>show v0≠pI (3*w) 0; rw [O4,Ne,Zw]; omega
   | 1,_=>show pI (3*w) 0≠pI (3*w) h; rw [Ne,Zw]; omega
   | 2,_=>show pI (3*w) h≠pI w h; rw [Ne,Zw]; omega
   | 3,_=>show pI w h≠pI w (3*h); rw [Ne,Zw]; omega
   | 4,_=>show pI w (3*h)≠pI 0 (3*h); rw [Ne,Zw]; omega
   | 5,_=>rw [Io rfl]; show pI 0 (3*h)≠v0; rw [O4,Ne,Zw]; omega
   | i+6,h=>simp at h; omega
 ·split
  ·refine ⟨by simp,?_,?_⟩
   ·simp only [List.mem_cons,List.not_mem_nil,or_false]
    rintro x (rfl | rfl | rfl | rfl | rfl | rfl)
    ·exact z
    all_goals exact FL _ _ (by omega) (by omega)
   ·intro i hi
    match i,hi with
    | 0,_=>show v0≠pI w (-1); rw [O4,Ne,Zw]; omega
    | 1,_=>show pI w (-1)≠pI (w+2) h; rw [Ne,Zw]; omega
    | 2,_=>show pI (w+2) h≠pI w (2*h+1); rw [Ne,Zw]; omega
    | 3,_=>show pI w (2*h+1)≠pI 0 (2*h); rw [Ne,Zw]; omega
    | 4,_=>show pI 0 (2*h)≠pI (-2) h; rw [Ne,Zw]; omega
    | 5,_=>rw [Io rfl]; show pI (-2) h≠v0; rw [O4,Ne,Zw]; omega
    | i+6,h=>simp at h; omega
  ·refine ⟨by simp,?_,?_⟩
   ·simp only [List.mem_cons,List.not_mem_nil,or_false]
    rintro x (rfl | rfl | rfl | rfl)
    ·exact z
    all_goals exact FL _ _ (by omega) (by omega)
   ·intro i hi
    match i,hi with
    | 0,_=>show v0≠pI w 0; rw [O4,Ne,Zw]; omega
    | 1,_=>show pI w 0≠pI (w+s) h; rw [Ne,Zw]; omega
    | 2,_=>show pI (w+s) h≠pI s h; rw [Ne,Zw]; omega
    | 3,_=>rw [Io rfl]; show pI s h≠v0; rw [O4,Ne,Zw]; omega
    | i+4,h=>simp at h; omega
theorem o9 {t c a b:V2} (ht:Q8 t t=1) (h:put t c a=put t c b):a=b:=by
 unfold put qj V2.add at h
 simp only [V2.mk.injEq] at h
 obtain ⟨h1,h2⟩:=h
 unfold Q8 at ht
 cases a; cases b
 simp only [V2.mk.injEq] at *
 constructor <;> grind
theorem UE (l:List Int):N3 (CQ l):=by
 unfold CQ
 split
 ·unfold NO
  have hb:=eY l
  have b0:=Xs l 0 2 (by omega)
  split
  ·rename_i h
   refine ⟨h.1,AP (fun x hx=>Nat.le_trans (Gm l 16 x hx) (by omega)) (by omega),fun i hi=>?_⟩
   have:=Ix (h.2.1 i hi).1
   unfold Ab.N.atF at this
   rw [Nat.mod_eq_of_lt hi] at this
   exact this
  ·have a1:=Kw (T9 l) (pI 4 0)
   have a2:=Kw (T9 l) (pI (1+Ab.atF l 0 2) 3)
   have a3:=Kw (T9 l) (pI 1 1)
   have v1:=FL 4 0 (by omega) (by omega)
   have v2:=FL (1+Ab.atF l 0 2) 3 (by omega) (by omega)
   have v3:=FL 1 1 (by omega) (by omega)
   refine ⟨by simp,AP ?_ (by omega),?_⟩
   ·simp only [List.mem_cons,List.not_mem_nil,or_false]
    rintro x (rfl | rfl | rfl | rfl) <;> omega
   ·have ne:∀ {x y:Int} {a:V2},¬ (x=0∧y=0)→a≠a.add (pI x y):=fun {x y a} h e=>h (by
     have e1:a.x=a.x+(x:Rat):=congrArg V2.x e
     have e2:a.y=a.y+(y:Rat):=congrArg V2.y e
     have h1:(x:Rat)=((0:Int):Rat):=by grind
     have h2:(y:Rat)=((0:Int):Rat):=by grind
     exact ⟨Rat.intCast_inj.1 h1,Rat.intCast_inj.1 h2⟩)
    have ne2:∀ {x y u v:Int} {a:V2},¬ (x=u∧y=v)→a.add (pI x y)≠a.add (pI u v):=fun {x y u v a} h e=>h (by
     have e1:a.x+(x:Rat)=a.x+(u:Rat):=congrArg V2.x e
     have e2:a.y+(y:Rat)=a.y+(v:Rat):=congrArg V2.y e
     exact ⟨Rat.intCast_inj.1 (by grind),Rat.intCast_inj.1 (by grind)⟩)
    intro i hi
    match i,hi with
    | 0,_=>exact ne (x:=4) (y:=0) (by omega)
    | 1,_=>exact ne2 (x:=4) (y:=0) (u:=1+Ab.atF l 0 2) (v:=3) (by omega)
    | 2,_=>exact ne2 (x:=1+Ab.atF l 0 2) (y:=3) (u:=1) (v:=1) (by omega)
    | 3,_=>rw [Io rfl]; exact (ne (x:=1) (y:=1) (by omega)).symm
    | i+4,h=>simp at h; omega
 ·have b1:=Xs l 0 6 (by omega)
  have b2:=Xs l 1 6 (by omega)
  have b3:=Xs l 2 5 (by omega)
  obtain ⟨h1,h2,h3⟩:=Wh (k:=Ab.atF l 3 5) (w:=Sj l) (h:=Sh l) (s:=Si l) (by unfold Sj; omega) (by unfold Sh; omega) (by unfold Si; omega)
  obtain ⟨t1,t2⟩:=Wq (Ab.atF l 4 64)
  have c1:=Iy l 5
  generalize MY (Ab.atF l 3 5) (Sj l) (Sh l) (Si l)=C at *
  generalize Cq (Ab.atF l 4 64)=t at *
  generalize Bo l 5=c at *
  have hm:∀ i,i<C.length→(DP t c C).getD i v0=put t c (C.getD i v0):=fun i hi=>by
   unfold DP
   rw [List.getD_eq_getElem?_getD,List.getElem?_map,List.getD_eq_getElem?_getD,List.getElem?_eq_getElem hi]; rfl
  have hl:(DP t c C).length=C.length:=by simp [DP]
  refine ⟨by rw [hl]; omega,AP (fun x hx=>?_) (by omega),fun i hi=>?_⟩
  ·unfold DP at hx
   obtain ⟨y,hy,rfl⟩:=List.mem_map.1 hx
   have:=h2 y hy
   have:=tB t c y
   omega
  ·rw [hl] at hi
   unfold KG
   rw [hl,hm i hi,hm _ (Nat.mod_lt _ (by omega))]
   exact fun e=>h3 i hi (o9 t2 e)
theorem P5 (l:List Int) (hl:ZC l):Fn Tryz.prog 11 [X8 l] (Qh (CQ l)):=by
 have c0:=Uu l hl
 have b1:=Xs l 0 6 (by omega)
 have b2:=Xs l 1 6 (by omega)
 have b3:=Xs l 2 5 (by omega)
 have b4:=Xs l 3 5 (by omega)
 have c1:=Qd l 0 6 hl (by omega)
 have c2:=Qd l 1 6 hl (by omega)
 have c3:=Qd l 2 5 hl (by omega)
 have c4:=Qd l 3 5 hl (by omega)
 have c5:=iZ l 4 hl (by omega)
 obtain ⟨t1,t2⟩:=Wq (Ab.atF l 4 64)
 have s1:=Iy l 5
 have hC:=Wh (k:=Ab.atF l 3 5) (w:=Sj l) (h:=Sh l) (s:=Si l) (by unfold Sj; omega) (by unfold Sh; omega) (by unfold Si; omega)
 have c6:=Sa (Cq (Ab.atF l 4 64)) (Bo l 5) (MY (Ab.atF l 3 5) (Sj l) (Sh l) (Si l)) 1 (AP hC.2.1 (by omega)) (by omega) (by omega) (by omega) (by omega)
 obtain ⟨R,hR⟩:∃ R,R=CQ l:=⟨_,rfl⟩
 have sR:=Xq R
 rw [← hR]
 unfold CQ at hR
 rw [show (4:Int)+1=5 from rfl] at c5
 unfold Sj Sh Si at *
 generalize Cq (Ab.atF l 4 64)=t at *
 generalize Bo l 5=c at *
 generalize NO l=G at *
 generalize Ab.atF l 0 6=w at *
 generalize Ab.atF l 1 6=h at *
 generalize Ab.atF l 2 5=s at *
 generalize Ab.atF l 3 5=k at *
 refine Fn.intro (fn:=Tryz.f11) Tryz.call11 Tryz.func11 rfl mixed 7 [29] [] [] (by kernel_rfl) (Nat.le_of_ble_eq_true rfl) (fun a ha=>List.mem_singleton.1 ha▸Xb l) (Xm ?_)
 simp (disch:=omega) only [AS.start,↓Xd,wG,seval]
 refine X0 c1 (X1 _) ?_
 simp (disch:=omega) only [↓Xd,wG,seval]
 refine X0 c2 (X1 _) ?_
 simp (disch:=omega) only [↓Xd,wG,seval]
 have p:∀ x y:Int,-100≤x∧x≤100→-100≤y∧y≤100→Fn Tryz.prog 53 [I x,I y] (vA (pI x y)):=fun x y hx hy=>Kd x y ⟨by omega,by omega⟩ ⟨by omega,by omega⟩
 have z:=KS false
 have wl:∀ (L:List V2) (n m:Nat) (F:List AV),F=[AV.bool false,.sl 0 0 (fun _=>.any) false,.bool false,.sl 0 0 (fun _=>.any) false,.bool false,.sl 0 0 (fun _=>.any) false,.bool false,.sl 0 0 (fun _=>.any) false] ++ L.flatMap vC→n=L.length+1→m=(L.length+1)*8→∀ tt,Weak (.sl n m (Xh F) tt) (Qh (v0 :: L)):=fun L n m F hF hn hm tt=>by
  subst hF hn hm
  have hL:WeakL ([AV.bool false,.sl 0 0 (fun _=>.any) false,.bool false,.sl 0 0 (fun _=>.any) false,.bool false,.sl 0 0 (fun _=>.any) false,.bool false,.sl 0 0 (fun _=>.any) false] ++ L.flatMap vC) ((v0 :: L).flatMap vC):=⟨z.1,z.2.1,z.2.2.1,z.2.2.2.1,z.1,z.2.1,z.2.2.1,z.2.2.2.1,X1 _⟩
  exact KE rfl (Nat.le_refl _) fun j hj=>by
   rw [← Hc vC 8 v0 (fun _=>rfl) (v0 :: L) j hj]
   exact EV hL j
 refine X0 c3 (X1 _) ?_
 simp (disch:=omega) only [↓Xd,wG,seval]
 refine X0 (p (1+w) 0 (by omega) (by omega)) (X1 _) ?_
 simp (disch:=omega) only [vA,vC,↓Xd,wG,seval]
 refine X0 (p (1+w+(s - 2)) (1+h) (by omega) (by omega)) (X1 _) ?_
 simp (disch:=omega) only [vA,vC,↓Xd,wG,seval]
 refine X0 (p (s - 2) (1+h) (by omega) (by omega)) (X1 _) ?_
 simp (disch:=omega) only [vA,vC,↓Xd,wG,seval]
 refine X0 c4 (X1 _) ?_
 rcases (show k=0∨k=1∨k=2∨k=3∨k=4 by omega) with rfl | rfl | rfl | rfl | rfl
 all_goals simp (disch:=omega) only [Int.reduceEq,↓Xd,wG,seval]
 ·refine X0 c0 ⟨by rw [Xj]; exact Weak.rfl' _,trivial⟩ ?_
  simp (disch:=omega) only [X7,↓Xd,wG,seval]
  exact Xp rfl rfl sR (by rw [hR,X7]; rfl)
 ·refine X0 (p (3*(1+w)) 0 (by omega) (by omega)) (X1 _) ?_
  simp (disch:=omega) only [vA,vC,↓Xd,wG,seval]
  refine X0 (p (3*(1+w)) (1+h) (by omega) (by omega)) (X1 _) ?_
  simp (disch:=omega) only [vA,vC,↓Xd,wG,seval]
  refine X0 (p (1+w) (1+h) (by omega) (by omega)) (X1 _) ?_
  simp (disch:=omega) only [vA,vC,↓Xd,wG,seval]
  refine X0 (p (1+w) (3*(1+h)) (by omega) (by omega)) (X1 _) ?_
  simp (disch:=omega) only [vA,vC,↓Xd,wG,seval]
  refine X0 (p 0 (3*(1+h)) (by omega) (by omega)) (X1 _) ?_
  simp (disch:=omega) only [vA,vC,↓Xd,wG,seval]
  refine X0 c5 ⟨by rw [Xj]; exact Weak.rfl' _,Weak.rfl' _,trivial⟩ ?_
  simp (disch:=omega) only [nU,W3,↓Xd,wG,seval]
  refine X0 c6 ⟨Weak.rfl' _,wl [pI (3*(1+w)) 0,pI (3*(1+w)) (1+h),pI (1+w) (1+h),pI (1+w) (3*(1+h)),pI 0 (3*(1+h))] _ _ _ rfl rfl rfl _,trivial⟩ ?_
  simp (disch:=omega) only [X7,↓Xd,wG,seval]
  exact Xp rfl rfl sR (by rw [hR,X7]; rfl)
 ·refine X0 (p (1+w) (-1) (by omega) (by omega)) (X1 _) ?_
  simp (disch:=omega) only [vA,vC,↓Xd,wG,seval]
  refine X0 (p (1+w+2) (1+h) (by omega) (by omega)) (X1 _) ?_
  simp (disch:=omega) only [vA,vC,↓Xd,wG,seval]
  refine X0 (p (1+w) (2*(1+h)+1) (by omega) (by omega)) (X1 _) ?_
  simp (disch:=omega) only [vA,vC,↓Xd,wG,seval]
  refine X0 (p 0 (2*(1+h)) (by omega) (by omega)) (X1 _) ?_
  simp (disch:=omega) only [vA,vC,↓Xd,wG,seval]
  refine X0 (p (-2) (1+h) (by omega) (by omega)) (X1 _) ?_
  simp (disch:=omega) only [vA,vC,↓Xd,wG,seval]
  refine X0 c5 ⟨by rw [Xj]; exact Weak.rfl' _,Weak.rfl' _,trivial⟩ ?_
  simp (disch:=omega) only [nU,W3,↓Xd,wG,seval]
  refine X0 c6 ⟨Weak.rfl' _,wl [pI (1+w) (-1),pI (1+w+2) (1+h),pI (1+w) (2*(1+h)+1),pI 0 (2*(1+h)),pI (-2) (1+h)] _ _ _ rfl rfl rfl _,trivial⟩ ?_
  simp (disch:=omega) only [X7,↓Xd,wG,seval]
  exact Xp rfl rfl sR (by rw [hR,X7]; rfl)
 ·refine X0 c5 ⟨by rw [Xj]; exact Weak.rfl' _,Weak.rfl' _,trivial⟩ ?_
  simp (disch:=omega) only [nU,W3,↓Xd,wG,seval]
  refine X0 c6 ⟨Weak.rfl' _,wl [pI (1+w) 0,pI (1+w+(s - 2)) (1+h),pI (s - 2) (1+h)] _ _ _ rfl rfl rfl _,trivial⟩ ?_
  simp (disch:=omega) only [X7,↓Xd,wG,seval]
  exact Xp rfl rfl sR (by rw [hR,X7]; rfl)
 ·refine X0 c5 ⟨by rw [Xj]; exact Weak.rfl' _,Weak.rfl' _,trivial⟩ ?_
  simp (disch:=omega) only [nU,W3,↓Xd,wG,seval]
  refine X0 c6 ⟨Weak.rfl' _,wl [pI (1+w) 0,pI (1+w+(s - 2)) (1+h),pI (s - 2) (1+h)] _ _ _ rfl rfl rfl _,trivial⟩ ?_
  simp (disch:=omega) only [X7,↓Xd,wG,seval]
  exact Xp rfl rfl sR (by rw [hR,X7]; rfl)
def HW (L:List V2) (i:Nat):Rat:=Xn ((L.getD i v0).sub (L.getD 0 v0)) ((L.getD (i+1) v0).sub (L.getD 0 v0))*Rat.divInt 1 6
def SO (L:List V2) (i:Nat):V2:=((L.getD 0 v0).add (L.getD i v0)).add (L.getD (i+1) v0)
def DH (L:List V2):Nat→V2
 | 0=>v0
 | k+1=>(DH L k).add ((SO L (k+1)).scale (HW L (k+1)))
def Fb (L:List V2):V2:=if KU L=0 then v0 else (DH L (L.length - 2)).scale (Rat.divInt 1 1 / KU L)
theorem TQ (L:List V2) (h:QT L 7) (i:Nat):vb ((L.getD i v0).sub (L.getD 0 v0))≤15∧vb ((L.getD 0 v0).add (L.getD i v0))≤15∧vb (SO L i)≤23∧qb (HW L i)≤62:=by
 have h0:=h 0
 have h1:=h i
 have h2:=h (i+1)
 have s1:=QZ (L.getD i v0) (L.getD 0 v0)
 have s2:=QZ (L.getD (i+1) v0) (L.getD 0 v0)
 have a1:=Kw (L.getD 0 v0) (L.getD i v0)
 have a2:=Kw ((L.getD 0 v0).add (L.getD i v0)) (L.getD (i+1) v0)
 have c1:=ZK ((L.getD i v0).sub (L.getD 0 v0)) ((L.getD (i+1) v0).sub (L.getD 0 v0))
 have m1:=XT (Xn ((L.getD i v0).sub (L.getD 0 v0)) ((L.getD (i+1) v0).sub (L.getD 0 v0))) (Rat.divInt 1 6)
 have q6:=CP 1 6 (by omega) (by omega)
 refine ⟨by omega,by omega,by unfold SO; omega,by unfold HW; omega⟩
theorem Ii (L:List V2) (h:QT L 7):∀ k,vb (DH L k)≤86*k+1
 | 0=>by show vb v0≤1; decide +kernel
 | k+1=>by
  have i1:=Ii L h k
  obtain ⟨_,_,h3,h4⟩:=TQ L h (k+1)
  have s:=DD (SO L (k+1)) (HW L (k+1))
  have a:=Kw (DH L k) ((SO L (k+1)).scale (HW L (k+1)))
  show vb ((DH L k).add ((SO L (k+1)).scale (HW L (k+1))))≤_
  omega
theorem OB (L:List V2) (h:QT L 7) (hl:L.length≤12):vb (Fb L)≤1230∧qb (KU L)≤400:=by
 have a1:=FQ L 7 h L.length
 have a2:=XT (At L L.length) (Rat.divInt 1 2)
 have q2:=CP 1 2 (by omega) (by omega)
 have q1:=CP 1 1 (by omega) (by omega)
 have a3:qb (KU L)≤362:=by unfold KU; omega
 refine ⟨?_,by omega⟩
 unfold Fb
 split
 ·exact Nat.le_trans (show vb v0≤1 by decide +kernel) (by omega)
 ·have k1:=Ii L h (L.length - 2)
  have k2:=Ec (Rat.divInt 1 1) (KU L)
  have k3:=DD (DH L (L.length - 2)) (Rat.divInt 1 1 / KU L)
  omega
theorem kv (t:Bool):WeakL [.bool false,.sl 0 0 (fun _=>.any) t,.bool false,.sl 0 0 (fun _=>.any) t,.bool false,.sl 0 0 (fun _=>.any) t,.bool false,.sl 0 0 (fun _=>.any) t] (vC v0):=by
 have w:=KS t
 exact ⟨w.1,w.2.1,w.2.2.1,w.2.2.2.1,w.1,w.2.1,w.2.2.1,w.2.2.2.1,trivial⟩
theorem Yn (L:List V2) (h:QT L 7) (hl:2≤L.length∧L.length≤12):Fn Tryz.prog 77 [Qh L] (vA (Fb L)):=by
 obtain ⟨bc,ba⟩:=OB L h hl.2
 have c1:=Mb L 7 h (by omega) (by omega)
 have c2:=Kk (KU L) (by unfold rm; omega)
 obtain ⟨R,hR⟩:∃ R,R=vA (Fb L):=⟨_,rfl⟩
 have sR:Settled R:=hR▸Xu _
 rw [← hR]
 unfold Fb at hR
 have s1:=C1 (KU L)
 refine Fn.intro (fn:=Tryz.f77) Tryz.call77 Tryz.func77 rfl mixed 7 [] [8] [] (by kernel_rfl) (Nat.le_of_ble_eq_true rfl) (fun a ha=>List.mem_singleton.1 ha▸Xq L) (Xm ?_)
 simp (disch:=omega) only [AS.start,X7,↓Xd,wG,seval]
 refine X0 c1 ⟨by rw [X7]; exact Weak.rfl' _,trivial⟩ ?_
 simp (disch:=omega) only [qA,qC,↓Xd,wG,seval]
 refine X0 c2 (X1 _) ?_
 simp (disch:=omega) only [C1,↓Xd,wG,seval]
 refine ⟨fun h0=>?_,fun h0=>?_⟩
 ·exact Cv rfl J5 rfl rfl rfl (XC sR (by rw [hR,if_pos h0]; exact DF _))
 rw [if_neg h0] at hR
 have bq:∀ q i n x,Qc q (.row i n (Xh (qC x)))=True:=fun q i n x=>eq_true (QM (QP x))
 have bw:∀ q i n x,Qc q (.row i n (Xh (vC x)))=True:=fun q i n x=>eq_true (QM (by simp [vC,Xb,X5]))
 have bz:∀ q,Qc q (.row 0 8 (Xh [.bool false,.sl 0 0 (fun _=>.any) true,.bool false,.sl 0 0 (fun _=>.any) true,.bool false,.sl 0 0 (fun _=>.any) true,.bool false,.sl 0 0 (fun _=>.any) true]))=True:=fun q=>eq_true (QM (by simp [X5,Ko]))
 have bv:∀ q,Ju q (Qh L)=True:=fun q=>eq_true (X6 (Xq L))
 generalize KU L=A at *
 refine Run.sub ?_ (QJ 2 (Xh (vC (DH L 0))) rfl (fun j hj=>K3 (EV (kv true) j)))
 refine Xl (fun k:Nat=>⟨7,[],[Qh L,.any,.ref 0 0 0,.ref 1 0 0,.ref 2 0 0,I (k+1:Nat),.any],[],[.row 0 8 (Xh [.bool false,.sl 0 0 (fun _=>.any) true,.bool false,.sl 0 0 (fun _=>.any) true,.bool false,.sl 0 0 (fun _=>.any) true,.bool false,.sl 0 0 (fun _=>.any) true]),.row 0 4 (Xh (qC A)),.row 0 8 (Xh (vC (DH L k)))]⟩) (fun k=>k≤L.length - 2) (fun k=>L.length - k) 0 (by omega)
  (Xk rfl ⟨.inr (X7 L).symm,.inl rfl,.inr rfl,.inr rfl,.inr rfl,.inr rfl,.inl rfl,trivial⟩ trivial rfl) ?_
 intro k hk next
 have w1:=wj k (by omega)
 have w2:=wj (k+1) (by omega)
 obtain ⟨h1,h2,h3,h4⟩:=TQ L h (k+1)
 have h1b:=(TQ L h (k+2)).1
 by_cases hgo:k+2<L.length
 ·have nx:=next (k+1)
  have e0:DH L (k+1)=(DH L k).add ((SO L (k+1)).scale (HW L (k+1))):=rfl
  have e1:SO L (k+1)=((L.getD 0 v0).add (L.getD (k+1) v0)).add (L.getD (k+2) v0):=rfl
  have e2:HW L (k+1)=Xn ((L.getD (k+1) v0).sub (L.getD 0 v0)) ((L.getD (k+2) v0).sub (L.getD 0 v0))*Rat.divInt 1 6:=rfl
  have v1:=vF L (k+1)
  have v2:=vF L (k+2)
  have vz:=vF L 0
  rw [Nat.zero_mul] at vz
  simp only [Nat.zero_add] at vz
  have z0:=h 0
  have z1:=h (k+1)
  have z2:=h (k+2)
  have g1:=Ii L h k
  have q6:=CP 1 6 (by omega) (by omega)
  rw [e1] at h3
  rw [e2] at h4
  rw [e0,e1,e2] at nx
  generalize DH L k=C at *
  generalize L.getD 0 v0=a at *
  generalize L.getD (k+1) v0=b at *
  generalize L.getD (k+2) v0=c at *
  have f1:(k+1<L.length)=True:=eq_true (by omega)
  have f2:(k+2<L.length)=True:=eq_true (by omega)
  have f0:(0<L.length)=True:=eq_true (by omega)
  have qc:=ZK (b.sub a) (c.sub a)
  have d1:=Ja b a (by unfold rm; omega) (by unfold rm; omega)
  have d2:=Ja c a (by unfold rm; omega) (by unfold rm; omega)
  have d3:=Dp (b.sub a) (c.sub a) (by unfold vm; omega) (by unfold vm; omega)
  have d4:=XB 1 6 ⟨by omega,by omega⟩ ⟨by omega,by omega⟩
  have d5:=QL (Xn (b.sub a) (c.sub a)) (Rat.divInt 1 6) (by unfold rm; omega) (by unfold rm; omega)
  have d6:=QE a b (by unfold vm; omega) (by unfold vm; omega)
  have d7:=QE (a.add b) c (by unfold vm; omega) (by unfold vm; omega)
  generalize Xn (b.sub a) (c.sub a)*Rat.divInt 1 6=p at *
  have d8:=Zi ((a.add b).add c) p (by unfold vm; omega) (by unfold vm; omega)
  have sv:=DD ((a.add b).add c) p
  have d9:=QE C (((a.add b).add c).scale p) (by unfold vm; omega) (by unfold vm; omega)
  refine Xm ?_
  simp (disch:=omega) only [X7,w1,w2,f0,f1,f2,v1,v2,vz,↓Xd,wG,seval]
  refine X0 d1 (X1 _) ?_
  simp (disch:=omega) only [X7,w1,w2,f0,f1,f2,v1,v2,vz,vA,vC,qA,qC,↓Xd,wG,seval]
  refine X0 d2 (X1 _) ?_
  simp (disch:=omega) only [X7,w1,w2,f0,f1,f2,v1,v2,vz,vA,vC,qA,qC,↓Xd,wG,seval]
  refine X0 d3 (X1 _) ?_
  simp (disch:=omega) only [X7,w1,w2,f0,f1,f2,v1,v2,vz,vA,vC,qA,qC,↓Xd,wG,seval]
  refine X0 d4 (X1 _) ?_
  simp (disch:=omega) only [X7,w1,w2,f0,f1,f2,v1,v2,vz,vA,vC,qA,qC,↓Xd,wG,seval]
  refine X0 d5 (X1 _) ?_
  simp (disch:=omega) only [X7,w1,w2,f0,f1,f2,v1,v2,vz,vA,vC,qA,qC,↓Xd,wG,seval]
  refine X0 d6 (X1 _) ?_
  simp (disch:=omega) only [X7,w1,w2,f0,f1,f2,v1,v2,vz,vA,vC,qA,qC,↓Xd,wG,seval]
  refine X0 d7 (X1 _) ?_
  simp (disch:=omega) only [X7,w1,w2,f0,f1,f2,v1,v2,vz,vA,vC,qA,qC,↓Xd,wG,seval]
  refine X0 d8 (X1 _) ?_
  simp (disch:=omega) only [X7,w1,w2,f0,f1,f2,v1,v2,vz,vA,vC,qA,qC,↓Xd,wG,seval]
  refine X0 d9 (X1 _) ?_
  simp (disch:=omega) only [X7,w1,w2,f0,f1,f2,v1,v2,vz,vA,vC,qA,qC,↓Xd,wG,seval]
  exact nx _ (by omega) (by omega) (XI (m:=3) (Nat.zero_le _) rfl (by simp [X7,Xo,I]) (by simp [Xw]) rfl (by simp [XM,bv]) (by simp [XM,bv]) (by simp [bq,bw,bz]))
 ·obtain rfl:k=L.length - 2:=by omega
  refine Xm ?_
  simp (disch:=omega) only [X7,w1,w2,↓Xd,wG,seval]
  have g1:=Ii L h (L.length - 2)
  have q1:=CP 1 1 (by omega) (by omega)
  have d1:=XB 1 1 ⟨by omega,by omega⟩ ⟨by omega,by omega⟩
  have d2:=Dq (Rat.divInt 1 1) A (by unfold vm; omega) (by unfold vm; omega)
  have d3:=Ec (Rat.divInt 1 1) A
  generalize DH L (L.length - 2)=C at *
  generalize Rat.divInt 1 1=o at *
  have d4:=Zi C (o / A) (by unfold vm; omega) (by unfold vm; omega)
  refine X0 d1 (X1 _) ?_
  simp (disch:=omega) only [qA,qC,↓Xd,wG,seval]
  refine X0 d2 (X1 _) ?_
  simp (disch:=omega) only [qA,qC,↓Xd,wG,seval]
  refine X0 d4 (X1 _) ?_
  simp (disch:=omega) only [vA,vC,qC,↓Xd,wG,seval]
  exact Zx rfl J5 rfl rfl rfl sR (hR.trans rfl)
def vw (l:List Int) (L:List V2):V2:=if Ab.atF l 0 3=0 then ((Fb L).add (Bo [Ab.atF l 1 5,Ab.atF l 2 5,0] 0)).add (pI 8 8) else Fb L
def AC (l:List Int):Rat:=Rat.divInt (1+Ab.atF l 3 6) (1+Ab.atF l 4 2)
def PT (l:List Int) (L:List V2):BB:=⟨vw l L,AC l,AC l+Rat.divInt (Ab.atF l 5 4) 1,Rat.divInt (1+Ab.atF l 6 30) 1⟩
theorem Fu {a b:Int} (ha:0<a) (hb:0<b):0<Rat.divInt a b:=by
 have hb0:(0:Rat)<(b:Rat):=Rat.intCast_pos.2 hb
 have e:Rat.divInt a b*(b:Rat)=(a:Rat):=by rw [Rat.divInt_eq_div,Rat.div_mul_cancel (by grind)]
 have ha0:(0:Rat)<(a:Rat):=Rat.intCast_pos.2 ha
 refine Rat.not_le.1 fun h=>?_
 have:=Rat.mul_nonneg (show 0≤-Rat.divInt a b by grind) (Rat.le_of_lt hb0)
 grind
def bT (b:BB):Prop:=vb b.c≤1240∧qb b.light≤1∧qb b.heavy≤3∧qb b.strength≤1
theorem bT.s {b:BB} (h:bT b):bS b:=by obtain ⟨h1,h2,h3,h4⟩:=h; unfold bS; omega
theorem TL (l:List Int) (L:List V2) (h:N3 L):bT (PT l L)∧ZZ (PT l L)=true:=by
 obtain ⟨h1,h2,h3⟩:=h
 obtain ⟨hc,_⟩:=OB L h2 h1.2
 have b3:=Xs l 3 6 (by omega)
 have b4:=Xs l 4 2 (by omega)
 have b5:=Xs l 5 4 (by omega)
 have b6:=Xs l 6 30 (by omega)
 have q1:qb (AC l)≤1:=CP _ _ (by omega) (by omega)
 have q2:=CP (Ab.atF l 5 4) 1 (by omega) (by omega)
 have q3:=CP (1+Ab.atF l 6 30) 1 (by omega) (by omega)
 have q4:=Kc (AC l) (Rat.divInt (Ab.atF l 5 4) 1)
 have p1:0<AC l:=Fu (by omega) (by omega)
 have p2:0≤Rat.divInt (Ab.atF l 5 4) 1:=Rat.divInt_nonneg (by omega) (by omega)
 have p3:0<Rat.divInt (1+Ab.atF l 6 30) 1:=Fu (by omega) (by omega)
 refine ⟨⟨?_,?_,?_,?_⟩,?_⟩
 ·show vb (vw l L)≤1240
  unfold vw
  split
  ·have s1:=Iy [Ab.atF l 1 5,Ab.atF l 2 5,0] 0
   have s2:=Kw (Fb L) (Bo [Ab.atF l 1 5,Ab.atF l 2 5,0] 0)
   have s3:=Kw ((Fb L).add (Bo [Ab.atF l 1 5,Ab.atF l 2 5,0] 0)) (pI 8 8)
   have s4:=FL 8 8 (by omega) (by omega)
   omega
  ·omega
 ·show qb (AC l)≤1; omega
 ·show qb (AC l+Rat.divInt (Ab.atF l 5 4) 1)≤3; omega
 ·show qb (Rat.divInt (1+Ab.atF l 6 30) 1)≤1; omega
 ·rw [Az]
  exact ⟨p1,by show AC l≤AC l+Rat.divInt (Ab.atF l 5 4) 1; grind,p3⟩
theorem GX (l:List Int) (L:List V2) (hl:ZC l) (h:N3 L):Fn Tryz.prog 18 [X8 l,Qh L] (bA (PT l L)):=by
 obtain ⟨h1,h2,h3⟩:=h
 obtain ⟨hc,_⟩:=OB L h2 h1.2
 have b1:=Xs l 1 5 (by omega)
 have b2:=Xs l 2 5 (by omega)
 have b3:=Xs l 3 6 (by omega)
 have b4:=Xs l 4 2 (by omega)
 have b5:=Xs l 5 4 (by omega)
 have b6:=Xs l 6 30 (by omega)
 have q1:qb (AC l)≤1:=CP _ _ (by omega) (by omega)
 have q2:=CP (Ab.atF l 5 4) 1 (by omega) (by omega)
 have c0:=Qd l 0 3 hl (by omega)
 have c1:=Qd l 1 5 hl (by omega)
 have c2:=Qd l 2 5 hl (by omega)
 have c3:=Qd l 3 6 hl (by omega)
 have c4:=Qd l 4 2 hl (by omega)
 have c5:=Qd l 5 4 hl (by omega)
 have c6:=Qd l 6 30 hl (by omega)
 have d0:=Yn L h2 (by omega)
 have hs:ZC [Ab.atF l 1 5,Ab.atF l 2 5,0]:=by
  intro x hx
  simp only [List.mem_cons,List.not_mem_nil,or_false] at hx
  unfold Ze
  rcases hx with rfl | rfl | rfl <;> omega
 have d1:=Wr [Ab.atF l 1 5,Ab.atF l 2 5,0] 0 hs (by omega)
 have s1:=Iy [Ab.atF l 1 5,Ab.atF l 2 5,0] 0
 obtain ⟨R,hR⟩:∃ R,R=bA (PT l L):=⟨_,rfl⟩
 have sR:Settled R:=hR▸ZX _
 rw [← hR]
 unfold PT vw at hR
 have hlq:AC l=Rat.divInt (1+Ab.atF l 3 6) (1+Ab.atF l 4 2):=rfl
 generalize Bo [Ab.atF l 1 5,Ab.atF l 2 5,0] 0=s at *
 generalize Fb L=C at *
 generalize Ab.atF l 1 5=x1 at *
 generalize Ab.atF l 2 5=x2 at *
 have d2:=QE C s (by unfold vm; omega) (by unfold vm; omega)
 have d3:=Kd 8 8 ⟨by omega,by omega⟩ ⟨by omega,by omega⟩
 change Fn _ _ _ (vA (pI 8 8)) at d3
 have s4:=FL 8 8 (by omega) (by omega)
 have s5:=Kw C s
 generalize pI 8 8=e8 at *
 have d4:=QE (C.add s) e8 (by unfold vm; omega) (by unfold vm; omega)
 have d5:=XB (1+Ab.atF l 3 6) (1+Ab.atF l 4 2) ⟨by omega,by omega⟩ ⟨by omega,by omega⟩
 rw [← hlq] at d5
 have d6:=XB (Ab.atF l 5 4) 1 ⟨by omega,by omega⟩ ⟨by omega,by omega⟩
 have d7:=JZ (AC l) (Rat.divInt (Ab.atF l 5 4) 1) (by unfold rm; omega) (by unfold rm; omega)
 have d8:=XB (1+Ab.atF l 6 30) 1 ⟨by omega,by omega⟩ ⟨by omega,by omega⟩
 generalize AC l=lq at *
 generalize Rat.divInt (Ab.atF l 5 4) 1=dq at *
 generalize Rat.divInt (1+Ab.atF l 6 30) 1=sq at *
 refine Fn.intro (fn:=Tryz.f18) Tryz.call18 Tryz.func18 rfl mixed 8 [] [6,7000] [] (by kernel_rfl) (Nat.le_of_ble_eq_true rfl) (Kp (Xb l) (Xq L)) (Xm ?_)
 simp (disch:=omega) only [AS.start,↓Xd,wG,seval]
 refine X0 d0 (X1 _) ?_
 simp (disch:=omega) only [vA,vC,↓Xd,wG,seval]
 refine X0 c0 (X1 _) ?_
 simp (disch:=omega) only [↓Xd,wG,seval]
 refine ⟨fun h0=>?_,fun h0=>?_⟩
 ·refine X0 c1 ⟨by rw [Xj]; exact Weak.rfl' _,Weak.rfl' _,Weak.rfl' _,trivial⟩ ?_
  simp (disch:=omega) only [↓Xd,wG,seval]
  refine X0 c2 ⟨by rw [Xj]; exact Weak.rfl' _,Weak.rfl' _,Weak.rfl' _,trivial⟩ ?_
  simp (disch:=omega) only [↓Xd,wG,seval]
  refine X0 d1 ⟨by rw [Xj]; exact KE rfl (Nat.le_refl _) fun j hj=>by match j,hj with | 0,_=>exact Weak.rfl' _ | 1,_=>exact Weak.rfl' _ | 2,_=>exact Weak.rfl' _ | j+3,h=>exact absurd h (by simp),Weak.rfl' _,trivial⟩ ?_
  simp (disch:=omega) only [vA,vC,qC,↓Xd,wG,seval]
  refine X0 d2 (X1 _) ?_
  simp (disch:=omega) only [vA,vC,qC,↓Xd,wG,seval]
  refine X0 d3 (X1 _) ?_
  simp (disch:=omega) only [vA,vC,qC,↓Xd,wG,seval]
  refine X0 d4 (X1 _) ?_
  simp (disch:=omega) only [vA,vC,qC,↓Xd,wG,seval]
  refine X0 c3 ⟨by rw [Xj]; exact Weak.rfl' _,Weak.rfl' _,Weak.rfl' _,trivial⟩ ?_
  simp (disch:=omega) only [↓Xd,wG,seval]
  refine X0 c4 ⟨by rw [Xj]; exact Weak.rfl' _,Weak.rfl' _,Weak.rfl' _,trivial⟩ ?_
  simp (disch:=omega) only [↓Xd,wG,seval]
  refine X0 d5 (X1 _) ?_
  simp (disch:=omega) only [qA,qC,↓Xd,wG,seval]
  refine X0 c5 ⟨by rw [Xj]; exact Weak.rfl' _,Weak.rfl' _,Weak.rfl' _,trivial⟩ ?_
  simp (disch:=omega) only [↓Xd,wG,seval]
  refine X0 d6 (X1 _) ?_
  simp (disch:=omega) only [qA,qC,↓Xd,wG,seval]
  refine X0 d7 (X1 _) ?_
  simp (disch:=omega) only [qA,qC,↓Xd,wG,seval]
  refine X0 c6 ⟨by rw [Xj]; exact Weak.rfl' _,Weak.rfl' _,Weak.rfl' _,trivial⟩ ?_
  simp (disch:=omega) only [↓Xd,wG,seval]
  refine X0 d8 (X1 _) ?_
  simp (disch:=omega) only [qA,qC,↓Xd,wG,seval]
  rw [if_pos h0] at hR
  exact Cv rfl VO rfl rfl rfl (XC sR (by rw [hR]; exact Weak.rfl' _))
 ·refine X0 c3 ⟨by rw [Xj]; exact Weak.rfl' _,Weak.rfl' _,Weak.rfl' _,trivial⟩ ?_
  simp (disch:=omega) only [↓Xd,wG,seval]
  refine X0 c4 ⟨by rw [Xj]; exact Weak.rfl' _,Weak.rfl' _,Weak.rfl' _,trivial⟩ ?_
  simp (disch:=omega) only [↓Xd,wG,seval]
  refine X0 d5 (X1 _) ?_
  simp (disch:=omega) only [qA,qC,↓Xd,wG,seval]
  refine X0 c5 ⟨by rw [Xj]; exact Weak.rfl' _,Weak.rfl' _,Weak.rfl' _,trivial⟩ ?_
  simp (disch:=omega) only [↓Xd,wG,seval]
  refine X0 d6 (X1 _) ?_
  simp (disch:=omega) only [qA,qC,↓Xd,wG,seval]
  refine X0 d7 (X1 _) ?_
  simp (disch:=omega) only [qA,qC,↓Xd,wG,seval]
  refine X0 c6 ⟨by rw [Xj]; exact Weak.rfl' _,Weak.rfl' _,Weak.rfl' _,trivial⟩ ?_
  simp (disch:=omega) only [↓Xd,wG,seval]
  refine X0 d8 (X1 _) ?_
  simp (disch:=omega) only [qA,qC,↓Xd,wG,seval]
  rw [if_neg h0] at hR
  exact Cv rfl VO rfl rfl rfl (XC sR (by rw [hR]; exact Weak.rfl' _))
def Ae (a d x:V2):Rat:=Q8 (x.sub a) d / Q8 d d
def Tc (s t:Rat):Rat:=if Nz s t<0 then 0 else Nz s t
def Ta (s t:Rat):Rat:=if 1<MV s t then 1 else MV s t
def MS (a d:V2) (lo hi:Rat):V2:=a.add (d.scale ((lo+hi)*Rat.divInt 1 2))
def U1 (p n b:V2):V2:=p.add (n.scale (Q8 (b.sub p) n / Q8 n n))
def Rj (a b:Sd):V2:=a.b.sub a.a
def G5 (a b:Sd):Rat:=Ae a.a (Rj a b) b.a
def G6 (a b:Sd):Rat:=Ae a.a (Rj a b) b.b
def Ia (a b:Sd):Option (V2×V2) :=
 if MW b.i a.i∧0<Q8 (b.a.sub a.a) a.i then
  if Tc (G5 a b) (G6 a b)<Ta (G5 a b) (G6 a b) then
   some (MS a.a (Rj a b) (Tc (G5 a b) (G6 a b)) (Ta (G5 a b) (G6 a b)),U1 (MS a.a (Rj a b) (Tc (G5 a b) (G6 a b)) (Ta (G5 a b) (G6 a b))) a.i b.a)
  else none
 else none
def ou (s:Sd):AV:=.ptr 24 (Xh (AJ s)) 0
def vP (v:V2):AV:=.ptr 8 (Xh (vC v)) 0
theorem Sy (s:Sd):Settled (ou s):=XV fun j _=>Xf (Z3 s) j
theorem UN (v:V2):Settled (vP v):=XV fun j _=>Xf (by simp [vC,Xb,X5]) j
theorem wL (s:Sd):Xh (AJ s) 0=.bool (sg s.a.x)∧Xh (AJ s) 1=X8 (X9 s.a.x.num.natAbs)∧Xh (AJ s) 2=.bool false∧Xh (AJ s) 3=X8 (X9 (qd s.a.x))∧Xh (AJ s) 4=.bool (sg s.a.y)∧Xh (AJ s) 5=X8 (X9 s.a.y.num.natAbs)∧Xh (AJ s) 6=.bool false∧Xh (AJ s) 7=X8 (X9 (qd s.a.y)):=⟨rfl,rfl,rfl,rfl,rfl,rfl,rfl,rfl⟩
theorem wM (v:V2):Xh (vC v) 0=.bool (sg v.x)∧Xh (vC v) 1=X8 (X9 v.x.num.natAbs)∧Xh (vC v) 2=.bool false∧Xh (vC v) 3=X8 (X9 (qd v.x))∧Xh (vC v) 4=.bool (sg v.y)∧Xh (vC v) 5=X8 (X9 v.y.num.natAbs)∧Xh (vC v) 6=.bool false∧Xh (vC v) 7=X8 (X9 (qd v.y)):=⟨rfl,rfl,rfl,rfl,rfl,rfl,rfl,rfl⟩
theorem Ll (a:Sd) (d x:V2) (ha:vb a.a≤1000) (hd:vb d≤2001) (hx:vb x≤1000) (h0:Q8 d d≠0):Fn Tryz.prog 192 [vA x,ou a,vP d] (qA (Ae a.a d x)):=by
 have s1:=QZ x a.a
 have q1:=KO (x.sub a.a) d
 have q2:=KO d d
 have c1:=AZ x a.a (by unfold rm; omega) (by unfold rm; omega)
 have c2:=Di (x.sub a.a) d (by unfold vm; omega) (by unfold vm; omega)
 have c3:=Di d d (by unfold vm; omega) (by unfold vm; omega)
 have c4:=Iw (Q8 (x.sub a.a) d) (Q8 d d) h0 (by unfold rm; omega) (by unfold rm; omega)
 obtain ⟨R,hR⟩:∃ R,R=qA (Ae a.a d x):=⟨_,rfl⟩
 have sR:Settled R:=hR▸Xc _
 rw [show Q8 (x.sub a.a) d / Q8 d d=Ae a.a d x from rfl,← hR] at c4
 rw [← hR]
 have sf:=wL a
 have vf:=wM d
 refine Fq Tryz.call192 Tryz.func192 5 [] [] [] (by simp [Xu,Sy,UN]) (Xm ?_)
 simp (disch:=omega) only [AS.start,vA,vC,ou,vP,sf,vf,↓Xd,wG,seval]
 refine X0 c1 (X1 _) ?_
 simp (disch:=omega) only [sf,vf,qA,qC,↓Xd,wG,seval]
 refine X0 c2 (X1 _) ?_
 simp (disch:=omega) only [sf,vf,qA,qC,↓Xd,wG,seval]
 refine X0 c3 (X1 _) ?_
 simp (disch:=omega) only [sf,vf,qA,qC,↓Xd,wG,seval]
 refine X0 c4 (X1 _) ?_
 simp (disch:=omega) only [hR,qA,qC,↓Xd,wG,seval]
 exact Jf rfl XS rfl rfl rfl sR (hR.trans rfl)
end
end Go.Ab.N
