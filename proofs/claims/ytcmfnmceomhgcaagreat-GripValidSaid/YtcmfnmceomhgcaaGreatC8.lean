/- Contracts of functions, for every argument that fits. -/
import Derived.Test.YtcmfnmceomhgcaaGreatC7
set_option linter.unusedSimpArgs false
set_option linter.unusedVariables false
namespace Go.Ab.N
open Go Go.RowKit Go.Proofs
noncomputable section
set_option maxRecDepth 10000
set_option maxHeartbeats 4000000
open Classical
def CB (Y:Lay):AO:=.row 0 1 (Xg [.ref Y.x Y.vx 0])
def XU (a:AV):AO:=.row 0 1 (Xg [a])
def VV (n:Nat)(o:AO):Prop:=o≠.unborn∧∀m,n≤m→Qo m o
theorem Hi {n:Nat}{a:AV}(h:∀m,n≤m→Jo m a):VV n (XU a):=⟨by simp[XU],fun m hm j hj=>by
 obtain rfl:j=0:=by omega
 exact h m hm⟩
theorem ZH {a:AV}{m v:Nat}(h:Jo m a):Qo m (.row v 1 (Xg [a])):=fun j hj=>by
 obtain rfl:j=0:=by omega
 exact h
theorem U8 (c:Code)(k:List Item):qP (some c) k=.code c :: k:=rfl
theorem kB (H:List AO)(Y:Lay)(v m n E K:Nat)(S:Nat→Tb)(hY:Y.Ok H v m n)(hH:Kt H)(hB:QV H)(hE:E≤n)(hn:n<100000)(hm:m<100000){Q:Nat}(hQ:Q≤15000000)
  (hq:∀k,k≤K→∀i j,i<m→j≤n→qb ((S k).t i j)≤Q) (hqc:∀k,k≤K→∀j,j≤n→qb ((S k).c j)≤Q)
  (hs:∀k,k<K→∃p r,LA E (S k) p∧Z3 (S k) n p m=some r∧S (k+1)=FM (S k) r p) (hend:∀j,j<E→0≤(S K).c j) :
  HCall Tryz.prog 129 [.ref Y.x Y.vx 0,I E] (HT H Y m n (S 0)) (I (-1)) (HT H Y m n (S K)):=by
 have hlen:=fun T=>DZ (H:=H) (Y:=Y) (m:=m) (n:=n) T
 obtain⟨n0,hn0⟩:∃n0,H.length=n0:=⟨_,rfl⟩
 have l0:=fun T=>(hlen T).trans hn0
 have e0:=fun T=>Bm (l0 T)
 have e1:=fun T=>FF (l0 T)
 have e2:=fun T=>aE (l0 T)
 have es2:∀T (x y z w:AO) l,(HT H Y m n T ++ x :: y :: z :: l).set (n0+2) w=HT H Y m n T ++ x :: y :: w :: l:=fun T x y z w l=>by
  rw[List.set_append_right _ _ (by rw[l0];omega),l0,show n0+2-n0=2 by omega];rfl
 have el:=fun T=>Zy (l0 T)
 have xlt:Y.x<n0:=hn0▸(List.getElem?_eq_some_iff.1 hY.x).1;refine HCall.introC (fn:=Tryz.f129) Tryz.call129 Tryz.func129 rfl mixed 8 [12,23] [] [] (by kernel_rfl) (Nat.le_of_ble_eq_true rfl) (X7 (Xa _)) (fun o ho=>Df _ hH o ho _ (by rw[hlen,hlen];exact Nat.le_refl _)) (Xl ?_);simp(disch:=omega)only[AS.start,e0,e1,e2,es2,el,l0,List.append_assoc,↓Xd,wG,seval];refine Xj (fun j:Nat×List AO×Bool=>⟨8,[12,23],[.ref Y.x Y.vx 0,I E,.ref n0 0 0,.any,.ref (n0+1) 0 0,.ref (n0+2+j.2.1.length) 0 0,.any,.any],[],(HT H Y m n (S j.1) ++ (CB Y :: XU (I 0) :: j.2.1)) ++ [XU (.bool j.2.2)]⟩) (fun j=>j.1≤K∧(j.2.2=false→j.1=K)∧∀o∈j.2.1,VV n0 o) (fun j=>2*(K-j.1)+j.2.2.toNat) (0,[],true) ⟨by omega,by simp,by simp⟩
  (Aw (by simp[Xm,I]) (by simp[CB,XU,I])) ?_
 rintro⟨k,G,b⟩ ⟨hk,hb,hG⟩ next
 simp only at hk hb hG;obtain⟨q0,hq0⟩:∃q0,q0=n0+2+G.length:=⟨_,rfl⟩
 have mk:∀T:Tb,∃Z,Z=HT H Y m n T ++ (CB Y :: XU (I 0) :: G):=fun T=>⟨_,rfl⟩
 obtain⟨Z,hZ⟩:=mk (S k);have zl:Z.length=q0:=by rw[hZ,el,hq0];simp;omega
 have z0:∀l,(Z ++ l)[n0]?=some (CB Y):=fun l=>by rw[hZ,List.append_assoc];exact e0 _ _ _
 have zz0:=Bm zl;have zz1:=FF zl;have zz2:=aE zl;have zs0:=CQ zl;have zL:=Zy zl;show Run _ _ ⟨8,[12,23],[.ref Y.x Y.vx 0,I E,.ref n0 0 0,.any,.ref (n0+1) 0 0,.ref (n0+2+G.length) 0 0,.any,.any],[],(HT H Y m n (S k) ++ (CB Y :: XU (I 0) :: G)) ++ [XU (.bool b)]⟩;rw[←hZ,←hq0];cases b with
 |false =>
  obtain rfl:=hb rfl;clear next
  have n1:n0+1<Z.length:=by omega
  have zs1:=fun o l=>Kv n1 o l
  have zg1:∀o l,(Z.set (n0+1) o ++ l)[n0+1]?=some o:=fun o l=>Q1 (List.getElem?_set_self n1) l
  have ht:∀o l,(Z.set (n0+1) o ++ l).take n0=HT H Y m n (S k):=fun o l=>by
   rw[hZ,List.set_append_right _ _ (by rw[l0];omega),l0,show n0+1-n0=1 by omega,List.append_assoc];exact Cf (l0 _) _
  have z1:∀l,(Z ++ l)[n0+1]?=some (XU (I 0)):=fun l=>by rw[hZ,List.append_assoc];exact e1 _ _ _ _
  unfold XU at zz0 z1 zg1;refine Xl ?_;simp(disch:=omega)only[zz0,z1,zs1,XU,↓Xd,wG,seval];refine WG (v:=I (-1)) (t:=4) (u:=3) rfl ?_ rfl (by rw[l0];exact ht _ _);show Ql Tryz.prog false 3 (.ref (n0+1) 0 0) (Z.set (n0+1) _ ++ _)=_;rw[AW,ww,K1,Q1 (List.getElem?_set_self n1),K2,jW];simp[Q4,Xg,I]
 |true =>
  have zb:Kt Z:=fun o ho q' hq'=>by
   rw[zl]at hq';rw[hZ]at ho;rcases List.mem_append.1 ho with h |h
   ·exact Df _ hH o h _ (by rw[hlen];omega)
   ·simp only[List.mem_cons]at h
    rcases h with rfl |rfl |h
    ·exact ZH (QG (by omega))
    ·exact ZH (X7 (Xa _))
    ·exact(hG o h).2 _ (by omega)
  have hbl:QV (CB Y :: XU (I 0) :: G):=fun o ho=>by
   rcases List.mem_cons.1 ho with rfl |ho
   ·simp[CB]
   rcases List.mem_cons.1 ho with rfl |h
   ·simp[XU]
   ·exact(hG o h).1
  have born:∀ (T:Tb) (l:List AO),QV l→∀id:Nat,((HT H Y m n T ++ (CB Y :: XU (I 0) :: G)) ++ l)[id]?≠some AO.unborn:=fun T l hl id=>Qz (Kg (Kg (OY _ hB) hbl) hl) id
  have zborn:=born (S k);rw[←hZ]at zborn;have zx:∀l,(Z ++ l)[Y.x]?=some (xO Y v m n):=fun l=>by rw[hZ,List.append_assoc];exact Q1 (dK hY _) _
  have zc:∀l,(Z ++ l)[Y.cid]?=some (Dj Y n (S k).c):=fun l=>by rw[hZ,List.append_assoc];exact Q1 (IW hY _) _
  have hen:HCall Tryz.prog 201 [.ref Y.x Y.vx 0,I E] (Z ++ [XU (.bool false)]) (.fn 228 [.ref (q0+2) 0 0,.ref (q0+1) 0 0]) (Z ++ [XU (.bool false),CB Y,XU (I E)]):=by
   have:=Rw (Z ++ [XU (.bool false)]) Y E;rw[zL,List.append_assoc]at this;exact this
  have hce1:JQ (Z ++ [XU (.bool false)]) (Z ++ [XU (.bool false),CB Y,XU (I E)]):=by
   have h1:=Zj (h:=Z ++ [XU (.bool false)]) (ob:=CB Y) (by simp[CB]);have h2:=Zj (h:=(Z ++ [XU (.bool false)]) ++ [CB Y]) (ob:=XU (I E)) (by simp[XU]);intro a w i f;rw[h1,h2,List.append_assoc,List.append_assoc];rfl
  unfold CB at z0;unfold XU at zz0;refine Xl ?_;simp(disch:=omega)only[zz0,z0,zs0,XU,J9,↓Xd,wG,seval];refine XD rfl hen hce1 (zborn _ (by intro o ho;rw[List.mem_singleton.1 ho];simp)) (X2 _) ?_;simp(disch:=omega)only[J9,↓Xd,wG,seval];have bl3:∀b,∀o∈[XU (.bool b),CB Y,XU (I E)],VV n0 o:=fun b o ho=>by
   simp only[List.mem_cons,List.not_mem_nil,or_false]at ho;rcases ho with rfl |rfl |rfl
   ·exact Hi fun m _=>X7 (X5 _)
   ·exact Hi fun m hm=>QG (by omega)
   ·exact Hi fun m _=>X7 (Xa _)
  refine Run.sub (s':=⟨8,[12,23],[.ref Y.x Y.vx 0,I E,.ref n0 0 0,.any,.ref (n0+1) 0 0,.ref q0 0 0,.any,.any],[(11,.fn 228 [.ref (q0+2) 0 0,.ref (q0+1) 0 0])],Z ++ [XU (.bool false),CB Y,XU (I E)]⟩) ?_ (Xi rfl (by simp[Xm,I]) (by simp[Xy,Xz]) (by simp[XU,CB,I]));have hG3:∀b,∀o∈G ++ [XU (.bool b),CB Y,XU (I E)],VV n0 o:=fun b o ho=>(List.mem_append.1 ho).elim (hG o) (bl3 b o)
  have zz3:=aF zl;have zs3:=Wc zl;have zbl:∀b,Kt (Z ++ [XU (.bool b),CB Y,XU (I E)]):=fun b=>Nw zb fun o ho m hm=>(bl3 b o ho).2 m (by omega)
  by_cases hk2:k<K
  rotate_left
  ·obtain rfl:k=K:=by omega
   refine Fs (gf:=228) (caps:=[.ref (q0+2) 0 0,.ref (q0+1) 0 0]) (Hn:=Z ++ [XU (.bool false),CB Y,XU (I E)]) rfl rfl rfl (fun t ht=>?_) ?_
   ·exact aN _ Y v m n E (q0+2) (q0+1) (S k).c t (zz2 _ _ _ _) (zz1 _ _ _) (zx _) (zc _) hE hn (by rw[ht.ch];exact Nat.le_refl _) (zbl _) hend
   ·refine Xl ?_
    simp(disch:=omega)only[zz0,zz3,zs3,zL,XU,CB,List.append_assoc,↓Xd,wG,seval];refine next (k,G ++ [XU (.bool false),CB Y,XU (I E)],false) _ ⟨hk,fun _=>rfl,hG3 _⟩ (by show 2*(k-k)+0<2*(k-k)+1;omega) ?_
    have eq3:q0+3=n0+2+(G ++ [XU (.bool false),CB Y,XU (I E)]).length:=by rw[List.length_append];simp only[List.length_cons,List.length_nil];omega
    show Sub _ _ ⟨8,[12,23],[.ref Y.x Y.vx 0,I E,.ref n0 0 0,.any,.ref (n0+1) 0 0,.ref (n0+2+(G ++ [XU (.bool false),CB Y,XU (I E)]).length) 0 0,.any,.any],[],(HT H Y m n (S k) ++ (CB Y :: XU (I 0) :: (G ++ [XU (.bool false),CB Y,XU (I E)]))) ++ [XU (.bool false)]⟩;rw[←eq3];refine Aw (by simp[Xm,I]) (by simp[hZ,XU,CB,I])
  ·obtain⟨p,r,hen2,hlv,hpv⟩:=hs k hk2
   have hl:=BO hlv;have hp:p<E:=hen2.1;have hr:r<m:=hl.1;have d0:(S k).t r p≠0:=by have:=hl.2.1;grind
   obtain⟨Z',hZ'⟩:=mk (S (k+1));have zl':Z'.length=q0:=by rw[hZ',el,hq0];simp;omega
   have hbelT:∀T,∀o∈HT H Y m n T,Qo (HT H Y m n T).length o:=fun T o ho=>Df _ hH o ho _ (by rw[hlen];exact Nat.le_refl _)
   have hx0:∀T,Jo (HT H Y m n T).length (.ref Y.x Y.vx 0):=fun T=>QG (by rw[l0];omega)
   have c1:∀l,HCall Tryz.prog 202 [.ref Y.x Y.vx 0,I p] (Z ++ l) (I r) (Z ++ l):=fun l=>by
    have h1:=UA H Y v m n p (S k) hY hH hB (by omega) hn hm hQ (hq k (by omega));rw[hlv]at h1;have h2:=h1.frame rfl (by
     intro a ha;simp only[List.mem_cons,List.not_mem_nil,or_false]at ha;rcases ha with rfl |rfl
     ·exact hx0 _
     ·exact X7 (Xa _)) (hbelT _) ((CB Y :: XU (I 0) :: G) ++ l)
    rw[←List.append_assoc,←hZ]at h2;exact h2
   have c2:∀l,HCall Tryz.prog 203 [.ref Y.x Y.vx 0,I r,I p] (Z ++ l) (.tup []) (Z' ++ l):=fun l=>by
    have h1:=jM H Y v m n r p (S k) hY hH hB hr (by omega) d0 hn hm hQ (hq k (by omega)) (hqc k (by omega));rw[←hpv]at h1;have h2:=h1.frame (by rw[hlen,hlen]) (by
     intro a ha;simp only[List.mem_cons,List.not_mem_nil,or_false]at ha;rcases ha with rfl |rfl |rfl
     ·exact hx0 _
     ·exact X7 (Xa _)
     ·exact X7 (Xa _)) (hbelT _) ((CB Y :: XU (I 0) :: G) ++ l)
    rw[←List.append_assoc,←List.append_assoc,←hZ,←hZ']at h2;exact h2
   have hce2:∀l,JQ (Z ++ l) (Z' ++ l):=fun l=>Fy (by rw[zl,zl']) (by rw[hZ,hZ'];exact Fy (by rw[hlen,hlen]) (Rn hY _ _) _) l
   have zb':Kt Z':=fun o ho q' hq'=>by
    rw[zl']at hq';rw[hZ']at ho;rcases List.mem_append.1 ho with h |h
    ·exact Df _ hH o h _ (by rw[hlen];omega)
    ·simp only[List.mem_cons]at h
     rcases h with rfl |rfl |h
     ·exact ZH (QG (by omega))
     ·exact ZH (X7 (Xa _))
     ·exact(hG o h).2 _ (by omega)
   have zbl':∀b,Kt (Z' ++ [XU (.bool b),CB Y,XU (I E)]):=fun b=>Nw zb' fun o ho m hm=>(bl3 b o ho).2 m (by omega)
   have z0':∀l,(Z' ++ l)[n0]?=some (CB Y):=fun l=>by rw[hZ',List.append_assoc];exact e0 _ _ _
   have y0:=Bm zl';have y3:=aF zl';have ys0:=CQ zl';have ys3:=Wc zl';have yL:=Zy zl';have bor3:∀b,QV [XU (.bool b),CB Y,XU (I E)]:=fun b o ho=>(bl3 b o ho).1
   unfold CB at z0';unfold XU at y0;refine Er (some (.exit 2)) (fun c e=>.inr ⟨2,by cases e;rfl⟩) (gf:=228) (caps:=[.ref (q0+2) 0 0,.ref (q0+1) 0 0]) (Hn:=Z' ++ [XU (.bool true),CB Y,XU (I E)]) rfl rfl rfl (fun t ht=>?_) ?_
   ·refine jd _ _ Y v m n E (q0+2) (q0+1) p (S k).c t (.exit 2) (zz2 _ _ _ _) (zz1 _ _ _) (zx _) (zc _) hE hn (by rw[ht.ch];exact Nat.le_refl _) (zbl' _) (by rw[yL,zL];rfl) hp hen2.2.1 hen2.2.2 ?_
    refine MV (str:=[]) (hcs:=[]) (some (.exit 2)) (fun c e=>.inr ⟨2,by cases e;rfl⟩) ht mixed (by kernel_rfl) (by kernel_rfl) rfl (fun p hp=>?_) (fun o ho=>zbl' _ o ho _ (by rw[yL,zL];exact Nat.le_refl _)) (fun l' r' hr'=>?_)
    ·obtain rfl:p=12:=by simpa using hp
     exact Nat.le_of_ble_eq_true rfl
    show Run _ _ ⟨8,[12,23],[.ref Y.x Y.vx 0,I E,.ref n0 0 0,.any,.ref (n0+1) 0 0,.ref q0 0 0,.any,.any],[(12,I p),(11,.fn 228 [.ref (q0+2) 0 0,.ref (q0+1) 0 0])],Z ++ [XU (.bool false),CB Y,XU (I E)]⟩;have fr:¬ (r:Int)<0:=by omega
    refine Xl ?_;simp(disch:=omega)only[J9,wQ,↓Xd,wG,seval];refine Uo hr' ?_;refine XL 38 ?_;simp(disch:=omega)only[z0,J9,wQ,↓Xd,wG,seval];refine XD rfl (c1 _) (Ku _) (zborn _ (bor3 _)) (X2 _) ?_;simp(disch:=omega)only[fr,z0,J9,wQ,↓Xd,wG,seval];refine XD rfl (c2 _) (hce2 _) (zborn _ (bor3 _)) (X2 _) ?_;simp(disch:=omega)only[y0,ys0,z0',XU,J9,wQ,↓Xd,wG,seval];refine cK (q:=(l',{ r' with state:=.busy })) (l:=0) (r:=jj) (r1:=rB (.exit 2)) rfl rfl rfl rfl ?_;show List.take _ _=_;exact List.take_of_length_le (by rw[zL,yL];exact Nat.le_refl _)
   ·rw[U8]
    show Run _ _ ⟨8,[12,23],[.ref Y.x Y.vx 0,I E,.ref n0 0 0,.any,.ref (n0+1) 0 0,.ref q0 0 0,.any,.any],[(11,.fn 228 [.ref (q0+2) 0 0,.ref (q0+1) 0 0])],Z' ++ [XU (.bool true),CB Y,XU (I E)]⟩;refine Xl ?_;simp(disch:=omega)only[y0,y3,ys3,yL,XU,CB,List.append_assoc,↓Xd,wG,seval];refine next (k+1,G ++ [XU (.bool true),CB Y,XU (I E)],true) _ ⟨hk2,(fun e=>absurd e (by simp)),hG3 _⟩ (by show 2*(K-(k+1))+1<2*(K-k)+1;omega) ?_
    have eq3:q0+3=n0+2+(G ++ [XU (.bool true),CB Y,XU (I E)]).length:=by rw[List.length_append];simp only[List.length_cons,List.length_nil];omega
    show Sub _ _ ⟨8,[12,23],[.ref Y.x Y.vx 0,I E,.ref n0 0 0,.any,.ref (n0+1) 0 0,.ref (n0+2+(G ++ [XU (.bool true),CB Y,XU (I E)]).length) 0 0,.any,.any],[],(HT H Y m n (S (k+1)) ++ (CB Y :: XU (I 0) :: (G ++ [XU (.bool true),CB Y,XU (I E)]))) ++ [XU (.bool true)]⟩;rw[←eq3];refine Aw (by simp[Xm,I]) (by simp[hZ',XU,CB,I])
theorem Zr (t:Bool):WeakL [.bool false,.sl 0 0 (fun _=>.any) t,.bool false,.sl 0 0 (fun _=>.any) t] (qC 0) :=
 have h1:X9 (0:Rat).num.natAbs=[]:=by rw[Rat.zero_num];simp[Qi]
 have h2:X9 (qd (0:Rat))=[]:=Mp rfl
 ⟨Weak.rfl' _,Zq h1,Weak.rfl' _,Zq h2,trivial⟩
theorem H3 (N:Nat)(j:Nat):Weak (ZF zeroR j) (Xq (fun _=>0) j):=by
 rw[Fb _ _ (by simp[zeroR])];show Weak (zeroR.getD (j%4) .any) ((qC 0).getD (j%4) .any);obtain⟨w1,w2,w3,w4,_⟩:=Zr true;have h:j%4<4:=Nat.mod_lt _ (by omega);generalize j%4=i at *
 match i,h with
 |0,_=>exact w1
 |1,_=>exact w2
 |2,_=>exact w3
 |3,_=>exact w4
theorem rt {P:Program}{fn:Func}{str hcs:List Nat}{b:Nat}{H:List AO}{s:AS}(hr:fn.results=#[])(hH:s.h=H):RetE (LB P fn str hcs b (.tup []) H) s :=
 ⟨.tup [],by show ZO P fn s=_;simp[ZO,hr,Jg,Bd],rfl,hH⟩
def IU (Y:Lay)(v m n:Nat)(a:AV):AO:=.row Y.vx 6 (Xg [I v,I m,I n,.osl Y.tid Y.tv 1 0 m,a,.osl Y.bid Y.bv 1 0 m])
def Ag (c:Nat→Rat)(k:Nat):Nat→Rat:=fun j=>if j<k then c j else 0
theorem EG (c:Nat→Rat)(k:Nat):(fun i=>if i=k then c k else Ag c k i)=Ag c (k+1):=funext fun i=>by
 unfold Ag;by_cases h:i=k
 ·rw[if_pos h,if_pos (by omega),h]
 ·rw[if_neg h]
  by_cases h2:i<k
  ·rw[if_pos h2,if_pos (by omega)]
  ·rw[if_neg h2,if_neg (by omega)]
theorem Rf (Y:Lay)(v m n:Nat){a:AV}{q:Nat}(hb:Jo q a)(h1:Y.tid<q)(h2:Y.bid<q):Qo q (IU Y v m n a):=fun j hj=>Dg q (by
 intro x hx;simp only[List.mem_cons,List.not_mem_nil,or_false]at hx;rcases hx with rfl |rfl |rfl |rfl |rfl |rfl
 ·exact X7 (Xa _)
 ·exact X7 (Xa _)
 ·exact X7 (Xa _)
 ·exact JT h1
 ·exact hb
 ·exact JT h2) j
theorem Sq (H:List AO)(Y:Lay)(v m n:Nat)(T:Tb)(a:AV)(g:FuncId)(caps:List AV)(c:Nat→Rat)
  (hx:H[Y.x]?=some (IU Y v m n a)) (ht:H[Y.tid]?=some (tO Y m n)) (hb:H[Y.bid]?=some (De Y m T.b)) (hr:∀i,i<m→H[Y.rid i]?=some (CZ Y n i (T.t i)))
  (hxt:Y.x≠Y.tid) (hxb:Y.x≠Y.bid) (hxr:∀i,i<m→Y.x≠Y.rid i) (hH:Kt H) (hB:QV H) (hn:n<100000) (hm:m<100000) {Q:Nat} (hQ:Q≤15000000)
  (hq:∀i k,i<m→k≤n→qb (T.t i k)≤Q) (hqc:∀k,k≤n→qb (c k)≤Q) (hbn:∀i,i<m→T.b i≤n∧c (T.b i)=0) (hcn:c n=0)
  (hf:∀k:Nat,k<n→Fn Tryz.prog g (I k :: caps) (qA (c k))) :
  HCall Tryz.prog 127 [.ref Y.x Y.vx 0,.fn g caps] H (.tup []) (H.set Y.x (IU Y v m n (.osl H.length 0 4 0 (n+1))) ++ [.row 0 ((n+1)*4) (Xq (ZZ n c))]):=by
 have xlt:Y.x<H.length:=(List.getElem?_eq_some_iff.1 hx).1;have tlt:Y.tid<H.length:=(List.getElem?_eq_some_iff.1 ht).1;have blt:Y.bid<H.length:=(List.getElem?_eq_some_iff.1 hb).1;obtain⟨n0,hn0⟩:∃n0,H.length=n0:=⟨_,rfl⟩
 obtain⟨K,hK⟩:∃K,K=H.set Y.x (IU Y v m n (.osl n0 0 4 0 (n+1))):=⟨_,rfl⟩
 have kl:K.length=n0:=by rw[hK,List.length_set];exact hn0
 have kx:∀l,(K ++ l)[Y.x]?=some (IU Y v m n (.osl n0 0 4 0 (n+1))):=Q1 (by rw[hK,List.getElem?_set_self xlt]);have kt:∀l,(K ++ l)[Y.tid]?=some (tO Y m n):=Q1 (by rw[hK,List.getElem?_set_ne hxt];exact ht);have kb:∀l,(K ++ l)[Y.bid]?=some (De Y m T.b):=Q1 (by rw[hK,List.getElem?_set_ne hxb];exact hb);have kr:∀ {i:Nat},i<m→∀l,(K ++ l)[Y.rid i]?=some (CZ Y n i (T.t i)):=fun hi=>Q1 (by rw[hK,List.getElem?_set_ne (hxr _ hi)];exact hr _ hi)
 have ks:∀l,(H ++ l).set Y.x (IU Y v m n (.osl n0 0 4 0 (n+1)))=K ++ l:=fun l=>by rw[Kv xlt,hK]
 have kbel:∀q,n0<q→∀o∈K,Qo q o:=fun q hq' o ho=>by
  rw[hK]at ho;rcases List.mem_or_eq_of_mem_set ho with h |h
  ·exact hH o h q (by omega)
  ·rw[h];exact Rf Y v m n (JT (by omega)) (by omega) (by omega)
 have kborn:QV K:=by rw[hK];exact Zh hB (by simp[IU])
 have kbel2:∀f,Kt (K ++ [.row 0 ((n+1)*4) (Xq f)]):=fun f o ho q hq'=>by
  rw[List.length_append,kl]at hq';rcases List.mem_append.1 ho with h |h
  ·exact kbel q (by simp at hq';omega) o h
  ·rw[List.mem_singleton.1 h];exact ZI _ _ _ _
 have x0:=hx;have hx0:=Q1 hx;unfold IU at kx ks hx0 x0;unfold I at ks;have tn:((n:Int)+1).toNat=n+1:=by omega
 unfold tO at kt;unfold De at kb;unfold CZ at kr;have e0:=Bm hn0;have el:=Zy hn0;have z0:=Bm kl;have z1:=FF kl;have zl:=Zy kl;have zs0:=CQ kl;have bx:Jo (n0+1) (.ref Y.x Y.vx 0)=True:=eq_true (QG (by omega));rw[hn0,←hK];refine HCall.intro (fn:=Tryz.f127) Tryz.call127 Tryz.func127 rfl mixed 7 [19,20,36,37,38] [4,5003,9,10003,10007,10010] [9] (by kernel_rfl) (Nat.le_of_ble_eq_true rfl) (Xl ?_);simp(disch:=omega)only[AS.start,x0,hx0,hn0,e0,el,ks,kx,tn,List.append_assoc,↓Xd,wG,seval];have c0:Xq (fun _=>0)=Xq (ZZ n (Ag c 0)):=by
  congr 1;funext j;unfold ZZ Ag;rw[if_neg (Nat.not_lt_zero _)];split <;> rfl
 refine Run.sub ?_ (QL n0 (Xq (fun _=>0)) (by exact z0 _ _) (fun j _=>fun c' v' _ _ h=>H3 0 j c' v' h));refine Xj (fun k:Nat=>⟨7,[19,20,36,37,38],[.ref Y.x Y.vx 0,.fn g caps,.any,.any,.any,.any,.any],[(19,I n),(20,I k)],K ++ [.row 0 ((n+1)*4) (Xq (ZZ n (Ag c k)))]⟩) (fun k=>k≤n) (fun k=>n-k) 0 (by omega)
  (Xi rfl (by simp[Xm,I]) (by simp[Xy,Xz,I]) (by rw[←c0];exact zs0 _ _ _)) ?_
 intro k hk next
 by_cases hk2:k<n
 ·have c1:=hf k hk2
  have hst:=SM (Ag c k) (show k≤n by omega) (c k);rw[EG]at hst;have nx:=next (k+1)
  refine Xl ?_;simp(disch:=omega)only[kx,z0,zl,zs0,List.append_assoc,↓Xd,wG,seval];refine X0 c1 (X2 _) ?_;simp(disch:=omega)only[kx,z0,zl,zs0,qC,List.append_assoc,↓Xd,wG,seval];exact nx _ (by omega) (by omega) (Xi rfl (by simp[Xm,I]) (by simp[Xy,Xz,I]) (by rw[←hst];rfl))
 obtain rfl:k=n:=by omega
 clear next
 have cn:ZZ k (Ag c k)=ZZ k c:=HF fun j hj=>by
  unfold Ag;by_cases h:j<k
  ·rw[if_pos h]
  ·rw[if_neg h,show j=k by omega,hcn]
 rw[cn];refine Xl ?_;simp(disch:=omega)only[kx,kb,List.append_assoc,↓Xd,wG,seval];obtain⟨Z,hZ⟩:∃Z,Z=K ++ [AO.row 0 ((k+1)*4) (Xq (ZZ k c))]:=⟨_,rfl⟩
 rw[←hZ];have zt:=fun i (hi:i<m)=>kr hi [AO.row 0 ((k+1)*4) (Xq (ZZ k c))]
 have zx:=kx [AO.row 0 ((k+1)*4) (Xq (ZZ k c))];have zt2:=kt [AO.row 0 ((k+1)*4) (Xq (ZZ k c))];have zb:=kb [AO.row 0 ((k+1)*4) (Xq (ZZ k c))];have zc:=z0 (AO.row 0 ((k+1)*4) (Xq (ZZ k c))) [];have zbel:=kbel2 (ZZ k c);have zborn:QV Z:=by rw[hZ];exact Kg kborn (fun o ho=>by rw[List.mem_singleton.1 ho];simp)
 rw[←hZ]at zt zx zt2 zb zc zbel;refine Xj (fun i:Nat=>⟨7,[19,20,36,37,38],[.ref Y.x Y.vx 0,.fn g caps,.any,.any,.any,.any,.any],[(36,.osl Y.bid Y.bv 1 0 m),(37,I m),(38,I i)],Z⟩) (fun i=>i≤m) (fun i=>m-i) 0 (by omega)
  (Xi rfl (by simp[Xm,I]) (by simp[Xy,Xz,I]) rfl) ?_
 intro i hi next
 by_cases hi2:i<m
 ·obtain⟨hb1,hb2⟩:=hbn i hi2
  have nx:=next (i+1)
  have hbt:Y.rid i≠n0:=fun g=>by
   have:=zt i hi2;have h1:=(List.getElem?_eq_some_iff.1 (hr i hi2)).1;omega
  have hw:=Yh Z n0 (Y.rid i) 0 (Y.rv i) (k+1) (ZZ k c) (ZZ k (T.t i)) (T.b i) (Ne.symm hbt) zc (zt i hi2) (by omega) (by omega) (Q:=Q) (fun j hj=>by rw[Ez c (by omega)];exact hqc j (by omega)) (fun j hj=>by rw[Ez _ (by omega)];exact hq i j hi2 (by omega)) (by omega) zbel;have e1:Z.set n0 (.row 0 ((k+1)*4) (Xq (fun j=>ZZ k c j-ZZ k c (T.b i)*ZZ k (T.t i) j)))=Z:=by
   rw[Ez c hb1,hb2,show(fun j=>ZZ k c j-0*ZZ k (T.t i) j)=ZZ k c from funext fun j=>by grind];exact List.ext_getElem? fun j=>by
    by_cases e:n0=j
    ·rw[←e,zc,List.getElem?_set_self (List.getElem?_eq_some_iff.1 zc).1]
    ·rw[List.getElem?_set_ne e]
  rw[e1]at hw;have zr:=zt i hi2;have fb:(if i<m then T.b i else 0)=T.b i:=if_pos hi2;refine Xl ?_;simp(disch:=omega)only[zx,zt2,zb,zr,fb,↓Xd,wG,seval];refine XD rfl hw (Ku _) (Qz zborn) (X2 _) ?_;simp(disch:=omega)only[↓Xd,wG,seval];exact nx _ (by omega) (by omega) (Xi rfl (by simp[Xm,I]) (by simp[Xy,Xz,I]) rfl)
 ·obtain rfl:i=m:=by omega
  refine Xl ?_;simp(disch:=omega)only[↓Xd,wG,seval];exact rt rfl rfl
def Z5 (l:List Rat):AV:=cS qC 4 0 l
theorem XX (l:List Rat):Z5 l=.sl l.length (l.length*4) (Xq fun i=>l.getD i 0) false:=nrfl rfl
theorem Zo (f:Nat→Rat)(j:Nat):Settled (Xq f j):=Xe (l:=qC (f (j/4))) (by simp[qC,Xc,X5]) _
theorem Qf (l:List Rat):Settled (Z5 l):=Qk fun j _=>Zo (fun i=>l.getD i 0) j
def Pv (n:Nat)(f:Nat→Rat):AV:=.sl (n+1) ((n+1)*4) (Xq (ZZ n f)) false
theorem GJ (n:Nat)(f:Nat→Rat):Settled (Pv n f):=Qk fun j _=>Zo _ j
def uB (m n:Nat)(T:Tb):AV:=.sl m m (fun i=>Pv n (T.t i)) false
theorem Pz (m n:Nat)(T:Tb):Settled (uB m n T):=Qk fun j _=>GJ _ _
def OV (m:Nat)(T:Tb):List Int:=(List.range m).map fun i=>(T.b i:Int)
theorem FZ (m:Nat)(T:Tb):(OV m T).length=m:=by simp[OV]
theorem Is {m:Nat}(T:Tb){i:Nat}(h:i<m):(OV m T).getD i 0=T.b i:=by
 unfold OV;rw[List.getD_eq_getElem?_getD,List.getElem?_map,List.getElem?_range h];rfl
def xC (v m n:Nat)(T:Tb):List AV:=[I v,I m,I n,uB m n T,Pv n T.c,X8 (OV m T)]
def xP (v m n:Nat)(T:Tb):AV:=.ptr 6 (Xg (xC v m n T)) 0
theorem FQ (v m n:Nat)(T:Tb):Settled (xP v m n T):=XN fun j _=>Xe (l:=xC v m n T) (by simp[xC,Xa,Pz,GJ,Xc]) j
theorem ja (s:List Int)(v:Int)(hl:s.length<1048576):Fn Tryz.prog 207 [X8 s,I v] (I (M2 (fun x=>decide (v=x)) s)):=by
 refine Fq Tryz.call207 Tryz.func207 6 [6,7,8] [] [] (by simp[Xc,Xa]) (Xl ?_);simp only[AS.start,Xu,↓X6,wF,seval];refine Xj (fun j:Nat=>⟨6,[6,7,8],[X8 s,I v,.any,.any,.any,.any],[(6,X8 s),(7,I s.length),(8,I j)],[]⟩) (fun j=>j≤s.length∧∀i,i<j→(fun x=>decide (v=x)) (s.getD i 0)=false) (fun j=>s.length-j) 0 ⟨by omega,by omega⟩
  (Xi rfl (by simp[Xm,Xu,I]) (by simp[Xy,Xz,Xu,I]) rfl) ?_
 rintro j ⟨hj,hno⟩ next
 have w1:=wj j (by omega);refine Xl ?_;simp only[Xu,w1,↓X6,wF,seval];refine⟨fun h=>⟨h,h,?_⟩,fun h=>Xk (v:=I (-1)) rfl rfl (Xa _) ?_⟩
 ·refine⟨fun ht=>Xk (v:=I j) rfl rfl (Xa _) ?_,fun hf=>next (j+1) _ ⟨by omega,fun i hi=>?_⟩ (by omega) (Xi rfl ?_ ?_ rfl)⟩
  ·rw[M3 h (decide_eq_true ht) hno]
  ·by_cases e:i=j
   ·rw[e];exact decide_eq_false hf
   ·exact hno i (by omega)
  ·simp[Xm,Xu,I]
  ·simp[Xy,Xz,Xu,I]
 ·rw[Hr fun i hi=>hno i (by omega)]
theorem Wk {m n e:Nat}{T:Tb}(h:T.Ok m n e){i:Nat}(hi:i<m):KU m n T (T.b i)=T.t i n∧∀i',i'<m→i'≠i→T.b i'≠T.b i:=by
 have hne:∀i',i'<m→i'≠i→T.b i'≠T.b i:=fun i' hi' hn g=>by
  have h1:=h.unit i' i hi' hi;have h2:=h.unit i' i' hi' hi';rw[g,h1,if_neg hn,if_pos rfl]at h2;exact absurd h2 (by decide)
 refine⟨?_,hne⟩;unfold KU;rw[At hi fun i' hi' hn=>if_neg (hne i' hi' hn),if_pos rfl]
theorem jC (v m n e:Nat)(T:Tb)(k:Nat)(h:T.Ok m n e)(hm:m<100000)(hn:n<100000):Fn Tryz.prog 137 [xP v m n T,I k] (qA (KU m n T k)):=by
 have c1:=ja (OV m T) k (by rw[FZ];omega);obtain⟨R,hR⟩:∃R,R=qA (KU m n T k):=⟨_,rfl⟩
 have sR:Settled R:=hR▸Xb _;have sX:=FQ v m n T;rw[←hR];by_cases hex:∃i,i<m∧T.b i=k
 ·obtain⟨i,hi,rfl⟩:=hex
  obtain⟨h1,h2⟩:=Wk h hi;rw[h1]at hR;have e1:M2 (fun x=>decide (((T.b i:Nat):Int)=x)) (OV m T)=i:=M3 (by rw[FZ];exact hi) (by rw[Is T hi];simp) fun j hj=>by
   rw[Is T (by omega)];have:=h2 j (by omega) (by omega);exact decide_eq_false (by omega)
  rw[e1]at c1;have w1:=Bw (T.t i) (Nat.le_refl n);have w2:=Bg (T.t i) (Nat.le_refl n);refine Fq Tryz.call137 Tryz.func137 6 [] [] [] (by simp[sX,Xa]) (Xl ?_);simp(disch:=omega)only[AS.start,xP,xC,↓Xd,wG,seval];refine X1 c1 rfl ?_;simp(disch:=omega)only[uB,Pv,w1,w2,qC,↓Xd,wG,seval];exact J7 rfl XT rfl rfl rfl sR (hR.trans rfl)
 ·have hno:∀i,i<m→T.b i≠k:=fun i hi g=>hex ⟨i,hi,g⟩
  have e1:M2 (fun x=>decide ((k:Int)=x)) (OV m T) = -1:=Hr fun j hj=>by
   rw[FZ]at hj;rw[Is T hj];have:=hno j hj;exact decide_eq_false (by omega)
  rw[e1]at c1;rw[show KU m n T k=0 from KP fun i hi=>if_neg (hno i hi)]at hR;refine Fq Tryz.call137 Tryz.func137 6 [] [] [] (by simp[sX,Xa]) (Xl ?_);simp(disch:=omega)only[AS.start,xP,xC,↓Xd,wG,seval];refine X1 c1 rfl ?_;simp(disch:=omega)only[↓Xd,wG,seval];exact Q9 rfl XT rfl rfl rfl (hR.trans rfl) sR (Zr _)
theorem Kd {p:AV→Prop}{a b:AV}(ha:p a)(hb:p b):∀x∈[a,b],p x:=fun x hx=>by
 rcases List.mem_cons.1 hx with rfl |hx
 ·exact ha
 ·rw[List.mem_singleton.1 hx];exact hb
theorem sN (f:Nat→Rat):Ag f 0=fun _=>0:=funext fun i=>if_neg (Nat.not_lt_zero i)
theorem Rj {X:Env}{M:Md}{o:Oper}{g:FuncId}{a:AV}{args as':List AV}{K:AS→Prop}{s:AS}{r:AV}(h:Fn X.P g as' r)(ha:WeakL (a :: args) as') (hK:K (s.putO o.dst r)) :
  FV X M o (.mfn g a) args K s :=
 ⟨r,s.h,⟨.inl g,a :: args,rfl,.inl ⟨_,ha,h.call,h.settled,rfl⟩⟩,hK⟩
def Al (v m n:Nat)(T:Tb):List Rat:=(List.range v).map fun k=>KU m n T k-KU m n T (v+k)
theorem K8 (f:Nat→Rat){v k:Nat}(h:k<v):((List.range v).map f).getD k 0=f k:=by
 rw[List.getD_eq_getElem?_getD,List.getElem?_map,List.getElem?_range h];rfl
theorem AF {f g:Nat→Rat}{N:Nat}(h:∀ k,k<N→f k=g k)(j:Nat)(hj:j<N*4):Xq f j=Xq g j:=by
 unfold Xq;rw[h (j/4) (by omega)]
theorem jQ (v m n e:Nat)(T:Tb)(h:T.Ok m n e)(hm:m<100000)(hn:n<100000)(hv:v<100000)(hq:∀k,qb (KU m n T k)≤10000000):Fn Tryz.prog 134 [xP v m n T,.mfn 137 (xP v m n T)] (Z5 (Al v m n T)):=by
 have sX:=FQ v m n T;obtain⟨f,hf⟩:∃f:Nat→Rat,f=fun k=>KU m n T k-KU m n T (v+k):=⟨_,rfl⟩
 have tv:((v:Int)).toNat=v:=by omega
 refine Fq Tryz.call134 Tryz.func134 7 [13,14] [] [] (by simp[sX,SV]) (Xl ?_);simp(disch:=omega)only[AS.start,xP,xC,tv,↓Xd,wG,seval];refine Run.sub ?_ (QL 0 (Xq (fun _=>0)) rfl (fun j _=>fun c' v' _ _ h=>H3 0 j c' v' h));refine Xj (fun k:Nat=>⟨7,[13,14],[xP v m n T,.mfn 137 (xP v m n T),.any,.any,.any,.osl 0 0 4 0 v,.any],[(13,I v),(14,I k)],[.row 0 (v*4) (Xq (Ag f k))]⟩) (fun k=>k≤v) (fun k=>v-k) 0 (by omega)
  (Xi rfl (by simp[Xm,I,xP,xC,Xu]) (by simp[Xy,Xz,I]) (by rw[sN];rfl)) ?_
 intro k hk next
 by_cases hk2:k<v
 ·have c1:=jC v m n e T k h hm hn
  have c2:=jC v m n e T (v+k) h hm hn;have q1:=hq k;have q2:=hq (v+k);have c3:=EY (KU m n T k) (KU m n T (v+k)) (by unfold rm;omega) (by unfold rm;omega);have hst:=Ep (Ag f k) k (f k);rw[EG]at hst;have nx:=next (k+1)
  have fk:f k=KU m n T k-KU m n T (v+k):=by rw[hf]
  rw[fk]at hst;refine Xl ?_;simp(disch:=omega)only[xP,xC,↓Xd,wG,seval];refine Rj c1 (X2 _) ?_;simp(disch:=omega)only[xP,xC,↓Xd,wG,seval];refine Rj c2 (X2 _) ?_;simp(disch:=omega)only[↓Xd,wG,seval];refine X1 c3 rfl ?_;simp(disch:=omega)only[qC,↓Xd,wG,seval];exact nx _ (by omega) (by omega) (Xi rfl (by simp[Xm,I,xP,xC,Xu]) (by simp[Xy,Xz,I]) (by rw[←hst];rfl))
 ·obtain rfl:k=v:=by omega
  refine Xl ?_;simp(disch:=omega)only[↓Xd,wG,seval];refine ZP rfl ?_;rw[XX];have hl:(Al k m n T).length=k:=by simp[Al]
  rw[hl];refine ZR (.inl rfl) (by omega) (by omega) fun j hj=>?_
  have:Xq (Ag f k) (0+j)=Xq (fun i=>(Al k m n T).getD i 0) j:=by
   rw[Nat.zero_add];refine AF (N:=k) (fun i hi=>?_) j hj;unfold Al Ag;rw[K8 _ hi,if_pos hi,hf]
  rw[this];exact(Zo _ _).sees _
theorem SL (f:Nat→Rat)(N:Nat)(x:Rat):Qd (N*4) (Xq f) 4 (Xg (qC x))=Xq (fun i=>if i=N then x else f i):=by
 rw[←Ep];funext j;rw[Bj];have hl:(qC x).length=4:=rfl;unfold Qd;by_cases h1:j<N*4
 ·rw[if_pos h1,if_neg (by omega)]
 ·rw[if_neg h1]
  by_cases h2:j<N*4+4
  ·rw[if_pos h2,if_pos (by omega)];rfl
  ·rw[if_neg h2,if_neg (by omega)]
theorem US (a:Rat):∀j,j<4→((qC a).getD j .any).one=true:=fun j hj=>by
 match j,hj with
 |0,_=>rfl
 |1,_=>rfl
 |2,_=>rfl
 |3,_=>rfl
 |j+4,h=>omega
theorem Jn (x:Rat):∀a∈qC x,Settled a:=by simp[qC,Xc,X5]
theorem EC (q v:Nat)(x:Rat):Qo q (.row v 4 (Xg (qC x))):=JS (Jn x)
theorem uA (l:List Rat)(E:Nat)(hl:l.length<49)(hE:∀i,i<l.length→qb (l.getD i 0)≤E) (hE2:E≤2083000):Fn Tryz.prog 179 [Z5 l] (qA (XK (fun i=>l.getD i 0) l.length)):=by
 obtain⟨f,hf⟩:∃f:Nat→Rat,f=fun i=>l.getD i 0:=⟨_,rfl⟩
 obtain⟨N,hN⟩:∃N,N=l.length:=⟨_,rfl⟩
 have hE':∀i,i<N→qb (f i)≤E:=fun i hi=>by rw[hf];exact hE i (hN▸hi)
 obtain⟨A,hA⟩:∃A:AV,A=.sl N (N*4) (Xq f) false:=⟨_,rfl⟩
 have eA:Z5 l=A:=by rw[XX,hA,hN,hf]
 rw[eA,←hN,←hf];have sA:Settled A:=eA▸Qf l;have bA:Jo 2 A=True:=eq_true (X7 sA);have bq:∀q v x,Qo q (.row v 4 (Xg (qC x)))=True:=fun q v x=>eq_true (EC q v x)
 have bz:∀q v,Qo q (.row v 4 (Xg zeroR))=True:=fun q v=>eq_true (JS (by simp[zeroR,X5,Zb]))
 obtain⟨R,hR⟩:∃R,R=qA (XK f N):=⟨_,rfl⟩
 have sR:Settled R:=hR▸Xb _;rw[←hR];refine Fq Tryz.call179 Tryz.func179 6 [6,7,8] [] [] (by simp[sA]) (Xl ?_);subst hA;simp(disch:=omega)only[AS.start,↓Xd,wG,seval];refine Run.sub ?_ (QL 1 (Xg (qC 0)) rfl (fun j hj=>fun c' v' _ _ h=>by
  have w:=Zr true
  match j,hj with
  |0,_=>exact w.1 c' v' h
  |1,_=>exact w.2.1 c' v' h
  |2,_=>exact w.2.2.1 c' v' h
  |3,_=>exact w.2.2.2.1 c' v' h
  |j+4,h=>omega))
 refine Xj (fun k:Nat=>⟨6,[6,7,8],[.any,.any,.ref 0 0 0,.ref 1 0 0,.any,.any],[(6,.sl N (N*4) (Xq f) false),(7,I N),(8,I k)],[.row 0 4 (Xg zeroR),.row 0 4 (Xg (qC (XK f k)))]⟩) (fun k=>k≤N) (fun k=>N-k) 0 (by omega)
  (Xi rfl (by simp[Xm,I]) (by simp[Xy,Xz,I]) (by rfl)) ?_
 intro k hk next
 by_cases hk2:k<N
 ·have q1:=hE' k hk2
  have q2:=IE (f:=f) (E:=E) (m:=k) fun i hi=>hE' i (by omega)
  have q3:k*(E+1)+1≤48*2083001+1:=by
   have:=Nat.mul_le_mul (show k≤48 by omega) (show E+1≤2083001 by omega);omega
  have c1:=Bt (XK f k) (f k) (by unfold rm;omega) (by unfold rm;omega);have w1:=ZU f k;have w2:=ZQ f k;have nx:=next (k+1)
  refine Xl ?_;simp(disch:=omega)only[w1,w2,qC,zeroR,↓Xd,wG,seval];refine X1 c1 rfl ?_;simp(disch:=omega)only[qC,zeroR,↓Xd,wG,seval];exact nx _ (by omega) (by omega) (XQ (m:=2) (Nat.zero_le _) rfl (by simp[Xm,I]) (by simp[Xy,Xz,I]) (by rfl) (by simp[XO]) (by simp[XO,bA]) (by simp[bq,bz]))
 ·obtain rfl:k=N:=by omega
  refine Xl ?_;simp(disch:=omega)only[qC,zeroR,↓Xd,wG,seval];exact J7 rfl XT rfl rfl rfl sR (hR.trans rfl)
theorem gD (a b:List Rat)(E:Nat)(ha:a.length<49)(hb:b.length=a.length)(hE:∀i,i<a.length→qb (a.getD i 0)+qb (b.getD i 0)≤E) (hE2:E≤2083000) :
  Fn Tryz.prog 100 [Z5 a,Z5 b] (qA (XK (fun i=>a.getD i 0*b.getD i 0) a.length)):=by
 obtain⟨N,hN⟩:∃N,N=a.length:=⟨_,rfl⟩
 obtain⟨f,hf⟩:∃f:Nat→Rat,f=fun i=>a.getD i 0*b.getD i 0:=⟨_,rfl⟩
 have hlen:((List.range N).map f).length=N:=by simp
 have e0:∀i,i<N→((List.range N).map f).getD i 0=f i:=fun i hi=>K8 f hi
 have c0:=uA ((List.range N).map f) E (by omega) (fun i hi=>by
  rw[hlen]at hi;rw[e0 i hi,hf];have:=Qq (a.getD i 0) (b.getD i 0);have:=hE i (by omega);show qb (a.getD i 0*b.getD i 0)≤E;omega) hE2
 rw[hlen,XG fun i hi=>e0 i hi]at c0;rw[←hN,←hf];have eA:Z5 a=.sl N (N*4) (Xq fun i=>a.getD i 0) false:=by rw[XX,hN]
 have eB:Z5 b=.sl N (N*4) (Xq fun i=>b.getD i 0) false:=by rw[XX,hN,hb]
 have sA:=Qf a;have sB:=Qf b;obtain⟨R,hR⟩:∃R,R=qA (XK f N):=⟨_,rfl⟩
 have sR:Settled R:=hR▸Xb _;rw[eA]at sA;rw[eB]at sB;rw[←hR,eA,eB];refine Fn.intro (fn:=Tryz.f100) Tryz.call100 Tryz.func100 rfl mixed 7 [11,12] [] [] (by kernel_rfl) (Nat.le_of_ble_eq_true rfl) (Kd sA sB) (Xl ?_);simp(disch:=omega)only[AS.start,↓Xd,wG,seval];refine Xj (fun k:Nat=>⟨7,[11,12],[.sl N (N*4) (Xq fun i=>a.getD i 0) false,.sl N (N*4) (Xq fun i=>b.getD i 0) false,.any,.any,.ref 0 0 0,.osl 1 k 4 0 k,.any],[(11,I N),(12,I k)],[.row 0 4 (Xg zeroR),.row k (k*4) (Xq (Ag f k))]⟩) (fun k=>k≤N) (fun k=>N-k) 0 (by omega)
  (Sub.trans (KO 5 4 (Xq (Ag f 0)) rfl) (Xi rfl (by simp[AS.put,Xm,I]) (by simp[AS.put,Xy,Xz,I]) (by simp[AS.put,zeroR]))) ?_
 intro k hk next
 by_cases hk2:k<N
 ·have q1:=hE k (by omega)
  have c1:=Ar (a.getD k 0) (b.getD k 0) (by unfold rm;omega) (by unfold rm;omega);have w1:=ZU (fun i=>a.getD i 0) k;have w2:=ZQ (fun i=>a.getD i 0) k;have w3:=ZU (fun i=>b.getD i 0) k;have w4:=ZQ (fun i=>b.getD i 0) k;have hap:=SL (Ag f k) k (f k);rw[EG]at hap;have fk:f k=a.getD k 0*b.getD k 0:=by rw[hf]
  rw[fk]at hap;have nx:=next (k+1)
  refine Xl ?_;simp(disch:=omega)only[w1,w2,w3,w4,qC,zeroR,↓Xd,wG,seval];refine X1 c1 rfl ?_;simp(disch:=omega)only[qC,zeroR,↓Xd,wG,seval];exact⟨fun j hj=>US (a.getD k 0*b.getD k 0) j hj,nx _ (by omega) (by omega) (Xi rfl (by simp[Xm,I]) (by simp[Xy,Xz,I]) (by rw[←hap];rfl))⟩
 ·obtain rfl:k=N:=by omega
  refine Run.sub ?_ (Sub.trans (Q0 1 rfl) (kT (M:=k*4) 5 rfl rfl (by omega) (by omega)));refine Xl ?_;simp(disch:=omega)only[qC,zeroR,AS.put,↓Xd,wG,seval];refine X0 c0 ⟨Kp (by rw[hlen]) (by rw[hlen];exact Nat.le_refl _) (fun j hj=>?_),trivial⟩ ?_
  ·rw[hlen]at hj
   have:Xq (Ag f k) j=Xq (fun i=>((List.range k).map f).getD i 0) j:=AF (N:=k) (fun i hi=>by rw[e0 i hi];exact if_pos hi) j hj;show Weak (Xq (Ag f k) j) (Xq (fun i=>((List.range k).map f).getD i 0) j);rw[this];exact Weak.rfl' _
  simp(disch:=omega)only[qA,qC,zeroR,↓Xd,wG,seval];exact J7 rfl XT rfl rfl rfl sR (hR.trans rfl)
theorem YW (l:List Rat)(hl:l.length<1000000):Fn Tryz.prog 204 [Z5 l] (Z5 l):=by
 obtain⟨N,hN⟩:∃N,N=l.length:=⟨_,rfl⟩
 obtain⟨f,hf⟩:∃f:Nat→Rat,f=fun i=>l.getD i 0:=⟨_,rfl⟩
 have sA:=Qf l;have eA:Z5 l=.sl N (N*4) (Xq f) false:=by rw[XX,hN,hf]
 rw[eA]at sA ⊢;refine Fq Tryz.call204 Tryz.func204 3 [] [] [] (by simp[sA]) (Xl ?_);have hone:∀j,(Xq f j).one=true:=fun j=>by unfold Xq;exact US (f (j/4)) (j%4) (Nat.mod_lt _ (by omega))
 simp(disch:=omega)only[AS.start,↓Xd,wG,seval];have hc:v7 (Jv Tryz.prog Tryz.f204 [] [] (.sl N (N*4) (Xq f) false)) .mk ⟨3,[],[.sl N (N*4) (Xq f) false,.any,.osl 0 0 4 0 N],[(7,.osl 0 0 4 0 N),(6,.sl N (N*4) (Xq f) false),(5,.sl 0 0 (Xg []) true)],[.row 0 (N*4) (Qd 0 (Xg []) (N*4) (Xq f))]⟩:=by
  exact YV rfl rfl rfl (fun h=>by rw[h]) fun j hj=>Zo _ _
 by_cases h0:N=0
 ·rw[if_pos h0,Hc]
  subst h0;refine⟨?_,?_,hc⟩
  ·exact Ug rfl rfl
  ·exact fun j hj=>hone j
 ·rw[if_neg h0,Ll,Dp]
  exact⟨fun j hj=>hone j,hc⟩
theorem cR (v m n:Nat)(T:Tb)(hv:2*v+m≤n)(hn:n<100000):Fn Tryz.prog 130 [xP v m n T] (Z5 ((List.range m).map fun i=>T.c (2*v+i))):=by
 have sX:=FQ v m n T;obtain⟨L,hL⟩:∃L,L=(List.range m).map fun i=>T.c (2*v+i):=⟨_,rfl⟩
 have hl:L.length=m:=by rw[hL];simp
 have c1:=YW L (by omega);have sL:=Qf L;rw[←hL];refine Fq Tryz.call130 Tryz.func130 3 [] [] [] (by simp[sX]) (Xl ?_);have t1:(2*(v:Int)).toNat=2*v:=by omega
 have t2:(2*(v:Int)+m).toNat=2*v+m:=by omega
 have t3:(2*(v:Int)+m-2*v).toNat=m:=by omega
 simp(disch:=omega)only[AS.start,xP,xC,Pv,t1,t2,t3,↓Xd,wG,seval];refine X0 c1 ⟨Kp (by rw[hl]) (by rw[hl];omega) (fun j hj=>?_),trivial⟩ ?_
 ·rw[hl]at hj
  have:Xq (ZZ n T.c) (2*v*4+j)=Xq (fun i=>L.getD i 0) j:=by
   have e:L.getD (j/4) 0=T.c (2*v+j/4):=by rw[hL,K8 _ (by omega)]
   show(qC (ZZ n T.c ((2*v*4+j)/4))).getD ((2*v*4+j)%4) .any=(qC (L.getD (j/4) 0)).getD (j%4) .any;rw[show(2*v*4+j)/4=2*v+j/4 by omega,show(2*v*4+j)%4=j%4 by omega,Ez _ (by omega),e]
  rw[this];exact Weak.rfl' _
 simp(disch:=omega)only[↓Xd,wG,seval];exact Xk rfl rfl sL rfl
theorem gG (H:List AO)(Y:Lay)(v m n last:Nat)(b:Nat→Nat)(a:AV)(hx:H[Y.x]?=some (IU Y v m n a)) (hb:H[Y.bid]?=some (De Y m b)) (hH:Kt H) (hlt:∀i,i<m→b i<last) (hm:m<100000) :
  HCall Tryz.prog 131 [.ref Y.x Y.vx 0,I last] H (.tup []) H:=by
 have x0:=hx;unfold IU at x0;unfold De at hb;refine HCall.intro (fn:=Tryz.f131) Tryz.call131 Tryz.func131 rfl mixed 7 [10,11,12] [] [] (by kernel_rfl) (Nat.le_of_ble_eq_true rfl) (Xl ?_);simp(disch:=omega)only[AS.start,x0,↓Xd,wG,seval];refine Xj (fun i:Nat=>⟨7,[10,11,12],[.ref Y.x Y.vx 0,I last,.any,.any,.any,.any,.any],[(10,.osl Y.bid Y.bv 1 0 m),(11,I m),(12,I i)],H⟩) (fun i=>i≤m) (fun i=>m-i) 0 (by omega)
  (Xi rfl (by simp[Xm,I]) (by simp[Xy,Xz,I]) rfl) ?_
 intro i hi next
 by_cases hi2:i<m
 ·have nx:=next (i+1)
  have fb:(if i<m then b i else 0)=b i:=if_pos hi2;have f1:=hlt i hi2;have f2:(b i:Int)<last:=by omega
  refine Xl ?_;simp(disch:=omega)only[x0,hb,fb,f2,↓Xd,wG,seval];exact nx _ (by omega) (by omega) (Xi rfl (by simp[Xm,I]) (by simp[Xy,Xz,I]) rfl)
 ·obtain rfl:i=m:=by omega
  refine Xl ?_;simp(disch:=omega)only[↓Xd,wG,seval];exact rt rfl rfl
structure Ln where
 a:List Rat
 b:Rat
def DT (x:Ln):List AV:=Z5 x.a :: qC x.b
def Bl:Ln:=⟨[],0⟩
def DR (L:List Ln):AV:=cS DT 5 Bl L
def dC (v:Nat)(L:List Ln)(G:List Rat):AV:=.agg [I v,DR L,Z5 G]
theorem Q2 (L:List Ln):DR L=.sl L.length (L.length*5) (XA DT 5 Bl L) false:=nrfl rfl
theorem A9 (x:Ln):∀a∈DT x,Settled a:=by simp[DT,qC,Qf,Xc,X5]
theorem JD (L:List Ln):Settled (DR L):=JZ fun a x hx=>A9 a x hx
theorem Es (v:Nat)(L:List Ln)(G:List Rat):Settled (dC v L G):=Xw (by simp[Xa,JD,Qf])
def lA (L:List Ln)(i k:Nat):Rat:=(L.getD i Bl).a.getD k 0
def lB (L:List Ln)(i:Nat):Rat:=(L.getD i Bl).b
def lG (G:List Rat)(k:Nat):Rat:=G.getD k 0
theorem xL (L:List Ln)(i:Nat):XA DT 5 Bl L (i*5)=Z5 (L.getD i Bl).a∧XA DT 5 Bl L (i*5+1)=(qC (lB L i)).getD 0 .any∧XA DT 5 Bl L (i*5+2)=(qC (lB L i)).getD 1 .any∧XA DT 5 Bl L (i*5+3)=(qC (lB L i)).getD 2 .any∧XA DT 5 Bl L (i*5+4)=(qC (lB L i)).getD 3 .any:=by
 refine⟨?_,?_,?_,?_,?_⟩
 ·rw[Km _ _ _ _ _ (by omega)];rfl
 all_goals rw[JK _ _ _ _ _ _ (by omega)];rfl
theorem ud (H:List AO)(nid lid rid N k:Nat)(x:Rat)(f:Nat→Rat)(hn:H[nid]?=some (XU (.bool false))) (hl:H[lid]?=some (XU (.osl rid 0 4 0 N))) (hr:H[rid]?=some (.row 0 (N*4) (Xq f))) (hk:k<N) (hN:N<1000000) (hH:Kt H) :
  HCall Tryz.prog 199 [I k,qA x,.ref nid 0 0,.ref lid 0 0] H (.tup []) (H.set rid (.row 0 (N*4) (Xq fun i=>if i=k then x else f i))):=by
 have rlt:rid<H.length:=(List.getElem?_eq_some_iff.1 hr).1;have e1:=Q1 hn;have e2:=Q1 hl;have e3:=Q1 hr;have e0:=fun x l=>Bm (H:=H) rfl x l
 have es:=fun o l=>Kv rlt o l
 have hst:=Ep f k x;unfold XU at e1 e2;refine HCall.introC (fn:=Tryz.f199) Tryz.call199 Tryz.func199 rfl mixed 6 [] [] [] (by kernel_rfl) (Nat.le_of_ble_eq_true rfl) (X7 (Aa (by simp))) (fun o ho=>by
  rcases List.mem_or_eq_of_mem_set ho with h |h
  ·exact hH o h _ (Nat.le_refl _)
  ·rw[h];exact ZI _ _ _ _) (Xl ?_)
 simp(disch:=omega)only[AS.start,qA,qC,e1,e2,e3,e0,↓Xd,wG,seval];rw[es];exact kg rfl (by rw[hst.symm.trans rfl];exact Cf (List.length_set ..) _)
def tS (v m N n0 i:Nat):AO:=.row 0 6 (Xg [I v,I m,I N,.osl (n0+2) i 1 0 i,.sl 0 0 (fun _=>.any) true,.osl (n0+3) i 1 0 i])
def tR (N n0 i:Nat):AO:=.row i i (fun j=>.osl (n0+4+4*j+1) 0 4 0 (N+1))
def md (v i:Nat):AO:=.row i i (fun j=>I ((2*v+j:Nat)))
def wz (L:List Ln)(T:Tb)(N n0 j:Nat):List AO:=[.row 0 5 (Xg (DT (L.getD j Bl))),.row 0 ((N+1)*4) (Xq (ZZ N (T.t j))),XU (.osl (n0+4+4*j+1) 0 4 0 (N+1)),XU (.bool false)]
def oR (L:List Ln)(T:Tb)(N n0:Nat):Nat→List AO
 |0=>[]
 |i+1=>oR L T N n0 i ++ wz L T N n0 i
theorem Gj (L:List Ln)(T:Tb)(N n0:Nat):∀i,(oR L T N n0 i).length=4*i
 |0=>rfl
 |i+1=>by unfold oR;rw[List.length_append,Gj L T N n0 i];show 4*i+4=_;omega
def Ci (v:Nat)(L:List Ln)(G:List Rat):List AV:=[I v,DR L,Z5 G]
def r9 (v:Nat)(L:List Ln)(G:List Rat):AO:=.con 0 3 (Xg (Ci v L G))
def HB (v:Nat)(a:Nat→Rat)(k:Nat):Nat→Rat:=fun j=>if j<k then a j else if v≤j∧j<v+k then -a (j-v)else 0
theorem um (v:Nat)(a:Nat→Rat):HB v a 0=fun _=>0:=funext fun j=>by
 unfold HB;rw[if_neg (Nat.not_lt_zero _),if_neg (by omega)]
theorem cG {v k:Nat}(a:Nat→Rat)(h:k<v):(fun j=>if j=v+k then -a k else(fun j=>if j=k then a k else HB v a k j) j)=HB v a (k+1):=funext fun j=>by
 unfold HB;by_cases h1:j=v+k
 ·rw[if_pos h1,if_neg (by omega),if_pos (by omega),show j-v=k by omega]
 ·rw[if_neg h1]
  show(if j=k then a k else _)=_;by_cases h2:j=k
  ·rw[if_pos h2,if_pos (by omega),h2]
  ·rw[if_neg h2]
   by_cases h3:j<k
   ·rw[if_pos h3,if_pos (by omega)]
   ·rw[if_neg h3,if_neg (show ¬j<k+1 by omega)]
    by_cases h4:v≤j∧j<v+k
    ·rw[if_pos h4,if_pos (by omega)]
    ·rw[if_neg h4,if_neg (by omega)]
theorem OW (L:List Ln)(T:Tb)(N n0:Nat):∀i q,n0+4+4*i≤q→∀o∈oR L T N n0 i,Qo q o∧o≠.unborn
 |0,_,_,o,ho=>absurd ho (List.not_mem_nil)
 |i+1,q,hq,o,ho=>by
  rcases List.mem_append.1 ho with h |h
  ·exact OW L T N n0 i q (by omega) o h
  ·simp only[wz,List.mem_cons,List.not_mem_nil,or_false]at h
   rcases h with rfl |rfl |rfl |rfl
   ·exact⟨JS (A9 _),by simp⟩
   ·exact⟨ZI _ _ _ _,by simp⟩
   ·exact⟨ZH (JT (by omega)),by simp[XU]⟩
   ·exact⟨ZH (X7 (X5 _)),by simp[XU]⟩
def I0 (H:List AO)(v:Nat)(L:List Ln)(G:List Rat)(T:Tb)(N i:Nat):List AO:=H ++ r9 v L G :: tS v L.length N H.length i :: tR N H.length i :: md v i :: oR L T N H.length i
theorem Gk (H:List AO)(v:Nat)(L:List Ln)(G:List Rat)(T:Tb)(N i:Nat):(I0 H v L G T N i).length=H.length+4+4*i:=by
 unfold I0;rw[List.length_append];simp only[List.length_cons];rw[Gj];omega
theorem Rc {H:List AO}(v:Nat)(L:List Ln)(G:List Rat)(T:Tb)(N i:Nat)(hH:Kt H):Kt (I0 H v L G T N i):=fun o ho q hq=>by
 rw[Gk]at hq;unfold I0 at ho;rcases List.mem_append.1 ho with h |h
 ·exact hH o h q (by omega)
 ·simp only[List.mem_cons]at h
  rcases h with rfl |rfl |rfl |rfl |h
  ·exact fun j _=>Dg q (by simp[Ci];exact⟨X7 (Xa _),X7 (JD _),X7 (Qf _)⟩) j
  ·exact fun j _=>Dg q (by
    intro x hx;simp only[List.mem_cons,List.not_mem_nil,or_false]at hx;rcases hx with rfl |rfl |rfl |rfl |rfl |rfl
    ·exact X7 (Xa _)
    ·exact X7 (Xa _)
    ·exact X7 (Xa _)
    ·exact JT (by omega)
    ·exact X7 (Zb _ _)
    ·exact JT (by omega)) j
  ·exact fun j hj=>JT (by omega)
  ·exact fun j hj=>X7 (Xa _)
  ·exact(OW L T N H.length i q (by omega) o h).1
theorem Nz {H:List AO}(v:Nat)(L:List Ln)(G:List Rat)(T:Tb)(N i:Nat)(hB:QV H):QV (I0 H v L G T N i):=fun o ho=>by
 unfold I0 at ho;rcases List.mem_append.1 ho with h |h
 ·exact hB o h
 ·simp only[List.mem_cons]at h
  rcases h with rfl |rfl |rfl |rfl |h
  ·simp[r9]
  ·simp[tS]
  ·simp[tR]
  ·simp[md]
  ·exact(OW L T N H.length i _ (Nat.le_refl _) o h).2
theorem Td {m:Nat}{s:AS}(id:Nat){ver n:Nat}{f:Nat→AV}(ho:s.h[id]?=some (.con ver n f)):Sub m s { s with h:=s.h.set id .dead }:=by
 intro N c a hst;have hH:=hst.heap;rw[←hH]at ho;have hlt:=(List.getElem?_eq_some_iff.1 ho).1;have hat:(c.H.set id AO.dead)[id]?=some .dead:=by simp[hlt]
 have hoth:∀i,i≠id→(c.H.set id AO.dead)[i]?=c.H[i]?:=fun i hi=>List.getElem?_set_ne (Ne.symm hi)
 let c':Ctx:=⟨c.w,c.S,c.γ,c.H.set id .dead⟩
 have hext:Ext c c':=by
  refine⟨?_,fun b h=>h,fun b h=>.inl h,?_,fun _ _ _=>rfl,Nat.le_refl _,rfl,rfl,rfl⟩
  ·intro i o hoi
   by_cases hi:i=id
   ·subst hi
    rw[ho]at hoi;cases hoi;exact .inl (by simp only[c'];exact hat)
   ·have h1:=HLe.refl c i o hoi
    have e1:=hoth i hi;cases o with
    |unborn=>trivial
    |dead=>simpa [c',e1]using h1
    |row v _ _=>simpa [c',e1,inf]using h1
    |con v _ _=>simpa [c',e1,inf]using h1
    |map k g=>simpa [c',e1]using h1
  ·rintro b ⟨i,o,sz,hoi,hown,hg⟩
   by_cases hi:i=id
   ·subst hi
    simp only[c']at hoi;rw[hat]at hoi;cases hoi;simp[AO.owned]at hown
   ·simp only[c']at hoi
    rw[hoth i hi]at hoi;exact .inr ⟨i,o,sz,hoi,hown,hg⟩
 have hrep:∀ {v a},Rep c v a→Rep c' v a:=fun hv=>hext.rep hst.hrel hv
 refine⟨c',rfl,hext.toB m,hst.size,hst.defers,fun i=>hrep (hst.slots i),by simp[c',hH],?_⟩;refine⟨?_,?_,?_,?_,hst.hrel.bound⟩
 ·intro i v k g hoi
  by_cases hi:i=id
  ·subst hi;simp only[c']at hoi;rw[hat]at hoi;cases hoi
  ·simp only[c']at hoi
   rw[hoth i hi]at hoi;rcases hst.hrel.row i v k g hoi with h | ⟨b,sz,cs,el,h1,h2,h3,h4,h5,h6⟩
   ·exact .inl h
   ·exact .inr ⟨b,sz,cs,el,h1,h2,h3,h4,h5,fun j hj=>hrep (h6 j hj)⟩
 ·intro i v k g hoi
  by_cases hi:i=id
  ·subst hi;simp only[c']at hoi;rw[hat]at hoi;cases hoi
  ·simp only[c']at hoi
   rw[hoth i hi]at hoi;rcases hst.hrel.con i v k g hoi with h | ⟨b,sz,cs,el,fr,h1,h2,h3,h4,h5,h6⟩
   ·exact .inl h
   ·exact .inr ⟨b,sz,cs,el,fr,h1,h2,h3,h4,h5,fun j hj=>hrep (h6 j hj)⟩
 ·intro i k g hoi
  by_cases hi:i=id
  ·subst hi;simp only[c']at hoi;rw[hat]at hoi;cases hoi
  ·simp only[c']at hoi
   rw[hoth i hi]at hoi;obtain⟨b,sz,es,cl,h1,h2,h3,h4⟩:=hst.hrel.map i k g hoi;exact⟨b,sz,es,cl,h1,h2,h3,h4.ext fun v a hv=>hrep hv⟩
 ·intro i i' o o' b sz sz' hoi hoi' h1 h2 hg hg'
  by_cases hi:i=id
  ·subst hi;simp only[c']at hoi;rw[hat]at hoi;cases hoi;simp[AO.owned]at h1
  ·by_cases hi':i'=id
   ·subst hi';simp only[c']at hoi';rw[hat]at hoi';cases hoi';simp[AO.owned]at h2
   ·simp only[c']at hoi hoi'
    rw[hoth i hi]at hoi;rw[hoth i' hi']at hoi';exact hst.hrel.inj _ _ _ _ _ _ _ hoi hoi' h1 h2 hg hg'
def PK (H:List AO)(v:Nat)(L:List Ln)(G:List Rat)(T:Tb)(N:Nat):List AO:=(I0 H v L G T N L.length).set H.length .dead
theorem Nv (f:Nat→AV)(N:Nat)(x:AV)(h:x=f N):Qd N f 1 (Xg [x])=f:=funext fun j=>by
 unfold Qd;by_cases h1:j<N
 ·rw[if_pos h1]
 ·rw[if_neg h1]
  by_cases h2:j<N+1
  ·rw[if_pos h2,show j=N by omega,Nat.sub_self,←h];rfl
  ·rw[if_neg h2]
theorem oP (H:List AO)(v:Nat)(L:List Ln)(G:List Rat)(T:Tb)(N:Nat)(hN:N=2*v+2*L.length)(hv:v≤100)(hm:L.length≤200)(ha:∀i,i<L.length→(L.getD i Bl).a.length=v) (hB:∀i,i<L.length→0≤lB L i)
  (hT:∀i,i<L.length→∀k,k≤N→T.t i k=(Kb v L.length (lA L) (lB L) (lG G)).t i k) (hq:∀i k,i<L.length→k<v→qb (lA L i k)≤10000) (hH:Kt H) (hBo:QV H) :
  HCall Tryz.prog 126 [dC v L G] H (.ref (H.length+1) 0 0) (PK H v L G T N):=by
 obtain⟨n0,hn0⟩:∃n0,H.length=n0:=⟨_,rfl⟩
 have e0:=Bm hn0;have e1:=FF hn0;have el:=Zy hn0;have es0:=CQ hn0;have hcs:∀l,(H ++ l).set n0 (r9 v L G)=H ++ l.set 0 (r9 v L G):=fun l=>by rw[List.set_append_right _ _ (by omega),hn0,Nat.sub_self]
 have c0:n0≤n0:=Nat.le_refl _;refine HCall.intro (fn:=Tryz.f126) Tryz.call126 Tryz.func126 rfl mixed 13 [28,29,30,47,48,49] [13,14005,15] [13,15,16] (by kernel_rfl) (Nat.le_of_ble_eq_true rfl) (XL 8 ?_);simp(disch:=omega)only[AS.start,dC,hn0,e0,e1,el,Q2,XX,↓Xd,wG,seval];have hp0:Xg [AV.int .i64 v,.sl L.length (L.length*5) (XA DT 5 Bl L) false,.sl G.length (G.length*4) (Xq fun i=>G.getD i 0) false]=Xg (Ci v L G):=by unfold Ci;rw[Q2,XX];rfl
 rw[hp0];refine Run.sub ?_ (Q0 n0 (e0 _ _));simp only[es0];refine Run.sub ?_ (Q5 1 rfl (e0 _ _) (by omega));refine Xl ?_;simp(disch:=omega)only[AS.put,Ci,e0,e1,el,es0,Q2,XX,↓Xd,wG,seval];have es1:=HX hn0;have eL:(H ++ [r9 v L G,.row 0 6 (Xg [I v,I L.length,I N,.sl 0 0 (fun _=>.any) true,.sl 0 0 (fun _=>.any) true,.sl 0 0 (fun _=>.any) true])]).length=n0+2:=by rw[el];rfl
 refine Run.sub (s':=⟨13,[28,29,30,47,48,49],[.any,.ptr 3 (Xg (Ci v L G)) 0,.any,I L.length,.ref (n0+1) 0 0,.any,.any,.any,.any,.any,.any,.any,.any],[(28,DR L),(29,I L.length),(30,I 0)],H ++ [r9 v L G,.row 0 6 (Xg [I v,I L.length,I N,.sl 0 0 (fun _=>.any) true,.sl 0 0 (fun _=>.any) true,.sl 0 0 (fun _=>.any) true])]⟩) ?_
  (Xi rfl (by simp[Xm,I,Ci,Q2,XX]) (by simp[Xy,Xz,I,Q2]) (by simp[r9,Ci,Q2,XX,I,hN]))
 refine Run.sub ?_ (PC (fun j=>.osl (n0+4+4*j+1) 0 4 0 (N+1)));refine Run.sub ?_ (PC (fun j=>I ((2*v+j:Nat))));simp only[List.append_assoc,List.cons_append,List.nil_append];refine Run.sub ?_ (QL (n0+1) (Xg [I v,I L.length,I N,.osl (n0+2) 0 1 0 0,.sl 0 0 (fun _=>.any) true,.osl (n0+3) 0 1 0 0]) (e1 _ _ _) (fun j hj=>by
  match j,hj with
  |0,_=>exact XR _ _
  |1,_=>exact XR _ _
  |2,_=>exact XR _ _
  |3,_=>exact DM (aE hn0 _ _ _ _)
  |4,_=>exact XR _ _
  |5,_=>exact DM (aF hn0 _ _ _ _ _)
  |j+6,h=>omega))
 simp only[es1];refine Xj (fun i:Nat=>⟨13,[28,29,30,47,48,49],[.any,.ptr 3 (Xg (Ci v L G)) 0,.any,I L.length,.ref (n0+1) 0 0,.any,.any,.any,.any,.any,.any,.any,.any],[(28,DR L),(29,I L.length),(30,I i)],I0 H v L G T N i⟩) (fun i=>i≤L.length) (fun i=>L.length-i) 0 (by omega)
  (Xi rfl (by simp[Xm]) (by simp[Xy,Xz]) (by subst hn0;rfl)) ?_
 intro i hi next
 by_cases hi2:i<L.length
 rotate_left
 ·obtain rfl:i=L.length:=by omega
  refine Run.sub ?_ (Td n0 (by show(I0 H v L G T N L.length)[n0]?=_;unfold I0;exact Bm hn0 _ _));refine Xl ?_;simp(disch:=omega)only[Q2,↓Xd,wG,seval];exact kf rfl (by rw[hn0];rfl) (by show List.set _ _ _=_;unfold PK;rw[hn0])
 obtain⟨Z,hZ⟩:∃Z,Z=I0 H v L G T N i:=⟨_,rfl⟩
 obtain⟨b0,hb0⟩:∃b0,b0=n0+4+4*i:=⟨_,rfl⟩
 have zlen:Z.length=b0:=by rw[hZ,Gk,hn0,hb0]
 have zbel:Kt Z:=hZ▸Rc v L G T N i hH;have zborn:QV Z:=hZ▸Nz v L G T N i hBo;have zx:∀l,(Z ++ l)[n0+1]?=some (tS v L.length N n0 i):=Q1 (by rw[hZ];unfold I0;rw[hn0];exact FF hn0 _ _ _);have zt:∀l,(Z ++ l)[n0+2]?=some (tR N n0 i):=Q1 (by rw[hZ];unfold I0;rw[hn0];exact aE hn0 _ _ _ _);have zb:∀l,(Z ++ l)[n0+3]?=some (md v i):=Q1 (by rw[hZ];unfold I0;rw[hn0];exact aF hn0 _ _ _ _ _);rw[←hZ];have z0:=Bm zlen;have z1:=FF zlen;have z2:=aE zlen;have z3:=aF zlen;have zs0:=CQ zlen;have zs1:=HX zlen;have zs2:=qV zlen;have zs3:=Wc zlen;have zL:=Zy zlen;obtain⟨l1,l2,l3,l4,l5⟩:=xL L i;have hai:=ha i hi2;have hbi:=hB i hi2;have c1:=Qj (lB L i);have f1:¬ (lB L i).num.sign<0:=fun g=>absurd ((Bx _).1 g) (Rat.not_lt.2 hbi)
 have tN:((N:Int)+1).toNat=N+1:=by omega
 have zx0:=zx [];rw[List.append_nil]at zx0;unfold tS at zx zx0;refine Xl ?_;simp(disch:=omega)only[zx,zx0,zL,zlen,z0,z1,z2,z3,zs0,zs1,zs2,zs3,l1,l2,l3,l4,l5,tN,Ci,qC,Q2,XX,List.append_assoc,↓Xd,wG,seval];refine X1 c1 rfl ?_;simp(disch:=omega)only[f1,zx,zx0,zL,zlen,z0,z1,z2,z3,zs0,zs1,zs2,zs3,Ci,qC,Q2,XX,List.append_assoc,↓Xd,wG,seval];obtain⟨lo,hlo⟩:∃lo:AO,lo=.row 0 5 (Xg (DT (L.getD i Bl))):=⟨_,rfl⟩
 obtain⟨lb,hlb⟩:∃lb:AO,lb=XU (.osl (b0+1) 0 4 0 (N+1)):=⟨_,rfl⟩
 obtain⟨nb,hnb⟩:∃nb:AO,nb=XU (.bool false):=⟨_,rfl⟩
 have hob:∀q,b0+1<q→Qo q lo∧Qo q lb∧Qo q nb:=fun q hq=>⟨hlo▸JS (A9 _),hlb▸ZH (JT (by omega)),hnb▸ZH (X7 (X5 _))⟩
 have hou:lo≠.unborn∧lb≠.unborn∧nb≠.unborn:=⟨by rw[hlo];simp,by rw[hlb];simp[XU],by rw[hnb];simp[XU]⟩
 have kbel:∀ (f:Nat→Rat) (l:List AO),(∀o∈l,∀q,Qo q o)→Kt (Z ++ lo :: .row 0 ((N+1)*4) (Xq f) :: lb :: nb :: l):=fun f l hl o ho q hq=>by
  rw[zL]at hq;simp only[List.length_cons]at hq;obtain⟨u1,u2,u3⟩:=hob q (by omega);rcases List.mem_append.1 ho with h |h
  ·exact zbel o h q (by omega)
  ·simp only[List.mem_cons]at h
   rcases h with rfl |rfl |rfl |rfl |h
   ·exact u1
   ·exact ZI _ _ _ _
   ·exact u2
   ·exact u3
   ·exact hl o h q
 have kborn:∀ (f:Nat→Rat) (l:List AO),QV l→QV (Z ++ lo :: .row 0 ((N+1)*4) (Xq f) :: lb :: nb :: l):=fun f l hl=>Kg zborn fun o ho=>by
  simp only[List.mem_cons]at ho;rcases ho with rfl |rfl |rfl |rfl |h
  ·exact hou.1
  ·simp
  ·exact hou.2.1
  ·exact hou.2.2
  ·exact hl o h
 have hput:∀ (k:Nat) (f:Nat→Rat) (x:Rat) (l:List AO),k<N+1→(∀o∈l,∀q,Qo q o)→HCall Tryz.prog 199 [I k,qA x,.ref (b0+3) 0 0,.ref (b0+2) 0 0] (Z ++ lo :: .row 0 ((N+1)*4) (Xq f) :: lb :: nb :: l) (.tup []) (Z ++ lo :: .row 0 ((N+1)*4) (Xq fun j=>if j=k then x else f j) :: lb :: nb :: l):=fun k f x l hk hl=>by
  have h:=ud (Z ++ lo :: .row 0 ((N+1)*4) (Xq f) :: lb :: nb :: l) (b0+3) (b0+2) (b0+1) (N+1) k x f (by rw[z3,hnb]) (by rw[z2,hlb]) (z1 _ _ _) hk (by omega) (kbel f l hl);rw[zs1]at h;exact h
 have hce:∀ (f g:Nat→Rat) (l:List AO),JQ (Z ++ lo :: .row 0 ((N+1)*4) (Xq f) :: lb :: nb :: l) (Z ++ lo :: .row 0 ((N+1)*4) (Xq g) :: lb :: nb :: l):=fun f g l=>by
  rw[←zs1 lo (.row 0 ((N+1)*4) (Xq f)) (.row 0 ((N+1)*4) (Xq g))];exact QB (z1 _ _ _) (by simp) (by simp)
 have wl:=XX (L.getD i Bl).a;rw[hai]at wl;refine Run.sub ?_ (QL (b0+1) (Xq (fun _=>0)) (z1 _ _ _) (fun j _=>fun c' v' _ _ h=>H3 0 j c' v' h));obtain⟨a,haa⟩:∃a:Nat→Rat,a=lA L i:=⟨_,rfl⟩
 have ea:(fun k=>(L.getD i Bl).a.getD k 0)=a:=haa.symm;rw[ea]at wl;simp only[zs1,hai,ea];refine Xj (fun k:Nat=>⟨13,[28,29,30,47,48,49],[.any,.ptr 3 (Xg (Ci v L G)) 0,.any,I L.length,.ref (n0+1) 0 0,I i,.ref b0 0 0,.ref (b0+2) 0 0,.ref (b0+3) 0 0,.fn 199 [.ref (b0+3) 0 0,.ref (b0+2) 0 0],.any,.any,.any],[(28,DR L),(29,I L.length),(30,I i),(47,.sl v (v*4) (Xq a) false),(48,I v),(49,I k)],Z ++ [lo,.row 0 ((N+1)*4) (Xq (HB v a k)),lb,nb]⟩) (fun k=>k≤v) (fun k=>v-k) 0 (by omega)
  (Xi rfl (by simp[Xm,I,Ci,Q2,XX]) (by simp[Xy,Xz,I,Q2]) (by rw[um,hlo,hlb,hnb];unfold DT;rw[wl];rfl)) ?_
 intro k hk next2;by_cases hk2:k<v
 rotate_left
 ·obtain rfl:k=v:=by omega
  clear next2;have c3:=Cy 1 1 ⟨by omega,by omega⟩ ⟨by omega,by omega⟩;rw[show Rat.divInt 1 1=1 by decide +kernel]at c3;have e3:2*(k:Int)+i=((2*k+i:Nat):Int):=by omega
  have q3:=fun f=>hput (2*k+i) f 1 [] (by omega) (fun o ho=>absurd ho (List.not_mem_nil))
  have q4:=fun f=>hput N f (lB L i) [] (by omega) (fun o ho=>absurd ho (List.not_mem_nil))
  have nbo:QV ([]:List AO):=fun o ho=>absurd ho (List.not_mem_nil)
  refine Xl ?_;simp(disch:=omega)only[zL,zx,z0,z1,z2,z3,Ci,List.append_assoc,↓Xd,wG,seval];refine X1 c3 rfl ?_;simp(disch:=omega)only[e3,zL,zx,z0,z1,z2,z3,Ci,qA,qC,List.append_assoc,↓Xd,wG,seval];refine XD rfl (q3 _) (hce _ _ _) (Qz (kborn _ _ nbo)) (X2 _) ?_;have ln1:DT (L.getD i Bl)=[Z5 (L.getD i Bl).a,.bool (sg (lB L i)),X8 (X9 (lB L i).num.natAbs),.bool false,X8 (X9 (qd (lB L i)))]:=rfl;rw[ln1]at hlo;have z0':∀l,(Z ++ lo :: l)[b0]?=some (.row 0 5 (Xg [Z5 (L.getD i Bl).a,.bool (sg (lB L i)),X8 (X9 (lB L i).num.natAbs),.bool false,X8 (X9 (qd (lB L i)))])):=fun l=>by rw[z0,hlo]
  simp(disch:=omega)only[e3,zL,zx,z0',z1,z2,z3,Ci,qA,qC,List.append_assoc,↓Xd,wG,seval];refine XD rfl (q4 _) (hce _ _ _) (Qz (kborn _ _ nbo)) (X2 _) ?_;have z3':∀x y z l,(Z ++ x :: y :: z :: nb :: l)[b0+3]?=some (XU (.bool false)):=fun x y z l=>by rw[z3,hnb]
  have z2':∀x y l,(Z ++ x :: y :: lb :: l)[b0+2]?=some (XU (.osl (b0+1) 0 4 0 (N+1))):=fun x y l=>by rw[z2,hlb]
  unfold XU at z3' z2';have n1:n0+1<Z.length:=by omega
  have n2:n0+2<Z.length:=by omega
  have n3:n0+3<Z.length:=by omega
  have s2:=fun o l=>Kv (H:=Z) n2 o l
  have s3:=fun o o' l=>Kv (H:=Z.set (n0+2) o) (a:=n0+3) (by rw[List.length_set];exact n3) o' l
  have s4:=fun o o' o'' l=>Kv (H:=(Z.set (n0+2) o).set (n0+3) o') (a:=n0+1) (by rw[List.length_set,List.length_set];exact n1) o'' l
  have s5:=fun o o' o'' o3 l=>Kv (H:=((Z.set (n0+2) o).set (n0+3) o').set (n0+1) o'') (a:=n0+1) (by rw[List.length_set,List.length_set,List.length_set];exact n1) o3 l
  have s6:∀o o' o'' o3:AO,(((Z.set (n0+2) o).set (n0+3) o').set (n0+1) o'').set (n0+1) o3=((Z.set (n0+2) o).set (n0+3) o').set (n0+1) o3:=fun o o' o'' o3=>List.set_set _
  have zx':=zx [];rw[List.append_nil]at zx';have zb':=zb [];rw[List.append_nil]at zb';have x1:∀o l,(Z.set (n0+2) o ++ l)[n0+1]?=_:=fun o l=>Q1 (by rw[List.getElem?_set_ne (by omega)];exact zx') l
  have b1:∀o l,(Z.set (n0+2) o ++ l)[n0+3]?=some (md k i):=fun o l=>Q1 (by rw[List.getElem?_set_ne (by omega)];exact zb') l
  have x2:∀o o' l,((Z.set (n0+2) o).set (n0+3) o' ++ l)[n0+1]?=_:=fun o o' l=>Q1 (by rw[List.getElem?_set_ne (by omega),List.getElem?_set_ne (by omega)];exact zx') l
  have x3:∀o o' o'' l,(((Z.set (n0+2) o).set (n0+3) o').set (n0+1) o'' ++ l)[n0+1]?=some o'':=fun o o' o'' l=>Q1 (List.getElem?_set_self (by rw[List.length_set,List.length_set];exact n1)) l
  unfold md at b1;simp(disch:=omega)only[e3,zL,zx,zt,z0',z1,z2',z3',Ci,tR,md,s2,s3,s4,s5,s6,x1,x2,x3,b1,List.append_assoc,↓Xd,wG,seval];have hap1:=Nv (fun j=>AV.osl (n0+4+4*j+1) 0 4 0 (N+1)) i (.osl (b0+1) 0 4 0 (N+1)) (by rw[hb0]);have hap2:=Nv (fun j=>AV.int .i64 ((2*k+j:Nat):Int)) i (.int .i64 ((2*k+i:Nat):Int)) rfl;have hrow:(fun j=>if j=N then lB L i else if j=2*k+i then 1 else HB k a k j)=ZZ N (T.t i):=funext fun j=>by
   unfold ZZ;by_cases hj:j≤N
   ·rw[if_pos hj,hT i hi2 j hj]
    show _=if j<k then lA L i j else if j<2*k then -lA L i (j-k)else if j=2*k+i then 1 else if j=2*k+2*L.length then lB L i else 0
    unfold HB;rw[haa];by_cases h1:j=N
    ·rw[if_pos h1,if_neg (by omega),if_neg (by omega),if_neg (by omega),if_pos (by omega)]
    rw[if_neg h1];by_cases h2:j=2*k+i
    ·rw[if_pos h2,if_neg (by omega),if_neg (by omega),if_pos h2]
    rw[if_neg h2];by_cases h3:j<k
    ·rw[if_pos h3,if_pos h3]
    rw[if_neg h3,if_neg h3];by_cases h4:j<2*k
    ·rw[if_pos (by omega),if_pos h4]
    ·rw[if_neg (by omega),if_neg h4,if_neg h2,if_neg (by omega)]
   ·rw[if_neg hj,if_neg (by omega),if_neg (by omega)]
    unfold HB;rw[if_neg (by omega),if_neg (by omega)]
  rw[hap1,hap2,hrow];refine next (i+1) _ (by omega) (by omega) (Xi rfl (by simp[Xm,I,Ci]) (by simp[Xy,Xz,I]) ?_)
  show(((Z.set (n0+2) _).set (n0+3) _).set (n0+1) _) ++ [lo,_,lb,nb]=I0 H k L G T N (i+1);rw[hZ];unfold I0;rw[hn0,qV hn0,show n0+3=n0+3 from rfl,Wc hn0,HX hn0,hlo,hlb,hnb];show _=H ++ r9 k L G :: tS k L.length N n0 (i+1) :: tR N n0 (i+1) :: md k (i+1) :: (oR L T N n0 i ++ wz L T N n0 i);unfold wz;rw[hb0];simp[tS,tR,md,I,ln1];rfl
 have q1:qb (a k)≤10000:=haa▸hq i k hi2 hk2;have w1:=ZU a k;have w2:=ZQ a k;have c2:=JX (a k);have p1:=fun l=>hput k (HB v a k) (a k) l (by omega)
 have p2:=fun l=>hput (v+k) (fun j=>if j=k then a k else HB v a k j) (-a k) l (by omega)
 rw[cG a hk2]at p2;have nx:=next2 (k+1);have z4:∀ (x y z w o:AO) l,(Z ++ x :: y :: z :: w :: o :: l)[b0+4]?=some o:=fun x y z w o l=>by
  rw[←zlen,List.getElem?_append_right (by omega),show Z.length+4-Z.length=4 by omega];rfl
 have zs4:∀ (x y z w o o':AO) l,(Z ++ x :: y :: z :: w :: o :: l).set (b0+4) o'=Z ++ x :: y :: z :: w :: o' :: l:=fun x y z w o o' l=>by
  rw[List.set_append_right _ _ (by omega),zlen,show b0+4-b0=4 by omega];rfl
 have ac:∀o∈[AO.row 0 4 (Xg (qC (a k)))],∀q,Qo q o:=fun o ho q=>by rw[List.mem_singleton.1 ho];exact EC _ _ _
 have acu:QV [AO.row 0 4 (Xg (qC (a k)))]:=fun o ho=>by rw[List.mem_singleton.1 ho];simp
 refine Xl ?_;simp(disch:=omega)only[zL,z4,zs4,w1,w2,qC,List.append_assoc,↓Xd,wG,seval];refine XD rfl (p1 [.row 0 4 (Xg (qC (a k)))] ac) (hce _ _ _) (Qz (kborn _ _ acu)) (X2 _) ?_;simp(disch:=omega)only[zL,z4,zs4,w1,w2,Ci,qC,List.append_assoc,↓Xd,wG,seval];refine X1 c2 rfl ?_;simp(disch:=omega)only[zL,z4,zs4,w1,w2,Ci,qA,qC,List.append_assoc,↓Xd,wG,seval];refine XD rfl (p2 [.row 0 4 (Xg (qC (a k)))] ac) (hce _ _ _) (Qz (kborn _ _ acu)) (X2 _) ?_;simp(disch:=omega)only[zL,z4,zs4,w1,w2,qC,List.append_assoc,↓Xd,wG,seval];have bl0:Jo (b0+4) (.ptr 3 (Xg (Ci v L G)) 0)=True:=eq_true (X7 (XN fun j _=>Xe (l:=Ci v L G) (by simp[Ci,Xa,JD,Qf]) j));have vw:Jo (b0+4) (.ref (n0+1) 0 0)=True:=eq_true (QG (by omega));have bl2:Jo (b0+4) (.ref b0 0 0)=True:=eq_true (QG (by omega));have bl3:Jo (b0+4) (.ref (b0+2) 0 0)=True:=eq_true (QG (by omega));have bl4:Jo (b0+4) (.ref (b0+3) 0 0)=True:=eq_true (QG (by omega));have bl5:Jo (b0+4) (.fn 199 [.ref (b0+3) 0 0,.ref (b0+2) 0 0])=True:=eq_true (fO (Kd (QG (by omega)) (QG (by omega))));have bl6:Jo (b0+4) (DR L)=True:=eq_true (X7 (JD L));have bl7:Jo (b0+4) (.sl v (v*4) (Xq a) false)=True:=eq_true (X7 (Qk fun j _=>Zo _ _));refine nx _ (by omega) (by omega) (XQ (m:=b0+4) (by show H.length≤b0+4;omega) rfl (by simp[Xm,I,Ci]) (by simp[Xy,Xz,I]) ?_ (by simp[XO,bl0,vw,bl2,bl3,bl4,bl5]) (by simp[XO,bl6,bl7]) (fun o ho=>kbel _ [] (fun o ho=>absurd ho (List.not_mem_nil)) o ho _ (by rw[zL];exact Nat.le_refl _)));show List.take (b0+4) (Z ++ [lo,AO.row 0 ((N+1)*4) (Xq (HB v a (k+1))),lb,nb,_])=Z ++ [lo,AO.row 0 ((N+1)*4) (Xq (HB v a (k+1))),lb,nb];rw[List.take_append,zlen,List.take_of_length_le (by omega),show b0+4-b0=4 by omega];rfl
def Io {α:Type}(p:α→Bool)(s:List α):Int:=if s.any p=true then(s.findIdx p:Nat)else -1
theorem M7 {α:Type}(d:α){p:α→Bool}{s:List α}{j:Nat}(hj:j<s.length)(h:p (s.getD j d)=true) (hno:∀i,i<j→p (s.getD i d)=false):Io p s=j:=by
 have at_:∀i (hi:i<s.length),s.getD i d=s[i]:=fun i hi=>by rw[List.getD_eq_getElem?_getD,List.getElem?_eq_getElem hi];rfl
 have e:s.findIdx p=j:=by
  rw[List.findIdx_eq hj];exact⟨by rw[←at_ j hj];exact h,fun i hi=>by rw[←at_ i (by omega)];exact hno i hi⟩
 unfold Io;rw[if_pos (List.any_eq_true.2 ⟨s[j],List.getElem_mem hj,by rw[←at_ j hj];exact h⟩),e]
theorem Hs {α:Type}(d:α){p:α→Bool}{s:List α}(hno:∀i,i<s.length→p (s.getD i d)=false):Io p s = -1:=by
 unfold Io;rw[if_neg];intro h;obtain⟨x,hx,hp⟩:=List.any_eq_true.1 h;obtain⟨i,hi,rfl⟩:=List.getElem_of_mem hx;have:=hno i hi;rw[List.getD_eq_getElem?_getD,List.getElem?_eq_getElem hi]at this;simp only[Option.getD_some]at this;rw[this]at hp;cases hp
theorem M6 {α:Type}(p:α→Bool)(s:List α):decide (0≤Io p s)=s.any p:=by
 unfold Io;cases h:s.any p
 ·simp
 ·rw[if_pos rfl];exact decide_eq_true (by omega)
theorem QC {α:Type}{s:List α}{i:Nat}(d:α)(h:i<s.length):s.getD i d∈s:=by
 rw[List.getD_eq_getElem?_getD,List.getElem?_eq_getElem h];exact List.getElem_mem h
def r7 (x:Ln):AV:=.agg (DT x)
theorem aI (s:List Ln)(f:FuncId)(caps:List AV)(p:Ln→Bool)(hl:s.length<1000000)(hc:∀ a∈caps,Settled a)(hp:∀x∈s,Fn Tryz.prog f ([r7 x] ++ caps) (.bool (p x))) :
  Fn Tryz.prog 180 [DR s,.fn f caps] (I (Io p s)):=by
 refine Fn.intro (fn:=Tryz.f180) Tryz.call180 Tryz.func180 rfl mixed 6 [6,7,8] [] [] (by kernel_rfl) (Nat.le_of_ble_eq_true rfl) (Kd (JD s) (JI hc)) (Xl ?_);simp(disch:=omega)only[AS.start,Q2,↓Xd,wG,seval];refine Xj (fun j:Nat=>⟨6,[6,7,8],[DR s,.fn f caps,.any,.any,.any,.any],[(6,DR s),(7,I s.length),(8,I j)],[]⟩) (fun j=>j≤s.length∧∀i,i<j→p (s.getD i Bl)=false) (fun j=>s.length-j) 0 ⟨by omega,by omega⟩
  (Xi rfl (by simp[Xm,I,Q2]) (by simp[Xy,Xz,I,Q2]) rfl) ?_
 rintro j ⟨hj,hno⟩ next
 by_cases h:j<s.length
 ·obtain⟨l1,l2,l3,l4,l5⟩:=xL s j
  have c1:=hp _ (QC Bl h);have el:r7 (s.getD j Bl)=.agg [Z5 (s.getD j Bl).a,.bool (sg (lB s j)),X8 (X9 (lB s j).num.natAbs),.bool false,X8 (X9 (qd (lB s j)))]:=rfl;refine Xl ?_;simp(disch:=omega)only[Q2,l1,l2,l3,l4,l5,qC,XX,↓Xd,wG,seval];refine X0 c1 (X2 _) ?_;simp(disch:=omega)only[↓Xd,wG,seval];refine Qe (fun ht=>Xk (v:=I j) rfl rfl (Xa _) ?_) (fun hf=>next (j+1) _ ⟨by omega,fun i hi=>?_⟩ (by omega) (Xi rfl ?_ ?_ rfl))
  ·rw[M7 Bl h ht hno]
  ·by_cases e:i=j
   ·rw[e];exact hf
   ·exact hno i (by omega)
  ·simp[Xm,I,Q2]
  ·simp[Xy,Xz,I,Q2]
 ·obtain rfl:j=s.length:=by omega
  refine Xl ?_;simp(disch:=omega)only[Q2,↓Xd,wG,seval];exact Xk (v:=I (-1)) rfl rfl (Xa _) (by rw[Hs Bl fun i hi=>hno i hi])
theorem G4 (s:List Ln)(f:FuncId)(caps:List AV)(p:Ln→Bool)(hl:s.length<1000000)(hc:∀ a∈caps,Settled a)(hp:∀x∈s,Fn Tryz.prog f ([r7 x] ++ caps) (.bool (p x))) :
  Fn Tryz.prog 101 [DR s,.fn f caps] (.bool (s.any p)):=by
 refine Fn.intro (fn:=Tryz.f101) Tryz.call101 Tryz.func101 rfl mixed 4 [] [] [] (by kernel_rfl) (Nat.le_of_ble_eq_true rfl) (Kd (JD s) (JI hc)) (Xl ?_);simp(disch:=omega)only[AS.start,↓Xd,wG,seval];refine X0 (aI s f caps p hl hc hp) (X2 _) ?_;simp(disch:=omega)only[↓Xd,wG,seval];exact Xk (v:=.bool (decide (0≤Io p s))) rfl rfl (X5 _) (by rw[M6])
def pP (v:Nat)(L:List Ln)(G:List Rat):AV:=.ptr 3 (Xg (Ci v L G)) 0
theorem FP (v:Nat)(L:List Ln)(G:List Rat):Settled (pP v L G):=XN fun j _=>Xe (l:=Ci v L G) (by simp[Ci,Xa,JD,Qf]) j
theorem I9 (x:Ln):Settled (r7 x):=Xw (A9 x)
theorem Vh (v:Nat)(L:List Ln)(G:List Rat)(x:Ln):Fn Tryz.prog 198 [r7 x,pP v L G] (.bool (decide (x.a.length≠v))):=by
 refine Fn.intro (fn:=Tryz.f198) Tryz.call198 Tryz.func198 rfl mixed 4 [] [] [] (by kernel_rfl) (Nat.le_of_ble_eq_true rfl) (Kd (I9 x) (FP v L G)) (Xl ?_);have f1:(!decide (x.a.length=v))=decide (x.a.length≠v):=by simp
 simp(disch:=omega)only[AS.start,r7,DT,qC,pP,Ci,XX,↓Xd,wG,seval];exact Xk rfl rfl (X5 _) (congrArg AV.bool f1)
theorem cZ (v:Nat)(L:List Ln)(G:List Rat)(hv:v≤48)(hm:L.length≤128)(hG:G.length=v)(ha:∀x∈L,x.a.length=v):Fn Tryz.prog 125 [dC v L G] (I 0):=by
 subst hG;have c1:=G4 L 198 [pP G.length L G] (fun x=>decide (x.a.length≠G.length)) (by omega) (by simp[FP]) (fun x _=>Vh G.length L G x);have e1:(L.any fun x=>decide (x.a.length≠G.length))=false:=by
  rw[List.any_eq_false];intro x hx;simp[ha x hx]
 rw[e1]at c1;have hp0:Xg [AV.int .i64 G.length,.sl L.length (L.length*5) (XA DT 5 Bl L) false,.sl G.length (G.length*4) (Xq fun i=>G.getD i 0) false]=Xg (Ci G.length L G):=by unfold Ci;rw[Q2,XX];rfl
 refine Fq Tryz.call125 Tryz.func125 3 [] [] [] (by simp[Es]) (XL 8 ?_);simp(disch:=omega)only[AS.start,dC,Q2,XX,↓Xd,wG,seval];rw[hp0];refine Run.sub ?_ (Q0 0 rfl);refine Run.sub ?_ (Q5 1 rfl rfl (by omega));refine Xl ?_;simp(disch:=omega)only[AS.put,Ci,Q2,XX,↓Xd,wG,seval];refine X0 c1 (X2 _) ?_;simp(disch:=omega)only[↓Xd,wG,seval];exact Xk rfl rfl (Xa _) rfl
theorem cT (k last:Nat)(hk:k<1000000)(hl:last<1000000):Fn Tryz.prog 128 [I k,.ptr 1 (Xg [I last]) 0] (qA (if last≤k then 1 else 0)):=by
 have sP:Settled (.ptr 1 (Xg [I last]) 0):=XN fun j _=>Xe (l:=[I last]) (by simp[Xa]) j
 have c1:=Cy 1 1 ⟨by omega,by omega⟩ ⟨by omega,by omega⟩;rw[show Rat.divInt 1 1=1 by decide +kernel]at c1;obtain⟨R,hR⟩:∃R,R=qA (if last≤k then(1:Rat)else 0):=⟨_,rfl⟩
 have sR:Settled R:=hR▸Xb _;rw[←hR];by_cases h:last≤k
 ·rw[if_pos h]at hR
  have f1:(last:Int)≤k:=by omega
  refine Fn.intro (fn:=Tryz.f128) Tryz.call128 Tryz.func128 rfl mixed 4 [] [] [] (by kernel_rfl) (Nat.le_of_ble_eq_true rfl) (Kd (Xa _) sP) (Xl ?_);simp(disch:=omega)only[AS.start,f1,↓Xd,wG,seval];refine X1 c1 rfl ?_;simp(disch:=omega)only[qA,qC,↓Xd,wG,seval];exact J7 rfl XT rfl rfl rfl sR (hR.trans rfl)
 ·rw[if_neg h]at hR
  have f1:¬ (last:Int)≤k:=by omega
  refine Fn.intro (fn:=Tryz.f128) Tryz.call128 Tryz.func128 rfl mixed 4 [] [] [] (by kernel_rfl) (Nat.le_of_ble_eq_true rfl) (Kd (Xa _) sP) (Xl ?_);simp(disch:=omega)only[AS.start,f1,↓Xd,wG,seval];exact Q9 rfl XT rfl rfl rfl (hR.trans rfl) sR (Zr _)
def DP (v:Nat)(G:List Rat)(k:Nat):Rat:=if k<v then -lG G k else if k<2*v then lG G (k-v)else 0
theorem cU (v k:Nat)(L:List Ln)(G:List Rat)(hk:k<1000000)(hv:v<100000)(hG:G.length=v):Fn Tryz.prog 132 [I k,pP v L G] (qA (DP v G k)):=by
 subst hG;have sP:=FP G.length L G;have c1:=JX (lG G k);obtain⟨R,hR⟩:∃R,R=qA (DP G.length G k):=⟨_,rfl⟩
 have sR:Settled R:=hR▸Xb _;rw[←hR];unfold DP at hR;by_cases h:k<G.length
 ·rw[if_pos h]at hR
  have w1:=ZU (fun i=>G.getD i 0) k;have w2:=ZQ (fun i=>G.getD i 0) k;refine Fn.intro (fn:=Tryz.f132) Tryz.call132 Tryz.func132 rfl mixed 4 [] [] [] (by kernel_rfl) (Nat.le_of_ble_eq_true rfl) (Kd (Xa _) sP) (Xl ?_);simp(disch:=omega)only[AS.start,pP,Ci,XX,w1,w2,qC,↓Xd,wG,seval];refine X1 c1 rfl ?_;simp(disch:=omega)only[qA,qC,↓Xd,wG,seval];exact J7 rfl XT rfl rfl rfl sR (hR.trans rfl)
 rw[if_neg h]at hR;by_cases h2:k<2*G.length
 ·rw[if_pos h2]at hR
  have w1:=ZU (fun i=>G.getD i 0) (k-G.length);have w2:=ZQ (fun i=>G.getD i 0) (k-G.length);have t1:((k:Int)-G.length).toNat=k-G.length:=by omega
  have f1:¬ (k:Int)<G.length:=by omega
  have f2:(k:Int)<2*G.length:=by omega
  refine Fn.intro (fn:=Tryz.f132) Tryz.call132 Tryz.func132 rfl mixed 4 [] [] [] (by kernel_rfl) (Nat.le_of_ble_eq_true rfl) (Kd (Xa _) sP) (Xl ?_);simp(disch:=omega)only[AS.start,pP,Ci,XX,f1,f2,t1,w1,w2,qC,↓Xd,wG,seval];exact J7 rfl XT rfl rfl rfl sR (hR.trans rfl)
 ·rw[if_neg h2]at hR
  have f1:¬ (k:Int)<G.length:=by omega
  have f2:¬ (k:Int)<2*G.length:=by omega
  refine Fn.intro (fn:=Tryz.f132) Tryz.call132 Tryz.func132 rfl mixed 4 [] [] [] (by kernel_rfl) (Nat.le_of_ble_eq_true rfl) (Kd (Xa _) sP) (Xl ?_);simp(disch:=omega)only[AS.start,pP,Ci,XX,f1,f2,↓Xd,wG,seval];exact Q9 rfl XT rfl rfl rfl (hR.trans rfl) sR (Zr _)
structure Laid (A:List AO)(Y:Lay)(v m n:Nat)(T:Tb)(a:AV):Prop where
 x:A[Y.x]?=some (IU Y v m n a)
 t:A[Y.tid]?=some (tO Y m n)
 b:A[Y.bid]?=some (De Y m T.b)
 r:∀i,i<m→A[Y.rid i]?=some (CZ Y n i (T.t i))
 xt:Y.x≠Y.tid
 xb:Y.x≠Y.bid
 xr:∀i,i<m→Y.x≠Y.rid i
 tb:Y.tid≠Y.bid
 tr:∀i,i<m→Y.tid≠Y.rid i
 br:∀i,i<m→Y.bid≠Y.rid i
 rr:∀i j,i<m→j<m→Y.rid i=Y.rid j→i=j
 bel:Kt A
 born:QV A
theorem Zs {A:List AO}{i:Nat}{o:AO}(h:A[i]?=some o):i<A.length:=(List.getElem?_eq_some_iff.1 h).1
theorem Laid.app {A:List AO}{Y:Lay}{v m n:Nat}{T:Tb}{a:AV}(h:Laid A Y v m n T a)(l:List AO)(hl:∀o∈l,(∀q,A.length+l.length≤q→Qo q o)∧o≠.unborn):Laid (A ++ l) Y v m n T a :=
 ⟨Q1 h.x l,Q1 h.t l,Q1 h.b l,fun i hi=>Q1 (h.r i hi) l,h.xt,h.xb,h.xr,h.tb,h.tr,h.br,h.rr,fun o ho q hq=>by
  rw[List.length_append]at hq;rcases List.mem_append.1 ho with g |g
  ·exact h.bel o g q (by omega)
  ·exact(hl o g).1 q hq,Kg h.born fun o ho=>(hl o ho).2⟩
def Lay.cost (Y:Lay)(i:Nat):Lay:={ Y with cid:=i,cv:=0 }
def Be (A:List AO)(Y:Lay)(v m n:Nat)(c:Nat→Rat):List AO:=A.set Y.x (IU Y v m n (.osl A.length 0 4 0 (n+1))) ++ [.row 0 ((n+1)*4) (Xq (ZZ n c))]
theorem mq {H:List AO}{Y:Lay}{v m n:Nat}{T:Tb}(h:Y.Ok H v m n)(hb:H[Y.bid]?=some (De Y m T.b)) (hc:H[Y.cid]?=some (Dj Y n T.c)) (hr:∀i,i<m→H[Y.rid i]?=some (CZ Y n i (T.t i))):HT H Y m n T=H:=by
 refine im (DZ T) fun a ha=>?_
 by_cases eb:a=Y.bid
 ·subst eb;rw[PM h,hb]
 by_cases ec:a=Y.cid
 ·subst ec;rw[IW h,hc]
 by_cases er:∃j,j<m∧a=Y.rid j
 ·obtain⟨j,hj,rfl⟩:=er
  rw[Ik h _ hj,hr j hj]
 ·rw[D9 T eb ec fun j hj g=>er ⟨j,hj,g⟩]
theorem Laid.priced {A:List AO}{Y:Lay}{v m n:Nat}{T:Tb}{a:AV}(h:Laid A Y v m n T a)(c:Nat→Rat) :
  (Y.cost A.length).Ok (Be A Y v m n c) v m n∧HT (Be A Y v m n c) (Y.cost A.length) m n { T with c:=c }=Be A Y v m n c∧Kt (Be A Y v m n c)∧QV (Be A Y v m n c):=by
 have xl:=Zs h.x;have tl:=Zs h.t;have bl:=Zs h.b;have rl:=fun i hi=>Zs (h.r i hi)
 have len:(Be A Y v m n c).length=A.length+1:=by unfold Be;rw[List.length_append,List.length_set];rfl
 have hx:(Be A Y v m n c)[Y.x]?=some (IU Y v m n (.osl A.length 0 4 0 (n+1))):=Q1 (List.getElem?_set_self xl) _;have ht:(Be A Y v m n c)[Y.tid]?=some (tO Y m n):=Q1 (by rw[List.getElem?_set_ne h.xt];exact h.t) _;have hb:(Be A Y v m n c)[Y.bid]?=some (De Y m T.b):=Q1 (by rw[List.getElem?_set_ne h.xb];exact h.b) _;have hr:∀i,i<m→(Be A Y v m n c)[Y.rid i]?=some (CZ Y n i (T.t i)):=fun i hi=>Q1 (by rw[List.getElem?_set_ne (h.xr i hi)];exact h.r i hi) _
 have hc:(Be A Y v m n c)[A.length]?=some (.row 0 ((n+1)*4) (Xq (ZZ n c))):=Bm (by rw[List.length_set]) _ _;have ok:(Y.cost A.length).Ok (Be A Y v m n c) v m n:=by
  refine⟨hx,ht,by rw[len];show Y.bid<_;omega,by rw[len];show A.length<_;omega,fun i hi=>by have:=rl i hi;rw[len];show Y.rid i<_;omega,h.xb,?_,h.xr,h.tb,?_,h.tr,?_,h.br,fun i hi=>?_,h.rr⟩
  ·show Y.x≠A.length;omega
  ·show Y.tid≠A.length;omega
  ·show Y.bid≠A.length;omega
  ·show A.length≠Y.rid i
   have:=rl i hi;omega
 refine⟨ok,mq ok hb hc hr,fun o ho q hq=>?_,Kg (Zh h.born (by simp[IU])) fun o ho=>by rw[List.mem_singleton.1 ho];simp⟩;rw[len]at hq;rcases List.mem_append.1 ho with g |g
 ·rcases List.mem_or_eq_of_mem_set g with g |g
  ·exact h.bel o g q (by omega)
  ·rw[g];exact Rf Y v m n (JT (by omega)) (by omega) (by omega)
 ·rw[List.mem_singleton.1 g];exact ZI _ _ _ _
theorem Lay.Ok.laid {H:List AO}{Y:Lay}{v m n:Nat}(h:Y.Ok H v m n)(T:Tb)(hxt:Y.x≠Y.tid)(hH:Kt H)(hB:QV H):Laid (HT H Y m n T) Y v m n T (.osl Y.cid Y.cv 4 0 (n+1)) :=
 ⟨dK h T,mr h T,PM h T,fun i hi=>Ik h T hi,hxt,h.xb,h.xr,h.tb,h.tr,h.br,h.rr,Df T hH,OY T hB⟩
def LK (A:List AO)(Y:Lay)(n:Nat)(T:Tb):Nat→List AO
 |0=>A
 |i+1=>(LK A Y n T i).set (Y.rid i) (.con (Y.rv i) ((n+1)*4) (Xq (ZZ n (T.t i))))
theorem LM (A:List AO)(Y:Lay)(n:Nat)(T:Tb):∀i,(LK A Y n T i).length=A.length
 |0=>rfl
 |i+1=>by unfold LK;rw[List.length_set,LM]
theorem Pg {A:List AO}{Y:Lay}{n:Nat}{T:Tb}{a:Nat}:∀i,(∀j,j<i→a≠Y.rid j)→(LK A Y n T i)[a]?=A[a]?
 |0,_=>rfl
 |i+1,h=>by unfold LK;rw[List.getElem?_set_ne (Ne.symm (h i (by omega))),Pg i fun j hj=>h j (by omega)]
theorem W4 {A:List AO}{Y:Lay}{n m:Nat}{T:Tb}(hr:∀ i,i<m→Y.rid i<A.length)(hd:∀ i j,i<m→j<m→Y.rid i=Y.rid j→i=j){k:Nat}:∀i,i≤m→k<i→(LK A Y n T i)[Y.rid k]?=some (.con (Y.rv k) ((n+1)*4) (Xq (ZZ n (T.t k))))
 |i+1,hi,hk=>by
  unfold LK;by_cases e:k=i
  ·subst e;rw[List.getElem?_set_self (by rw[LM];exact hr k (by omega))]
  ·rw[List.getElem?_set_ne (fun g=>e (hd i k (by omega) (by omega) g).symm),W4 hr hd i (by omega) (by omega)]
theorem Te {b:Nat}{s:AS}{Y:Lay}{n m:Nat}{T:Tb}(hr:∀i,i<m→s.h[Y.rid i]?=some (CZ Y n i (T.t i))) (hd:∀i j,i<m→j<m→Y.rid i=Y.rid j→i=j):∀i,i≤m→Sub b s { s with h:=LK s.h Y n T i }
 |0,_=>Sub.rfl' _ _
 |i+1,hi=>by
  refine(Te hr hd i (by omega)).trans ?_;exact Q0 (s:={ s with h:=LK s.h Y n T i }) (Y.rid i) (by
   show(LK s.h Y n T i)[Y.rid i]?=_;rw[Pg i fun j hj g=>by have:=hd i j (by omega) (by omega) g;omega];exact hr i (by omega))
theorem tz {b:Nat}{s:AS}{Y:Lay}{v m n xb:Nat}{T:Tb}(hL:Laid s.h Y v m n T (.osl Y.cid Y.cv 4 0 (n+1))) (hc:s.h[Y.cid]?=some (Dj Y n T.c)) (hcx:Y.x≠Y.cid) (hct:Y.tid≠Y.cid) (hcb:Y.bid≠Y.cid) (hcr:∀i,i<m→Y.cid≠Y.rid i)
  (hxb:s.h[xb]?=some (XU (.ref Y.x Y.vx 0))) (h1:xb≠Y.x) (h2:xb≠Y.tid) (h3:xb≠Y.bid) (h4:xb≠Y.cid) (h5:∀i,i<m→xb≠Y.rid i) :
  ∃F,Sub b s { s with h:=F }∧F.length=s.h.length∧F[xb]?=some (XU (xP v m n T))∧∀a,a≠xb→a≠Y.x→a≠Y.tid→a≠Y.bid→a≠Y.cid→(∀i,i<m→a≠Y.rid i)→F[a]?=s.h[a]?:=by
 have rl:=fun i hi=>Zs (hL.r i hi)
 obtain⟨F1,e1⟩:∃F1,F1=LK s.h Y n T m:=⟨_,rfl⟩
 have l1:F1.length=s.h.length:=by rw[e1,LM]
 have n1:∀a,(∀i,i<m→a≠Y.rid i)→F1[a]?=s.h[a]?:=fun a ha=>by rw[e1,Pg m ha]
 have r1:∀i,i<m→F1[Y.rid i]?=some (.con (Y.rv i) ((n+1)*4) (Xq (ZZ n (T.t i)))):=fun i hi=>by rw[e1];exact W4 rl hL.rr m (Nat.le_refl _) hi
 have S1:Sub b s { s with h:=F1 }:=e1▸Te hL.r hL.rr m (Nat.le_refl _);obtain⟨F2,e2⟩:∃F2,F2=F1.set Y.cid (.con Y.cv ((n+1)*4) (Xq (ZZ n T.c))):=⟨_,rfl⟩
 have S2:Sub b { s with h:=F1 } { s with h:=F2 }:=e2▸Q0 (s:={ s with h:=F1 }) Y.cid (by show F1[Y.cid]?=_;rw[n1 _ hcr];exact hc);obtain⟨F3,e3⟩:∃F3,F3=F2.set Y.bid (.con Y.bv m (fun i=>I ((if i<m then T.b i else 0:Nat)))):=⟨_,rfl⟩
 have S3:Sub b { s with h:=F2 } { s with h:=F3 }:=e3▸Q0 (s:={ s with h:=F2 }) Y.bid (by show F2[Y.bid]?=_;rw[e2,List.getElem?_set_ne (Ne.symm hcb),n1 _ hL.br];exact hL.b);have l3:F3.length=s.h.length:=by rw[e3,e2,List.length_set,List.length_set,l1]
 have t3:F3[Y.tid]?=some (tO Y m n):=by rw[e3,e2,List.getElem?_set_ne (Ne.symm hL.tb),List.getElem?_set_ne (Ne.symm hct),n1 _ hL.tr];exact hL.t
 have r3:∀i,i<m→F3[Y.rid i]?=some (.con (Y.rv i) ((n+1)*4) (Xq (ZZ n (T.t i)))):=fun i hi=>by rw[e3,e2,List.getElem?_set_ne (hL.br i hi),List.getElem?_set_ne (hcr i hi)];exact r1 i hi
 obtain⟨F4,e4⟩:∃F4,F4=F3.set Y.tid (.row Y.tv m (fun i=>Pv n (T.t i))):=⟨_,rfl⟩
 have S4:Sub b { s with h:=F3 } { s with h:=F4 }:=e4▸QL (s:={ s with h:=F3 }) Y.tid (fun i=>Pv n (T.t i)) t3 (fun j hj=>Zg (r3 j hj) (Nat.le_refl _) (by omega) fun _ _=>XR _ _);have tl:=Zs hL.t;have xl:=Zs hL.x;have bl:=Zs hL.b;have cl:=Zs hc;obtain⟨F5,e5⟩:∃F5,F5=F4.set Y.tid (.con Y.tv m (fun i=>Pv n (T.t i))):=⟨_,rfl⟩
 have S5:Sub b { s with h:=F4 } { s with h:=F5 }:=e5▸Q0 (s:={ s with h:=F4 }) Y.tid (by show F4[Y.tid]?=_;rw[e4,List.getElem?_set_self (by omega)]);have l5:F5.length=s.h.length:=by rw[e5,e4,List.length_set,List.length_set,l3]
 have t5:F5[Y.tid]?=some (.con Y.tv m (fun i=>Pv n (T.t i))):=by rw[e5,List.getElem?_set_self (by rw[e4,List.length_set];omega)]
 have n5:∀a,a≠Y.tid→F5[a]?=F3[a]?:=fun a ha=>by rw[e5,e4,List.getElem?_set_ne (Ne.symm ha),List.getElem?_set_ne (Ne.symm ha)]
 have c5:F5[Y.cid]?=some (.con Y.cv ((n+1)*4) (Xq (ZZ n T.c))):=by rw[n5 _ (Ne.symm hct),e3,List.getElem?_set_ne hcb,e2,List.getElem?_set_self (by omega)]
 have b5:F5[Y.bid]?=some (.con Y.bv m (fun i=>I ((if i<m then T.b i else 0:Nat)))):=by rw[n5 _ (Ne.symm hL.tb),e3,List.getElem?_set_self (by rw[e2,List.length_set];omega)]
 have x5:F5[Y.x]?=some (IU Y v m n (.osl Y.cid Y.cv 4 0 (n+1))):=by rw[n5 _ hL.xt,e3,e2,List.getElem?_set_ne (Ne.symm hL.xb),List.getElem?_set_ne (Ne.symm hcx),n1 _ hL.xr];exact hL.x
 obtain⟨F6,e6⟩:∃F6,F6=F5.set Y.x (.row Y.vx 6 (Xg (xC v m n T))):=⟨_,rfl⟩
 have S6:Sub b { s with h:=F5 } { s with h:=F6 }:=e6▸QL (s:={ s with h:=F5 }) Y.x (Xg (xC v m n T)) x5 (fun j hj=>by
  match j,hj with
  |0,_=>exact XR _ _
  |1,_=>exact XR _ _
  |2,_=>exact XR _ _
  |3,_=>exact Zg t5 (Nat.le_refl _) (fun h=>h) fun _ _=>XR _ _
  |4,_=>exact Zg c5 (Nat.le_refl _) (by omega) fun _ _=>XR _ _
  |5,_ =>
   show KR _ (.osl Y.bid Y.bv 1 0 m) (X8 (OV m T));rw[Xu,FZ];refine Zg b5 (Nat.le_refl _) (fun h=>h) fun j hj=>?_
   rw[AM,Is T hj,if_pos hj];exact XR _ _
  |j+6,h=>omega)
 obtain⟨F7,e7⟩:∃F7,F7=F6.set Y.x (.con Y.vx 6 (Xg (xC v m n T))):=⟨_,rfl⟩
 have S7:Sub b { s with h:=F6 } { s with h:=F7 }:=e7▸Q0 (s:={ s with h:=F6 }) Y.x (by show F6[Y.x]?=_;rw[e6,List.getElem?_set_self (by omega)]);have x7:F7[Y.x]?=some (.con Y.vx 6 (Xg (xC v m n T))):=by rw[e7,List.getElem?_set_self (by rw[e6,List.length_set];omega)]
 have n7:∀a,a≠Y.x→F7[a]?=F5[a]?:=fun a ha=>by rw[e7,e6,List.getElem?_set_ne (Ne.symm ha),List.getElem?_set_ne (Ne.symm ha)]
 have n3:∀a,a≠Y.bid→a≠Y.cid→(∀i,i<m→a≠Y.rid i)→F3[a]?=s.h[a]?:=fun a ha hb hr=>by rw[e3,e2,List.getElem?_set_ne (Ne.symm ha),List.getElem?_set_ne (Ne.symm hb),n1 _ hr]
 have xb7:F7[xb]?=some (XU (.ref Y.x Y.vx 0)):=by rw[n7 _ h1,n5 _ h2,n3 _ h3 h4 h5];exact hxb
 have l7:F7.length=s.h.length:=by rw[e7,e6,List.length_set,List.length_set,l5]
 refine⟨F7.set xb (XU (xP v m n T)),?_,by rw[List.length_set,l7],List.getElem?_set_self (Zs xb7),fun a a1 a2 a3 a4 a5 a6=>by rw[List.getElem?_set_ne (Ne.symm a1),n7 _ a2,n5 _ a3,n3 _ a4 a5 a6]⟩;refine S1.trans (S2.trans (S3.trans (S4.trans (S5.trans (S6.trans (S7.trans ?_))))));exact QL (s:={ s with h:=F7 }) xb (Xg [xP v m n T]) xb7 (fun j hj=>by
  obtain rfl:j=0:=by omega
  exact Vp x7 (by omega) fun _ _=>XR _ _)
end
end Go.Ab.N
