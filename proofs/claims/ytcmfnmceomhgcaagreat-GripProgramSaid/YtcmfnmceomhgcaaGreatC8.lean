/- Contracts of functions, for every argument that fits. -/
import Derived.Test.YtcmfnmceomhgcaaGreatC7
set_option linter.unusedSimpArgs false
set_option linter.unusedVariables false
namespace Go.Ab.N
open Go Go.RowKit Go.Proofs
noncomputable section
set_option maxRecDepth 10000
set_option maxHeartbeats 4000000
open Classical
def CC (Y:Lay):AO:=.row 0 1 (Xf [.ref Y.x Y.vx 0])
def XU (a:AV):AO:=.row 0 1 (Xf [a])
def VC (n:Nat)(o:AO):Prop:=o≠.unborn∧∀m,n≤m→Qa m o
theorem Hh {n:Nat}{a:AV}(h:∀m,n≤m→Jq m a):VC n (XU a):=⟨by simp[XU],fun m hm j hj=>by
 obtain rfl:j=0:=by omega
 exact h m hm⟩
theorem ZG {a:AV}{m v:Nat}(h:Jq m a):Qa m (.row v 1 (Xf [a])):=fun j hj=>by
 obtain rfl:j=0:=by omega
 exact h
theorem TO (c:Code)(k:List Item):pU (some c) k=.code c :: k:=rfl
theorem jQ (H:List AO)(Y:Lay)(v m n E K:Nat)(S:Nat→Tb)(hY:Y.Ok H v m n)(hH:Kt H)(hB:QZ H)(hE:E≤n)(hn:n<100000)(hm:m<100000){Q:Nat}(hQ:Q≤15000000)
  (hq:∀k,k≤K→∀i j,i<m→j≤n→qb ((S k).t i j)≤Q) (hqc:∀k,k≤K→∀j,j≤n→qb ((S k).c j)≤Q)
  (hs:∀k,k<K→∃p r,Lx E (S k) p∧KZ (S k) n p m=some r∧S (k+1)=FL (S k) r p) (hend:∀j,j<E→0≤(S K).c j) :
  HCall Tryz.prog 129 [.ref Y.x Y.vx 0,I E] (HT H Y m n (S 0)) (I (-1)) (HT H Y m n (S K)):=by
 have hlen:=fun T=>DV (H:=H) (Y:=Y) (m:=m) (n:=n) T
 obtain⟨n0,hn0⟩:∃n0,H.length=n0:=⟨_,rfl⟩
 have l0:=fun T=>(hlen T).trans hn0
 have e0:=fun T=>Bi (l0 T)
 have e1:=fun T=>FD (l0 T)
 have e2:=fun T=>YW (l0 T)
 have es2:∀T (x y z w:AO) l,(HT H Y m n T ++ x :: y :: z :: l).set (n0+2) w=HT H Y m n T ++ x :: y :: w :: l:=fun T x y z w l=>by
  rw[List.set_append_right _ _ (by rw[l0];omega),l0,show n0+2-n0=2 by omega];rfl
 have el:=fun T=>Zw (l0 T)
 have xlt:Y.x<n0:=hn0▸(List.getElem?_eq_some_iff.1 hY.x).1;refine HCall.introC (fn:=Tryz.f129) Tryz.call129 Tryz.func129 rfl mixed 8 [12,23] [] [] (by kernel_rfl) (Nat.le_of_ble_eq_true rfl) (X6 (Xb _)) (fun o ho=>D8 _ hH o ho _ (by rw[hlen,hlen];exact Nat.le_refl _)) (Xk ?_);simp(disch:=omega)only[AS.start,e0,e1,e2,es2,el,l0,List.append_assoc,↓Xd,wG,seval];refine Xj (fun j:Nat×List AO×Bool=>⟨8,[12,23],[.ref Y.x Y.vx 0,I E,.ref n0 0 0,.any,.ref (n0+1) 0 0,.ref (n0+2+j.2.1.length) 0 0,.any,.any],[],(HT H Y m n (S j.1) ++ (CC Y :: XU (I 0) :: j.2.1)) ++ [XU (.bool j.2.2)]⟩) (fun j=>j.1≤K∧(j.2.2=false→j.1=K)∧∀o∈j.2.1,VC n0 o) (fun j=>2*(K-j.1)+j.2.2.toNat) (0,[],true) ⟨by omega,by simp,by simp⟩
  (BA (by simp[Xm,I]) (by simp[CC,XU,I])) ?_
 rintro⟨k,G,b⟩ ⟨hk,hb,hG⟩ next
 simp only at hk hb hG;obtain⟨q0,hq0⟩:∃q0,q0=n0+2+G.length:=⟨_,rfl⟩
 have mk:∀T:Tb,∃Z,Z=HT H Y m n T ++ (CC Y :: XU (I 0) :: G):=fun T=>⟨_,rfl⟩
 obtain⟨Z,hZ⟩:=mk (S k);have zl:Z.length=q0:=by rw[hZ,el,hq0];simp;omega
 have z0:∀l,(Z ++ l)[n0]?=some (CC Y):=fun l=>by rw[hZ,List.append_assoc];exact e0 _ _ _
 have zz0:=Bi zl;have zz1:=FD zl;have zz2:=YW zl;have zs0:=CO zl;have zL:=Zw zl;show Run _ _ ⟨8,[12,23],[.ref Y.x Y.vx 0,I E,.ref n0 0 0,.any,.ref (n0+1) 0 0,.ref (n0+2+G.length) 0 0,.any,.any],[],(HT H Y m n (S k) ++ (CC Y :: XU (I 0) :: G)) ++ [XU (.bool b)]⟩;rw[←hZ,←hq0];cases b with
 |false =>
  obtain rfl:=hb rfl;clear next
  have n1:n0+1<Z.length:=by omega
  have zs1:=fun o l=>Kv n1 o l
  have zg1:∀o l,(Z.set (n0+1) o ++ l)[n0+1]?=some o:=fun o l=>XZ (List.getElem?_set_self n1) l
  have ht:∀o l,(Z.set (n0+1) o ++ l).take n0=HT H Y m n (S k):=fun o l=>by
   rw[hZ,List.set_append_right _ _ (by rw[l0];omega),l0,show n0+1-n0=1 by omega,List.append_assoc];exact Ch (l0 _) _
  have z1:∀l,(Z ++ l)[n0+1]?=some (XU (I 0)):=fun l=>by rw[hZ,List.append_assoc];exact e1 _ _ _ _
  unfold XU at zz0 z1 zg1;refine Xk ?_;simp(disch:=omega)only[zz0,z1,zs1,XU,↓Xd,wG,seval];refine Wm (v:=I (-1)) (t:=4) (u:=3) rfl ?_ rfl (by rw[l0];exact ht _ _);show Qm Tryz.prog false 3 (.ref (n0+1) 0 0) (Z.set (n0+1) _ ++ _)=_;rw[AR,uX,JZ,XZ (List.getElem?_set_self n1),K0,jx];simp[Q4,Xf,I]
 |true =>
  have zb:Kt Z:=fun o ho q' hq'=>by
   rw[zl]at hq';rw[hZ]at ho;rcases List.mem_append.1 ho with h |h
   ·exact D8 _ hH o h _ (by rw[hlen];omega)
   ·simp only[List.mem_cons]at h
    rcases h with rfl |rfl |h
    ·exact ZG (QH (by omega))
    ·exact ZG (X6 (Xb _))
    ·exact(hG o h).2 _ (by omega)
  have hbl:QZ (CC Y :: XU (I 0) :: G):=fun o ho=>by
   rcases List.mem_cons.1 ho with rfl |ho
   ·simp[CC]
   rcases List.mem_cons.1 ho with rfl |h
   ·simp[XU]
   ·exact(hG o h).1
  have born:∀ (T:Tb) (l:List AO),QZ l→∀id:Nat,((HT H Y m n T ++ (CC Y :: XU (I 0) :: G)) ++ l)[id]?≠some AO.unborn:=fun T l hl id=>QB (Kf (Kf (OI _ hB) hbl) hl) id
  have zborn:=born (S k);rw[←hZ]at zborn;have zx:∀l,(Z ++ l)[Y.x]?=some (xO Y v m n):=fun l=>by rw[hZ,List.append_assoc];exact XZ (cN hY _) _
  have zc:∀l,(Z ++ l)[Y.cid]?=some (Dd Y n (S k).c):=fun l=>by rw[hZ,List.append_assoc];exact XZ (IR hY _) _
  have hen:HCall Tryz.prog 201 [.ref Y.x Y.vx 0,I E] (Z ++ [XU (.bool false)]) (.fn 228 [.ref (q0+2) 0 0,.ref (q0+1) 0 0]) (Z ++ [XU (.bool false),CC Y,XU (I E)]):=by
   have:=Rd (Z ++ [XU (.bool false)]) Y E;rw[zL,List.append_assoc]at this;exact this
  have hce1:JP (Z ++ [XU (.bool false)]) (Z ++ [XU (.bool false),CC Y,XU (I E)]):=by
   have h1:=Zf (h:=Z ++ [XU (.bool false)]) (ob:=CC Y) (by simp[CC]);have h2:=Zf (h:=(Z ++ [XU (.bool false)]) ++ [CC Y]) (ob:=XU (I E)) (by simp[XU]);intro a w i f;rw[h1,h2,List.append_assoc,List.append_assoc];rfl
  unfold CC at z0;unfold XU at zz0;refine Xk ?_;simp(disch:=omega)only[zz0,z0,zs0,XU,Jb,↓Xd,wG,seval];refine XJ rfl hen hce1 (zborn _ (by intro o ho;rw[List.mem_singleton.1 ho];simp)) (X2 _) ?_;simp(disch:=omega)only[Jb,↓Xd,wG,seval];have bl3:∀b,∀o∈[XU (.bool b),CC Y,XU (I E)],VC n0 o:=fun b o ho=>by
   simp only[List.mem_cons,List.not_mem_nil,or_false]at ho;rcases ho with rfl |rfl |rfl
   ·exact Hh fun m _=>X6 (X5 _)
   ·exact Hh fun m hm=>QH (by omega)
   ·exact Hh fun m _=>X6 (Xb _)
  refine Run.sub (s':=⟨8,[12,23],[.ref Y.x Y.vx 0,I E,.ref n0 0 0,.any,.ref (n0+1) 0 0,.ref q0 0 0,.any,.any],[(11,.fn 228 [.ref (q0+2) 0 0,.ref (q0+1) 0 0])],Z ++ [XU (.bool false),CC Y,XU (I E)]⟩) ?_ (Xi rfl (by simp[Xm,I]) (by simp[Xw,XA]) (by simp[XU,CC,I]));have hG3:∀b,∀o∈G ++ [XU (.bool b),CC Y,XU (I E)],VC n0 o:=fun b o ho=>(List.mem_append.1 ho).elim (hG o) (bl3 b o)
  have zz3:=YX zl;have zs3:=VT zl;have zbl:∀b,Kt (Z ++ [XU (.bool b),CC Y,XU (I E)]):=fun b=>Ni zb fun o ho m hm=>(bl3 b o ho).2 m (by omega)
  by_cases hk2:k<K
  rotate_left
  ·obtain rfl:k=K:=by omega
   refine Fs (gf:=228) (caps:=[.ref (q0+2) 0 0,.ref (q0+1) 0 0]) (Hn:=Z ++ [XU (.bool false),CC Y,XU (I E)]) rfl rfl rfl (fun t ht=>?_) ?_
   ·exact aj _ Y v m n E (q0+2) (q0+1) (S k).c t (zz2 _ _ _ _) (zz1 _ _ _) (zx _) (zc _) hE hn (by rw[ht.ch];exact Nat.le_refl _) (zbl _) hend
   ·refine Xk ?_
    simp(disch:=omega)only[zz0,zz3,zs3,zL,XU,CC,List.append_assoc,↓Xd,wG,seval];refine next (k,G ++ [XU (.bool false),CC Y,XU (I E)],false) _ ⟨hk,fun _=>rfl,hG3 _⟩ (by show 2*(k-k)+0<2*(k-k)+1;omega) ?_
    have eq3:q0+3=n0+2+(G ++ [XU (.bool false),CC Y,XU (I E)]).length:=by rw[List.length_append];simp only[List.length_cons,List.length_nil];omega
    show Sub _ _ ⟨8,[12,23],[.ref Y.x Y.vx 0,I E,.ref n0 0 0,.any,.ref (n0+1) 0 0,.ref (n0+2+(G ++ [XU (.bool false),CC Y,XU (I E)]).length) 0 0,.any,.any],[],(HT H Y m n (S k) ++ (CC Y :: XU (I 0) :: (G ++ [XU (.bool false),CC Y,XU (I E)]))) ++ [XU (.bool false)]⟩;rw[←eq3];refine BA (by simp[Xm,I]) (by simp[hZ,XU,CC,I])
  ·obtain⟨p,r,hen2,hlv,hpv⟩:=hs k hk2
   have hl:=BU hlv;have hp:p<E:=hen2.1;have hr:r<m:=hl.1;have d0:(S k).t r p≠0:=by have:=hl.2.1;grind
   obtain⟨Z',hZ'⟩:=mk (S (k+1));have zl':Z'.length=q0:=by rw[hZ',el,hq0];simp;omega
   have hbelT:∀T,∀o∈HT H Y m n T,Qa (HT H Y m n T).length o:=fun T o ho=>D8 _ hH o ho _ (by rw[hlen];exact Nat.le_refl _)
   have hx0:∀T,Jq (HT H Y m n T).length (.ref Y.x Y.vx 0):=fun T=>QH (by rw[l0];omega)
   have c1:∀l,HCall Tryz.prog 202 [.ref Y.x Y.vx 0,I p] (Z ++ l) (I r) (Z ++ l):=fun l=>by
    have h1:=Uk H Y v m n p (S k) hY hH hB (by omega) hn hm hQ (hq k (by omega));rw[hlv]at h1;have h2:=h1.frame rfl (by
     intro a ha;simp only[List.mem_cons,List.not_mem_nil,or_false]at ha;rcases ha with rfl |rfl
     ·exact hx0 _
     ·exact X6 (Xb _)) (hbelT _) ((CC Y :: XU (I 0) :: G) ++ l)
    rw[←List.append_assoc,←hZ]at h2;exact h2
   have c2:∀l,HCall Tryz.prog 203 [.ref Y.x Y.vx 0,I r,I p] (Z ++ l) (.tup []) (Z' ++ l):=fun l=>by
    have h1:=jn H Y v m n r p (S k) hY hH hB hr (by omega) d0 hn hm hQ (hq k (by omega)) (hqc k (by omega));rw[←hpv]at h1;have h2:=h1.frame (by rw[hlen,hlen]) (by
     intro a ha;simp only[List.mem_cons,List.not_mem_nil,or_false]at ha;rcases ha with rfl |rfl |rfl
     ·exact hx0 _
     ·exact X6 (Xb _)
     ·exact X6 (Xb _)) (hbelT _) ((CC Y :: XU (I 0) :: G) ++ l)
    rw[←List.append_assoc,←List.append_assoc,←hZ,←hZ']at h2;exact h2
   have hce2:∀l,JP (Z ++ l) (Z' ++ l):=fun l=>Fy (by rw[zl,zl']) (by rw[hZ,hZ'];exact Fy (by rw[hlen,hlen]) (R4 hY _ _) _) l
   have zb':Kt Z':=fun o ho q' hq'=>by
    rw[zl']at hq';rw[hZ']at ho;rcases List.mem_append.1 ho with h |h
    ·exact D8 _ hH o h _ (by rw[hlen];omega)
    ·simp only[List.mem_cons]at h
     rcases h with rfl |rfl |h
     ·exact ZG (QH (by omega))
     ·exact ZG (X6 (Xb _))
     ·exact(hG o h).2 _ (by omega)
   have zbl':∀b,Kt (Z' ++ [XU (.bool b),CC Y,XU (I E)]):=fun b=>Ni zb' fun o ho m hm=>(bl3 b o ho).2 m (by omega)
   have z0':∀l,(Z' ++ l)[n0]?=some (CC Y):=fun l=>by rw[hZ',List.append_assoc];exact e0 _ _ _
   have y0:=Bi zl';have y3:=YX zl';have ys0:=CO zl';have ys3:=VT zl';have yL:=Zw zl';have bor3:∀b,QZ [XU (.bool b),CC Y,XU (I E)]:=fun b o ho=>(bl3 b o ho).1
   unfold CC at z0';unfold XU at y0;refine En (some (.exit 2)) (fun c e=>.inr ⟨2,by cases e;rfl⟩) (gf:=228) (caps:=[.ref (q0+2) 0 0,.ref (q0+1) 0 0]) (Hn:=Z' ++ [XU (.bool true),CC Y,XU (I E)]) rfl rfl rfl (fun t ht=>?_) ?_
   ·refine iC _ _ Y v m n E (q0+2) (q0+1) p (S k).c t (.exit 2) (zz2 _ _ _ _) (zz1 _ _ _) (zx _) (zc _) hE hn (by rw[ht.ch];exact Nat.le_refl _) (zbl' _) (by rw[yL,zL];rfl) hp hen2.2.1 hen2.2.2 ?_
    refine ME (str:=[]) (hcs:=[]) (some (.exit 2)) (fun c e=>.inr ⟨2,by cases e;rfl⟩) ht mixed (by kernel_rfl) (by kernel_rfl) rfl (fun p hp=>?_) (fun o ho=>zbl' _ o ho _ (by rw[yL,zL];exact Nat.le_refl _)) (fun l' r' hr'=>?_)
    ·obtain rfl:p=12:=by simpa using hp
     exact Nat.le_of_ble_eq_true rfl
    show Run _ _ ⟨8,[12,23],[.ref Y.x Y.vx 0,I E,.ref n0 0 0,.any,.ref (n0+1) 0 0,.ref q0 0 0,.any,.any],[(12,I p),(11,.fn 228 [.ref (q0+2) 0 0,.ref (q0+1) 0 0])],Z ++ [XU (.bool false),CC Y,XU (I E)]⟩;have fr:¬ (r:Int)<0:=by omega
    refine Xk ?_;simp(disch:=omega)only[Jb,wQ,↓Xd,wG,seval];refine U7 hr' ?_;refine XG 38 ?_;simp(disch:=omega)only[z0,Jb,wQ,↓Xd,wG,seval];refine XJ rfl (c1 _) (Ku _) (zborn _ (bor3 _)) (X2 _) ?_;simp(disch:=omega)only[fr,z0,Jb,wQ,↓Xd,wG,seval];refine XJ rfl (c2 _) (hce2 _) (zborn _ (bor3 _)) (X2 _) ?_;simp(disch:=omega)only[y0,ys0,z0',XU,Jb,wQ,↓Xd,wG,seval];refine aX (q:=(l',{ r' with state:=.busy })) (l:=0) (r:=iM) (r1:=qE (.exit 2)) rfl rfl rfl rfl ?_;show List.take _ _=_;exact List.take_of_length_le (by rw[zL,yL];exact Nat.le_refl _)
   ·rw[TO]
    show Run _ _ ⟨8,[12,23],[.ref Y.x Y.vx 0,I E,.ref n0 0 0,.any,.ref (n0+1) 0 0,.ref q0 0 0,.any,.any],[(11,.fn 228 [.ref (q0+2) 0 0,.ref (q0+1) 0 0])],Z' ++ [XU (.bool true),CC Y,XU (I E)]⟩;refine Xk ?_;simp(disch:=omega)only[y0,y3,ys3,yL,XU,CC,List.append_assoc,↓Xd,wG,seval];refine next (k+1,G ++ [XU (.bool true),CC Y,XU (I E)],true) _ ⟨hk2,(fun e=>absurd e (by simp)),hG3 _⟩ (by show 2*(K-(k+1))+1<2*(K-k)+1;omega) ?_
    have eq3:q0+3=n0+2+(G ++ [XU (.bool true),CC Y,XU (I E)]).length:=by rw[List.length_append];simp only[List.length_cons,List.length_nil];omega
    show Sub _ _ ⟨8,[12,23],[.ref Y.x Y.vx 0,I E,.ref n0 0 0,.any,.ref (n0+1) 0 0,.ref (n0+2+(G ++ [XU (.bool true),CC Y,XU (I E)]).length) 0 0,.any,.any],[],(HT H Y m n (S (k+1)) ++ (CC Y :: XU (I 0) :: (G ++ [XU (.bool true),CC Y,XU (I E)]))) ++ [XU (.bool true)]⟩;rw[←eq3];refine BA (by simp[Xm,I]) (by simp[hZ',XU,CC,I])
theorem Kd (t:Bool):WeakL [.bool false,.sl 0 0 (fun _=>.any) t,.bool false,.sl 0 0 (fun _=>.any) t] (qC 0) :=
 have h1:X9 (0:Rat).num.natAbs=[]:=by rw[Rat.zero_num];simp[Qj]
 have h2:X9 (qd (0:Rat))=[]:=Ma rfl
 ⟨Weak.rfl' _,Zn h1,Weak.rfl' _,Zn h2,trivial⟩
theorem Fa (N:Nat)(j:Nat):Weak (ZE zeroR j) (Xn (fun _=>0) j):=by
 rw[Fb _ _ (by simp[zeroR])];show Weak (zeroR.getD (j%4) .any) ((qC 0).getD (j%4) .any);obtain⟨w1,w2,w3,w4,_⟩:=Kd true;have h:j%4<4:=Nat.mod_lt _ (by omega);generalize j%4=i at *
 match i,h with
 |0,_=>exact w1
 |1,_=>exact w2
 |2,_=>exact w3
 |3,_=>exact w4
theorem qz {P:Program}{fn:Func}{str hcs:List Nat}{b:Nat}{H:List AO}{s:AS}(hr:fn.results=#[])(hH:s.h=H):RetE (Ly P fn str hcs b (.tup []) H) s :=
 ⟨.tup [],by show ZN P fn s=_;simp[ZN,hr,Jj,Bb],rfl,hH⟩
def IP (Y:Lay)(v m n:Nat)(a:AV):AO:=.row Y.vx 6 (Xf [I v,I m,I n,.osl Y.tid Y.tv 1 0 m,a,.osl Y.bid Y.bv 1 0 m])
def Zu (c:Nat→Rat)(k:Nat):Nat→Rat:=fun j=>if j<k then c j else 0
theorem CL (c:Nat→Rat)(k:Nat):(fun i=>if i=k then c k else Zu c k i)=Zu c (k+1):=funext fun i=>by
 unfold Zu;by_cases h:i=k
 ·rw[if_pos h,if_pos (by omega),h]
 ·rw[if_neg h]
  by_cases h2:i<k
  ·rw[if_pos h2,if_pos (by omega)]
  ·rw[if_neg h2,if_neg (by omega)]
theorem PU (Y:Lay)(v m n:Nat){a:AV}{q:Nat}(hb:Jq q a)(h1:Y.tid<q)(h2:Y.bid<q):Qa q (IP Y v m n a):=fun j hj=>D9 q (by
 intro x hx;simp only[List.mem_cons,List.not_mem_nil,or_false]at hx;rcases hx with rfl |rfl |rfl |rfl |rfl |rfl
 ·exact X6 (Xb _)
 ·exact X6 (Xb _)
 ·exact X6 (Xb _)
 ·exact JR h1
 ·exact hb
 ·exact JR h2) j
theorem RY (H:List AO)(Y:Lay)(v m n:Nat)(T:Tb)(a:AV)(g:FuncId)(caps:List AV)(c:Nat→Rat)
  (hx:H[Y.x]?=some (IP Y v m n a)) (ht:H[Y.tid]?=some (tO Y m n)) (hb:H[Y.bid]?=some (D7 Y m T.b)) (hr:∀i,i<m→H[Y.rid i]?=some (CV Y n i (T.t i)))
  (hxt:Y.x≠Y.tid) (hxb:Y.x≠Y.bid) (hxr:∀i,i<m→Y.x≠Y.rid i) (hH:Kt H) (hB:QZ H) (hn:n<100000) (hm:m<100000) {Q:Nat} (hQ:Q≤15000000)
  (hq:∀i k,i<m→k≤n→qb (T.t i k)≤Q) (hqc:∀k,k≤n→qb (c k)≤Q) (hbn:∀i,i<m→T.b i≤n∧c (T.b i)=0) (hcn:c n=0)
  (hf:∀k:Nat,k<n→Fn Tryz.prog g (I k :: caps) (qA (c k))) :
  HCall Tryz.prog 127 [.ref Y.x Y.vx 0,.fn g caps] H (.tup []) (H.set Y.x (IP Y v m n (.osl H.length 0 4 0 (n+1))) ++ [.row 0 ((n+1)*4) (Xn (A6 n c))]):=by
 have xlt:Y.x<H.length:=(List.getElem?_eq_some_iff.1 hx).1;have tlt:Y.tid<H.length:=(List.getElem?_eq_some_iff.1 ht).1;have blt:Y.bid<H.length:=(List.getElem?_eq_some_iff.1 hb).1;obtain⟨n0,hn0⟩:∃n0,H.length=n0:=⟨_,rfl⟩
 obtain⟨K,hK⟩:∃K,K=H.set Y.x (IP Y v m n (.osl n0 0 4 0 (n+1))):=⟨_,rfl⟩
 have kl:K.length=n0:=by rw[hK,List.length_set];exact hn0
 have kx:∀l,(K ++ l)[Y.x]?=some (IP Y v m n (.osl n0 0 4 0 (n+1))):=XZ (by rw[hK,List.getElem?_set_self xlt]);have kt:∀l,(K ++ l)[Y.tid]?=some (tO Y m n):=XZ (by rw[hK,List.getElem?_set_ne hxt];exact ht);have kb:∀l,(K ++ l)[Y.bid]?=some (D7 Y m T.b):=XZ (by rw[hK,List.getElem?_set_ne hxb];exact hb);have kr:∀ {i:Nat},i<m→∀l,(K ++ l)[Y.rid i]?=some (CV Y n i (T.t i)):=fun hi=>XZ (by rw[hK,List.getElem?_set_ne (hxr _ hi)];exact hr _ hi)
 have ks:∀l,(H ++ l).set Y.x (IP Y v m n (.osl n0 0 4 0 (n+1)))=K ++ l:=fun l=>by rw[Kv xlt,hK]
 have kbel:∀q,n0<q→∀o∈K,Qa q o:=fun q hq' o ho=>by
  rw[hK]at ho;rcases List.mem_or_eq_of_mem_set ho with h |h
  ·exact hH o h q (by omega)
  ·rw[h];exact PU Y v m n (JR (by omega)) (by omega) (by omega)
 have kborn:QZ K:=by rw[hK];exact Zd hB (by simp[IP])
 have kbel2:∀f,Kt (K ++ [.row 0 ((n+1)*4) (Xn f)]):=fun f o ho q hq'=>by
  rw[List.length_append,kl]at hq';rcases List.mem_append.1 ho with h |h
  ·exact kbel q (by simp at hq';omega) o h
  ·rw[List.mem_singleton.1 h];exact KV _ _ _ _
 have x0:=hx;have hx0:=XZ hx;unfold IP at kx ks hx0 x0;unfold I at ks;have tn:((n:Int)+1).toNat=n+1:=by omega
 unfold tO at kt;unfold D7 at kb;unfold CV at kr;have e0:=Bi hn0;have el:=Zw hn0;have z0:=Bi kl;have z1:=FD kl;have zl:=Zw kl;have zs0:=CO kl;have bx:Jq (n0+1) (.ref Y.x Y.vx 0)=True:=eq_true (QH (by omega));rw[hn0,←hK];refine HCall.intro (fn:=Tryz.f127) Tryz.call127 Tryz.func127 rfl mixed 7 [19,20,36,37,38] [4,5003,9,10003,10007,10010] [9] (by kernel_rfl) (Nat.le_of_ble_eq_true rfl) (Xk ?_);simp(disch:=omega)only[AS.start,x0,hx0,hn0,e0,el,ks,kx,tn,List.append_assoc,↓Xd,wG,seval];have c0:Xn (fun _=>0)=Xn (A6 n (Zu c 0)):=by
  congr 1;funext j;unfold A6 Zu;rw[if_neg (Nat.not_lt_zero _)];split <;> rfl
 refine Run.sub ?_ (Qo n0 (Xn (fun _=>0)) (by exact z0 _ _) (fun j _=>fun c' v' _ _ h=>Fa 0 j c' v' h));refine Xj (fun k:Nat=>⟨7,[19,20,36,37,38],[.ref Y.x Y.vx 0,.fn g caps,.any,.any,.any,.any,.any],[(19,I n),(20,I k)],K ++ [.row 0 ((n+1)*4) (Xn (A6 n (Zu c k)))]⟩) (fun k=>k≤n) (fun k=>n-k) 0 (by omega)
  (Xi rfl (by simp[Xm,I]) (by simp[Xw,XA,I]) (by rw[←c0];exact zs0 _ _ _)) ?_
 intro k hk next
 by_cases hk2:k<n
 ·have c1:=hf k hk2
  have hst:=Sp (Zu c k) (show k≤n by omega) (c k);rw[CL]at hst;have nx:=next (k+1)
  refine Xk ?_;simp(disch:=omega)only[kx,z0,zl,zs0,List.append_assoc,↓Xd,wG,seval];refine X0 c1 (X2 _) ?_;simp(disch:=omega)only[kx,z0,zl,zs0,qC,List.append_assoc,↓Xd,wG,seval];exact nx _ (by omega) (by omega) (Xi rfl (by simp[Xm,I]) (by simp[Xw,XA,I]) (by rw[←hst];rfl))
 obtain rfl:k=n:=by omega
 clear next
 have cn:A6 k (Zu c k)=A6 k c:=HF fun j hj=>by
  unfold Zu;by_cases h:j<k
  ·rw[if_pos h]
  ·rw[if_neg h,show j=k by omega,hcn]
 rw[cn];refine Xk ?_;simp(disch:=omega)only[kx,kb,List.append_assoc,↓Xd,wG,seval];obtain⟨Z,hZ⟩:∃Z,Z=K ++ [AO.row 0 ((k+1)*4) (Xn (A6 k c))]:=⟨_,rfl⟩
 rw[←hZ];have zt:=fun i (hi:i<m)=>kr hi [AO.row 0 ((k+1)*4) (Xn (A6 k c))]
 have zx:=kx [AO.row 0 ((k+1)*4) (Xn (A6 k c))];have zt2:=kt [AO.row 0 ((k+1)*4) (Xn (A6 k c))];have zb:=kb [AO.row 0 ((k+1)*4) (Xn (A6 k c))];have zc:=z0 (AO.row 0 ((k+1)*4) (Xn (A6 k c))) [];have zbel:=kbel2 (A6 k c);have zborn:QZ Z:=by rw[hZ];exact Kf kborn (fun o ho=>by rw[List.mem_singleton.1 ho];simp)
 rw[←hZ]at zt zx zt2 zb zc zbel;refine Xj (fun i:Nat=>⟨7,[19,20,36,37,38],[.ref Y.x Y.vx 0,.fn g caps,.any,.any,.any,.any,.any],[(36,.osl Y.bid Y.bv 1 0 m),(37,I m),(38,I i)],Z⟩) (fun i=>i≤m) (fun i=>m-i) 0 (by omega)
  (Xi rfl (by simp[Xm,I]) (by simp[Xw,XA,I]) rfl) ?_
 intro i hi next
 by_cases hi2:i<m
 ·obtain⟨hb1,hb2⟩:=hbn i hi2
  have nx:=next (i+1)
  have hbt:Y.rid i≠n0:=fun g=>by
   have:=zt i hi2;have h1:=(List.getElem?_eq_some_iff.1 (hr i hi2)).1;omega
  have hw:=WJ Z n0 (Y.rid i) 0 (Y.rv i) (k+1) (A6 k c) (A6 k (T.t i)) (T.b i) (Ne.symm hbt) zc (zt i hi2) (by omega) (by omega) (Q:=Q) (fun j hj=>by rw[Ex c (by omega)];exact hqc j (by omega)) (fun j hj=>by rw[Ex _ (by omega)];exact hq i j hi2 (by omega)) (by omega) zbel;have e1:Z.set n0 (.row 0 ((k+1)*4) (Xn (fun j=>A6 k c j-A6 k c (T.b i)*A6 k (T.t i) j)))=Z:=by
   rw[Ex c hb1,hb2,show(fun j=>A6 k c j-0*A6 k (T.t i) j)=A6 k c from funext fun j=>by grind];exact List.ext_getElem? fun j=>by
    by_cases e:n0=j
    ·rw[←e,zc,List.getElem?_set_self (List.getElem?_eq_some_iff.1 zc).1]
    ·rw[List.getElem?_set_ne e]
  rw[e1]at hw;have zr:=zt i hi2;have fb:(if i<m then T.b i else 0)=T.b i:=if_pos hi2;refine Xk ?_;simp(disch:=omega)only[zx,zt2,zb,zr,fb,↓Xd,wG,seval];refine XJ rfl hw (Ku _) (QB zborn) (X2 _) ?_;simp(disch:=omega)only[↓Xd,wG,seval];exact nx _ (by omega) (by omega) (Xi rfl (by simp[Xm,I]) (by simp[Xw,XA,I]) rfl)
 ·obtain rfl:i=m:=by omega
  refine Xk ?_;simp(disch:=omega)only[↓Xd,wG,seval];exact qz rfl rfl
def Qb (l:List Rat):AV:=jX qC 4 0 l
theorem Xr (l:List Rat):Qb l=.sl l.length (l.length*4) (Xn fun i=>l.getD i 0) false:=nrfl rfl
theorem Zl (f:Nat→Rat)(j:Nat):Settled (Xn f j):=Xe (l:=qC (f (j/4))) (by simp[qC,Xc,X5]) _
theorem Xz (l:List Rat):Settled (Qb l):=J3 fun j _=>Zl (fun i=>l.getD i 0) j
def Pe (n:Nat)(f:Nat→Rat):AV:=.sl (n+1) ((n+1)*4) (Xn (A6 n f)) false
theorem GL (n:Nat)(f:Nat→Rat):Settled (Pe n f):=J3 fun j _=>Zl _ j
def tB (m n:Nat)(T:Tb):AV:=.sl m m (fun i=>Pe n (T.t i)) false
theorem Pg (m n:Nat)(T:Tb):Settled (tB m n T):=J3 fun j _=>GL _ _
def OE (m:Nat)(T:Tb):List Int:=(List.range m).map fun i=>(T.b i:Int)
theorem G0 (m:Nat)(T:Tb):(OE m T).length=m:=by simp[OE]
theorem Is {m:Nat}(T:Tb){i:Nat}(h:i<m):(OE m T).getD i 0=T.b i:=by
 unfold OE;rw[List.getD_eq_getElem?_getD,List.getElem?_map,List.getElem?_range h];rfl
def xC (v m n:Nat)(T:Tb):List AV:=[I v,I m,I n,tB m n T,Pe n T.c,X8 (OE m T)]
def xP (v m n:Nat)(T:Tb):AV:=.ptr 6 (Xf (xC v m n T)) 0
theorem FO (v m n:Nat)(T:Tb):Settled (xP v m n T):=XI fun j _=>Xe (l:=xC v m n T) (by simp[xC,Xb,Pg,GL,Xc]) j
theorem iy (s:List Int)(v:Int)(hl:s.length<1048576):Fn Tryz.prog 207 [X8 s,I v] (I (LP (fun x=>decide (v=x)) s)):=by
 refine Fq Tryz.call207 Tryz.func207 6 [6,7,8] [] [] (by simp[Xc,Xb]) (Xk ?_);simp only[AS.start,Xl,↓X4,wF,seval];refine Xj (fun j:Nat=>⟨6,[6,7,8],[X8 s,I v,.any,.any,.any,.any],[(6,X8 s),(7,I s.length),(8,I j)],[]⟩) (fun j=>j≤s.length∧∀i,i<j→(fun x=>decide (v=x)) (s.getD i 0)=false) (fun j=>s.length-j) 0 ⟨by omega,by omega⟩
  (Xi rfl (by simp[Xm,Xl,I]) (by simp[Xw,XA,Xl,I]) rfl) ?_
 rintro j ⟨hj,hno⟩ next
 have w1:=wj j (by omega);refine Xk ?_;simp only[Xl,w1,↓X4,wF,seval];refine⟨fun h=>⟨h,h,?_⟩,fun h=>Xo (v:=I (-1)) rfl rfl (Xb _) ?_⟩
 ·refine⟨fun ht=>Xo (v:=I j) rfl rfl (Xb _) ?_,fun hf=>next (j+1) _ ⟨by omega,fun i hi=>?_⟩ (by omega) (Xi rfl ?_ ?_ rfl)⟩
  ·rw[LQ h (decide_eq_true ht) hno]
  ·by_cases e:i=j
   ·rw[e];exact decide_eq_false hf
   ·exact hno i (by omega)
  ·simp[Xm,Xl,I]
  ·simp[Xw,XA,Xl,I]
 ·rw[Hr fun i hi=>hno i (by omega)]
theorem P6 {m n e:Nat}{T:Tb}(h:T.Ok m n e){i:Nat}(hi:i<m):KN m n T (T.b i)=T.t i n∧∀i',i'<m→i'≠i→T.b i'≠T.b i:=by
 have hne:∀i',i'<m→i'≠i→T.b i'≠T.b i:=fun i' hi' hn g=>by
  have h1:=h.unit i' i hi' hi;have h2:=h.unit i' i' hi' hi';rw[g,h1,if_neg hn,if_pos rfl]at h2;exact absurd h2 (by decide)
 refine⟨?_,hne⟩;unfold KN;rw[ZQ hi fun i' hi' hn=>if_neg (hne i' hi' hn),if_pos rfl]
theorem jd (v m n e:Nat)(T:Tb)(k:Nat)(h:T.Ok m n e)(hm:m<100000)(hn:n<100000):Fn Tryz.prog 137 [xP v m n T,I k] (qA (KN m n T k)):=by
 have c1:=iy (OE m T) k (by rw[G0];omega);obtain⟨R,hR⟩:∃R,R=qA (KN m n T k):=⟨_,rfl⟩
 have sR:Settled R:=hR▸Xa _;have sX:=FO v m n T;rw[←hR];by_cases hex:∃i,i<m∧T.b i=k
 ·obtain⟨i,hi,rfl⟩:=hex
  obtain⟨h1,h2⟩:=P6 h hi;rw[h1]at hR;have e1:LP (fun x=>decide (((T.b i:Nat):Int)=x)) (OE m T)=i:=LQ (by rw[G0];exact hi) (by rw[Is T hi];simp) fun j hj=>by
   rw[Is T (by omega)];have:=h2 j (by omega) (by omega);exact decide_eq_false (by omega)
  rw[e1]at c1;have w1:=Bv (T.t i) (Nat.le_refl n);have w2:=Be (T.t i) (Nat.le_refl n);refine Fq Tryz.call137 Tryz.func137 6 [] [] [] (by simp[sX,Xb]) (Xk ?_);simp(disch:=omega)only[AS.start,xP,xC,↓Xd,wG,seval];refine X1 c1 rfl ?_;simp(disch:=omega)only[tB,Pe,w1,w2,qC,↓Xd,wG,seval];exact J2 rfl XR rfl rfl rfl sR (hR.trans rfl)
 ·have hno:∀i,i<m→T.b i≠k:=fun i hi g=>hex ⟨i,hi,g⟩
  have e1:LP (fun x=>decide ((k:Int)=x)) (OE m T) = -1:=Hr fun j hj=>by
   rw[G0]at hj;rw[Is T hj];have:=hno j hj;exact decide_eq_false (by omega)
  rw[e1]at c1;rw[show KN m n T k=0 from Kl fun i hi=>if_neg (hno i hi)]at hR;refine Fq Tryz.call137 Tryz.func137 6 [] [] [] (by simp[sX,Xb]) (Xk ?_);simp(disch:=omega)only[AS.start,xP,xC,↓Xd,wG,seval];refine X1 c1 rfl ?_;simp(disch:=omega)only[↓Xd,wG,seval];exact Q7 rfl XR rfl rfl rfl (hR.trans rfl) sR (Kd _)
theorem JY {p:AV→Prop}{a b:AV}(ha:p a)(hb:p b):∀x∈[a,b],p x:=fun x hx=>by
 rcases List.mem_cons.1 hx with rfl |hx
 ·exact ha
 ·rw[List.mem_singleton.1 hx];exact hb
theorem fM (f:Nat→Rat):Zu f 0=fun _=>0:=funext fun i=>if_neg (Nat.not_lt_zero i)
theorem PY {X:Env}{M:Md}{o:Oper}{g:FuncId}{a:AV}{args as':List AV}{K:AS→Prop}{s:AS}{r:AV}(h:Fn X.P g as' r)(ha:WeakL (a :: args) as') (hK:K (s.putO o.dst r)) :
  FU X M o (.mfn g a) args K s :=
 ⟨r,s.h,⟨.inl g,a :: args,rfl,.inl ⟨_,ha,h.call,h.settled,rfl⟩⟩,hK⟩
def Am (v m n:Nat)(T:Tb):List Rat:=(List.range v).map fun k=>KN m n T k-KN m n T (v+k)
theorem JH (f:Nat→Rat){v k:Nat}(h:k<v):((List.range v).map f).getD k 0=f k:=by
 rw[List.getD_eq_getElem?_getD,List.getElem?_map,List.getElem?_range h];rfl
theorem A5 {f g:Nat→Rat}{N:Nat}(h:∀ k,k<N→f k=g k)(j:Nat)(hj:j<N*4):Xn f j=Xn g j:=by
 unfold Xn;rw[h (j/4) (by omega)]
theorem jr (v m n e:Nat)(T:Tb)(h:T.Ok m n e)(hm:m<100000)(hn:n<100000)(hv:v<100000)(hq:∀k,qb (KN m n T k)≤10000000):Fn Tryz.prog 134 [xP v m n T,.mfn 137 (xP v m n T)] (Qb (Am v m n T)):=by
 have sX:=FO v m n T;obtain⟨f,hf⟩:∃f:Nat→Rat,f=fun k=>KN m n T k-KN m n T (v+k):=⟨_,rfl⟩
 have tv:((v:Int)).toNat=v:=by omega
 refine Fq Tryz.call134 Tryz.func134 7 [13,14] [] [] (by simp[sX,SB]) (Xk ?_);simp(disch:=omega)only[AS.start,xP,xC,tv,↓Xd,wG,seval];refine Run.sub ?_ (Qo 0 (Xn (fun _=>0)) rfl (fun j _=>fun c' v' _ _ h=>Fa 0 j c' v' h));refine Xj (fun k:Nat=>⟨7,[13,14],[xP v m n T,.mfn 137 (xP v m n T),.any,.any,.any,.osl 0 0 4 0 v,.any],[(13,I v),(14,I k)],[.row 0 (v*4) (Xn (Zu f k))]⟩) (fun k=>k≤v) (fun k=>v-k) 0 (by omega)
  (Xi rfl (by simp[Xm,I,xP,xC,Xl]) (by simp[Xw,XA,I]) (by rw[fM];rfl)) ?_
 intro k hk next
 by_cases hk2:k<v
 ·have c1:=jd v m n e T k h hm hn
  have c2:=jd v m n e T (v+k) h hm hn;have q1:=hq k;have q2:=hq (v+k);have c3:=EX (KN m n T k) (KN m n T (v+k)) (by unfold rm;omega) (by unfold rm;omega);have hst:=CU (Zu f k) k (f k);rw[CL]at hst;have nx:=next (k+1)
  have fk:f k=KN m n T k-KN m n T (v+k):=by rw[hf]
  rw[fk]at hst;refine Xk ?_;simp(disch:=omega)only[xP,xC,↓Xd,wG,seval];refine PY c1 (X2 _) ?_;simp(disch:=omega)only[xP,xC,↓Xd,wG,seval];refine PY c2 (X2 _) ?_;simp(disch:=omega)only[↓Xd,wG,seval];refine X1 c3 rfl ?_;simp(disch:=omega)only[qC,↓Xd,wG,seval];exact nx _ (by omega) (by omega) (Xi rfl (by simp[Xm,I,xP,xC,Xl]) (by simp[Xw,XA,I]) (by rw[←hst];rfl))
 ·obtain rfl:k=v:=by omega
  refine Xk ?_;simp(disch:=omega)only[↓Xd,wG,seval];refine C4 rfl ?_;rw[Xr];have hl:(Am k m n T).length=k:=by simp[Am]
  rw[hl];refine Z2 (.inl rfl) (by omega) (by omega) fun j hj=>?_
  have:Xn (Zu f k) (0+j)=Xn (fun i=>(Am k m n T).getD i 0) j:=by
   rw[Nat.zero_add];refine A5 (N:=k) (fun i hi=>?_) j hj;unfold Am Zu;rw[JH _ hi,if_pos hi,hf]
  rw[this];exact(Zl _ _).sees _
theorem So (f:Nat→Rat)(N:Nat)(x:Rat):Qf (N*4) (Xn f) 4 (Xf (qC x))=Xn (fun i=>if i=N then x else f i):=by
 rw[←CU];funext j;rw[Ey];have hl:(qC x).length=4:=rfl;unfold Qf;by_cases h1:j<N*4
 ·rw[if_pos h1,if_neg (by omega)]
 ·rw[if_neg h1]
  by_cases h2:j<N*4+4
  ·rw[if_pos h2,if_pos (by omega)];rfl
  ·rw[if_neg h2,if_neg (by omega)]
theorem UD (a:Rat):∀j,j<4→((qC a).getD j .any).one=true:=fun j hj=>by
 match j,hj with
 |0,_=>rfl
 |1,_=>rfl
 |2,_=>rfl
 |3,_=>rfl
 |j+4,h=>omega
theorem QJ (x:Rat):∀a∈qC x,Settled a:=by simp[qC,Xc,X5]
theorem EC (q v:Nat)(x:Rat):Qa q (.row v 4 (Xf (qC x))):=QX (QJ x)
theorem tz (l:List Rat)(E:Nat)(hl:l.length<49)(hE:∀i,i<l.length→qb (l.getD i 0)≤E) (hE2:E≤2083000):Fn Tryz.prog 179 [Qb l] (qA (XB (fun i=>l.getD i 0) l.length)):=by
 obtain⟨f,hf⟩:∃f:Nat→Rat,f=fun i=>l.getD i 0:=⟨_,rfl⟩
 obtain⟨N,hN⟩:∃N,N=l.length:=⟨_,rfl⟩
 have hE':∀i,i<N→qb (f i)≤E:=fun i hi=>by rw[hf];exact hE i (hN▸hi)
 obtain⟨A,hA⟩:∃A:AV,A=.sl N (N*4) (Xn f) false:=⟨_,rfl⟩
 have eA:Qb l=A:=by rw[Xr,hA,hN,hf]
 rw[eA,←hN,←hf];have sA:Settled A:=eA▸Xz l;have bA:Jq 2 A=True:=eq_true (X6 sA);have bq:∀q v x,Qa q (.row v 4 (Xf (qC x)))=True:=fun q v x=>eq_true (EC q v x)
 have bz:∀q v,Qa q (.row v 4 (Xf zeroR))=True:=fun q v=>eq_true (QX (by simp[zeroR,X5,JB]))
 obtain⟨R,hR⟩:∃R,R=qA (XB f N):=⟨_,rfl⟩
 have sR:Settled R:=hR▸Xa _;rw[←hR];refine Fq Tryz.call179 Tryz.func179 6 [6,7,8] [] [] (by simp[sA]) (Xk ?_);subst hA;simp(disch:=omega)only[AS.start,↓Xd,wG,seval];refine Run.sub ?_ (Qo 1 (Xf (qC 0)) rfl (fun j hj=>fun c' v' _ _ h=>by
  have w:=Kd true
  match j,hj with
  |0,_=>exact w.1 c' v' h
  |1,_=>exact w.2.1 c' v' h
  |2,_=>exact w.2.2.1 c' v' h
  |3,_=>exact w.2.2.2.1 c' v' h
  |j+4,h=>omega))
 refine Xj (fun k:Nat=>⟨6,[6,7,8],[.any,.any,.ref 0 0 0,.ref 1 0 0,.any,.any],[(6,.sl N (N*4) (Xn f) false),(7,I N),(8,I k)],[.row 0 4 (Xf zeroR),.row 0 4 (Xf (qC (XB f k)))]⟩) (fun k=>k≤N) (fun k=>N-k) 0 (by omega)
  (Xi rfl (by simp[Xm,I]) (by simp[Xw,XA,I]) (by rfl)) ?_
 intro k hk next
 by_cases hk2:k<N
 ·have q1:=hE' k hk2
  have q2:=GB (f:=f) (E:=E) (m:=k) fun i hi=>hE' i (by omega)
  have q3:k*(E+1)+1≤48*2083001+1:=by
   have:=Nat.mul_le_mul (show k≤48 by omega) (show E+1≤2083001 by omega);omega
  have c1:=Bt (XB f k) (f k) (by unfold rm;omega) (by unfold rm;omega);have w1:=ZW f k;have w2:=ZP f k;have nx:=next (k+1)
  refine Xk ?_;simp(disch:=omega)only[w1,w2,qC,zeroR,↓Xd,wG,seval];refine X1 c1 rfl ?_;simp(disch:=omega)only[qC,zeroR,↓Xd,wG,seval];exact nx _ (by omega) (by omega) (XT (m:=2) (Nat.zero_le _) rfl (by simp[Xm,I]) (by simp[Xw,XA,I]) (by rfl) (by simp[XW]) (by simp[XW,bA]) (by simp[bq,bz]))
 ·obtain rfl:k=N:=by omega
  refine Xk ?_;simp(disch:=omega)only[qC,zeroR,↓Xd,wG,seval];exact J2 rfl XR rfl rfl rfl sR (hR.trans rfl)
theorem Lu (a b:List Rat)(E:Nat)(ha:a.length<49)(hb:b.length=a.length)(hE:∀i,i<a.length→qb (a.getD i 0)+qb (b.getD i 0)≤E) (hE2:E≤2083000) :
  Fn Tryz.prog 100 [Qb a,Qb b] (qA (XB (fun i=>a.getD i 0*b.getD i 0) a.length)):=by
 obtain⟨N,hN⟩:∃N,N=a.length:=⟨_,rfl⟩
 obtain⟨f,hf⟩:∃f:Nat→Rat,f=fun i=>a.getD i 0*b.getD i 0:=⟨_,rfl⟩
 have hlen:((List.range N).map f).length=N:=by simp
 have e0:∀i,i<N→((List.range N).map f).getD i 0=f i:=fun i hi=>JH f hi
 have c0:=tz ((List.range N).map f) E (by omega) (fun i hi=>by
  rw[hlen]at hi;rw[e0 i hi,hf];have:=Qk (a.getD i 0) (b.getD i 0);have:=hE i (by omega);show qb (a.getD i 0*b.getD i 0)≤E;omega) hE2
 rw[hlen,XH fun i hi=>e0 i hi]at c0;rw[←hN,←hf];have eA:Qb a=.sl N (N*4) (Xn fun i=>a.getD i 0) false:=by rw[Xr,hN]
 have eB:Qb b=.sl N (N*4) (Xn fun i=>b.getD i 0) false:=by rw[Xr,hN,hb]
 have sA:=Xz a;have sB:=Xz b;obtain⟨R,hR⟩:∃R,R=qA (XB f N):=⟨_,rfl⟩
 have sR:Settled R:=hR▸Xa _;rw[eA]at sA;rw[eB]at sB;rw[←hR,eA,eB];refine Fn.intro (fn:=Tryz.f100) Tryz.call100 Tryz.func100 rfl mixed 7 [11,12] [] [] (by kernel_rfl) (Nat.le_of_ble_eq_true rfl) (JY sA sB) (Xk ?_);simp(disch:=omega)only[AS.start,↓Xd,wG,seval];refine Xj (fun k:Nat=>⟨7,[11,12],[.sl N (N*4) (Xn fun i=>a.getD i 0) false,.sl N (N*4) (Xn fun i=>b.getD i 0) false,.any,.any,.ref 0 0 0,.osl 1 k 4 0 k,.any],[(11,I N),(12,I k)],[.row 0 4 (Xf zeroR),.row k (k*4) (Xn (Zu f k))]⟩) (fun k=>k≤N) (fun k=>N-k) 0 (by omega)
  (Sub.trans (Kk 5 4 (Xn (Zu f 0)) rfl) (Xi rfl (by simp[AS.put,Xm,I]) (by simp[AS.put,Xw,XA,I]) (by simp[AS.put,zeroR]))) ?_
 intro k hk next
 by_cases hk2:k<N
 ·have q1:=hE k (by omega)
  have c1:=Aq (a.getD k 0) (b.getD k 0) (by unfold rm;omega) (by unfold rm;omega);have w1:=ZW (fun i=>a.getD i 0) k;have w2:=ZP (fun i=>a.getD i 0) k;have w3:=ZW (fun i=>b.getD i 0) k;have w4:=ZP (fun i=>b.getD i 0) k;have hap:=So (Zu f k) k (f k);rw[CL]at hap;have fk:f k=a.getD k 0*b.getD k 0:=by rw[hf]
  rw[fk]at hap;have nx:=next (k+1)
  refine Xk ?_;simp(disch:=omega)only[w1,w2,w3,w4,qC,zeroR,↓Xd,wG,seval];refine X1 c1 rfl ?_;simp(disch:=omega)only[qC,zeroR,↓Xd,wG,seval];exact⟨fun j hj=>UD (a.getD k 0*b.getD k 0) j hj,nx _ (by omega) (by omega) (Xi rfl (by simp[Xm,I]) (by simp[Xw,XA,I]) (by rw[←hap];rfl))⟩
 ·obtain rfl:k=N:=by omega
  refine Run.sub ?_ (Sub.trans (XC 1 rfl) (SS (M:=k*4) 5 rfl rfl (by omega) (by omega)));refine Xk ?_;simp(disch:=omega)only[qC,zeroR,AS.put,↓Xd,wG,seval];refine X0 c0 ⟨JK (by rw[hlen]) (by rw[hlen];exact Nat.le_refl _) (fun j hj=>?_),trivial⟩ ?_
  ·rw[hlen]at hj
   have:Xn (Zu f k) j=Xn (fun i=>((List.range k).map f).getD i 0) j:=A5 (N:=k) (fun i hi=>by rw[e0 i hi];exact if_pos hi) j hj;show Weak (Xn (Zu f k) j) (Xn (fun i=>((List.range k).map f).getD i 0) j);rw[this];exact Weak.rfl' _
  simp(disch:=omega)only[qA,qC,zeroR,↓Xd,wG,seval];exact J2 rfl XR rfl rfl rfl sR (hR.trans rfl)
theorem Yx (l:List Rat)(hl:l.length<1000000):Fn Tryz.prog 204 [Qb l] (Qb l):=by
 obtain⟨N,hN⟩:∃N,N=l.length:=⟨_,rfl⟩
 obtain⟨f,hf⟩:∃f:Nat→Rat,f=fun i=>l.getD i 0:=⟨_,rfl⟩
 have sA:=Xz l;have eA:Qb l=.sl N (N*4) (Xn f) false:=by rw[Xr,hN,hf]
 rw[eA]at sA ⊢;refine Fq Tryz.call204 Tryz.func204 3 [] [] [] (by simp[sA]) (Xk ?_);have hone:∀j,(Xn f j).one=true:=fun j=>by unfold Xn;exact UD (f (j/4)) (j%4) (Nat.mod_lt _ (by omega))
 simp(disch:=omega)only[AS.start,↓Xd,wG,seval];have hc:ub (Ju Tryz.prog Tryz.f204 [] [] (.sl N (N*4) (Xn f) false)) .mk ⟨3,[],[.sl N (N*4) (Xn f) false,.any,.osl 0 0 4 0 N],[(7,.osl 0 0 4 0 N),(6,.sl N (N*4) (Xn f) false),(5,.sl 0 0 (Xf []) true)],[.row 0 (N*4) (Qf 0 (Xf []) (N*4) (Xn f))]⟩:=by
  exact Yw rfl rfl rfl (fun h=>by rw[h]) fun j hj=>Zl _ _
 by_cases h0:N=0
 ·rw[if_pos h0,Hb]
  subst h0;refine⟨?_,?_,hc⟩
  ·exact TZ rfl rfl
  ·exact fun j hj=>hone j
 ·rw[if_neg h0,Lh,Dk]
  exact⟨fun j hj=>hone j,hc⟩
theorem bh (v m n:Nat)(T:Tb)(hv:2*v+m≤n)(hn:n<100000):Fn Tryz.prog 130 [xP v m n T] (Qb ((List.range m).map fun i=>T.c (2*v+i))):=by
 have sX:=FO v m n T;obtain⟨L,hL⟩:∃L,L=(List.range m).map fun i=>T.c (2*v+i):=⟨_,rfl⟩
 have hl:L.length=m:=by rw[hL];simp
 have c1:=Yx L (by omega);have sL:=Xz L;rw[←hL];refine Fq Tryz.call130 Tryz.func130 3 [] [] [] (by simp[sX]) (Xk ?_);have t1:(2*(v:Int)).toNat=2*v:=by omega
 have t2:(2*(v:Int)+m).toNat=2*v+m:=by omega
 have t3:(2*(v:Int)+m-2*v).toNat=m:=by omega
 simp(disch:=omega)only[AS.start,xP,xC,Pe,t1,t2,t3,↓Xd,wG,seval];refine X0 c1 ⟨JK (by rw[hl]) (by rw[hl];omega) (fun j hj=>?_),trivial⟩ ?_
 ·rw[hl]at hj
  have:Xn (A6 n T.c) (2*v*4+j)=Xn (fun i=>L.getD i 0) j:=by
   have e:L.getD (j/4) 0=T.c (2*v+j/4):=by rw[hL,JH _ (by omega)]
   show(qC (A6 n T.c ((2*v*4+j)/4))).getD ((2*v*4+j)%4) .any=(qC (L.getD (j/4) 0)).getD (j%4) .any;rw[show(2*v*4+j)/4=2*v+j/4 by omega,show(2*v*4+j)%4=j%4 by omega,Ex _ (by omega),e]
  rw[this];exact Weak.rfl' _
 simp(disch:=omega)only[↓Xd,wG,seval];exact Xo rfl rfl sL rfl
theorem fP (H:List AO)(Y:Lay)(v m n last:Nat)(b:Nat→Nat)(a:AV)(hx:H[Y.x]?=some (IP Y v m n a)) (hb:H[Y.bid]?=some (D7 Y m b)) (hH:Kt H) (hlt:∀i,i<m→b i<last) (hm:m<100000) :
  HCall Tryz.prog 131 [.ref Y.x Y.vx 0,I last] H (.tup []) H:=by
 have x0:=hx;unfold IP at x0;unfold D7 at hb;refine HCall.intro (fn:=Tryz.f131) Tryz.call131 Tryz.func131 rfl mixed 7 [10,11,12] [] [] (by kernel_rfl) (Nat.le_of_ble_eq_true rfl) (Xk ?_);simp(disch:=omega)only[AS.start,x0,↓Xd,wG,seval];refine Xj (fun i:Nat=>⟨7,[10,11,12],[.ref Y.x Y.vx 0,I last,.any,.any,.any,.any,.any],[(10,.osl Y.bid Y.bv 1 0 m),(11,I m),(12,I i)],H⟩) (fun i=>i≤m) (fun i=>m-i) 0 (by omega)
  (Xi rfl (by simp[Xm,I]) (by simp[Xw,XA,I]) rfl) ?_
 intro i hi next
 by_cases hi2:i<m
 ·have nx:=next (i+1)
  have fb:(if i<m then b i else 0)=b i:=if_pos hi2;have f1:=hlt i hi2;have f2:(b i:Int)<last:=by omega
  refine Xk ?_;simp(disch:=omega)only[x0,hb,fb,f2,↓Xd,wG,seval];exact nx _ (by omega) (by omega) (Xi rfl (by simp[Xm,I]) (by simp[Xw,XA,I]) rfl)
 ·obtain rfl:i=m:=by omega
  refine Xk ?_;simp(disch:=omega)only[↓Xd,wG,seval];exact qz rfl rfl
structure Ln where
 a:List Rat
 b:Rat
def Ka (x:Ln):List AV:=Qb x.a :: qC x.b
def K9:Ln:=⟨[],0⟩
def Ci (L:List Ln):AV:=jX Ka 5 K9 L
def I7 (v:Nat)(L:List Ln)(G:List Rat):AV:=.agg [I v,Ci L,Qb G]
theorem XE (L:List Ln):Ci L=.sl L.length (L.length*5) (XD Ka 5 K9 L) false:=nrfl rfl
theorem Kp (x:Ln):∀a∈Ka x,Settled a:=by simp[Ka,qC,Xz,Xc,X5]
theorem QV (L:List Ln):Settled (Ci L):=Z5 fun a x hx=>Kp a x hx
theorem Ks (v:Nat)(L:List Ln)(G:List Rat):Settled (I7 v L G):=Qr (by simp[Xb,QV,Xz])
def lA (L:List Ln)(i k:Nat):Rat:=(L.getD i K9).a.getD k 0
def lB (L:List Ln)(i:Nat):Rat:=(L.getD i K9).b
def lG (G:List Rat)(k:Nat):Rat:=G.getD k 0
theorem we (L:List Ln)(i:Nat):XD Ka 5 K9 L (i*5)=Qb (L.getD i K9).a∧XD Ka 5 K9 L (i*5+1)=(qC (lB L i)).getD 0 .any∧XD Ka 5 K9 L (i*5+2)=(qC (lB L i)).getD 1 .any∧XD Ka 5 K9 L (i*5+3)=(qC (lB L i)).getD 2 .any∧XD Ka 5 K9 L (i*5+4)=(qC (lB L i)).getD 3 .any:=by
 refine⟨?_,?_,?_,?_,?_⟩
 ·rw[Z7 _ _ _ _ _ (by omega)];rfl
 all_goals rw[KS _ _ _ _ _ _ (by omega)];rfl
theorem sN (H:List AO)(nid lid rid N k:Nat)(x:Rat)(f:Nat→Rat)(hn:H[nid]?=some (XU (.bool false))) (hl:H[lid]?=some (XU (.osl rid 0 4 0 N))) (hr:H[rid]?=some (.row 0 (N*4) (Xn f))) (hk:k<N) (hN:N<1000000) (hH:Kt H) :
  HCall Tryz.prog 199 [I k,qA x,.ref nid 0 0,.ref lid 0 0] H (.tup []) (H.set rid (.row 0 (N*4) (Xn fun i=>if i=k then x else f i))):=by
 have rlt:rid<H.length:=(List.getElem?_eq_some_iff.1 hr).1;have e1:=XZ hn;have e2:=XZ hl;have e3:=XZ hr;have e0:=fun x l=>Bi (H:=H) rfl x l
 have es:=fun o l=>Kv rlt o l
 have hst:=CU f k x;unfold XU at e1 e2;refine HCall.introC (fn:=Tryz.f199) Tryz.call199 Tryz.func199 rfl mixed 6 [] [] [] (by kernel_rfl) (Nat.le_of_ble_eq_true rfl) (X6 (Z6 (by simp))) (fun o ho=>by
  rcases List.mem_or_eq_of_mem_set ho with h |h
  ·exact hH o h _ (Nat.le_refl _)
  ·rw[h];exact KV _ _ _ _) (Xk ?_)
 simp(disch:=omega)only[AS.start,qA,qC,e1,e2,e3,e0,↓Xd,wG,seval];rw[es];exact jF rfl (by rw[hst.symm.trans rfl];exact Ch (List.length_set ..) _)
def sw (v m N n0 i:Nat):AO:=.row 0 6 (Xf [I v,I m,I N,.osl (n0+2) i 1 0 i,.sl 0 0 (fun _=>.any) true,.osl (n0+3) i 1 0 i])
def su (N n0 i:Nat):AO:=.row i i (fun j=>.osl (n0+4+4*j+1) 0 4 0 (N+1))
def ls (v i:Nat):AO:=.row i i (fun j=>I ((2*v+j:Nat)))
def uZ (L:List Ln)(T:Tb)(N n0 j:Nat):List AO:=[.row 0 5 (Xf (Ka (L.getD j K9))),.row 0 ((N+1)*4) (Xn (A6 N (T.t j))),XU (.osl (n0+4+4*j+1) 0 4 0 (N+1)),XU (.bool false)]
def nV (L:List Ln)(T:Tb)(N n0:Nat):Nat→List AO
 |0=>[]
 |i+1=>nV L T N n0 i ++ uZ L T N n0 i
theorem Gn (L:List Ln)(T:Tb)(N n0:Nat):∀i,(nV L T N n0 i).length=4*i
 |0=>rfl
 |i+1=>by unfold nV;rw[List.length_append,Gn L T N n0 i];show 4*i+4=_;omega
def ZT (v:Nat)(L:List Ln)(G:List Rat):List AV:=[I v,Ci L,Qb G]
def ql (v:Nat)(L:List Ln)(G:List Rat):AO:=.con 0 3 (Xf (ZT v L G))
def HB (v:Nat)(a:Nat→Rat)(k:Nat):Nat→Rat:=fun j=>if j<k then a j else if v≤j∧j<v+k then -a (j-v)else 0
theorem sZ (v:Nat)(a:Nat→Rat):HB v a 0=fun _=>0:=funext fun j=>by
 unfold HB;rw[if_neg (Nat.not_lt_zero _),if_neg (by omega)]
theorem aT {v k:Nat}(a:Nat→Rat)(h:k<v):(fun j=>if j=v+k then -a k else(fun j=>if j=k then a k else HB v a k j) j)=HB v a (k+1):=funext fun j=>by
 unfold HB;by_cases h1:j=v+k
 ·rw[if_pos h1,if_neg (by omega),if_pos (by omega),show j-v=k by omega]
 ·rw[if_neg h1]
  show(if j=k then a k else _)=_;by_cases h2:j=k
  ·rw[if_pos h2,if_pos (by omega),h2]
  ·rw[if_neg h2]
   by_cases h3:j<k
   ·rw[if_pos h3,if_pos (by omega)]
   ·rw[if_neg h3,if_neg (show ¬j<k+1 by omega)]
    by_cases h4:v≤j∧j<v+k
    ·rw[if_pos h4,if_pos (by omega)]
    ·rw[if_neg h4,if_neg (by omega)]
theorem OG (L:List Ln)(T:Tb)(N n0:Nat):∀i q,n0+4+4*i≤q→∀o∈nV L T N n0 i,Qa q o∧o≠.unborn
 |0,_,_,o,ho=>absurd ho (List.not_mem_nil)
 |i+1,q,hq,o,ho=>by
  rcases List.mem_append.1 ho with h |h
  ·exact OG L T N n0 i q (by omega) o h
  ·simp only[uZ,List.mem_cons,List.not_mem_nil,or_false]at h
   rcases h with rfl |rfl |rfl |rfl
   ·exact⟨QX (Kp _),by simp⟩
   ·exact⟨KV _ _ _ _,by simp⟩
   ·exact⟨ZG (JR (by omega)),by simp[XU]⟩
   ·exact⟨ZG (X6 (X5 _)),by simp[XU]⟩
def I2 (H:List AO)(v:Nat)(L:List Ln)(G:List Rat)(T:Tb)(N i:Nat):List AO:=H ++ ql v L G :: sw v L.length N H.length i :: su N H.length i :: ls v i :: nV L T N H.length i
theorem Gp (H:List AO)(v:Nat)(L:List Ln)(G:List Rat)(T:Tb)(N i:Nat):(I2 H v L G T N i).length=H.length+4+4*i:=by
 unfold I2;rw[List.length_append];simp only[List.length_cons];rw[Gn];omega
theorem PR {H:List AO}(v:Nat)(L:List Ln)(G:List Rat)(T:Tb)(N i:Nat)(hH:Kt H):Kt (I2 H v L G T N i):=fun o ho q hq=>by
 rw[Gp]at hq;unfold I2 at ho;rcases List.mem_append.1 ho with h |h
 ·exact hH o h q (by omega)
 ·simp only[List.mem_cons]at h
  rcases h with rfl |rfl |rfl |rfl |h
  ·exact fun j _=>D9 q (by simp[ZT];exact⟨X6 (Xb _),X6 (QV _),X6 (Xz _)⟩) j
  ·exact fun j _=>D9 q (by
    intro x hx;simp only[List.mem_cons,List.not_mem_nil,or_false]at hx;rcases hx with rfl |rfl |rfl |rfl |rfl |rfl
    ·exact X6 (Xb _)
    ·exact X6 (Xb _)
    ·exact X6 (Xb _)
    ·exact JR (by omega)
    ·exact X6 (JB _ _)
    ·exact JR (by omega)) j
  ·exact fun j hj=>JR (by omega)
  ·exact fun j hj=>X6 (Xb _)
  ·exact(OG L T N H.length i q (by omega) o h).1
theorem Nk {H:List AO}(v:Nat)(L:List Ln)(G:List Rat)(T:Tb)(N i:Nat)(hB:QZ H):QZ (I2 H v L G T N i):=fun o ho=>by
 unfold I2 at ho;rcases List.mem_append.1 ho with h |h
 ·exact hB o h
 ·simp only[List.mem_cons]at h
  rcases h with rfl |rfl |rfl |rfl |h
  ·simp[ql]
  ·simp[sw]
  ·simp[su]
  ·simp[ls]
  ·exact(OG L T N H.length i _ (Nat.le_refl _) o h).2
theorem SP {m:Nat}{s:AS}(id:Nat){ver n:Nat}{f:Nat→AV}(ho:s.h[id]?=some (.con ver n f)):Sub m s { s with h:=s.h.set id .dead }:=by
 intro N c a hst;have hH:=hst.heap;rw[←hH]at ho;have hlt:=(List.getElem?_eq_some_iff.1 ho).1;have hat:(c.H.set id AO.dead)[id]?=some .dead:=by simp[hlt]
 have hoth:∀i,i≠id→(c.H.set id AO.dead)[i]?=c.H[i]?:=fun i hi=>List.getElem?_set_ne (Ne.symm hi)
 let c':Ctx:=⟨c.w,c.S,c.γ,c.H.set id .dead⟩
 have hext:Ext c c':=by
  refine⟨?_,fun b h=>h,fun b h=>.inl h,?_,fun _ _ _=>rfl,Nat.le_refl _,rfl,rfl,rfl⟩
  ·intro i o hoi
   by_cases hi:i=id
   ·subst hi
    rw[ho]at hoi;cases hoi;exact .inl (by simp only[c'];exact hat)
   ·have h1:=HLe.refl c i o hoi
    have e1:=hoth i hi;cases o with
    |unborn=>trivial
    |dead=>simpa [c',e1]using h1
    |row v _ _=>simpa [c',e1,inf]using h1
    |con v _ _=>simpa [c',e1,inf]using h1
    |map k g=>simpa [c',e1]using h1
  ·rintro b ⟨i,o,sz,hoi,hown,hg⟩
   by_cases hi:i=id
   ·subst hi
    simp only[c']at hoi;rw[hat]at hoi;cases hoi;simp[AO.owned]at hown
   ·simp only[c']at hoi
    rw[hoth i hi]at hoi;exact .inr ⟨i,o,sz,hoi,hown,hg⟩
 have hrep:∀ {v a},Rep c v a→Rep c' v a:=fun hv=>hext.rep hst.hrel hv
 refine⟨c',rfl,hext.toB m,hst.size,hst.defers,fun i=>hrep (hst.slots i),by simp[c',hH],?_⟩;refine⟨?_,?_,?_,?_,hst.hrel.bound⟩
 ·intro i v k g hoi
  by_cases hi:i=id
  ·subst hi;simp only[c']at hoi;rw[hat]at hoi;cases hoi
  ·simp only[c']at hoi
   rw[hoth i hi]at hoi;rcases hst.hrel.row i v k g hoi with h | ⟨b,sz,cs,el,h1,h2,h3,h4,h5,h6⟩
   ·exact .inl h
   ·exact .inr ⟨b,sz,cs,el,h1,h2,h3,h4,h5,fun j hj=>hrep (h6 j hj)⟩
 ·intro i v k g hoi
  by_cases hi:i=id
  ·subst hi;simp only[c']at hoi;rw[hat]at hoi;cases hoi
  ·simp only[c']at hoi
   rw[hoth i hi]at hoi;rcases hst.hrel.con i v k g hoi with h | ⟨b,sz,cs,el,fr,h1,h2,h3,h4,h5,h6⟩
   ·exact .inl h
   ·exact .inr ⟨b,sz,cs,el,fr,h1,h2,h3,h4,h5,fun j hj=>hrep (h6 j hj)⟩
 ·intro i k g hoi
  by_cases hi:i=id
  ·subst hi;simp only[c']at hoi;rw[hat]at hoi;cases hoi
  ·simp only[c']at hoi
   rw[hoth i hi]at hoi;obtain⟨b,sz,es,cl,h1,h2,h3,h4⟩:=hst.hrel.map i k g hoi;exact⟨b,sz,es,cl,h1,h2,h3,h4.ext fun v a hv=>hrep hv⟩
 ·intro i i' o o' b sz sz' hoi hoi' h1 h2 hg hg'
  by_cases hi:i=id
  ·subst hi;simp only[c']at hoi;rw[hat]at hoi;cases hoi;simp[AO.owned]at h1
  ·by_cases hi':i'=id
   ·subst hi';simp only[c']at hoi';rw[hat]at hoi';cases hoi';simp[AO.owned]at h2
   ·simp only[c']at hoi hoi'
    rw[hoth i hi]at hoi;rw[hoth i' hi']at hoi';exact hst.hrel.inj _ _ _ _ _ _ _ hoi hoi' h1 h2 hg hg'
def Pr (H:List AO)(v:Nat)(L:List Ln)(G:List Rat)(T:Tb)(N:Nat):List AO:=(I2 H v L G T N L.length).set H.length .dead
theorem Nh (f:Nat→AV)(N:Nat)(x:AV)(h:x=f N):Qf N f 1 (Xf [x])=f:=funext fun j=>by
 unfold Qf;by_cases h1:j<N
 ·rw[if_pos h1]
 ·rw[if_neg h1]
  by_cases h2:j<N+1
  ·rw[if_pos h2,show j=N by omega,Nat.sub_self,←h];rfl
  ·rw[if_neg h2]
theorem nU (H:List AO)(v:Nat)(L:List Ln)(G:List Rat)(T:Tb)(N:Nat)(hN:N=2*v+2*L.length)(hv:v≤100)(hm:L.length≤200)(ha:∀i,i<L.length→(L.getD i K9).a.length=v) (hB:∀i,i<L.length→0≤lB L i)
  (hT:∀i,i<L.length→∀k,k≤N→T.t i k=(JC v L.length (lA L) (lB L) (lG G)).t i k) (hq:∀i k,i<L.length→k<v→qb (lA L i k)≤10000) (hH:Kt H) (hBo:QZ H) :
  HCall Tryz.prog 126 [I7 v L G] H (.ref (H.length+1) 0 0) (Pr H v L G T N):=by
 obtain⟨n0,hn0⟩:∃n0,H.length=n0:=⟨_,rfl⟩
 have e0:=Bi hn0;have e1:=FD hn0;have el:=Zw hn0;have es0:=CO hn0;have hcs:∀l,(H ++ l).set n0 (ql v L G)=H ++ l.set 0 (ql v L G):=fun l=>by rw[List.set_append_right _ _ (by omega),hn0,Nat.sub_self]
 have c0:n0≤n0:=Nat.le_refl _;refine HCall.intro (fn:=Tryz.f126) Tryz.call126 Tryz.func126 rfl mixed 13 [28,29,30,47,48,49] [13,14005,15] [13,15,16] (by kernel_rfl) (Nat.le_of_ble_eq_true rfl) (XG 8 ?_);simp(disch:=omega)only[AS.start,I7,hn0,e0,e1,el,XE,Xr,↓Xd,wG,seval];have hp0:Xf [AV.int .i64 v,.sl L.length (L.length*5) (XD Ka 5 K9 L) false,.sl G.length (G.length*4) (Xn fun i=>G.getD i 0) false]=Xf (ZT v L G):=by unfold ZT;rw[XE,Xr];rfl
 rw[hp0];refine Run.sub ?_ (XC n0 (e0 _ _));simp only[es0];refine Run.sub ?_ (Xy 1 rfl (e0 _ _) (by omega));refine Xk ?_;simp(disch:=omega)only[AS.put,ZT,e0,e1,el,es0,XE,Xr,↓Xd,wG,seval];have es1:=HX hn0;have eL:(H ++ [ql v L G,.row 0 6 (Xf [I v,I L.length,I N,.sl 0 0 (fun _=>.any) true,.sl 0 0 (fun _=>.any) true,.sl 0 0 (fun _=>.any) true])]).length=n0+2:=by rw[el];rfl
 refine Run.sub (s':=⟨13,[28,29,30,47,48,49],[.any,.ptr 3 (Xf (ZT v L G)) 0,.any,I L.length,.ref (n0+1) 0 0,.any,.any,.any,.any,.any,.any,.any,.any],[(28,Ci L),(29,I L.length),(30,I 0)],H ++ [ql v L G,.row 0 6 (Xf [I v,I L.length,I N,.sl 0 0 (fun _=>.any) true,.sl 0 0 (fun _=>.any) true,.sl 0 0 (fun _=>.any) true])]⟩) ?_
  (Xi rfl (by simp[Xm,I,ZT,XE,Xr]) (by simp[Xw,XA,I,XE]) (by simp[ql,ZT,XE,Xr,I,hN]))
 refine Run.sub ?_ (IK (fun j=>.osl (n0+4+4*j+1) 0 4 0 (N+1)));refine Run.sub ?_ (IK (fun j=>I ((2*v+j:Nat))));simp only[List.append_assoc,List.cons_append,List.nil_append];refine Run.sub ?_ (Qo (n0+1) (Xf [I v,I L.length,I N,.osl (n0+2) 0 1 0 0,.sl 0 0 (fun _=>.any) true,.osl (n0+3) 0 1 0 0]) (e1 _ _ _) (fun j hj=>by
  match j,hj with
  |0,_=>exact XL _ _
  |1,_=>exact XL _ _
  |2,_=>exact XL _ _
  |3,_=>exact BC (YW hn0 _ _ _ _)
  |4,_=>exact XL _ _
  |5,_=>exact BC (YX hn0 _ _ _ _ _)
  |j+6,h=>omega))
 simp only[es1];refine Xj (fun i:Nat=>⟨13,[28,29,30,47,48,49],[.any,.ptr 3 (Xf (ZT v L G)) 0,.any,I L.length,.ref (n0+1) 0 0,.any,.any,.any,.any,.any,.any,.any,.any],[(28,Ci L),(29,I L.length),(30,I i)],I2 H v L G T N i⟩) (fun i=>i≤L.length) (fun i=>L.length-i) 0 (by omega)
  (Xi rfl (by simp[Xm]) (by simp[Xw,XA]) (by subst hn0;rfl)) ?_
 intro i hi next
 by_cases hi2:i<L.length
 rotate_left
 ·obtain rfl:i=L.length:=by omega
  refine Run.sub ?_ (SP n0 (by show(I2 H v L G T N L.length)[n0]?=_;unfold I2;exact Bi hn0 _ _));refine Xk ?_;simp(disch:=omega)only[XE,↓Xd,wG,seval];exact jE rfl (by rw[hn0];rfl) (by show List.set _ _ _=_;unfold Pr;rw[hn0])
 obtain⟨Z,hZ⟩:∃Z,Z=I2 H v L G T N i:=⟨_,rfl⟩
 obtain⟨b0,hb0⟩:∃b0,b0=n0+4+4*i:=⟨_,rfl⟩
 have zlen:Z.length=b0:=by rw[hZ,Gp,hn0,hb0]
 have zbel:Kt Z:=hZ▸PR v L G T N i hH;have zborn:QZ Z:=hZ▸Nk v L G T N i hBo;have zx:∀l,(Z ++ l)[n0+1]?=some (sw v L.length N n0 i):=XZ (by rw[hZ];unfold I2;rw[hn0];exact FD hn0 _ _ _);have zt:∀l,(Z ++ l)[n0+2]?=some (su N n0 i):=XZ (by rw[hZ];unfold I2;rw[hn0];exact YW hn0 _ _ _ _);have zb:∀l,(Z ++ l)[n0+3]?=some (ls v i):=XZ (by rw[hZ];unfold I2;rw[hn0];exact YX hn0 _ _ _ _ _);rw[←hZ];have z0:=Bi zlen;have z1:=FD zlen;have z2:=YW zlen;have z3:=YX zlen;have zs0:=CO zlen;have zs1:=HX zlen;have zs2:=qa zlen;have zs3:=VT zlen;have zL:=Zw zlen;obtain⟨l1,l2,l3,l4,l5⟩:=we L i;have hai:=ha i hi2;have hbi:=hB i hi2;have c1:=Qe (lB L i);have f1:¬ (lB L i).num.sign<0:=fun g=>absurd ((B0 _).1 g) (Rat.not_lt.2 hbi)
 have tN:((N:Int)+1).toNat=N+1:=by omega
 have zx0:=zx [];rw[List.append_nil]at zx0;unfold sw at zx zx0;refine Xk ?_;simp(disch:=omega)only[zx,zx0,zL,zlen,z0,z1,z2,z3,zs0,zs1,zs2,zs3,l1,l2,l3,l4,l5,tN,ZT,qC,XE,Xr,List.append_assoc,↓Xd,wG,seval];refine X1 c1 rfl ?_;simp(disch:=omega)only[f1,zx,zx0,zL,zlen,z0,z1,z2,z3,zs0,zs1,zs2,zs3,ZT,qC,XE,Xr,List.append_assoc,↓Xd,wG,seval];obtain⟨lo,hlo⟩:∃lo:AO,lo=.row 0 5 (Xf (Ka (L.getD i K9))):=⟨_,rfl⟩
 obtain⟨lb,hlb⟩:∃lb:AO,lb=XU (.osl (b0+1) 0 4 0 (N+1)):=⟨_,rfl⟩
 obtain⟨nb,hnb⟩:∃nb:AO,nb=XU (.bool false):=⟨_,rfl⟩
 have hob:∀q,b0+1<q→Qa q lo∧Qa q lb∧Qa q nb:=fun q hq=>⟨hlo▸QX (Kp _),hlb▸ZG (JR (by omega)),hnb▸ZG (X6 (X5 _))⟩
 have hou:lo≠.unborn∧lb≠.unborn∧nb≠.unborn:=⟨by rw[hlo];simp,by rw[hlb];simp[XU],by rw[hnb];simp[XU]⟩
 have kbel:∀ (f:Nat→Rat) (l:List AO),(∀o∈l,∀q,Qa q o)→Kt (Z ++ lo :: .row 0 ((N+1)*4) (Xn f) :: lb :: nb :: l):=fun f l hl o ho q hq=>by
  rw[zL]at hq;simp only[List.length_cons]at hq;obtain⟨u1,u2,u3⟩:=hob q (by omega);rcases List.mem_append.1 ho with h |h
  ·exact zbel o h q (by omega)
  ·simp only[List.mem_cons]at h
   rcases h with rfl |rfl |rfl |rfl |h
   ·exact u1
   ·exact KV _ _ _ _
   ·exact u2
   ·exact u3
   ·exact hl o h q
 have kborn:∀ (f:Nat→Rat) (l:List AO),QZ l→QZ (Z ++ lo :: .row 0 ((N+1)*4) (Xn f) :: lb :: nb :: l):=fun f l hl=>Kf zborn fun o ho=>by
  simp only[List.mem_cons]at ho;rcases ho with rfl |rfl |rfl |rfl |h
  ·exact hou.1
  ·simp
  ·exact hou.2.1
  ·exact hou.2.2
  ·exact hl o h
 have hput:∀ (k:Nat) (f:Nat→Rat) (x:Rat) (l:List AO),k<N+1→(∀o∈l,∀q,Qa q o)→HCall Tryz.prog 199 [I k,qA x,.ref (b0+3) 0 0,.ref (b0+2) 0 0] (Z ++ lo :: .row 0 ((N+1)*4) (Xn f) :: lb :: nb :: l) (.tup []) (Z ++ lo :: .row 0 ((N+1)*4) (Xn fun j=>if j=k then x else f j) :: lb :: nb :: l):=fun k f x l hk hl=>by
  have h:=sN (Z ++ lo :: .row 0 ((N+1)*4) (Xn f) :: lb :: nb :: l) (b0+3) (b0+2) (b0+1) (N+1) k x f (by rw[z3,hnb]) (by rw[z2,hlb]) (z1 _ _ _) hk (by omega) (kbel f l hl);rw[zs1]at h;exact h
 have hce:∀ (f g:Nat→Rat) (l:List AO),JP (Z ++ lo :: .row 0 ((N+1)*4) (Xn f) :: lb :: nb :: l) (Z ++ lo :: .row 0 ((N+1)*4) (Xn g) :: lb :: nb :: l):=fun f g l=>by
  rw[←zs1 lo (.row 0 ((N+1)*4) (Xn f)) (.row 0 ((N+1)*4) (Xn g))];exact QE (z1 _ _ _) (by simp) (by simp)
 have wl:=Xr (L.getD i K9).a;rw[hai]at wl;refine Run.sub ?_ (Qo (b0+1) (Xn (fun _=>0)) (z1 _ _ _) (fun j _=>fun c' v' _ _ h=>Fa 0 j c' v' h));obtain⟨a,haa⟩:∃a:Nat→Rat,a=lA L i:=⟨_,rfl⟩
 have ea:(fun k=>(L.getD i K9).a.getD k 0)=a:=haa.symm;rw[ea]at wl;simp only[zs1,hai,ea];refine Xj (fun k:Nat=>⟨13,[28,29,30,47,48,49],[.any,.ptr 3 (Xf (ZT v L G)) 0,.any,I L.length,.ref (n0+1) 0 0,I i,.ref b0 0 0,.ref (b0+2) 0 0,.ref (b0+3) 0 0,.fn 199 [.ref (b0+3) 0 0,.ref (b0+2) 0 0],.any,.any,.any],[(28,Ci L),(29,I L.length),(30,I i),(47,.sl v (v*4) (Xn a) false),(48,I v),(49,I k)],Z ++ [lo,.row 0 ((N+1)*4) (Xn (HB v a k)),lb,nb]⟩) (fun k=>k≤v) (fun k=>v-k) 0 (by omega)
  (Xi rfl (by simp[Xm,I,ZT,XE,Xr]) (by simp[Xw,XA,I,XE]) (by rw[sZ,hlo,hlb,hnb];unfold Ka;rw[wl];rfl)) ?_
 intro k hk next2;by_cases hk2:k<v
 rotate_left
 ·obtain rfl:k=v:=by omega
  clear next2;have c3:=Cz 1 1 ⟨by omega,by omega⟩ ⟨by omega,by omega⟩;rw[show Rat.divInt 1 1=1 by decide +kernel]at c3;have e3:2*(k:Int)+i=((2*k+i:Nat):Int):=by omega
  have q3:=fun f=>hput (2*k+i) f 1 [] (by omega) (fun o ho=>absurd ho (List.not_mem_nil))
  have q4:=fun f=>hput N f (lB L i) [] (by omega) (fun o ho=>absurd ho (List.not_mem_nil))
  have nbo:QZ ([]:List AO):=fun o ho=>absurd ho (List.not_mem_nil)
  refine Xk ?_;simp(disch:=omega)only[zL,zx,z0,z1,z2,z3,ZT,List.append_assoc,↓Xd,wG,seval];refine X1 c3 rfl ?_;simp(disch:=omega)only[e3,zL,zx,z0,z1,z2,z3,ZT,qA,qC,List.append_assoc,↓Xd,wG,seval];refine XJ rfl (q3 _) (hce _ _ _) (QB (kborn _ _ nbo)) (X2 _) ?_;have ln1:Ka (L.getD i K9)=[Qb (L.getD i K9).a,.bool (sg (lB L i)),X8 (X9 (lB L i).num.natAbs),.bool false,X8 (X9 (qd (lB L i)))]:=rfl;rw[ln1]at hlo;have z0':∀l,(Z ++ lo :: l)[b0]?=some (.row 0 5 (Xf [Qb (L.getD i K9).a,.bool (sg (lB L i)),X8 (X9 (lB L i).num.natAbs),.bool false,X8 (X9 (qd (lB L i)))])):=fun l=>by rw[z0,hlo]
  simp(disch:=omega)only[e3,zL,zx,z0',z1,z2,z3,ZT,qA,qC,List.append_assoc,↓Xd,wG,seval];refine XJ rfl (q4 _) (hce _ _ _) (QB (kborn _ _ nbo)) (X2 _) ?_;have z3':∀x y z l,(Z ++ x :: y :: z :: nb :: l)[b0+3]?=some (XU (.bool false)):=fun x y z l=>by rw[z3,hnb]
  have z2':∀x y l,(Z ++ x :: y :: lb :: l)[b0+2]?=some (XU (.osl (b0+1) 0 4 0 (N+1))):=fun x y l=>by rw[z2,hlb]
  unfold XU at z3' z2';have n1:n0+1<Z.length:=by omega
  have n2:n0+2<Z.length:=by omega
  have n3:n0+3<Z.length:=by omega
  have s2:=fun o l=>Kv (H:=Z) n2 o l
  have s3:=fun o o' l=>Kv (H:=Z.set (n0+2) o) (a:=n0+3) (by rw[List.length_set];exact n3) o' l
  have s4:=fun o o' o'' l=>Kv (H:=(Z.set (n0+2) o).set (n0+3) o') (a:=n0+1) (by rw[List.length_set,List.length_set];exact n1) o'' l
  have s5:=fun o o' o'' o3 l=>Kv (H:=((Z.set (n0+2) o).set (n0+3) o').set (n0+1) o'') (a:=n0+1) (by rw[List.length_set,List.length_set,List.length_set];exact n1) o3 l
  have s6:∀o o' o'' o3:AO,(((Z.set (n0+2) o).set (n0+3) o').set (n0+1) o'').set (n0+1) o3=((Z.set (n0+2) o).set (n0+3) o').set (n0+1) o3:=fun o o' o'' o3=>List.set_set _
  have zx':=zx [];rw[List.append_nil]at zx';have zb':=zb [];rw[List.append_nil]at zb';have x1:∀o l,(Z.set (n0+2) o ++ l)[n0+1]?=_:=fun o l=>XZ (by rw[List.getElem?_set_ne (by omega)];exact zx') l
  have b1:∀o l,(Z.set (n0+2) o ++ l)[n0+3]?=some (ls k i):=fun o l=>XZ (by rw[List.getElem?_set_ne (by omega)];exact zb') l
  have x2:∀o o' l,((Z.set (n0+2) o).set (n0+3) o' ++ l)[n0+1]?=_:=fun o o' l=>XZ (by rw[List.getElem?_set_ne (by omega),List.getElem?_set_ne (by omega)];exact zx') l
  have x3:∀o o' o'' l,(((Z.set (n0+2) o).set (n0+3) o').set (n0+1) o'' ++ l)[n0+1]?=some o'':=fun o o' o'' l=>XZ (List.getElem?_set_self (by rw[List.length_set,List.length_set];exact n1)) l
  unfold ls at b1;simp(disch:=omega)only[e3,zL,zx,zt,z0',z1,z2',z3',ZT,su,ls,s2,s3,s4,s5,s6,x1,x2,x3,b1,List.append_assoc,↓Xd,wG,seval];have hap1:=Nh (fun j=>AV.osl (n0+4+4*j+1) 0 4 0 (N+1)) i (.osl (b0+1) 0 4 0 (N+1)) (by rw[hb0]);have hap2:=Nh (fun j=>AV.int .i64 ((2*k+j:Nat):Int)) i (.int .i64 ((2*k+i:Nat):Int)) rfl;have hrow:(fun j=>if j=N then lB L i else if j=2*k+i then 1 else HB k a k j)=A6 N (T.t i):=funext fun j=>by
   unfold A6;by_cases hj:j≤N
   ·rw[if_pos hj,hT i hi2 j hj]
    show _=if j<k then lA L i j else if j<2*k then -lA L i (j-k)else if j=2*k+i then 1 else if j=2*k+2*L.length then lB L i else 0
    unfold HB;rw[haa];by_cases h1:j=N
    ·rw[if_pos h1,if_neg (by omega),if_neg (by omega),if_neg (by omega),if_pos (by omega)]
    rw[if_neg h1];by_cases h2:j=2*k+i
    ·rw[if_pos h2,if_neg (by omega),if_neg (by omega),if_pos h2]
    rw[if_neg h2];by_cases h3:j<k
    ·rw[if_pos h3,if_pos h3]
    rw[if_neg h3,if_neg h3];by_cases h4:j<2*k
    ·rw[if_pos (by omega),if_pos h4]
    ·rw[if_neg (by omega),if_neg h4,if_neg h2,if_neg (by omega)]
   ·rw[if_neg hj,if_neg (by omega),if_neg (by omega)]
    unfold HB;rw[if_neg (by omega),if_neg (by omega)]
  rw[hap1,hap2,hrow];refine next (i+1) _ (by omega) (by omega) (Xi rfl (by simp[Xm,I,ZT]) (by simp[Xw,XA,I]) ?_)
  show(((Z.set (n0+2) _).set (n0+3) _).set (n0+1) _) ++ [lo,_,lb,nb]=I2 H k L G T N (i+1);rw[hZ];unfold I2;rw[hn0,qa hn0,show n0+3=n0+3 from rfl,VT hn0,HX hn0,hlo,hlb,hnb];show _=H ++ ql k L G :: sw k L.length N n0 (i+1) :: su N n0 (i+1) :: ls k (i+1) :: (nV L T N n0 i ++ uZ L T N n0 i);unfold uZ;rw[hb0];simp[sw,su,ls,I,ln1];rfl
 have q1:qb (a k)≤10000:=haa▸hq i k hi2 hk2;have w1:=ZW a k;have w2:=ZP a k;have c2:=KA (a k);have p1:=fun l=>hput k (HB v a k) (a k) l (by omega)
 have p2:=fun l=>hput (v+k) (fun j=>if j=k then a k else HB v a k j) (-a k) l (by omega)
 rw[aT a hk2]at p2;have nx:=next2 (k+1);have z4:∀ (x y z w o:AO) l,(Z ++ x :: y :: z :: w :: o :: l)[b0+4]?=some o:=fun x y z w o l=>by
  rw[←zlen,List.getElem?_append_right (by omega),show Z.length+4-Z.length=4 by omega];rfl
 have zs4:∀ (x y z w o o':AO) l,(Z ++ x :: y :: z :: w :: o :: l).set (b0+4) o'=Z ++ x :: y :: z :: w :: o' :: l:=fun x y z w o o' l=>by
  rw[List.set_append_right _ _ (by omega),zlen,show b0+4-b0=4 by omega];rfl
 have ac:∀o∈[AO.row 0 4 (Xf (qC (a k)))],∀q,Qa q o:=fun o ho q=>by rw[List.mem_singleton.1 ho];exact EC _ _ _
 have acu:QZ [AO.row 0 4 (Xf (qC (a k)))]:=fun o ho=>by rw[List.mem_singleton.1 ho];simp
 refine Xk ?_;simp(disch:=omega)only[zL,z4,zs4,w1,w2,qC,List.append_assoc,↓Xd,wG,seval];refine XJ rfl (p1 [.row 0 4 (Xf (qC (a k)))] ac) (hce _ _ _) (QB (kborn _ _ acu)) (X2 _) ?_;simp(disch:=omega)only[zL,z4,zs4,w1,w2,ZT,qC,List.append_assoc,↓Xd,wG,seval];refine X1 c2 rfl ?_;simp(disch:=omega)only[zL,z4,zs4,w1,w2,ZT,qA,qC,List.append_assoc,↓Xd,wG,seval];refine XJ rfl (p2 [.row 0 4 (Xf (qC (a k)))] ac) (hce _ _ _) (QB (kborn _ _ acu)) (X2 _) ?_;simp(disch:=omega)only[zL,z4,zs4,w1,w2,qC,List.append_assoc,↓Xd,wG,seval];have bl0:Jq (b0+4) (.ptr 3 (Xf (ZT v L G)) 0)=True:=eq_true (X6 (XI fun j _=>Xe (l:=ZT v L G) (by simp[ZT,Xb,QV,Xz]) j));have ur:Jq (b0+4) (.ref (n0+1) 0 0)=True:=eq_true (QH (by omega));have bl2:Jq (b0+4) (.ref b0 0 0)=True:=eq_true (QH (by omega));have bl3:Jq (b0+4) (.ref (b0+2) 0 0)=True:=eq_true (QH (by omega));have bl4:Jq (b0+4) (.ref (b0+3) 0 0)=True:=eq_true (QH (by omega));have bl5:Jq (b0+4) (.fn 199 [.ref (b0+3) 0 0,.ref (b0+2) 0 0])=True:=eq_true (TP (JY (QH (by omega)) (QH (by omega))));have bl6:Jq (b0+4) (Ci L)=True:=eq_true (X6 (QV L));have bl7:Jq (b0+4) (.sl v (v*4) (Xn a) false)=True:=eq_true (X6 (J3 fun j _=>Zl _ _));refine nx _ (by omega) (by omega) (XT (m:=b0+4) (by show H.length≤b0+4;omega) rfl (by simp[Xm,I,ZT]) (by simp[Xw,XA,I]) ?_ (by simp[XW,bl0,ur,bl2,bl3,bl4,bl5]) (by simp[XW,bl6,bl7]) (fun o ho=>kbel _ [] (fun o ho=>absurd ho (List.not_mem_nil)) o ho _ (by rw[zL];exact Nat.le_refl _)));show List.take (b0+4) (Z ++ [lo,AO.row 0 ((N+1)*4) (Xn (HB v a (k+1))),lb,nb,_])=Z ++ [lo,AO.row 0 ((N+1)*4) (Xn (HB v a (k+1))),lb,nb];rw[List.take_append,zlen,List.take_of_length_le (by omega),show b0+4-b0=4 by omega];rfl
def Io {α:Type}(p:α→Bool)(s:List α):Int:=if s.any p=true then(s.findIdx p:Nat)else -1
theorem LS {α:Type}(d:α){p:α→Bool}{s:List α}{j:Nat}(hj:j<s.length)(h:p (s.getD j d)=true) (hno:∀i,i<j→p (s.getD i d)=false):Io p s=j:=by
 have at_:∀i (hi:i<s.length),s.getD i d=s[i]:=fun i hi=>by rw[List.getD_eq_getElem?_getD,List.getElem?_eq_getElem hi];rfl
 have e:s.findIdx p=j:=by
  rw[List.findIdx_eq hj];exact⟨by rw[←at_ j hj];exact h,fun i hi=>by rw[←at_ i (by omega)];exact hno i hi⟩
 unfold Io;rw[if_pos (List.any_eq_true.2 ⟨s[j],List.getElem_mem hj,by rw[←at_ j hj];exact h⟩),e]
theorem Hs {α:Type}(d:α){p:α→Bool}{s:List α}(hno:∀i,i<s.length→p (s.getD i d)=false):Io p s = -1:=by
 unfold Io;rw[if_neg];intro h;obtain⟨x,hx,hp⟩:=List.any_eq_true.1 h;obtain⟨i,hi,rfl⟩:=List.getElem_of_mem hx;have:=hno i hi;rw[List.getD_eq_getElem?_getD,List.getElem?_eq_getElem hi]at this;simp only[Option.getD_some]at this;rw[this]at hp;cases hp
theorem LR {α:Type}(p:α→Bool)(s:List α):decide (0≤Io p s)=s.any p:=by
 unfold Io;cases h:s.any p
 ·simp
 ·rw[if_pos rfl];exact decide_eq_true (by omega)
theorem Qp {α:Type}{s:List α}{i:Nat}(d:α)(h:i<s.length):s.getD i d∈s:=by
 rw[List.getD_eq_getElem?_getD,List.getElem?_eq_getElem h];exact List.getElem_mem h
def Ti (x:Ln):AV:=.agg (Ka x)
theorem ae (s:List Ln)(f:FuncId)(caps:List AV)(p:Ln→Bool)(hl:s.length<1000000)(hc:∀ a∈caps,Settled a)(hp:∀x∈s,Fn Tryz.prog f ([Ti x] ++ caps) (.bool (p x))) :
  Fn Tryz.prog 180 [Ci s,.fn f caps] (I (Io p s)):=by
 refine Fn.intro (fn:=Tryz.f180) Tryz.call180 Tryz.func180 rfl mixed 6 [6,7,8] [] [] (by kernel_rfl) (Nat.le_of_ble_eq_true rfl) (JY (QV s) (Jg hc)) (Xk ?_);simp(disch:=omega)only[AS.start,XE,↓Xd,wG,seval];refine Xj (fun j:Nat=>⟨6,[6,7,8],[Ci s,.fn f caps,.any,.any,.any,.any],[(6,Ci s),(7,I s.length),(8,I j)],[]⟩) (fun j=>j≤s.length∧∀i,i<j→p (s.getD i K9)=false) (fun j=>s.length-j) 0 ⟨by omega,by omega⟩
  (Xi rfl (by simp[Xm,I,XE]) (by simp[Xw,XA,I,XE]) rfl) ?_
 rintro j ⟨hj,hno⟩ next
 by_cases h:j<s.length
 ·obtain⟨l1,l2,l3,l4,l5⟩:=we s j
  have c1:=hp _ (Qp K9 h);have el:Ti (s.getD j K9)=.agg [Qb (s.getD j K9).a,.bool (sg (lB s j)),X8 (X9 (lB s j).num.natAbs),.bool false,X8 (X9 (qd (lB s j)))]:=rfl;refine Xk ?_;simp(disch:=omega)only[XE,l1,l2,l3,l4,l5,qC,Xr,↓Xd,wG,seval];refine X0 c1 (X2 _) ?_;simp(disch:=omega)only[↓Xd,wG,seval];refine Qg (fun ht=>Xo (v:=I j) rfl rfl (Xb _) ?_) (fun hf=>next (j+1) _ ⟨by omega,fun i hi=>?_⟩ (by omega) (Xi rfl ?_ ?_ rfl))
  ·rw[LS K9 h ht hno]
  ·by_cases e:i=j
   ·rw[e];exact hf
   ·exact hno i (by omega)
  ·simp[Xm,I,XE]
  ·simp[Xw,XA,I,XE]
 ·obtain rfl:j=s.length:=by omega
  refine Xk ?_;simp(disch:=omega)only[XE,↓Xd,wG,seval];exact Xo (v:=I (-1)) rfl rfl (Xb _) (by rw[Hs K9 fun i hi=>hno i hi])
theorem Dc (s:List Ln)(f:FuncId)(caps:List AV)(p:Ln→Bool)(hl:s.length<1000000)(hc:∀ a∈caps,Settled a)(hp:∀x∈s,Fn Tryz.prog f ([Ti x] ++ caps) (.bool (p x))) :
  Fn Tryz.prog 101 [Ci s,.fn f caps] (.bool (s.any p)):=by
 refine Fn.intro (fn:=Tryz.f101) Tryz.call101 Tryz.func101 rfl mixed 4 [] [] [] (by kernel_rfl) (Nat.le_of_ble_eq_true rfl) (JY (QV s) (Jg hc)) (Xk ?_);simp(disch:=omega)only[AS.start,↓Xd,wG,seval];refine X0 (ae s f caps p hl hc hp) (X2 _) ?_;simp(disch:=omega)only[↓Xd,wG,seval];exact Xo (v:=.bool (decide (0≤Io p s))) rfl rfl (X5 _) (by rw[LR])
def pP (v:Nat)(L:List Ln)(G:List Rat):AV:=.ptr 3 (Xf (ZT v L G)) 0
theorem AJ (v:Nat)(L:List Ln)(G:List Rat):Settled (pP v L G):=XI fun j _=>Xe (l:=ZT v L G) (by simp[ZT,Xb,QV,Xz]) j
theorem Bf (x:Ln):Settled (Ti x):=Qr (Kp x)
theorem V3 (v:Nat)(L:List Ln)(G:List Rat)(x:Ln):Fn Tryz.prog 198 [Ti x,pP v L G] (.bool (decide (x.a.length≠v))):=by
 refine Fn.intro (fn:=Tryz.f198) Tryz.call198 Tryz.func198 rfl mixed 4 [] [] [] (by kernel_rfl) (Nat.le_of_ble_eq_true rfl) (JY (Bf x) (AJ v L G)) (Xk ?_);have f1:(!decide (x.a.length=v))=decide (x.a.length≠v):=by simp
 simp(disch:=omega)only[AS.start,Ti,Ka,qC,pP,ZT,Xr,↓Xd,wG,seval];exact Xo rfl rfl (X5 _) (congrArg AV.bool f1)
theorem Oa (v:Nat)(L:List Ln)(G:List Rat)(hv:v≤48)(hm:L.length≤128)(hG:G.length=v)(ha:∀x∈L,x.a.length=v):Fn Tryz.prog 125 [I7 v L G] (I 0):=by
 subst hG;have c1:=Dc L 198 [pP G.length L G] (fun x=>decide (x.a.length≠G.length)) (by omega) (by simp[AJ]) (fun x _=>V3 G.length L G x);have e1:(L.any fun x=>decide (x.a.length≠G.length))=false:=by
  rw[List.any_eq_false];intro x hx;simp[ha x hx]
 rw[e1]at c1;have hp0:Xf [AV.int .i64 G.length,.sl L.length (L.length*5) (XD Ka 5 K9 L) false,.sl G.length (G.length*4) (Xn fun i=>G.getD i 0) false]=Xf (ZT G.length L G):=by unfold ZT;rw[XE,Xr];rfl
 refine Fq Tryz.call125 Tryz.func125 3 [] [] [] (by simp[Ks]) (XG 8 ?_);simp(disch:=omega)only[AS.start,I7,XE,Xr,↓Xd,wG,seval];rw[hp0];refine Run.sub ?_ (XC 0 rfl);refine Run.sub ?_ (Xy 1 rfl rfl (by omega));refine Xk ?_;simp(disch:=omega)only[AS.put,ZT,XE,Xr,↓Xd,wG,seval];refine X0 c1 (X2 _) ?_;simp(disch:=omega)only[↓Xd,wG,seval];exact Xo rfl rfl (Xb _) rfl
theorem bm (k last:Nat)(hk:k<1000000)(hl:last<1000000):Fn Tryz.prog 128 [I k,.ptr 1 (Xf [I last]) 0] (qA (if last≤k then 1 else 0)):=by
 have sP:Settled (.ptr 1 (Xf [I last]) 0):=XI fun j _=>Xe (l:=[I last]) (by simp[Xb]) j
 have c1:=Cz 1 1 ⟨by omega,by omega⟩ ⟨by omega,by omega⟩;rw[show Rat.divInt 1 1=1 by decide +kernel]at c1;obtain⟨R,hR⟩:∃R,R=qA (if last≤k then(1:Rat)else 0):=⟨_,rfl⟩
 have sR:Settled R:=hR▸Xa _;rw[←hR];by_cases h:last≤k
 ·rw[if_pos h]at hR
  have f1:(last:Int)≤k:=by omega
  refine Fn.intro (fn:=Tryz.f128) Tryz.call128 Tryz.func128 rfl mixed 4 [] [] [] (by kernel_rfl) (Nat.le_of_ble_eq_true rfl) (JY (Xb _) sP) (Xk ?_);simp(disch:=omega)only[AS.start,f1,↓Xd,wG,seval];refine X1 c1 rfl ?_;simp(disch:=omega)only[qA,qC,↓Xd,wG,seval];exact J2 rfl XR rfl rfl rfl sR (hR.trans rfl)
 ·rw[if_neg h]at hR
  have f1:¬ (last:Int)≤k:=by omega
  refine Fn.intro (fn:=Tryz.f128) Tryz.call128 Tryz.func128 rfl mixed 4 [] [] [] (by kernel_rfl) (Nat.le_of_ble_eq_true rfl) (JY (Xb _) sP) (Xk ?_);simp(disch:=omega)only[AS.start,f1,↓Xd,wG,seval];exact Q7 rfl XR rfl rfl rfl (hR.trans rfl) sR (Kd _)
def DO (v:Nat)(G:List Rat)(k:Nat):Rat:=if k<v then -lG G k else if k<2*v then lG G (k-v)else 0
theorem bu (v k:Nat)(L:List Ln)(G:List Rat)(hk:k<1000000)(hv:v<100000)(hG:G.length=v):Fn Tryz.prog 132 [I k,pP v L G] (qA (DO v G k)):=by
 subst hG;have sP:=AJ G.length L G;have c1:=KA (lG G k);obtain⟨R,hR⟩:∃R,R=qA (DO G.length G k):=⟨_,rfl⟩
 have sR:Settled R:=hR▸Xa _;rw[←hR];unfold DO at hR;by_cases h:k<G.length
 ·rw[if_pos h]at hR
  have w1:=ZW (fun i=>G.getD i 0) k;have w2:=ZP (fun i=>G.getD i 0) k;refine Fn.intro (fn:=Tryz.f132) Tryz.call132 Tryz.func132 rfl mixed 4 [] [] [] (by kernel_rfl) (Nat.le_of_ble_eq_true rfl) (JY (Xb _) sP) (Xk ?_);simp(disch:=omega)only[AS.start,pP,ZT,Xr,w1,w2,qC,↓Xd,wG,seval];refine X1 c1 rfl ?_;simp(disch:=omega)only[qA,qC,↓Xd,wG,seval];exact J2 rfl XR rfl rfl rfl sR (hR.trans rfl)
 rw[if_neg h]at hR;by_cases h2:k<2*G.length
 ·rw[if_pos h2]at hR
  have w1:=ZW (fun i=>G.getD i 0) (k-G.length);have w2:=ZP (fun i=>G.getD i 0) (k-G.length);have t1:((k:Int)-G.length).toNat=k-G.length:=by omega
  have f1:¬ (k:Int)<G.length:=by omega
  have f2:(k:Int)<2*G.length:=by omega
  refine Fn.intro (fn:=Tryz.f132) Tryz.call132 Tryz.func132 rfl mixed 4 [] [] [] (by kernel_rfl) (Nat.le_of_ble_eq_true rfl) (JY (Xb _) sP) (Xk ?_);simp(disch:=omega)only[AS.start,pP,ZT,Xr,f1,f2,t1,w1,w2,qC,↓Xd,wG,seval];exact J2 rfl XR rfl rfl rfl sR (hR.trans rfl)
 ·rw[if_neg h2]at hR
  have f1:¬ (k:Int)<G.length:=by omega
  have f2:¬ (k:Int)<2*G.length:=by omega
  refine Fn.intro (fn:=Tryz.f132) Tryz.call132 Tryz.func132 rfl mixed 4 [] [] [] (by kernel_rfl) (Nat.le_of_ble_eq_true rfl) (JY (Xb _) sP) (Xk ?_);simp(disch:=omega)only[AS.start,pP,ZT,Xr,f1,f2,↓Xd,wG,seval];exact Q7 rfl XR rfl rfl rfl (hR.trans rfl) sR (Kd _)
structure Laid (A:List AO)(Y:Lay)(v m n:Nat)(T:Tb)(a:AV):Prop where
 x:A[Y.x]?=some (IP Y v m n a)
 t:A[Y.tid]?=some (tO Y m n)
 b:A[Y.bid]?=some (D7 Y m T.b)
 r:∀i,i<m→A[Y.rid i]?=some (CV Y n i (T.t i))
 xt:Y.x≠Y.tid
 xb:Y.x≠Y.bid
 xr:∀i,i<m→Y.x≠Y.rid i
 tb:Y.tid≠Y.bid
 tr:∀i,i<m→Y.tid≠Y.rid i
 br:∀i,i<m→Y.bid≠Y.rid i
 rr:∀i j,i<m→j<m→Y.rid i=Y.rid j→i=j
 bel:Kt A
 born:QZ A
theorem Zp {A:List AO}{i:Nat}{o:AO}(h:A[i]?=some o):i<A.length:=(List.getElem?_eq_some_iff.1 h).1
theorem Laid.app {A:List AO}{Y:Lay}{v m n:Nat}{T:Tb}{a:AV}(h:Laid A Y v m n T a)(l:List AO)(hl:∀o∈l,(∀q,A.length+l.length≤q→Qa q o)∧o≠.unborn):Laid (A ++ l) Y v m n T a :=
 ⟨XZ h.x l,XZ h.t l,XZ h.b l,fun i hi=>XZ (h.r i hi) l,h.xt,h.xb,h.xr,h.tb,h.tr,h.br,h.rr,fun o ho q hq=>by
  rw[List.length_append]at hq;rcases List.mem_append.1 ho with g |g
  ·exact h.bel o g q (by omega)
  ·exact(hl o g).1 q hq,Kf h.born fun o ho=>(hl o ho).2⟩
def Lay.cost (Y:Lay)(i:Nat):Lay:={ Y with cid:=i,cv:=0 }
def Bc (A:List AO)(Y:Lay)(v m n:Nat)(c:Nat→Rat):List AO:=A.set Y.x (IP Y v m n (.osl A.length 0 4 0 (n+1))) ++ [.row 0 ((n+1)*4) (Xn (A6 n c))]
theorem lK {H:List AO}{Y:Lay}{v m n:Nat}{T:Tb}(h:Y.Ok H v m n)(hb:H[Y.bid]?=some (D7 Y m T.b)) (hc:H[Y.cid]?=some (Dd Y n T.c)) (hr:∀i,i<m→H[Y.rid i]?=some (CV Y n i (T.t i))):HT H Y m n T=H:=by
 refine gu (DV T) fun a ha=>?_
 by_cases eb:a=Y.bid
 ·subst eb;rw[Pu h,hb]
 by_cases ec:a=Y.cid
 ·subst ec;rw[IR h,hc]
 by_cases er:∃j,j<m∧a=Y.rid j
 ·obtain⟨j,hj,rfl⟩:=er
  rw[Ij h _ hj,hr j hj]
 ·rw[D1 T eb ec fun j hj g=>er ⟨j,hj,g⟩]
theorem Laid.priced {A:List AO}{Y:Lay}{v m n:Nat}{T:Tb}{a:AV}(h:Laid A Y v m n T a)(c:Nat→Rat) :
  (Y.cost A.length).Ok (Bc A Y v m n c) v m n∧HT (Bc A Y v m n c) (Y.cost A.length) m n { T with c:=c }=Bc A Y v m n c∧Kt (Bc A Y v m n c)∧QZ (Bc A Y v m n c):=by
 have xl:=Zp h.x;have tl:=Zp h.t;have bl:=Zp h.b;have rl:=fun i hi=>Zp (h.r i hi)
 have len:(Bc A Y v m n c).length=A.length+1:=by unfold Bc;rw[List.length_append,List.length_set];rfl
 have hx:(Bc A Y v m n c)[Y.x]?=some (IP Y v m n (.osl A.length 0 4 0 (n+1))):=XZ (List.getElem?_set_self xl) _;have ht:(Bc A Y v m n c)[Y.tid]?=some (tO Y m n):=XZ (by rw[List.getElem?_set_ne h.xt];exact h.t) _;have hb:(Bc A Y v m n c)[Y.bid]?=some (D7 Y m T.b):=XZ (by rw[List.getElem?_set_ne h.xb];exact h.b) _;have hr:∀i,i<m→(Bc A Y v m n c)[Y.rid i]?=some (CV Y n i (T.t i)):=fun i hi=>XZ (by rw[List.getElem?_set_ne (h.xr i hi)];exact h.r i hi) _
 have hc:(Bc A Y v m n c)[A.length]?=some (.row 0 ((n+1)*4) (Xn (A6 n c))):=Bi (by rw[List.length_set]) _ _;have ok:(Y.cost A.length).Ok (Bc A Y v m n c) v m n:=by
  refine⟨hx,ht,by rw[len];show Y.bid<_;omega,by rw[len];show A.length<_;omega,fun i hi=>by have:=rl i hi;rw[len];show Y.rid i<_;omega,h.xb,?_,h.xr,h.tb,?_,h.tr,?_,h.br,fun i hi=>?_,h.rr⟩
  ·show Y.x≠A.length;omega
  ·show Y.tid≠A.length;omega
  ·show Y.bid≠A.length;omega
  ·show A.length≠Y.rid i
   have:=rl i hi;omega
 refine⟨ok,lK ok hb hc hr,fun o ho q hq=>?_,Kf (Zd h.born (by simp[IP])) fun o ho=>by rw[List.mem_singleton.1 ho];simp⟩;rw[len]at hq;rcases List.mem_append.1 ho with g |g
 ·rcases List.mem_or_eq_of_mem_set g with g |g
  ·exact h.bel o g q (by omega)
  ·rw[g];exact PU Y v m n (JR (by omega)) (by omega) (by omega)
 ·rw[List.mem_singleton.1 g];exact KV _ _ _ _
theorem Lay.Ok.laid {H:List AO}{Y:Lay}{v m n:Nat}(h:Y.Ok H v m n)(T:Tb)(hxt:Y.x≠Y.tid)(hH:Kt H)(hB:QZ H):Laid (HT H Y m n T) Y v m n T (.osl Y.cid Y.cv 4 0 (n+1)) :=
 ⟨cN h T,lM h T,Pu h T,fun i hi=>Ij h T hi,hxt,h.xb,h.xr,h.tb,h.tr,h.br,h.rr,D8 T hH,OI T hB⟩
def LC (A:List AO)(Y:Lay)(n:Nat)(T:Tb):Nat→List AO
 |0=>A
 |i+1=>(LC A Y n T i).set (Y.rid i) (.con (Y.rv i) ((n+1)*4) (Xn (A6 n (T.t i))))
theorem LD (A:List AO)(Y:Lay)(n:Nat)(T:Tb):∀i,(LC A Y n T i).length=A.length
 |0=>rfl
 |i+1=>by unfold LC;rw[List.length_set,LD]
theorem P0 {A:List AO}{Y:Lay}{n:Nat}{T:Tb}{a:Nat}:∀i,(∀j,j<i→a≠Y.rid j)→(LC A Y n T i)[a]?=A[a]?
 |0,_=>rfl
 |i+1,h=>by unfold LC;rw[List.getElem?_set_ne (Ne.symm (h i (by omega))),P0 i fun j hj=>h j (by omega)]
theorem VM {A:List AO}{Y:Lay}{n m:Nat}{T:Tb}(hr:∀ i,i<m→Y.rid i<A.length)(hd:∀ i j,i<m→j<m→Y.rid i=Y.rid j→i=j){k:Nat}:∀i,i≤m→k<i→(LC A Y n T i)[Y.rid k]?=some (.con (Y.rv k) ((n+1)*4) (Xn (A6 n (T.t k))))
 |i+1,hi,hk=>by
  unfold LC;by_cases e:k=i
  ·subst e;rw[List.getElem?_set_self (by rw[LD];exact hr k (by omega))]
  ·rw[List.getElem?_set_ne (fun g=>e (hd i k (by omega) (by omega) g).symm),VM hr hd i (by omega) (by omega)]
theorem SQ {b:Nat}{s:AS}{Y:Lay}{n m:Nat}{T:Tb}(hr:∀i,i<m→s.h[Y.rid i]?=some (CV Y n i (T.t i))) (hd:∀i j,i<m→j<m→Y.rid i=Y.rid j→i=j):∀i,i≤m→Sub b s { s with h:=LC s.h Y n T i }
 |0,_=>Sub.rfl' _ _
 |i+1,hi=>by
  refine(SQ hr hd i (by omega)).trans ?_;exact XC (s:={ s with h:=LC s.h Y n T i }) (Y.rid i) (by
   show(LC s.h Y n T i)[Y.rid i]?=_;rw[P0 i fun j hj g=>by have:=hd i j (by omega) (by omega) g;omega];exact hr i (by omega))
theorem rW {b:Nat}{s:AS}{Y:Lay}{v m n xb:Nat}{T:Tb}(hL:Laid s.h Y v m n T (.osl Y.cid Y.cv 4 0 (n+1))) (hc:s.h[Y.cid]?=some (Dd Y n T.c)) (hcx:Y.x≠Y.cid) (hct:Y.tid≠Y.cid) (hcb:Y.bid≠Y.cid) (hcr:∀i,i<m→Y.cid≠Y.rid i)
  (hxb:s.h[xb]?=some (XU (.ref Y.x Y.vx 0))) (h1:xb≠Y.x) (h2:xb≠Y.tid) (h3:xb≠Y.bid) (h4:xb≠Y.cid) (h5:∀i,i<m→xb≠Y.rid i) :
  ∃F,Sub b s { s with h:=F }∧F.length=s.h.length∧F[xb]?=some (XU (xP v m n T))∧∀a,a≠xb→a≠Y.x→a≠Y.tid→a≠Y.bid→a≠Y.cid→(∀i,i<m→a≠Y.rid i)→F[a]?=s.h[a]?:=by
 have rl:=fun i hi=>Zp (hL.r i hi)
 obtain⟨F1,e1⟩:∃F1,F1=LC s.h Y n T m:=⟨_,rfl⟩
 have l1:F1.length=s.h.length:=by rw[e1,LD]
 have n1:∀a,(∀i,i<m→a≠Y.rid i)→F1[a]?=s.h[a]?:=fun a ha=>by rw[e1,P0 m ha]
 have r1:∀i,i<m→F1[Y.rid i]?=some (.con (Y.rv i) ((n+1)*4) (Xn (A6 n (T.t i)))):=fun i hi=>by rw[e1];exact VM rl hL.rr m (Nat.le_refl _) hi
 have S1:Sub b s { s with h:=F1 }:=e1▸SQ hL.r hL.rr m (Nat.le_refl _);obtain⟨F2,e2⟩:∃F2,F2=F1.set Y.cid (.con Y.cv ((n+1)*4) (Xn (A6 n T.c))):=⟨_,rfl⟩
 have S2:Sub b { s with h:=F1 } { s with h:=F2 }:=e2▸XC (s:={ s with h:=F1 }) Y.cid (by show F1[Y.cid]?=_;rw[n1 _ hcr];exact hc);obtain⟨F3,e3⟩:∃F3,F3=F2.set Y.bid (.con Y.bv m (fun i=>I ((if i<m then T.b i else 0:Nat)))):=⟨_,rfl⟩
 have S3:Sub b { s with h:=F2 } { s with h:=F3 }:=e3▸XC (s:={ s with h:=F2 }) Y.bid (by show F2[Y.bid]?=_;rw[e2,List.getElem?_set_ne (Ne.symm hcb),n1 _ hL.br];exact hL.b);have l3:F3.length=s.h.length:=by rw[e3,e2,List.length_set,List.length_set,l1]
 have t3:F3[Y.tid]?=some (tO Y m n):=by rw[e3,e2,List.getElem?_set_ne (Ne.symm hL.tb),List.getElem?_set_ne (Ne.symm hct),n1 _ hL.tr];exact hL.t
 have r3:∀i,i<m→F3[Y.rid i]?=some (.con (Y.rv i) ((n+1)*4) (Xn (A6 n (T.t i)))):=fun i hi=>by rw[e3,e2,List.getElem?_set_ne (hL.br i hi),List.getElem?_set_ne (hcr i hi)];exact r1 i hi
 obtain⟨F4,e4⟩:∃F4,F4=F3.set Y.tid (.row Y.tv m (fun i=>Pe n (T.t i))):=⟨_,rfl⟩
 have S4:Sub b { s with h:=F3 } { s with h:=F4 }:=e4▸Qo (s:={ s with h:=F3 }) Y.tid (fun i=>Pe n (T.t i)) t3 (fun j hj=>Zc (r3 j hj) (Nat.le_refl _) (by omega) fun _ _=>XL _ _);have tl:=Zp hL.t;have xl:=Zp hL.x;have bl:=Zp hL.b;have cl:=Zp hc;obtain⟨F5,e5⟩:∃F5,F5=F4.set Y.tid (.con Y.tv m (fun i=>Pe n (T.t i))):=⟨_,rfl⟩
 have S5:Sub b { s with h:=F4 } { s with h:=F5 }:=e5▸XC (s:={ s with h:=F4 }) Y.tid (by show F4[Y.tid]?=_;rw[e4,List.getElem?_set_self (by omega)]);have l5:F5.length=s.h.length:=by rw[e5,e4,List.length_set,List.length_set,l3]
 have t5:F5[Y.tid]?=some (.con Y.tv m (fun i=>Pe n (T.t i))):=by rw[e5,List.getElem?_set_self (by rw[e4,List.length_set];omega)]
 have n5:∀a,a≠Y.tid→F5[a]?=F3[a]?:=fun a ha=>by rw[e5,e4,List.getElem?_set_ne (Ne.symm ha),List.getElem?_set_ne (Ne.symm ha)]
 have c5:F5[Y.cid]?=some (.con Y.cv ((n+1)*4) (Xn (A6 n T.c))):=by rw[n5 _ (Ne.symm hct),e3,List.getElem?_set_ne hcb,e2,List.getElem?_set_self (by omega)]
 have b5:F5[Y.bid]?=some (.con Y.bv m (fun i=>I ((if i<m then T.b i else 0:Nat)))):=by rw[n5 _ (Ne.symm hL.tb),e3,List.getElem?_set_self (by rw[e2,List.length_set];omega)]
 have x5:F5[Y.x]?=some (IP Y v m n (.osl Y.cid Y.cv 4 0 (n+1))):=by rw[n5 _ hL.xt,e3,e2,List.getElem?_set_ne (Ne.symm hL.xb),List.getElem?_set_ne (Ne.symm hcx),n1 _ hL.xr];exact hL.x
 obtain⟨F6,e6⟩:∃F6,F6=F5.set Y.x (.row Y.vx 6 (Xf (xC v m n T))):=⟨_,rfl⟩
 have S6:Sub b { s with h:=F5 } { s with h:=F6 }:=e6▸Qo (s:={ s with h:=F5 }) Y.x (Xf (xC v m n T)) x5 (fun j hj=>by
  match j,hj with
  |0,_=>exact XL _ _
  |1,_=>exact XL _ _
  |2,_=>exact XL _ _
  |3,_=>exact Zc t5 (Nat.le_refl _) (fun h=>h) fun _ _=>XL _ _
  |4,_=>exact Zc c5 (Nat.le_refl _) (by omega) fun _ _=>XL _ _
  |5,_ =>
   show Ke _ (.osl Y.bid Y.bv 1 0 m) (X8 (OE m T));rw[Xl,G0];refine Zc b5 (Nat.le_refl _) (fun h=>h) fun j hj=>?_
   rw[AL,Is T hj,if_pos hj];exact XL _ _
  |j+6,h=>omega)
 obtain⟨F7,e7⟩:∃F7,F7=F6.set Y.x (.con Y.vx 6 (Xf (xC v m n T))):=⟨_,rfl⟩
 have S7:Sub b { s with h:=F6 } { s with h:=F7 }:=e7▸XC (s:={ s with h:=F6 }) Y.x (by show F6[Y.x]?=_;rw[e6,List.getElem?_set_self (by omega)]);have x7:F7[Y.x]?=some (.con Y.vx 6 (Xf (xC v m n T))):=by rw[e7,List.getElem?_set_self (by rw[e6,List.length_set];omega)]
 have n7:∀a,a≠Y.x→F7[a]?=F5[a]?:=fun a ha=>by rw[e7,e6,List.getElem?_set_ne (Ne.symm ha),List.getElem?_set_ne (Ne.symm ha)]
 have n3:∀a,a≠Y.bid→a≠Y.cid→(∀i,i<m→a≠Y.rid i)→F3[a]?=s.h[a]?:=fun a ha hb hr=>by rw[e3,e2,List.getElem?_set_ne (Ne.symm ha),List.getElem?_set_ne (Ne.symm hb),n1 _ hr]
 have xb7:F7[xb]?=some (XU (.ref Y.x Y.vx 0)):=by rw[n7 _ h1,n5 _ h2,n3 _ h3 h4 h5];exact hxb
 have l7:F7.length=s.h.length:=by rw[e7,e6,List.length_set,List.length_set,l5]
 refine⟨F7.set xb (XU (xP v m n T)),?_,by rw[List.length_set,l7],List.getElem?_set_self (Zp xb7),fun a a1 a2 a3 a4 a5 a6=>by rw[List.getElem?_set_ne (Ne.symm a1),n7 _ a2,n5 _ a3,n3 _ a4 a5 a6]⟩;refine S1.trans (S2.trans (S3.trans (S4.trans (S5.trans (S6.trans (S7.trans ?_))))));exact Qo (s:={ s with h:=F7 }) xb (Xf [xP v m n T]) xb7 (fun j hj=>by
  obtain rfl:j=0:=by omega
  exact V8 x7 (by omega) fun _ _=>XL _ _)
end
end Go.Ab.N
