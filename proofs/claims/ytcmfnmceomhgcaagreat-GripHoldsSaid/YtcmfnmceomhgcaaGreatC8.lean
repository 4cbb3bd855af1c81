/- Contracts of functions, for every argument that fits. -/
import Derived.Test.YtcmfnmceomhgcaaGreatC7
set_option linter.unusedSimpArgs false
set_option linter.unusedVariables false
open Go.Ab.AO renaming row→ZAu
open Go.Ab.AS renaming start→O_,put→ZAt
open Go.Ab.G' renaming intro→ZDx
open List renaming range→ZAO,getElem?_range→ZD6
open Rat renaming divInt→P'
namespace Go.Ab.N
open Go Go.RowKit Go.Proofs
theorem ZBy:type_of%@List.getElem?_map:=@List.getElem?_map
noncomputable section
set_option maxRecDepth 10000
set_option maxHeartbeats 4000000
open Classical
def Dc (Y:Lay):AO:=.row 0 1 (Xf [.ref Y.x Y.vx 0])
def Q3 (a:AV):AO:=.row 0 1 (Xf [a])
def Yt (n:Nat)(o:AO):Prop:=o≠.D_∧∀m,n≤m→Q0 m o
theorem Ic {n:Nat}{a:AV}(h:∀m,n≤m→Jl m a):Yt n (Q3 a):=⟨by simp[Q3],fun m hm j hj=>by
 obtain rfl:j=0:=by omega
 exact h m hm⟩
theorem Ak {a:AV}{m v:Nat}(h:Jl m a):Q0 m (.row v 1 (Xf [a])):=fun j hj=>by
 obtain rfl:j=0:=by omega
 exact h
theorem Vm (c:Code)(k:List Item):tB (some c) k=.code c :: k:=rfl
theorem mS (H:List AO)(Y:Lay)(v m n E K:Nat)(S:Nat→Tb)(hY:Y.Ok H v m n)(hH:KK H)(hB:J6 H)(hE:E≤n)(hn:n<100000)(hm:m<100000){Q:Nat}(hQ:Q≤15000000)
  (hq:∀k,k≤K→∀i j,i<m→j≤n→qb ((S k).t i j)≤Q) (hqc:∀k,k≤K→∀j,j≤n→qb ((S k).c j)≤Q)
  (hs:∀k,k<K→∃p r,Ie E (S k) p∧JI (S k) n p m=some r∧S (k+1)=Cd (S k) r p) (TAo:∀j,j<E→0≤(S K).c j) :
  G' Tryz.prog 129 [.ref Y.x Y.vx 0,I E] (HT H Y m n (S 0)) (I (-1)) (HT H Y m n (S K)):=by
 have hlen:=fun T=>EA (H:=H) (Y:=Y) (m:=m) (n:=n) T
 obtain⟨n0,hn0⟩:∃n0,H.length=n0:=⟨_,rfl⟩
 have l0:=fun T=>(hlen T).trans hn0
 have e0:=fun T=>BL (l0 T)
 have e1:=fun T=>FU (l0 T)
 have e2:=fun T=>dO (l0 T)
 have es2:∀T (x y z w:AO) l,(HT H Y m n T ++ x :: y :: z :: l).set (n0+2) w=HT H Y m n T ++ x :: y :: w :: l:=fun T x y z w l=>by
  rw[ZAs _ _ (by rw[l0];omega),l0,show n0+2-n0=2 by omega];rfl
 have el:=fun T=>ZH (l0 T)
 have xlt:Y.x<n0:=hn0▸(S_.1 hY.x).1;refine G'.TAp (fn:=Tryz.f129) Tryz.call129 Tryz.func129 rfl mixed 8 [12,23] [] [] (by kernel_rfl) (K_ rfl) (X4 (X8 _)) (fun o ho=>DP _ hH o ho _ (by rw[hlen,hlen];exact N' _)) (Xk ?_);simp(disch:=omega)only[O_,e0,e1,e2,es2,el,l0,P_,↓Xc,wG,seval];refine Xj (fun j:Nat×List AO×Bool=>⟨8,[12,23],[.ref Y.x Y.vx 0,I E,.ref n0 0 0,.any,.ref (n0+1) 0 0,.ref (n0+2+j.2.1.length) 0 0,.any,.any],[],(HT H Y m n (S j.1) ++ (Dc Y :: Q3 (I 0) :: j.2.1)) ++ [Q3 (.bool j.2.2)]⟩) (fun j=>j.1≤K∧(j.2.2=false→j.1=K)∧∀o∈j.2.1,Yt n0 o) (fun j=>2*(K-j.1)+j.2.2.toNat) (0,[],true) ⟨by omega,by simp,by simp⟩
  (ZZ (by simp[Xo,I]) (by simp[Dc,Q3,I])) ?_
 rintro⟨k,G,b⟩ ⟨hk,hb,hG⟩ next
 simp only at hk hb hG;obtain⟨q0,hq0⟩:∃q0,q0=n0+2+G.length:=⟨_,rfl⟩
 have mk:∀T:Tb,∃Z,Z=HT H Y m n T ++ (Dc Y :: Q3 (I 0) :: G):=fun T=>⟨_,rfl⟩
 obtain⟨Z,hZ⟩:=mk (S k);have zl:Z.length=q0:=by rw[hZ,el,hq0];simp;omega
 have z0:∀l,(Z ++ l)[n0]?=some (Dc Y):=fun l=>by rw[hZ,P_];exact e0 _ _ _
 have zz0:=BL zl;have zz1:=FU zl;have zz2:=dO zl;have zs0:=CQ zl;have zL:=ZH zl;show Run _ _ ⟨8,[12,23],[.ref Y.x Y.vx 0,I E,.ref n0 0 0,.any,.ref (n0+1) 0 0,.ref (n0+2+G.length) 0 0,.any,.any],[],(HT H Y m n (S k) ++ (Dc Y :: Q3 (I 0) :: G)) ++ [Q3 (.bool b)]⟩;rw[←hZ,←hq0];cases b with
 |false =>
  obtain rfl:=hb rfl;clear next
  have n1:n0+1<Z.length:=by omega
  have zs1:=fun o l=>Z7 n1 o l
  have zg1:∀o l,(Z.set (n0+1) o ++ l)[n0+1]?=some o:=fun o l=>Q7 (W_ n1) l
  have ht:∀o l,(Z.set (n0+1) o ++ l).take n0=HT H Y m n (S k):=fun o l=>by
   rw[hZ,ZAs _ _ (by rw[l0];omega),l0,show n0+1-n0=1 by omega,P_];exact CR (l0 _) _
  have z1:∀l,(Z ++ l)[n0+1]?=some (Q3 (I 0)):=fun l=>by rw[hZ,P_];exact e1 _ _ _ _
  unfold Q3 at zz0 z1 zg1;refine Xk ?_;simp(disch:=omega)only[zz0,z1,zs1,Q3,↓Xc,wG,seval];refine av (v:=I (-1)) (t:=4) (u:=3) rfl ?_ rfl (by rw[l0];exact ht _ _);show Qy Tryz.prog false 3 (.ref (n0+1) 0 0) (Z.set (n0+1) _ ++ _)=_;rw[BA,yN,Kz,Q7 (W_ n1),KA,mA];simp[Qf,Xf,I]
 |true =>
  have zb:KK Z:=fun o ho q' hq'=>by
   rw[zl]at hq';rw[hZ]at ho;rcases n_.1 ho with h |h
   ·exact DP _ hH o h _ (by rw[hlen];omega)
   ·simp only[b_]at h
    rcases h with rfl |rfl |h
    ·exact Ak (QX)
    ·exact Ak (X4 (X8 _))
    ·exact(hG o h).2 _ (by omega)
  have hbl:J6 (Dc Y :: Q3 (I 0) :: G):=fun o ho=>by
   rcases b_.1 ho with rfl |ho
   ·simp[Dc]
   rcases b_.1 ho with rfl |h
   ·simp[Q3]
   ·exact(hG o h).1
  have born:∀ (T:Tb) (l:List AO),J6 l→∀id:Nat,((HT H Y m n T ++ (Dc Y :: Q3 (I 0) :: G)) ++ l)[id]?≠some AO.D_:=fun T l hl id=>Qd (KO (KO (PY _ hB) hbl) hl) id
  have TBg:=born (S k);rw[←hZ]at TBg;have zx:∀l,(Z ++ l)[Y.x]?=some (xO Y v m n):=fun l=>by rw[hZ,P_];exact Q7 (gK hY _) _
  have zc:∀l,(Z ++ l)[Y.cid]?=some (DU Y n (S k).c):=fun l=>by rw[hZ,P_];exact Q7 (LY hY _) _
  have hen:G' Tryz.prog 201 [.ref Y.x Y.vx 0,I E] (Z ++ [Q3 (.bool false)]) (.fn 228 [.ref (q0+2) 0 0,.ref (q0+1) 0 0]) (Z ++ [Q3 (.bool false),Dc Y,Q3 (I E)]):=by
   have:=SP (Z ++ [Q3 (.bool false)]) Y E;rw[zL,P_]at this;exact this
  have TFw:K5 (Z ++ [Q3 (.bool false)]) (Z ++ [Q3 (.bool false),Dc Y,Q3 (I E)]):=by
   have h1:=ZV (h:=Z ++ [Q3 (.bool false)]) (ob:=Dc Y) (by simp[Dc]);have h2:=ZV (h:=(Z ++ [Q3 (.bool false)]) ++ [Dc Y]) (ob:=Q3 (I E)) (by simp[Q3]);intro a w i f;rw[h1,h2,P_,P_];rfl
  unfold Dc at z0;unfold Q3 at zz0;refine Xk ?_;simp(disch:=omega)only[zz0,z0,zs0,Q3,JD,↓Xc,wG,seval];refine XC rfl hen TFw (TBg _ (by intro o ho;rw[Y_.1 ho];simp)) (X1 _) ?_;simp(disch:=omega)only[JD,↓Xc,wG,seval];have bl3:∀b,∀o∈[Q3 (.bool b),Dc Y,Q3 (I E)],Yt n0 o:=fun b o ho=>by
   simp only[b_,V_,or_false]at ho;rcases ho with rfl |rfl |rfl
   ·exact Ic fun m _=>X4 (X5 _)
   ·exact Ic fun m hm=>QX
   ·exact Ic fun m _=>X4 (X8 _)
  refine d_ (s':=⟨8,[12,23],[.ref Y.x Y.vx 0,I E,.ref n0 0 0,.any,.ref (n0+1) 0 0,.ref q0 0 0,.any,.any],[(11,.fn 228 [.ref (q0+2) 0 0,.ref (q0+1) 0 0])],Z ++ [Q3 (.bool false),Dc Y,Q3 (I E)]⟩) ?_ (Xh rfl (by simp[Xo,I]) (by simp[Xx,XM]) (by simp[Q3,Dc,I]));have hG3:∀b,∀o∈G ++ [Q3 (.bool b),Dc Y,Q3 (I E)],Yt n0 o:=fun b o ho=>(n_.1 ho).elim (hG o) (bl3 b o)
  have zz3:=dP zl;have zs3:=YL zl;have zbl:∀b,KK (Z ++ [Q3 (.bool b),Dc Y,Q3 (I E)]):=fun b=>Ol zb fun o ho m hm=>(bl3 b o ho).2 m (by omega)
  by_cases hk2:k<K
  rotate_left
  ·obtain rfl:k=K:=by omega
   refine G9 (gf:=228) (G_:=[.ref (q0+2) 0 0,.ref (q0+1) 0 0]) (Hn:=Z ++ [Q3 (.bool false),Dc Y,Q3 (I E)]) rfl rfl rfl (fun t ht=>?_) ?_
   ·exact dZ _ Y v m n E (q0+2) (q0+1) (S k).c t (zz2 _ _ _ _) (zz1 _ _ _) (zx _) (zc _) hE hn (by rw[ht.ch];exact N' _) (zbl _) TAo
   ·refine Xk ?_
    simp(disch:=omega)only[zz0,zz3,zs3,zL,Q3,Dc,P_,↓Xc,wG,seval];refine next (k,G ++ [Q3 (.bool false),Dc Y,Q3 (I E)],false) _ ⟨hk,fun _=>rfl,hG3 _⟩ (by show 2*(k-k)+0<2*(k-k)+1;omega) ?_
    have eq3:q0+3=n0+2+(G ++ [Q3 (.bool false),Dc Y,Q3 (I E)]).length:=by rw[j_];simp only[ZAA,ZAN];omega
    show Sub _ _ ⟨8,[12,23],[.ref Y.x Y.vx 0,I E,.ref n0 0 0,.any,.ref (n0+1) 0 0,.ref (n0+2+(G ++ [Q3 (.bool false),Dc Y,Q3 (I E)]).length) 0 0,.any,.any],[],(HT H Y m n (S k) ++ (Dc Y :: Q3 (I 0) :: (G ++ [Q3 (.bool false),Dc Y,Q3 (I E)]))) ++ [Q3 (.bool false)]⟩;rw[←eq3];refine ZZ (by simp[Xo,I]) (by simp[hZ,Q3,Dc,I])
  ·obtain⟨p,r,TEK,hlv,hpv⟩:=hs k hk2
   have hl:=ZI hlv;have hp:p<E:=TEK.1;have hr:r<m:=hl.1;have d0:(S k).t r p≠0:=by have:=hl.2.1;grind
   obtain⟨Z',hZ'⟩:=mk (S (k+1));have zl':Z'.length=q0:=by rw[hZ',el,hq0];simp;omega
   have TDp:∀T,∀o∈HT H Y m n T,Q0 (HT H Y m n T).length o:=fun T o ho=>DP _ hH o ho _ (by rw[hlen];exact N' _)
   have hx0:∀T,Jl (HT H Y m n T).length (.ref Y.x Y.vx 0):=fun T=>QX (by rw[l0];omega)
   have c1:∀l,G' Tryz.prog 202 [.ref Y.x Y.vx 0,I p] (Z ++ l) (I r) (Z ++ l):=fun l=>by
    have h1:=VW H Y v m n p (S k) hY hH hB (by omega) hn hm hQ (hq k (by omega));rw[hlv]at h1;have h2:=h1.frame rfl (by
     intro a ha;simp only[b_,V_,or_false]at ha;rcases ha with rfl |rfl
     ·exact hx0 _
     ·exact X4 (X8 _)) (TDp _) ((Dc Y :: Q3 (I 0) :: G) ++ l)
    rw[←P_,←hZ]at h2;exact h2
   have c2:∀l,G' Tryz.prog 203 [.ref Y.x Y.vx 0,I r,I p] (Z ++ l) (.tup []) (Z' ++ l):=fun l=>by
    have h1:=ml H Y v m n r p (S k) hY hH hB hr (by omega) d0 hn hm hQ (hq k (by omega)) (hqc k (by omega));rw[←hpv]at h1;have h2:=h1.frame (by rw[hlen,hlen]) (by
     intro a ha;simp only[b_,V_,or_false]at ha;rcases ha with rfl |rfl |rfl
     ·exact hx0 _
     ·exact X4 (X8 _)
     ·exact X4 (X8 _)) (TDp _) ((Dc Y :: Q3 (I 0) :: G) ++ l)
    rw[←P_,←P_,←hZ,←hZ']at h2;exact h2
   have TFx:∀l,K5 (Z ++ l) (Z' ++ l):=fun l=>Gf (by rw[zl,zl']) (by rw[hZ,hZ'];exact Gf (by rw[hlen,hlen]) (SG hY _ _) _) l
   have zb':KK Z':=fun o ho q' hq'=>by
    rw[zl']at hq';rw[hZ']at ho;rcases n_.1 ho with h |h
    ·exact DP _ hH o h _ (by rw[hlen];omega)
    ·simp only[b_]at h
     rcases h with rfl |rfl |h
     ·exact Ak (QX)
     ·exact Ak (X4 (X8 _))
     ·exact(hG o h).2 _ (by omega)
   have TE1:∀b,KK (Z' ++ [Q3 (.bool b),Dc Y,Q3 (I E)]):=fun b=>Ol zb' fun o ho m hm=>(bl3 b o ho).2 m (by omega)
   have z0':∀l,(Z' ++ l)[n0]?=some (Dc Y):=fun l=>by rw[hZ',P_];exact e0 _ _ _
   have y0:=BL zl';have y3:=dP zl';have ys0:=CQ zl';have ys3:=YL zl';have yL:=ZH zl';have TE2:∀b,J6 [Q3 (.bool b),Dc Y,Q3 (I E)]:=fun b o ho=>(bl3 b o ho).1
   unfold Dc at z0';unfold Q3 at y0;refine Fc (some (.exit 2)) (fun c e=>.inr ⟨2,by cases e;rfl⟩) (gf:=228) (G_:=[.ref (q0+2) 0 0,.ref (q0+1) 0 0]) (Hn:=Z' ++ [Q3 (.bool true),Dc Y,Q3 (I E)]) rfl rfl rfl (fun t ht=>?_) ?_
   ·refine lj _ _ Y v m n E (q0+2) (q0+1) p (S k).c t (.exit 2) (zz2 _ _ _ _) (zz1 _ _ _) (zx _) (zc _) hE hn (by rw[ht.ch];exact N' _) (TE1 _) (by rw[yL,zL];rfl) hp TEK.2.1 TEK.2.2 ?_
    refine NI (str:=[]) (hcs:=[]) (some (.exit 2)) (fun c e=>.inr ⟨2,by cases e;rfl⟩) ht mixed (by kernel_rfl) (by kernel_rfl) rfl (fun p hp=>?_) (fun o ho=>TE1 _ o ho _ (by rw[yL,zL];exact N' _)) (fun l' r' hr'=>?_)
    ·obtain rfl:p=12:=by simpa using hp
     exact K_ rfl
    show Run _ _ ⟨8,[12,23],[.ref Y.x Y.vx 0,I E,.ref n0 0 0,.any,.ref (n0+1) 0 0,.ref q0 0 0,.any,.any],[(12,I p),(11,.fn 228 [.ref (q0+2) 0 0,.ref (q0+1) 0 0])],Z ++ [Q3 (.bool false),Dc Y,Q3 (I E)]⟩;have fr:¬ (r:Int)<0:=by omega
    refine Xk ?_;simp(disch:=omega)only[JD,wQ,↓Xc,wG,seval];refine VE hr' ?_;refine XI 38 ?_;simp(disch:=omega)only[z0,JD,wQ,↓Xc,wG,seval];refine XC rfl (c1 _) (Z6 _) (TBg _ (TE2 _)) (X1 _) ?_;simp(disch:=omega)only[fr,z0,JD,wQ,↓Xc,wG,seval];refine XC rfl (c2 _) (TFx _) (TBg _ (TE2 _)) (X1 _) ?_;simp(disch:=omega)only[y0,ys0,z0',Q3,JD,wQ,↓Xc,wG,seval];refine fR (q:=(l',{ r' with state:=.busy })) (l:=0) (r:=lH) (r1:=uk (.exit 2)) rfl rfl rfl rfl ?_;show List.take _ _=_;exact ZCb (by rw[zL,yL];exact N' _)
   ·rw[Vm]
    show Run _ _ ⟨8,[12,23],[.ref Y.x Y.vx 0,I E,.ref n0 0 0,.any,.ref (n0+1) 0 0,.ref q0 0 0,.any,.any],[(11,.fn 228 [.ref (q0+2) 0 0,.ref (q0+1) 0 0])],Z' ++ [Q3 (.bool true),Dc Y,Q3 (I E)]⟩;refine Xk ?_;simp(disch:=omega)only[y0,y3,ys3,yL,Q3,Dc,P_,↓Xc,wG,seval];refine next (k+1,G ++ [Q3 (.bool true),Dc Y,Q3 (I E)],true) _ ⟨hk2,(fun e=>absurd e (by simp)),hG3 _⟩ (by show 2*(K-(k+1))+1<2*(K-k)+1;omega) ?_
    have eq3:q0+3=n0+2+(G ++ [Q3 (.bool true),Dc Y,Q3 (I E)]).length:=by rw[j_];simp only[ZAA,ZAN];omega
    show Sub _ _ ⟨8,[12,23],[.ref Y.x Y.vx 0,I E,.ref n0 0 0,.any,.ref (n0+1) 0 0,.ref (n0+2+(G ++ [Q3 (.bool true),Dc Y,Q3 (I E)]).length) 0 0,.any,.any],[],(HT H Y m n (S (k+1)) ++ (Dc Y :: Q3 (I 0) :: (G ++ [Q3 (.bool true),Dc Y,Q3 (I E)]))) ++ [Q3 (.bool true)]⟩;rw[←eq3];refine ZZ (by simp[Xo,I]) (by simp[hZ',Q3,Dc,I])
theorem QB (t:Bool):TAF [.bool false,.sl 0 0 (fun _=>.any) t,.bool false,.sl 0 0 (fun _=>.any) t] (qC 0) :=
 have h1:Xa (0:Rat).num.natAbs=[]:=by rw[ZB9];simp[Qu]
 have h2:Xa (qd (0:Rat))=[]:=Nc rfl
 ⟨U_ _,A6 h1,U_ _,A6 h2,trivial⟩
theorem D4 (N:Nat)(j:Nat):B' (KY TAE j) (Xm (fun _=>0) j):=by
 rw[FT _ _ (by simp[TAE])];show B' (TAE.getD (j%4) .any) ((qC 0).getD (j%4) .any);obtain⟨w1,w2,w3,w4,_⟩:=QB true;have h:j%4<4:=ZAI _ (by omega);generalize j%4=i at *
 match i,h with
 |0,_=>exact w1
 |1,_=>exact w2
 |2,_=>exact w3
 |3,_=>exact w4
theorem ub {P:Program}{fn:Func}{str hcs:List Nat}{b:Nat}{H:List AO}{s:AS}(hr:fn.results=#[])(hH:s.h=H):TBT (MB P fn str hcs b (.tup []) H) s :=
 ⟨.tup [],by show Au P fn s=_;simp[Au,hr,JL,BO],rfl,hH⟩
def LW (Y:Lay)(v m n:Nat)(a:AV):AO:=.row Y.vx 6 (Xf [I v,I m,I n,.osl Y.tid Y.tv 1 0 m,a,.osl Y.bid Y.bv 1 0 m])
def AQ (c:Nat→Rat)(k:Nat):Nat→Rat:=fun j=>if j<k then c j else 0
theorem Fv (c:Nat→Rat)(k:Nat):(fun i=>if i=k then c k else AQ c k i)=AQ c (k+1):=funext fun i=>by
 unfold AQ;by_cases h:i=k
 ·rw[N_ h,N_ (by omega),h]
 ·rw[M_ h]
  by_cases h2:i<k
  ·rw[N_ h2,N_ (by omega)]
  ·rw[M_ h2,M_ (by omega)]
theorem Sy (Y:Lay)(v m n:Nat){a:AV}{q:Nat}(hb:Jl q a)(h1:Y.tid<q)(h2:Y.bid<q):Q0 q (LW Y v m n a):=fun j hj=>C7 q (by
 intro x hx;simp only[b_,V_,or_false]at hx;rcases hx with rfl |rfl |rfl |rfl |rfl |rfl
 ·exact X4 (X8 _)
 ·exact X4 (X8 _)
 ·exact X4 (X8 _)
 ·exact JJ h1
 ·exact hb
 ·exact JJ h2) j
theorem TD (H:List AO)(Y:Lay)(v m n:Nat)(T:Tb)(a:AV)(g:FuncId)(G_:List AV)(c:Nat→Rat)
  (hx:H[Y.x]?=some (LW Y v m n a)) (ht:H[Y.tid]?=some (tO Y m n)) (hb:H[Y.bid]?=some (DO Y m T.b)) (hr:∀i,i<m→H[Y.rid i]?=some (Dx Y n i (T.t i)))
  (hxt:Y.x≠Y.tid) (hxb:Y.x≠Y.bid) (hxr:∀i,i<m→Y.x≠Y.rid i) (hH:KK H) (hB:J6 H) (hn:n<100000) (hm:m<100000) {Q:Nat} (hQ:Q≤15000000)
  (hq:∀i k,i<m→k≤n→qb (T.t i k)≤Q) (hqc:∀k,k≤n→qb (c k)≤Q) (hbn:∀i,i<m→T.b i≤n∧c (T.b i)=0) (hcn:c n=0)
  (hf:∀k:Nat,k<n→Fn Tryz.prog g (I k :: G_) (qA (c k))) :
  G' Tryz.prog 127 [.ref Y.x Y.vx 0,.fn g G_] H (.tup []) (H.set Y.x (LW Y v m n (.osl H.length 0 4 0 (n+1))) ++ [.row 0 ((n+1)*4) (Xm (AB n c))]):=by
 have xlt:Y.x<H.length:=(S_.1 hx).1;have tlt:Y.tid<H.length:=(S_.1 ht).1;have blt:Y.bid<H.length:=(S_.1 hb).1;obtain⟨n0,hn0⟩:∃n0,H.length=n0:=⟨_,rfl⟩
 obtain⟨K,hK⟩:∃K,K=H.set Y.x (LW Y v m n (.osl n0 0 4 0 (n+1))):=⟨_,rfl⟩
 have kl:K.length=n0:=by rw[hK,X_];exact hn0
 have kx:∀l,(K ++ l)[Y.x]?=some (LW Y v m n (.osl n0 0 4 0 (n+1))):=Q7 (by rw[hK,W_ xlt]);have kt:∀l,(K ++ l)[Y.tid]?=some (tO Y m n):=Q7 (by rw[hK,L_ hxt];exact ht);have kb:∀l,(K ++ l)[Y.bid]?=some (DO Y m T.b):=Q7 (by rw[hK,L_ hxb];exact hb);have kr:∀ {i:Nat},i<m→∀l,(K ++ l)[Y.rid i]?=some (Dx Y n i (T.t i)):=fun hi=>Q7 (by rw[hK,L_ (hxr _ hi)];exact hr _ hi)
 have ks:∀l,(H ++ l).set Y.x (LW Y v m n (.osl n0 0 4 0 (n+1)))=K ++ l:=fun l=>by rw[Z7 xlt,hK]
 have TDW:∀q,n0<q→∀o∈K,Q0 q o:=fun q hq' o ho=>by
  rw[hK]at ho;rcases ZAd ho with h |h
  ·exact hH o h q (by omega)
  ·rw[h];exact Sy Y v m n (JJ) (by omega) (by omega)
 have TB6:J6 K:=by rw[hK];exact ZT hB (by simp[LW])
 have TE3:∀f,KK (K ++ [.row 0 ((n+1)*4) (Xm f)]):=fun f o ho q hq'=>by
  rw[j_,kl]at hq';rcases n_.1 ho with h |h
  ·exact TDW q (by simp at hq';omega) o h
  ·rw[Y_.1 h];exact Al _ _ _ _
 have x0:=hx;have hx0:=Q7 hx;unfold LW at kx ks hx0 x0;unfold I at ks;have tn:((n:Int)+1).toNat=n+1:=by omega
 unfold tO at kt;unfold DO at kb;unfold Dx at kr;have e0:=BL hn0;have el:=ZH hn0;have z0:=BL kl;have z1:=FU kl;have zl:=ZH kl;have zs0:=CQ kl;have bx:Jl (n0+1) (.ref Y.x Y.vx 0)=True:=L' (QX);rw[hn0,←hK];refine ZDx (fn:=Tryz.f127) Tryz.call127 Tryz.func127 rfl mixed 7 [19,20,36,37,38] [4,5003,9,10003,10007,10010] [9] (by kernel_rfl) (K_ rfl) (Xk ?_);simp(disch:=omega)only[O_,x0,hx0,hn0,e0,el,ks,kx,tn,P_,↓Xc,wG,seval];have c0:Xm (fun _=>0)=Xm (AB n (AQ c 0)):=by
  congr 1;funext j;unfold AB AQ;rw[M_ (ZAL _)];split <;> rfl
 refine d_ ?_ (Qe n0 (Xm (fun _=>0)) (by exact z0 _ _) (fun j _=>fun c' v' _ _ h=>D4 0 j c' v' h));refine Xj (fun k:Nat=>⟨7,[19,20,36,37,38],[.ref Y.x Y.vx 0,.fn g G_,.any,.any,.any,.any,.any],[(19,I n),(20,I k)],K ++ [.row 0 ((n+1)*4) (Xm (AB n (AQ c k)))]⟩) (fun k=>k≤n) (fun k=>n-k) 0 (by omega)
  (Xh rfl (by simp[Xo,I]) (by simp[Xx,XM,I]) (by rw[←c0];exact zs0 _ _ _)) ?_
 intro k hk next
 by_cases hk2:k<n
 ·have c1:=hf k hk2
  have hst:=U3 (AQ c k) (show k≤n by omega) (c k);rw[Fv]at hst;have nx:=next (k+1)
  refine Xk ?_;simp(disch:=omega)only[kx,z0,zl,zs0,P_,↓Xc,wG,seval];refine X0 c1 (X1 _) ?_;simp(disch:=omega)only[kx,z0,zl,zs0,qC,P_,↓Xc,wG,seval];exact nx _ (by omega) (by omega) (Xh rfl (by simp[Xo,I]) (by simp[Xx,XM,I]) (by rw[←hst];rfl))
 obtain rfl:k=n:=by omega
 clear next
 have cn:AB k (AQ c k)=AB k c:=IB fun j hj=>by
  unfold AQ;by_cases h:j<k
  ·rw[N_ h]
  ·rw[M_ h,show j=k by omega,hcn]
 rw[cn];refine Xk ?_;simp(disch:=omega)only[kx,kb,P_,↓Xc,wG,seval];obtain⟨Z,hZ⟩:∃Z,Z=K ++ [ZAu 0 ((k+1)*4) (Xm (AB k c))]:=⟨_,rfl⟩
 rw[←hZ];have zt:=fun i (hi:i<m)=>kr hi [ZAu 0 ((k+1)*4) (Xm (AB k c))]
 have zx:=kx [ZAu 0 ((k+1)*4) (Xm (AB k c))];have zt2:=kt [ZAu 0 ((k+1)*4) (Xm (AB k c))];have zb:=kb [ZAu 0 ((k+1)*4) (Xm (AB k c))];have zc:=z0 (ZAu 0 ((k+1)*4) (Xm (AB k c))) [];have TDX:=TE3 (AB k c);have TBg:J6 Z:=by rw[hZ];exact KO TB6 (fun o ho=>by rw[Y_.1 ho];simp)
 rw[←hZ]at zt zx zt2 zb zc TDX;refine Xj (fun i:Nat=>⟨7,[19,20,36,37,38],[.ref Y.x Y.vx 0,.fn g G_,.any,.any,.any,.any,.any],[(36,.osl Y.bid Y.bv 1 0 m),(37,I m),(38,I i)],Z⟩) (fun i=>i≤m) (fun i=>m-i) 0 (by omega)
  (Xh rfl (by simp[Xo,I]) (by simp[Xx,XM,I]) rfl) ?_
 intro i hi next
 by_cases hi2:i<m
 ·obtain⟨hb1,hb2⟩:=hbn i hi2
  have nx:=next (i+1)
  have hbt:Y.rid i≠n0:=fun g=>by
   have:=zt i hi2;have h1:=(S_.1 (hr i hi2)).1;omega
  have hw:=aW Z n0 (Y.rid i) 0 (Y.rv i) (k+1) (AB k c) (AB k (T.t i)) (T.b i) (w_ hbt) zc (zt i hi2) (by omega) (by omega) (Q:=Q) (fun j hj=>by rw[Fk c];exact hqc j (by omega)) (fun j hj=>by rw[Fk _];exact hq i j hi2 (by omega)) (by omega) TDX;have e1:Z.set n0 (.row 0 ((k+1)*4) (Xm (fun j=>AB k c j-AB k c (T.b i)*AB k (T.t i) j)))=Z:=by
   rw[Fk c hb1,hb2,show(fun j=>AB k c j-0*AB k (T.t i) j)=AB k c from funext fun j=>by grind];exact ZAp fun j=>by
    by_cases e:n0=j
    ·rw[←e,zc,W_ (S_.1 zc).1]
    ·rw[L_ e]
  rw[e1]at hw;have zr:=zt i hi2;have fb:(if i<m then T.b i else 0)=T.b i:=N_ hi2;refine Xk ?_;simp(disch:=omega)only[zx,zt2,zb,zr,fb,↓Xc,wG,seval];refine XC rfl hw (Z6 _) (Qd TBg) (X1 _) ?_;simp(disch:=omega)only[↓Xc,wG,seval];exact nx _ (by omega) (by omega) (Xh rfl (by simp[Xo,I]) (by simp[Xx,XM,I]) rfl)
 ·obtain rfl:i=m:=by omega
  refine Xk ?_;simp(disch:=omega)only[↓Xc,wG,seval];exact ub rfl rfl
def XX (l:List Rat):AV:=gE qC 4 0 l
theorem Xu (l:List Rat):XX l=.sl l.length (l.length*4) (Xm fun i=>l.getD i 0) false:=C_ rfl
theorem ZY (f:Nat→Rat)(j:Nat):A_ (Xm f j):=Xe (l:=qC (f (j/4))) (by simp[qC,Xd,X5]) _
theorem Xr (l:List Rat):A_ (XX l):=Qw fun j _=>ZY (fun i=>l.getD i 0) j
def RB (n:Nat)(f:Nat→Rat):AV:=.sl (n+1) ((n+1)*4) (Xm (AB n f)) false
theorem HH (n:Nat)(f:Nat→Rat):A_ (RB n f):=Qw fun j _=>ZY _ j
def xo (m n:Nat)(T:Tb):AV:=.sl m m (fun i=>RB n (T.t i)) false
theorem RH (m n:Nat)(T:Tb):A_ (xo m n T):=Qw fun j _=>HH _ _
def PU (m:Nat)(T:Tb):List Int:=(ZAO m).map fun i=>(T.b i:Int)
theorem GJ (m:Nat)(T:Tb):(PU m T).length=m:=by simp[PU]
theorem Ly {m:Nat}(T:Tb){i:Nat}(h:i<m):(PU m T).getD i 0=T.b i:=by
 unfold PU;rw[K',ZBy,ZD6 h];rfl
def xC (v m n:Nat)(T:Tb):List AV:=[I v,I m,I n,xo m n T,RB n T.c,X9 (PU m T)]
def xP (v m n:Nat)(T:Tb):AV:=.ptr 6 (Xf (xC v m n T)) 0
theorem Gy (v m n:Nat)(T:Tb):A_ (xP v m n T):=XR fun j _=>Xe (l:=xC v m n T) (by simp[xC,X8,RH,HH,Xd]) j
theorem lg (s:List Int)(v:Int)(hl:s.length<1048576):Fn Tryz.prog 207 [X9 s,I v] (I (MN (fun x=>decide (v=x)) s)):=by
 refine Fq Tryz.call207 Tryz.func207 6 [6,7,8] [] [] (by simp[Xd,X8]) (Xk ?_);simp only[O_,Xl,↓X6,wF,seval];refine Xj (fun j:Nat=>⟨6,[6,7,8],[X9 s,I v,.any,.any,.any,.any],[(6,X9 s),(7,I s.length),(8,I j)],[]⟩) (fun j=>j≤s.length∧∀i,i<j→(fun x=>decide (v=x)) (s.getD i 0)=false) (fun j=>s.length-j) 0 ⟨by omega,by omega⟩
  (Xh rfl (by simp[Xo,Xl,I]) (by simp[Xx,XM,Xl,I]) rfl) ?_
 rintro j ⟨hj,hno⟩ next
 have w1:=wj j;refine Xk ?_;simp only[Xl,w1,↓X6,wF,seval];refine⟨fun h=>⟨h,h,?_⟩,fun h=>Xn (v:=I (-1)) rfl rfl (X8 _) ?_⟩
 ·refine⟨fun ht=>Xn (v:=I j) rfl rfl (X8 _) ?_,fun hf=>next (j+1) _ ⟨by omega,fun i hi=>?_⟩ (by omega) (Xh rfl ?_ ?_ rfl)⟩
  ·rw[MP h (c_ ht) hno]
  ·by_cases e:i=j
   ·rw[e];exact Z_ hf
   ·exact hno i (by omega)
  ·simp[Xo,Xl,I]
  ·simp[Xx,XM,Xl,I]
 ·rw[In fun i hi=>hno i (by omega)]
theorem LH {m n e:Nat}{T:Tb}(h:T.Ok m n e){i:Nat}(hi:i<m):Jq m n T (T.b i)=T.t i n∧∀i',i'<m→i'≠i→T.b i'≠T.b i:=by
 have hne:∀i',i'<m→i'≠i→T.b i'≠T.b i:=fun i' hi' hn g=>by
  have h1:=h.unit i' i hi' hi;have h2:=h.unit i' i' hi' hi';rw[g,h1,M_ hn,N_ rfl]at h2;exact absurd h2 (by decide)
 refine⟨?_,hne⟩;unfold Jq;rw[Aw hi fun i' hi' hn=>M_ (hne i' hi' hn),N_ rfl]
theorem m9 (v m n e:Nat)(T:Tb)(k:Nat)(h:T.Ok m n e)(hm:m<100000)(hn:n<100000):Fn Tryz.prog 137 [xP v m n T,I k] (qA (Jq m n T k)):=by
 have c1:=lg (PU m T) k (by rw[GJ];omega);obtain⟨R,hR⟩:∃R,R=qA (Jq m n T k):=⟨_,rfl⟩
 have sR:A_ R:=hR▸Xb _;have sX:=Gy v m n T;rw[←hR];by_cases hex:∃i,i<m∧T.b i=k
 ·obtain⟨i,hi,rfl⟩:=hex
  obtain⟨h1,h2⟩:=LH h hi;rw[h1]at hR;have e1:MN (fun x=>decide (((T.b i:Nat):Int)=x)) (PU m T)=i:=MP (by rw[GJ];exact hi) (by rw[Ly T hi];simp) fun j hj=>by
   rw[Ly T (by omega)];have:=h2 j (by omega) (by omega);exact Z_ (by omega)
  rw[e1]at c1;have w1:=Ch (T.t i) (N' n);have w2:=BS (T.t i) (N' n);refine Fq Tryz.call137 Tryz.func137 6 [] [] [] (by simp[sX,X8]) (Xk ?_);simp(disch:=omega)only[O_,xP,xC,↓Xc,wG,seval];refine X2 c1 rfl ?_;simp(disch:=omega)only[xo,RB,w1,w2,qC,↓Xc,wG,seval];exact Jf rfl XT rfl rfl rfl sR (hR.trans rfl)
 ·have hno:∀i,i<m→T.b i≠k:=fun i hi g=>hex ⟨i,hi,g⟩
  have e1:MN (fun x=>decide ((k:Int)=x)) (PU m T) = -1:=In fun j hj=>by
   rw[GJ]at hj;rw[Ly T hj];have:=hno j hj;exact Z_ (by omega)
  rw[e1]at c1;rw[show Jq m n T k=0 from Kp fun i hi=>M_ (hno i hi)]at hR;refine Fq Tryz.call137 Tryz.func137 6 [] [] [] (by simp[sX,X8]) (Xk ?_);simp(disch:=omega)only[O_,xP,xC,↓Xc,wG,seval];refine X2 c1 rfl ?_;simp(disch:=omega)only[↓Xc,wG,seval];exact Ql rfl XT rfl rfl rfl (hR.trans rfl) sR (QB _)
theorem Kk {p:AV→Prop}{a b:AV}(ha:p a)(hb:p b):∀x∈[a,b],p x:=fun x hx=>by
 rcases b_.1 hx with rfl |hx
 ·exact ha
 ·rw[Y_.1 hx];exact hb
theorem vD (f:Nat→Rat):AQ f 0=fun _=>0:=funext fun i=>M_ (ZAL i)
theorem SC {X:Env}{M:Md}{o:Oper}{g:FuncId}{a:AV}{args as':List AV}{K:AS→Prop}{s:AS}{r:AV}(h:Fn X.P g as' r)(ha:TAF (a :: args) as') (hK:K (s.E' o.dst r)) :
  GE X M o (.mfn g a) args K s :=
 ⟨r,s.h,⟨.inl g,a :: args,rfl,.inl ⟨_,ha,h.call,h.settled,rfl⟩⟩,hK⟩
def JY (v m n:Nat)(T:Tb):List Rat:=(ZAO v).map fun k=>Jq m n T k-Jq m n T (v+k)
theorem QP (f:Nat→Rat){v k:Nat}(h:k<v):((ZAO v).map f).getD k 0=f k:=by
 rw[K',ZBy,ZD6 h];rfl
theorem Kd {f g:Nat→Rat}{N:Nat}(h:∀ k,k<N→f k=g k)(j:Nat)(hj:j<N*4):Xm f j=Xm g j:=by
 unfold Xm;rw[h (j/4) (by omega)]
theorem ms (v m n e:Nat)(T:Tb)(h:T.Ok m n e)(hm:m<100000)(hn:n<100000)(hv:v<100000)(hq:∀k,qb (Jq m n T k)≤10000000):Fn Tryz.prog 134 [xP v m n T,.mfn 137 (xP v m n T)] (XX (JY v m n T)):=by
 have sX:=Gy v m n T;obtain⟨f,hf⟩:∃f:Nat→Rat,f=fun k=>Jq m n T k-Jq m n T (v+k):=⟨_,rfl⟩
 have tv:((v:Int)).toNat=v:=by omega
 refine Fq Tryz.call134 Tryz.func134 7 [13,14] [] [] (by simp[sX,Ud]) (Xk ?_);simp(disch:=omega)only[O_,xP,xC,tv,↓Xc,wG,seval];refine d_ ?_ (Qe 0 (Xm (fun _=>0)) rfl (fun j _=>fun c' v' _ _ h=>D4 0 j c' v' h));refine Xj (fun k:Nat=>⟨7,[13,14],[xP v m n T,.mfn 137 (xP v m n T),.any,.any,.any,.osl 0 0 4 0 v,.any],[(13,I v),(14,I k)],[.row 0 (v*4) (Xm (AQ f k))]⟩) (fun k=>k≤v) (fun k=>v-k) 0 (by omega)
  (Xh rfl (by simp[Xo,I,xP,xC,Xl]) (by simp[Xx,XM,I]) (by rw[vD];rfl)) ?_
 intro k hk next
 by_cases hk2:k<v
 ·have c1:=m9 v m n e T k h hm hn
  have c2:=m9 v m n e T (v+k) h hm hn;have q1:=hq k;have q2:=hq (v+k);have c3:=FM (Jq m n T k) (Jq m n T (v+k));have hst:=Dv (AQ f k) k (f k);rw[Fv]at hst;have nx:=next (k+1)
  have fk:f k=Jq m n T k-Jq m n T (v+k):=by rw[hf]
  rw[fk]at hst;refine Xk ?_;simp(disch:=omega)only[xP,xC,↓Xc,wG,seval];refine SC c1 (X1 _) ?_;simp(disch:=omega)only[xP,xC,↓Xc,wG,seval];refine SC c2 (X1 _) ?_;simp(disch:=omega)only[↓Xc,wG,seval];refine X2 c3 rfl ?_;simp(disch:=omega)only[qC,↓Xc,wG,seval];exact nx _ (by omega) (by omega) (Xh rfl (by simp[Xo,I,xP,xC,Xl]) (by simp[Xx,XM,I]) (by rw[←hst];rfl))
 ·obtain rfl:k=v:=by omega
  refine Xk ?_;simp(disch:=omega)only[↓Xc,wG,seval];refine C4 rfl ?_;rw[Xu];have hl:(JY k m n T).length=k:=by simp[JY]
  rw[hl];refine Kw (.inl rfl) (by omega) (by omega) fun j hj=>?_
  have:Xm (AQ f k) (0+j)=Xm (fun i=>(JY k m n T).getD i 0) j:=by
   rw[z_];refine Kd (N:=k) (fun i hi=>?_) j hj;unfold JY AQ;rw[QP _ hi,N_ hi,hf]
  rw[this];exact(ZY _ _).TBI _
theorem U2 (f:Nat→Rat)(N:Nat)(x:Rat):XV (N*4) (Xm f) 4 (Xf (qC x))=Xm (fun i=>if i=N then x else f i):=by
 rw[←Dv];funext j;rw[BW];have hl:(qC x).length=4:=rfl;unfold XV;by_cases h1:j<N*4
 ·rw[N_ h1,M_ (by omega)]
 ·rw[M_ h1]
  by_cases h2:j<N*4+4
  ·rw[N_ h2,N_ (by omega)];rfl
  ·rw[M_ h2,M_ (by omega)]
theorem Wg (a:Rat):∀j,j<4→((qC a).getD j .any).one=true:=fun j hj=>by
 match j,hj with
 |0,_=>rfl
 |1,_=>rfl
 |2,_=>rfl
 |3,_=>rfl
 |j+4,h=>omega
theorem XU (x:Rat):∀a∈qC x,A_ a:=by simp[qC,Xd,X5]
theorem DR (q v:Nat)(x:Rat):Q0 q (.row v 4 (Xf (qC x))):=QZ (XU x)
theorem xn (l:List Rat)(E:Nat)(hl:l.length<49)(hE:∀i,i<l.length→qb (l.getD i 0)≤E) (hE2:E≤2083000):Fn Tryz.prog 179 [XX l] (qA (XO (fun i=>l.getD i 0) l.length)):=by
 obtain⟨f,hf⟩:∃f:Nat→Rat,f=fun i=>l.getD i 0:=⟨_,rfl⟩
 obtain⟨N,hN⟩:∃N,N=l.length:=⟨_,rfl⟩
 have hE':∀i,i<N→qb (f i)≤E:=fun i hi=>by rw[hf];exact hE i (hN▸hi)
 obtain⟨A,hA⟩:∃A:AV,A=.sl N (N*4) (Xm f) false:=⟨_,rfl⟩
 have eA:XX l=A:=by rw[Xu,hA,hN,hf]
 rw[eA,←hN,←hf];have sA:A_ A:=eA▸Xr l;have bA:Jl 2 A=True:=L' (X4 sA);have bq:∀q v x,Q0 q (.row v 4 (Xf (qC x)))=True:=fun q v x=>L' (DR q v x)
 have bz:∀q v,Q0 q (.row v 4 (Xf TAE))=True:=fun q v=>L' (QZ (by simp[TAE,X5,JQ]))
 obtain⟨R,hR⟩:∃R,R=qA (XO f N):=⟨_,rfl⟩
 have sR:A_ R:=hR▸Xb _;rw[←hR];refine Fq Tryz.call179 Tryz.func179 6 [6,7,8] [] [] (by simp[sA]) (Xk ?_);subst hA;simp(disch:=omega)only[O_,↓Xc,wG,seval];refine d_ ?_ (Qe 1 (Xf (qC 0)) rfl (fun j hj=>fun c' v' _ _ h=>by
  have w:=QB true
  match j,hj with
  |0,_=>exact w.1 c' v' h
  |1,_=>exact w.2.1 c' v' h
  |2,_=>exact w.2.2.1 c' v' h
  |3,_=>exact w.2.2.2.1 c' v' h
  |j+4,h=>omega))
 refine Xj (fun k:Nat=>⟨6,[6,7,8],[.any,.any,.ref 0 0 0,.ref 1 0 0,.any,.any],[(6,.sl N (N*4) (Xm f) false),(7,I N),(8,I k)],[.row 0 4 (Xf TAE),.row 0 4 (Xf (qC (XO f k)))]⟩) (fun k=>k≤N) (fun k=>N-k) 0 (by omega)
  (Xh rfl (by simp[Xo,I]) (by simp[Xx,XM,I]) (by rfl)) ?_
 intro k hk next
 by_cases hk2:k<N
 ·have q1:=hE' k hk2
  have q2:=Hu (f:=f) (E:=E) (m:=k) fun i hi=>hE' i (by omega)
  have q3:k*(E+1)+1≤48*2083001+1:=by
   have:=ZBQ (show k≤48 by omega) (show E+1≤2083001 by omega);omega
  have c1:=Cf (XO f k) (f k);have w1:=QD f k;have w2:=JC f k;have nx:=next (k+1)
  refine Xk ?_;simp(disch:=omega)only[w1,w2,qC,TAE,↓Xc,wG,seval];refine X2 c1 rfl ?_;simp(disch:=omega)only[qC,TAE,↓Xc,wG,seval];exact nx _ (by omega) (by omega) (XG (m:=2) (p_ _) rfl (by simp[Xo,I]) (by simp[Xx,XM,I]) (by rfl) (by simp[XP]) (by simp[XP,bA]) (by simp[bq,bz]))
 ·obtain rfl:k=N:=by omega
  refine Xk ?_;simp(disch:=omega)only[qC,TAE,↓Xc,wG,seval];exact Jf rfl XT rfl rfl rfl sR (hR.trans rfl)
theorem jG (a b:List Rat)(E:Nat)(ha:a.length<49)(hb:b.length=a.length)(hE:∀i,i<a.length→qb (a.getD i 0)+qb (b.getD i 0)≤E) (hE2:E≤2083000) :
  Fn Tryz.prog 100 [XX a,XX b] (qA (XO (fun i=>a.getD i 0*b.getD i 0) a.length)):=by
 obtain⟨N,hN⟩:∃N,N=a.length:=⟨_,rfl⟩
 obtain⟨f,hf⟩:∃f:Nat→Rat,f=fun i=>a.getD i 0*b.getD i 0:=⟨_,rfl⟩
 have hlen:((ZAO N).map f).length=N:=by simp
 have e0:∀i,i<N→((ZAO N).map f).getD i 0=f i:=fun i hi=>QP f hi
 have c0:=xn ((ZAO N).map f) E (by omega) (fun i hi=>by
  rw[hlen]at hi;rw[e0 i hi,hf];have:=Qa (a.getD i 0) (b.getD i 0);have:=hE i (by omega);show qb (a.getD i 0*b.getD i 0)≤E;omega) hE2
 rw[hlen,XQ fun i hi=>e0 i hi]at c0;rw[←hN,←hf];have eA:XX a=.sl N (N*4) (Xm fun i=>a.getD i 0) false:=by rw[Xu,hN]
 have eB:XX b=.sl N (N*4) (Xm fun i=>b.getD i 0) false:=by rw[Xu,hN,hb]
 have sA:=Xr a;have sB:=Xr b;obtain⟨R,hR⟩:∃R,R=qA (XO f N):=⟨_,rfl⟩
 have sR:A_ R:=hR▸Xb _;rw[eA]at sA;rw[eB]at sB;rw[←hR,eA,eB];refine q_ (fn:=Tryz.f100) Tryz.call100 Tryz.func100 rfl mixed 7 [11,12] [] [] (by kernel_rfl) (K_ rfl) (Kk sA sB) (Xk ?_);simp(disch:=omega)only[O_,↓Xc,wG,seval];refine Xj (fun k:Nat=>⟨7,[11,12],[.sl N (N*4) (Xm fun i=>a.getD i 0) false,.sl N (N*4) (Xm fun i=>b.getD i 0) false,.any,.any,.ref 0 0 0,.osl 1 k 4 0 k,.any],[(11,I N),(12,I k)],[.row 0 4 (Xf TAE),.row k (k*4) (Xm (AQ f k))]⟩) (fun k=>k≤N) (fun k=>N-k) 0 (by omega)
  (ZAZ (JS 5 4 (Xm (AQ f 0)) rfl) (Xh rfl (by simp[ZAt,Xo,I]) (by simp[ZAt,Xx,XM,I]) (by simp[ZAt,TAE]))) ?_
 intro k hk next
 by_cases hk2:k<N
 ·have q1:=hE k (by omega)
  have c1:=B5 (a.getD k 0) (b.getD k 0) (by unfold rm;omega) (by unfold rm;omega);have w1:=QD (fun i=>a.getD i 0) k;have w2:=JC (fun i=>a.getD i 0) k;have w3:=QD (fun i=>b.getD i 0) k;have w4:=JC (fun i=>b.getD i 0) k;have hap:=U2 (AQ f k) k (f k);rw[Fv]at hap;have fk:f k=a.getD k 0*b.getD k 0:=by rw[hf]
  rw[fk]at hap;have nx:=next (k+1)
  refine Xk ?_;simp(disch:=omega)only[w1,w2,w3,w4,qC,TAE,↓Xc,wG,seval];refine X2 c1 rfl ?_;simp(disch:=omega)only[qC,TAE,↓Xc,wG,seval];exact⟨fun j hj=>Wg (a.getD k 0*b.getD k 0) j hj,nx _ (by omega) (by omega) (Xh rfl (by simp[Xo,I]) (by simp[Xx,XM,I]) (by rw[←hap];rfl))⟩
 ·obtain rfl:k=N:=by omega
  refine d_ ?_ (ZAZ (Xz 1 rfl) (HP (M:=k*4) 5 rfl rfl));refine Xk ?_;simp(disch:=omega)only[qC,TAE,ZAt,↓Xc,wG,seval];refine X0 c0 ⟨QC (by rw[hlen]) (by rw[hlen];exact N' _) (fun j hj=>?_),trivial⟩ ?_
  ·rw[hlen]at hj
   have:Xm (AQ f k) j=Xm (fun i=>((ZAO k).map f).getD i 0) j:=Kd (N:=k) (fun i hi=>by rw[e0 i hi];exact N_ hi) j hj;show B' (Xm (AQ f k) j) (Xm (fun i=>((ZAO k).map f).getD i 0) j);rw[this];exact U_ _
  simp(disch:=omega)only[qA,qC,TAE,↓Xc,wG,seval];exact Jf rfl XT rfl rfl rfl sR (hR.trans rfl)
theorem di (l:List Rat)(hl:l.length<1000000):Fn Tryz.prog 204 [XX l] (XX l):=by
 obtain⟨N,hN⟩:∃N,N=l.length:=⟨_,rfl⟩
 obtain⟨f,hf⟩:∃f:Nat→Rat,f=fun i=>l.getD i 0:=⟨_,rfl⟩
 have sA:=Xr l;have eA:XX l=.sl N (N*4) (Xm f) false:=by rw[Xu,hN,hf]
 rw[eA]at sA ⊢;refine Fq Tryz.call204 Tryz.func204 3 [] [] [] (by simp[sA]) (Xk ?_);have TA9:∀j,(Xm f j).one=true:=fun j=>by unfold Xm;exact Wg (f (j/4)) (j%4) (ZAI _ (by omega))
 simp(disch:=omega)only[O_,↓Xc,wG,seval];have hc:xU (JK Tryz.prog Tryz.f204 [] [] (.sl N (N*4) (Xm f) false)) .mk ⟨3,[],[.sl N (N*4) (Xm f) false,.any,.osl 0 0 4 0 N],[(7,.osl 0 0 4 0 N),(6,.sl N (N*4) (Xm f) false),(5,.sl 0 0 (Xf []) true)],[.row 0 (N*4) (XV 0 (Xf []) (N*4) (Xm f))]⟩:=by
  exact df rfl rfl rfl (fun h=>by rw[h]) fun j hj=>ZY _ _
 by_cases h0:N=0
 ·rw[N_ h0,I7]
  subst h0;refine⟨?_,?_,hc⟩
  ·exact Vw rfl rfl
  ·exact fun j hj=>TA9 j
 ·rw[M_ h0,Mn,E1]
  exact⟨fun j hj=>TA9 j,hc⟩
theorem fZ (v m n:Nat)(T:Tb)(hv:2*v+m≤n)(hn:n<100000):Fn Tryz.prog 130 [xP v m n T] (XX ((ZAO m).map fun i=>T.c (2*v+i))):=by
 have sX:=Gy v m n T;obtain⟨L,hL⟩:∃L,L=(ZAO m).map fun i=>T.c (2*v+i):=⟨_,rfl⟩
 have hl:L.length=m:=by rw[hL];simp
 have c1:=di L (by omega);have sL:=Xr L;rw[←hL];refine Fq Tryz.call130 Tryz.func130 3 [] [] [] (by simp[sX]) (Xk ?_);have t1:(2*(v:Int)).toNat=2*v:=by omega
 have t2:(2*(v:Int)+m).toNat=2*v+m:=by omega
 have t3:(2*(v:Int)+m-2*v).toNat=m:=by omega
 simp(disch:=omega)only[O_,xP,xC,RB,t1,t2,t3,↓Xc,wG,seval];refine X0 c1 ⟨QC (by rw[hl]) (by rw[hl];omega) (fun j hj=>?_),trivial⟩ ?_
 ·rw[hl]at hj
  have:Xm (AB n T.c) (2*v*4+j)=Xm (fun i=>L.getD i 0) j:=by
   have e:L.getD (j/4) 0=T.c (2*v+j/4):=by rw[hL,QP _ (by omega)]
   show(qC (AB n T.c ((2*v*4+j)/4))).getD ((2*v*4+j)%4) .any=(qC (L.getD (j/4) 0)).getD (j%4) .any;rw[show(2*v*4+j)/4=2*v+j/4 by omega,show(2*v*4+j)%4=j%4 by omega,Fk _,e]
  rw[this];exact U_ _
 simp(disch:=omega)only[↓Xc,wG,seval];exact Xn rfl rfl sL rfl
theorem jI (H:List AO)(Y:Lay)(v m n last:Nat)(b:Nat→Nat)(a:AV)(hx:H[Y.x]?=some (LW Y v m n a)) (hb:H[Y.bid]?=some (DO Y m b)) (hH:KK H) (hlt:∀i,i<m→b i<last) (hm:m<100000) :
  G' Tryz.prog 131 [.ref Y.x Y.vx 0,I last] H (.tup []) H:=by
 have x0:=hx;unfold LW at x0;unfold DO at hb;refine ZDx (fn:=Tryz.f131) Tryz.call131 Tryz.func131 rfl mixed 7 [10,11,12] [] [] (by kernel_rfl) (K_ rfl) (Xk ?_);simp(disch:=omega)only[O_,x0,↓Xc,wG,seval];refine Xj (fun i:Nat=>⟨7,[10,11,12],[.ref Y.x Y.vx 0,I last,.any,.any,.any,.any,.any],[(10,.osl Y.bid Y.bv 1 0 m),(11,I m),(12,I i)],H⟩) (fun i=>i≤m) (fun i=>m-i) 0 (by omega)
  (Xh rfl (by simp[Xo,I]) (by simp[Xx,XM,I]) rfl) ?_
 intro i hi next
 by_cases hi2:i<m
 ·have nx:=next (i+1)
  have fb:(if i<m then b i else 0)=b i:=N_ hi2;have f1:=hlt i hi2;have f2:(b i:Int)<last:=by omega
  refine Xk ?_;simp(disch:=omega)only[x0,hb,fb,f2,↓Xc,wG,seval];exact nx _ (by omega) (by omega) (Xh rfl (by simp[Xo,I]) (by simp[Xx,XM,I]) rfl)
 ·obtain rfl:i=m:=by omega
  refine Xk ?_;simp(disch:=omega)only[↓Xc,wG,seval];exact ub rfl rfl
structure Ln where
 a:List Rat
 b:Rat
def KX (x:Ln):List AV:=XX x.a :: qC x.b
def KN:Ln:=⟨[],0⟩
def Et (L:List Ln):AV:=gE KX 5 KN L
def P7 (v:Nat)(L:List Ln)(G:List Rat):AV:=.agg [I v,Et L,XX G]
theorem XH (L:List Ln):Et L=.sl L.length (L.length*5) (Xw KX 5 KN L) false:=C_ rfl
theorem Z1 (x:Ln):∀a∈KX x,A_ a:=by simp[KX,qC,Xr,Xd,X5]
theorem QV (L:List Ln):A_ (Et L):=Z4 fun a x hx=>Z1 a x hx
theorem BT (v:Nat)(L:List Ln)(G:List Rat):A_ (P7 v L G):=XE (by simp[X8,QV,Xr])
def lA (L:List Ln)(i k:Nat):Rat:=(L.getD i KN).a.getD k 0
def lB (L:List Ln)(i:Nat):Rat:=(L.getD i KN).b
def lG (G:List Rat)(k:Nat):Rat:=G.getD k 0
theorem zK (L:List Ln)(i:Nat):Xw KX 5 KN L (i*5)=XX (L.getD i KN).a∧Xw KX 5 KN L (i*5+1)=(qC (lB L i)).getD 0 .any∧Xw KX 5 KN L (i*5+2)=(qC (lB L i)).getD 1 .any∧Xw KX 5 KN L (i*5+3)=(qC (lB L i)).getD 2 .any∧Xw KX 5 KN L (i*5+4)=(qC (lB L i)).getD 3 .any:=by
 refine⟨?_,?_,?_,?_,?_⟩
 ·rw[ZO _ _ _ _ _];rfl
 all_goals rw[Ze _ _ _ _ _ _ (by omega)];rfl
theorem wR (H:List AO)(nid lid rid N k:Nat)(x:Rat)(f:Nat→Rat)(hn:H[nid]?=some (Q3 (.bool false))) (hl:H[lid]?=some (Q3 (.osl rid 0 4 0 N))) (hr:H[rid]?=some (.row 0 (N*4) (Xm f))) (hk:k<N) (hN:N<1000000) (hH:KK H) :
  G' Tryz.prog 199 [I k,qA x,.ref nid 0 0,.ref lid 0 0] H (.tup []) (H.set rid (.row 0 (N*4) (Xm fun i=>if i=k then x else f i))):=by
 have rlt:rid<H.length:=(S_.1 hr).1;have e1:=Q7 hn;have e2:=Q7 hl;have e3:=Q7 hr;have e0:=fun x l=>BL (H:=H) rfl x l
 have es:=fun o l=>Z7 rlt o l
 have hst:=Dv f k x;unfold Q3 at e1 e2;refine G'.TAp (fn:=Tryz.f199) Tryz.call199 Tryz.func199 rfl mixed 6 [] [] [] (by kernel_rfl) (K_ rfl) (X4 (Z5)) (fun o ho=>by
  rcases ZAd ho with h |h
  ·exact hH o h _ (N' _)
  ·rw[h];exact Al _ _ _ _) (Xk ?_)
 simp(disch:=omega)only[O_,qA,qC,e1,e2,e3,e0,↓Xc,wG,seval];rw[es];exact RA rfl (by rw[hst.symm.trans rfl];exact CR (X_ ..) _)
def wy (v m N n0 i:Nat):AO:=.row 0 6 (Xf [I v,I m,I N,.osl (n0+2) i 1 0 i,.sl 0 0 (fun _=>.any) true,.osl (n0+3) i 1 0 i])
def wx (N n0 i:Nat):AO:=.row i i (fun j=>.osl (n0+4+4*j+1) 0 4 0 (N+1))
def ox (v i:Nat):AO:=.row i i (fun j=>I ((2*v+j:Nat)))
def yS (L:List Ln)(T:Tb)(N n0 j:Nat):List AO:=[.row 0 5 (Xf (KX (L.getD j KN))),.row 0 ((N+1)*4) (Xm (AB N (T.t j))),Q3 (.osl (n0+4+4*j+1) 0 4 0 (N+1)),Q3 (.bool false)]
def r5 (L:List Ln)(T:Tb)(N n0:Nat):Nat→List AO
 |0=>[]
 |i+1=>r5 L T N n0 i ++ yS L T N n0 i
theorem Hd (L:List Ln)(T:Tb)(N n0:Nat):∀i,(r5 L T N n0 i).length=4*i
 |0=>rfl
 |i+1=>by unfold r5;rw[j_,Hd L T N n0 i];show 4*i+4=_;omega
def Zz (v:Nat)(L:List Ln)(G:List Rat):List AV:=[I v,Et L,XX G]
def tM (v:Nat)(L:List Ln)(G:List Rat):AO:=.con 0 3 (Xf (Zz v L G))
def Ix (v:Nat)(a:Nat→Rat)(k:Nat):Nat→Rat:=fun j=>if j<k then a j else if v≤j∧j<v+k then -a (j-v)else 0
theorem x6 (v:Nat)(a:Nat→Rat):Ix v a 0=fun _=>0:=funext fun j=>by
 unfold Ix;rw[M_ (ZAL _),M_ (by omega)]
theorem fM {v k:Nat}(a:Nat→Rat)(h:k<v):(fun j=>if j=v+k then -a k else(fun j=>if j=k then a k else Ix v a k j) j)=Ix v a (k+1):=funext fun j=>by
 unfold Ix;by_cases h1:j=v+k
 ·rw[N_ h1,M_ (by omega),N_ (by omega),show j-v=k by omega]
 ·rw[M_ h1]
  show(if j=k then a k else _)=_;by_cases h2:j=k
  ·rw[N_ h2,N_ (by omega),h2]
  ·rw[M_ h2]
   by_cases h3:j<k
   ·rw[N_ h3,N_ (by omega)]
   ·rw[M_ h3,M_ (show ¬j<k+1 by omega)]
    by_cases h4:v≤j∧j<v+k
    ·rw[N_ h4,N_ (by omega)]
    ·rw[M_ h4,M_ (by omega)]
theorem PW (L:List Ln)(T:Tb)(N n0:Nat):∀i q,n0+4+4*i≤q→∀o∈r5 L T N n0 i,Q0 q o∧o≠.D_
 |0,_,_,o,ho=>absurd ho (V_)
 |i+1,q,hq,o,ho=>by
  rcases n_.1 ho with h |h
  ·exact PW L T N n0 i q (by omega) o h
  ·simp only[yS,b_,V_,or_false]at h
   rcases h with rfl |rfl |rfl |rfl
   ·exact⟨QZ (Z1 _),by simp⟩
   ·exact⟨Al _ _ _ _,by simp⟩
   ·exact⟨Ak (JJ),by simp[Q3]⟩
   ·exact⟨Ak (X4 (X5 _)),by simp[Q3]⟩
def IW (H:List AO)(v:Nat)(L:List Ln)(G:List Rat)(T:Tb)(N i:Nat):List AO:=H ++ tM v L G :: wy v L.length N H.length i :: wx N H.length i :: ox v i :: r5 L T N H.length i
theorem He (H:List AO)(v:Nat)(L:List Ln)(G:List Rat)(T:Tb)(N i:Nat):(IW H v L G T N i).length=H.length+4+4*i:=by
 unfold IW;rw[j_];simp only[ZAA];rw[Hd];omega
theorem Sv {H:List AO}(v:Nat)(L:List Ln)(G:List Rat)(T:Tb)(N i:Nat)(hH:KK H):KK (IW H v L G T N i):=fun o ho q hq=>by
 rw[He]at hq;unfold IW at ho;rcases n_.1 ho with h |h
 ·exact hH o h q (by omega)
 ·simp only[b_]at h
  rcases h with rfl |rfl |rfl |rfl |h
  ·exact fun j _=>C7 q (by simp[Zz];exact⟨X4 (X8 _),X4 (QV _),X4 (Xr _)⟩) j
  ·exact fun j _=>C7 q (by
    intro x hx;simp only[b_,V_,or_false]at hx;rcases hx with rfl |rfl |rfl |rfl |rfl |rfl
    ·exact X4 (X8 _)
    ·exact X4 (X8 _)
    ·exact X4 (X8 _)
    ·exact JJ
    ·exact X4 (JQ _ _)
    ·exact JJ) j
  ·exact fun j hj=>JJ
  ·exact fun j hj=>X4 (X8 _)
  ·exact(PW L T N H.length i q (by omega) o h).1
theorem Oo {H:List AO}(v:Nat)(L:List Ln)(G:List Rat)(T:Tb)(N i:Nat)(hB:J6 H):J6 (IW H v L G T N i):=fun o ho=>by
 unfold IW at ho;rcases n_.1 ho with h |h
 ·exact hB o h
 ·simp only[b_]at h
  rcases h with rfl |rfl |rfl |rfl |h
  ·simp[tM]
  ·simp[wy]
  ·simp[wx]
  ·simp[ox]
  ·exact(PW L T N H.length i _ (N' _) o h).2
theorem NB {m:Nat}{s:AS}(id:Nat){ver n:Nat}{f:Nat→AV}(ho:s.h[id]?=some (.con ver n f)):Sub m s { s with h:=s.h.set id .dead }:=by
 intro N c a hst;have hH:=hst.heap;rw[←hH]at ho;have hlt:=(S_.1 ho).1;have hat:(c.H.set id AO.dead)[id]?=some .dead:=by simp[hlt]
 have TAI:∀i,i≠id→(c.H.set id AO.dead)[i]?=c.H[i]?:=fun i hi=>L_ (w_ hi)
 let c':Ctx:=⟨c.w,c.S,c.γ,c.H.set id .dead⟩
 have J':Ext c c':=by
  refine⟨?_,fun b h=>h,fun b h=>.inl h,?_,fun _ _ _=>rfl,N' _,rfl,rfl,rfl⟩
  ·intro i o hoi
   by_cases hi:i=id
   ·subst hi
    rw[ho]at hoi;cases hoi;exact .inl (by simp only[c'];exact hat)
   ·have h1:=HLe.refl c i o hoi
    have e1:=TAI i hi;cases o with
    |D_=>trivial
    |dead=>simpa [c',e1]using h1
    |row v _ _=>simpa [c',e1,inf]using h1
    |con v _ _=>simpa [c',e1,inf]using h1
    |map k g=>simpa [c',e1]using h1
  ·rintro b ⟨i,o,sz,hoi,TAP,hg⟩
   by_cases hi:i=id
   ·subst hi
    simp only[c']at hoi;rw[hat]at hoi;cases hoi;simp[AO.owned]at TAP
   ·simp only[c']at hoi
    rw[TAI i hi]at hoi;exact .inr ⟨i,o,sz,hoi,TAP,hg⟩
 have TAb:∀ {v a},Rep c v a→Rep c' v a:=fun hv=>J'.rep hst.H_ hv
 refine⟨c',rfl,J'.toB m,hst.size,hst.defers,fun i=>TAb (hst.TAQ i),by simp[c',hH],?_⟩;refine⟨?_,?_,?_,?_,hst.H_.bound⟩
 ·intro i v k g hoi
  by_cases hi:i=id
  ·subst hi;simp only[c']at hoi;rw[hat]at hoi;cases hoi
  ·simp only[c']at hoi
   rw[TAI i hi]at hoi;rcases hst.H_.row i v k g hoi with h | ⟨b,sz,cs,el,h1,h2,h3,h4,h5,h6⟩
   ·exact .inl h
   ·exact .inr ⟨b,sz,cs,el,h1,h2,h3,h4,h5,fun j hj=>TAb (h6 j hj)⟩
 ·intro i v k g hoi
  by_cases hi:i=id
  ·subst hi;simp only[c']at hoi;rw[hat]at hoi;cases hoi
  ·simp only[c']at hoi
   rw[TAI i hi]at hoi;rcases hst.H_.con i v k g hoi with h | ⟨b,sz,cs,el,fr,h1,h2,h3,h4,h5,h6⟩
   ·exact .inl h
   ·exact .inr ⟨b,sz,cs,el,fr,h1,h2,h3,h4,h5,fun j hj=>TAb (h6 j hj)⟩
 ·intro i k g hoi
  by_cases hi:i=id
  ·subst hi;simp only[c']at hoi;rw[hat]at hoi;cases hoi
  ·simp only[c']at hoi
   rw[TAI i hi]at hoi;obtain⟨b,sz,es,cl,h1,h2,h3,h4⟩:=hst.H_.map i k g hoi;exact⟨b,sz,es,cl,h1,h2,h3,h4.ext fun v a hv=>TAb hv⟩
 ·intro i i' o o' b sz sz' hoi TAn h1 h2 hg hg'
  by_cases hi:i=id
  ·subst hi;simp only[c']at hoi;rw[hat]at hoi;cases hoi;simp[AO.owned]at h1
  ·by_cases hi':i'=id
   ·subst hi';simp only[c']at TAn;rw[hat]at TAn;cases TAn;simp[AO.owned]at h2
   ·simp only[c']at hoi TAn
    rw[TAI i hi]at hoi;rw[TAI i' hi']at TAn;exact hst.H_.inj _ _ _ _ _ _ _ hoi TAn h1 h2 hg hg'
def RW (H:List AO)(v:Nat)(L:List Ln)(G:List Rat)(T:Tb)(N:Nat):List AO:=(IW H v L G T N L.length).set H.length .dead
theorem Oj (f:Nat→AV)(N:Nat)(x:AV)(h:x=f N):XV N f 1 (Xf [x])=f:=funext fun j=>by
 unfold XV;by_cases h1:j<N
 ·rw[N_ h1]
 ·rw[M_ h1]
  by_cases h2:j<N+1
  ·rw[N_ h2,show j=N by omega,ZB7,←h];rfl
  ·rw[M_ h2]
theorem qZ (H:List AO)(v:Nat)(L:List Ln)(G:List Rat)(T:Tb)(N:Nat)(hN:N=2*v+2*L.length)(hv:v≤100)(hm:L.length≤200)(ha:∀i,i<L.length→(L.getD i KN).a.length=v) (hB:∀i,i<L.length→0≤lB L i)
  (hT:∀i,i<L.length→∀k,k≤N→T.t i k=(K0 v L.length (lA L) (lB L) (lG G)).t i k) (hq:∀i k,i<L.length→k<v→qb (lA L i k)≤10000) (hH:KK H) (hBo:J6 H) :
  G' Tryz.prog 126 [P7 v L G] H (.ref (H.length+1) 0 0) (RW H v L G T N):=by
 obtain⟨n0,hn0⟩:∃n0,H.length=n0:=⟨_,rfl⟩
 have e0:=BL hn0;have e1:=FU hn0;have el:=ZH hn0;have es0:=CQ hn0;have hcs:∀l,(H ++ l).set n0 (tM v L G)=H ++ l.set 0 (tM v L G):=fun l=>by rw[ZAs _ _ (by omega),hn0,ZB7]
 have c0:n0≤n0:=N' _;refine ZDx (fn:=Tryz.f126) Tryz.call126 Tryz.func126 rfl mixed 13 [28,29,30,47,48,49] [13,14005,15] [13,15,16] (by kernel_rfl) (K_ rfl) (XI 8 ?_);simp(disch:=omega)only[O_,P7,hn0,e0,e1,el,XH,Xu,↓Xc,wG,seval];have hp0:Xf [AV.int .i64 v,.sl L.length (L.length*5) (Xw KX 5 KN L) false,.sl G.length (G.length*4) (Xm fun i=>G.getD i 0) false]=Xf (Zz v L G):=by unfold Zz;rw[XH,Xu];rfl
 rw[hp0];refine d_ ?_ (Xz n0 (e0 _ _));simp only[es0];refine d_ ?_ (XK 1 rfl (e0 _ _));refine Xk ?_;simp(disch:=omega)only[ZAt,Zz,e0,e1,el,es0,XH,Xu,↓Xc,wG,seval];have es1:=H9 hn0;have eL:(H ++ [tM v L G,.row 0 6 (Xf [I v,I L.length,I N,.sl 0 0 (fun _=>.any) true,.sl 0 0 (fun _=>.any) true,.sl 0 0 (fun _=>.any) true])]).length=n0+2:=by rw[el];rfl
 refine d_ (s':=⟨13,[28,29,30,47,48,49],[.any,.ptr 3 (Xf (Zz v L G)) 0,.any,I L.length,.ref (n0+1) 0 0,.any,.any,.any,.any,.any,.any,.any,.any],[(28,Et L),(29,I L.length),(30,I 0)],H ++ [tM v L G,.row 0 6 (Xf [I v,I L.length,I N,.sl 0 0 (fun _=>.any) true,.sl 0 0 (fun _=>.any) true,.sl 0 0 (fun _=>.any) true])]⟩) ?_
  (Xh rfl (by simp[Xo,I,Zz,XH,Xu]) (by simp[Xx,XM,I,XH]) (by simp[tM,Zz,XH,Xu,I,hN]))
 refine d_ ?_ (FP (fun j=>.osl (n0+4+4*j+1) 0 4 0 (N+1)));refine d_ ?_ (FP (fun j=>I ((2*v+j:Nat))));simp only[P_,e_,h_];refine d_ ?_ (Qe (n0+1) (Xf [I v,I L.length,I N,.osl (n0+2) 0 1 0 0,.sl 0 0 (fun _=>.any) true,.osl (n0+3) 0 1 0 0]) (e1 _ _ _) (fun j hj=>by
  match j,hj with
  |0,_=>exact XD _ _
  |1,_=>exact XD _ _
  |2,_=>exact XD _ _
  |3,_=>exact A5 (dO hn0 _ _ _ _)
  |4,_=>exact XD _ _
  |5,_=>exact A5 (dP hn0 _ _ _ _ _)
  |j+6,h=>omega))
 simp only[es1];refine Xj (fun i:Nat=>⟨13,[28,29,30,47,48,49],[.any,.ptr 3 (Xf (Zz v L G)) 0,.any,I L.length,.ref (n0+1) 0 0,.any,.any,.any,.any,.any,.any,.any,.any],[(28,Et L),(29,I L.length),(30,I i)],IW H v L G T N i⟩) (fun i=>i≤L.length) (fun i=>L.length-i) 0 (by omega)
  (Xh rfl (by simp[Xo]) (by simp[Xx,XM]) (by subst hn0;rfl)) ?_
 intro i hi next
 by_cases hi2:i<L.length
 rotate_left
 ·obtain rfl:i=L.length:=by omega
  refine d_ ?_ (NB n0 (by show(IW H v L G T N L.length)[n0]?=_;unfold IW;exact BL hn0 _ _));refine Xk ?_;simp(disch:=omega)only[XH,↓Xc,wG,seval];exact Pe rfl (by rw[hn0];rfl) (by show List.set _ _ _=_;unfold RW;rw[hn0])
 obtain⟨Z,hZ⟩:∃Z,Z=IW H v L G T N i:=⟨_,rfl⟩
 obtain⟨b0,hb0⟩:∃b0,b0=n0+4+4*i:=⟨_,rfl⟩
 have TBW:Z.length=b0:=by rw[hZ,He,hn0,hb0]
 have TDX:KK Z:=hZ▸Sv v L G T N i hH;have TBg:J6 Z:=hZ▸Oo v L G T N i hBo;have zx:∀l,(Z ++ l)[n0+1]?=some (wy v L.length N n0 i):=Q7 (by rw[hZ];unfold IW;rw[hn0];exact FU hn0 _ _ _);have zt:∀l,(Z ++ l)[n0+2]?=some (wx N n0 i):=Q7 (by rw[hZ];unfold IW;rw[hn0];exact dO hn0 _ _ _ _);have zb:∀l,(Z ++ l)[n0+3]?=some (ox v i):=Q7 (by rw[hZ];unfold IW;rw[hn0];exact dP hn0 _ _ _ _ _);rw[←hZ];have z0:=BL TBW;have z1:=FU TBW;have z2:=dO TBW;have z3:=dP TBW;have zs0:=CQ TBW;have zs1:=H9 TBW;have zs2:=tH TBW;have zs3:=YL TBW;have zL:=ZH TBW;obtain⟨l1,l2,l3,l4,l5⟩:=zK L i;have hai:=ha i hi2;have hbi:=hB i hi2;have c1:=Qv (lB L i);have f1:¬ (lB L i).num.sign<0:=fun g=>absurd ((BG _).1 g) (ZAf.2 hbi)
 have tN:((N:Int)+1).toNat=N+1:=by omega
 have zx0:=zx [];rw[ZAQ]at zx0;unfold wy at zx zx0;refine Xk ?_;simp(disch:=omega)only[zx,zx0,zL,TBW,z0,z1,z2,z3,zs0,zs1,zs2,zs3,l1,l2,l3,l4,l5,tN,Zz,qC,XH,Xu,P_,↓Xc,wG,seval];refine X2 c1 rfl ?_;simp(disch:=omega)only[f1,zx,zx0,zL,TBW,z0,z1,z2,z3,zs0,zs1,zs2,zs3,Zz,qC,XH,Xu,P_,↓Xc,wG,seval];obtain⟨lo,hlo⟩:∃lo:AO,lo=.row 0 5 (Xf (KX (L.getD i KN))):=⟨_,rfl⟩
 obtain⟨lb,hlb⟩:∃lb:AO,lb=Q3 (.osl (b0+1) 0 4 0 (N+1)):=⟨_,rfl⟩
 obtain⟨nb,hnb⟩:∃nb:AO,nb=Q3 (.bool false):=⟨_,rfl⟩
 have hob:∀q,b0+1<q→Q0 q lo∧Q0 q lb∧Q0 q nb:=fun q hq=>⟨hlo▸QZ (Z1 _),hlb▸Ak (JJ),hnb▸Ak (X4 (X5 _))⟩
 have hou:lo≠.D_∧lb≠.D_∧nb≠.D_:=⟨by rw[hlo];simp,by rw[hlb];simp[Q3],by rw[hnb];simp[Q3]⟩
 have TDW:∀ (f:Nat→Rat) (l:List AO),(∀o∈l,∀q,Q0 q o)→KK (Z ++ lo :: .row 0 ((N+1)*4) (Xm f) :: lb :: nb :: l):=fun f l hl o ho q hq=>by
  rw[zL]at hq;simp only[ZAA]at hq;obtain⟨u1,u2,u3⟩:=hob q (by omega);rcases n_.1 ho with h |h
  ·exact TDX o h q (by omega)
  ·simp only[b_]at h
   rcases h with rfl |rfl |rfl |rfl |h
   ·exact u1
   ·exact Al _ _ _ _
   ·exact u2
   ·exact u3
   ·exact hl o h q
 have TB6:∀ (f:Nat→Rat) (l:List AO),J6 l→J6 (Z ++ lo :: .row 0 ((N+1)*4) (Xm f) :: lb :: nb :: l):=fun f l hl=>KO TBg fun o ho=>by
  simp only[b_]at ho;rcases ho with rfl |rfl |rfl |rfl |h
  ·exact hou.1
  ·simp
  ·exact hou.2.1
  ·exact hou.2.2
  ·exact hl o h
 have TDY:∀ (k:Nat) (f:Nat→Rat) (x:Rat) (l:List AO),k<N+1→(∀o∈l,∀q,Q0 q o)→G' Tryz.prog 199 [I k,qA x,.ref (b0+3) 0 0,.ref (b0+2) 0 0] (Z ++ lo :: .row 0 ((N+1)*4) (Xm f) :: lb :: nb :: l) (.tup []) (Z ++ lo :: .row 0 ((N+1)*4) (Xm fun j=>if j=k then x else f j) :: lb :: nb :: l):=fun k f x l hk hl=>by
  have h:=wR (Z ++ lo :: .row 0 ((N+1)*4) (Xm f) :: lb :: nb :: l) (b0+3) (b0+2) (b0+1) (N+1) k x f (by rw[z3,hnb]) (by rw[z2,hlb]) (z1 _ _ _) hk (by omega) (TDW f l hl);rw[zs1]at h;exact h
 have hce:∀ (f g:Nat→Rat) (l:List AO),K5 (Z ++ lo :: .row 0 ((N+1)*4) (Xm f) :: lb :: nb :: l) (Z ++ lo :: .row 0 ((N+1)*4) (Xm g) :: lb :: nb :: l):=fun f g l=>by
  rw[←zs1 lo (.row 0 ((N+1)*4) (Xm f)) (.row 0 ((N+1)*4) (Xm g))];exact QY (z1 _ _ _)
 have wl:=Xu (L.getD i KN).a;rw[hai]at wl;refine d_ ?_ (Qe (b0+1) (Xm (fun _=>0)) (z1 _ _ _) (fun j _=>fun c' v' _ _ h=>D4 0 j c' v' h));obtain⟨a,haa⟩:∃a:Nat→Rat,a=lA L i:=⟨_,rfl⟩
 have ea:(fun k=>(L.getD i KN).a.getD k 0)=a:=haa.symm;rw[ea]at wl;simp only[zs1,hai,ea];refine Xj (fun k:Nat=>⟨13,[28,29,30,47,48,49],[.any,.ptr 3 (Xf (Zz v L G)) 0,.any,I L.length,.ref (n0+1) 0 0,I i,.ref b0 0 0,.ref (b0+2) 0 0,.ref (b0+3) 0 0,.fn 199 [.ref (b0+3) 0 0,.ref (b0+2) 0 0],.any,.any,.any],[(28,Et L),(29,I L.length),(30,I i),(47,.sl v (v*4) (Xm a) false),(48,I v),(49,I k)],Z ++ [lo,.row 0 ((N+1)*4) (Xm (Ix v a k)),lb,nb]⟩) (fun k=>k≤v) (fun k=>v-k) 0 (by omega)
  (Xh rfl (by simp[Xo,I,Zz,XH,Xu]) (by simp[Xx,XM,I,XH]) (by rw[x6,hlo,hlb,hnb];unfold KX;rw[wl];rfl)) ?_
 intro k hk TAT;by_cases hk2:k<v
 rotate_left
 ·obtain rfl:k=v:=by omega
  clear TAT;have c3:=D9 1 1 ⟨by omega,by omega⟩ ⟨by omega,by omega⟩;rw[show P' 1 1=1 by decide +kernel]at c3;have e3:2*(k:Int)+i=((2*k+i:Nat):Int):=by omega
  have q3:=fun f=>TDY (2*k+i) f 1 [] (by omega) (fun o ho=>absurd ho (V_))
  have q4:=fun f=>TDY N f (lB L i) [] (by omega) (fun o ho=>absurd ho (V_))
  have nbo:J6 ([]:List AO):=fun o ho=>absurd ho (V_)
  refine Xk ?_;simp(disch:=omega)only[zL,zx,z0,z1,z2,z3,Zz,P_,↓Xc,wG,seval];refine X2 c3 rfl ?_;simp(disch:=omega)only[e3,zL,zx,z0,z1,z2,z3,Zz,qA,qC,P_,↓Xc,wG,seval];refine XC rfl (q3 _) (hce _ _ _) (Qd (TB6 _ _ nbo)) (X1 _) ?_;have ln1:KX (L.getD i KN)=[XX (L.getD i KN).a,.bool (sg (lB L i)),X9 (Xa (lB L i).num.natAbs),.bool false,X9 (Xa (qd (lB L i)))]:=rfl;rw[ln1]at hlo;have z0':∀l,(Z ++ lo :: l)[b0]?=some (.row 0 5 (Xf [XX (L.getD i KN).a,.bool (sg (lB L i)),X9 (Xa (lB L i).num.natAbs),.bool false,X9 (Xa (qd (lB L i)))])):=fun l=>by rw[z0,hlo]
  simp(disch:=omega)only[e3,zL,zx,z0',z1,z2,z3,Zz,qA,qC,P_,↓Xc,wG,seval];refine XC rfl (q4 _) (hce _ _ _) (Qd (TB6 _ _ nbo)) (X1 _) ?_;have z3':∀x y z l,(Z ++ x :: y :: z :: nb :: l)[b0+3]?=some (Q3 (.bool false)):=fun x y z l=>by rw[z3,hnb]
  have z2':∀x y l,(Z ++ x :: y :: lb :: l)[b0+2]?=some (Q3 (.osl (b0+1) 0 4 0 (N+1))):=fun x y l=>by rw[z2,hlb]
  unfold Q3 at z3' z2';have n1:n0+1<Z.length:=by omega
  have n2:n0+2<Z.length:=by omega
  have n3:n0+3<Z.length:=by omega
  have s2:=fun o l=>Z7 (H:=Z) n2 o l
  have s3:=fun o o' l=>Z7 (H:=Z.set (n0+2) o) (a:=n0+3) (by rw[X_];exact n3) o' l
  have s4:=fun o o' o'' l=>Z7 (H:=(Z.set (n0+2) o).set (n0+3) o') (a:=n0+1) (by rw[X_,X_];exact n1) o'' l
  have s5:=fun o o' o'' o3 l=>Z7 (H:=((Z.set (n0+2) o).set (n0+3) o').set (n0+1) o'') (a:=n0+1) (by rw[X_,X_,X_];exact n1) o3 l
  have s6:∀o o' o'' o3:AO,(((Z.set (n0+2) o).set (n0+3) o').set (n0+1) o'').set (n0+1) o3=((Z.set (n0+2) o).set (n0+3) o').set (n0+1) o3:=fun o o' o'' o3=>ZBm _
  have zx':=zx [];rw[ZAQ]at zx';have zb':=zb [];rw[ZAQ]at zb';have x1:∀o l,(Z.set (n0+2) o ++ l)[n0+1]?=_:=fun o l=>Q7 (by rw[L_ (by omega)];exact zx') l
  have b1:∀o l,(Z.set (n0+2) o ++ l)[n0+3]?=some (ox k i):=fun o l=>Q7 (by rw[L_ (by omega)];exact zb') l
  have x2:∀o o' l,((Z.set (n0+2) o).set (n0+3) o' ++ l)[n0+1]?=_:=fun o o' l=>Q7 (by rw[L_ (by omega),L_ (by omega)];exact zx') l
  have x3:∀o o' o'' l,(((Z.set (n0+2) o).set (n0+3) o').set (n0+1) o'' ++ l)[n0+1]?=some o'':=fun o o' o'' l=>Q7 (W_ (by rw[X_,X_];exact n1)) l
  unfold ox at b1;simp(disch:=omega)only[e3,zL,zx,zt,z0',z1,z2',z3',Zz,wx,ox,s2,s3,s4,s5,s6,x1,x2,x3,b1,P_,↓Xc,wG,seval];have TFy:=Oj (fun j=>AV.osl (n0+4+4*j+1) 0 4 0 (N+1)) i (.osl (b0+1) 0 4 0 (N+1)) (by rw[hb0]);have TFz:=Oj (fun j=>AV.int .i64 ((2*k+j:Nat):Int)) i (.int .i64 ((2*k+i:Nat):Int)) rfl;have TBz:(fun j=>if j=N then lB L i else if j=2*k+i then 1 else Ix k a k j)=AB N (T.t i):=funext fun j=>by
   unfold AB;by_cases hj:j≤N
   ·rw[N_ hj,hT i hi2 j hj]
    show _=if j<k then lA L i j else if j<2*k then -lA L i (j-k)else if j=2*k+i then 1 else if j=2*k+2*L.length then lB L i else 0
    unfold Ix;rw[haa];by_cases h1:j=N
    ·rw[N_ h1,M_ (by omega),M_ (by omega),M_ (by omega),N_ (by omega)]
    rw[M_ h1];by_cases h2:j=2*k+i
    ·rw[N_ h2,M_ (by omega),M_ (by omega),N_ h2]
    rw[M_ h2];by_cases h3:j<k
    ·rw[N_ h3,N_ h3]
    rw[M_ h3,M_ h3];by_cases h4:j<2*k
    ·rw[N_ (by omega),N_ h4]
    ·rw[M_ (by omega),M_ h4,M_ h2,M_ (by omega)]
   ·rw[M_ hj,M_ (by omega),M_ (by omega)]
    unfold Ix;rw[M_ (by omega),M_ (by omega)]
  rw[TFy,TFz,TBz];refine next (i+1) _ (by omega) (by omega) (Xh rfl (by simp[Xo,I,Zz]) (by simp[Xx,XM,I]) ?_)
  show(((Z.set (n0+2) _).set (n0+3) _).set (n0+1) _) ++ [lo,_,lb,nb]=IW H k L G T N (i+1);rw[hZ];unfold IW;rw[hn0,tH hn0,show n0+3=n0+3 from rfl,YL hn0,H9 hn0,hlo,hlb,hnb];show _=H ++ tM k L G :: wy k L.length N n0 (i+1) :: wx N n0 (i+1) :: ox k (i+1) :: (r5 L T N n0 i ++ yS L T N n0 i);unfold yS;rw[hb0];simp[wy,wx,ox,I,ln1];rfl
 have q1:qb (a k)≤10000:=haa▸hq i k hi2 hk2;have w1:=QD a k;have w2:=JC a k;have c2:=Zd (a k);have p1:=fun l=>TDY k (Ix v a k) (a k) l (by omega)
 have p2:=fun l=>TDY (v+k) (fun j=>if j=k then a k else Ix v a k j) (-a k) l (by omega)
 rw[fM a hk2]at p2;have nx:=TAT (k+1);have z4:∀ (x y z w o:AO) l,(Z ++ x :: y :: z :: w :: o :: l)[b0+4]?=some o:=fun x y z w o l=>by
  rw[←TBW,g_ (by omega),show Z.length+4-Z.length=4 by omega];rfl
 have zs4:∀ (x y z w o o':AO) l,(Z ++ x :: y :: z :: w :: o :: l).set (b0+4) o'=Z ++ x :: y :: z :: w :: o' :: l:=fun x y z w o o' l=>by
  rw[ZAs _ _ (by omega),TBW,show b0+4-b0=4 by omega];rfl
 have ac:∀o∈[ZAu 0 4 (Xf (qC (a k)))],∀q,Q0 q o:=fun o ho q=>by rw[Y_.1 ho];exact DR _ _ _
 have acu:J6 [ZAu 0 4 (Xf (qC (a k)))]:=fun o ho=>by rw[Y_.1 ho];simp
 refine Xk ?_;simp(disch:=omega)only[zL,z4,zs4,w1,w2,qC,P_,↓Xc,wG,seval];refine XC rfl (p1 [.row 0 4 (Xf (qC (a k)))] ac) (hce _ _ _) (Qd (TB6 _ _ acu)) (X1 _) ?_;simp(disch:=omega)only[zL,z4,zs4,w1,w2,Zz,qC,P_,↓Xc,wG,seval];refine X2 c2 rfl ?_;simp(disch:=omega)only[zL,z4,zs4,w1,w2,Zz,qA,qC,P_,↓Xc,wG,seval];refine XC rfl (p2 [.row 0 4 (Xf (qC (a k)))] ac) (hce _ _ _) (Qd (TB6 _ _ acu)) (X1 _) ?_;simp(disch:=omega)only[zL,z4,zs4,w1,w2,qC,P_,↓Xc,wG,seval];have bl0:Jl (b0+4) (.ptr 3 (Xf (Zz v L G)) 0)=True:=L' (X4 (XR fun j _=>Xe (l:=Zz v L G) (by simp[Zz,X8,QV,Xr]) j));have yb:Jl (b0+4) (.ref (n0+1) 0 0)=True:=L' (QX);have bl2:Jl (b0+4) (.ref b0 0 0)=True:=L' (QX);have bl3:Jl (b0+4) (.ref (b0+2) 0 0)=True:=L' (QX);have bl4:Jl (b0+4) (.ref (b0+3) 0 0)=True:=L' (QX);have bl5:Jl (b0+4) (.fn 199 [.ref (b0+3) 0 0,.ref (b0+2) 0 0])=True:=L' (ja (Kk (QX) (QX)));have bl6:Jl (b0+4) (Et L)=True:=L' (X4 (QV L));have bl7:Jl (b0+4) (.sl v (v*4) (Xm a) false)=True:=L' (X4 (Qw fun j _=>ZY _ _));refine nx _ (by omega) (by omega) (XG (m:=b0+4) (by show H.length≤b0+4;omega) rfl (by simp[Xo,I,Zz]) (by simp[Xx,XM,I]) ?_ (by simp[XP,bl0,yb,bl2,bl3,bl4,bl5]) (by simp[XP,bl6,bl7]) (fun o ho=>TDW _ [] (fun o ho=>absurd ho (V_)) o ho _ (by rw[zL];exact N' _)));show List.take (b0+4) (Z ++ [lo,ZAu 0 ((N+1)*4) (Xm (Ix v a (k+1))),lb,nb,_])=Z ++ [lo,ZAu 0 ((N+1)*4) (Xm (Ix v a (k+1))),lb,nb];rw[List.take_append,TBW,ZCb (by omega),show b0+4-b0=4 by omega];rfl
def Lu {α:Type}(p:α→Bool)(s:List α):Int:=if s.any p=true then(s.findIdx p:Nat)else -1
theorem MR {α:Type}(d:α){p:α→Bool}{s:List α}{j:Nat}(hj:j<s.length)(h:p (s.getD j d)=true) (hno:∀i,i<j→p (s.getD i d)=false):Lu p s=j:=by
 have at_:∀i (hi:i<s.length),s.getD i d=s[i]:=fun i hi=>by rw[K',V' hi];rfl
 have e:s.findIdx p=j:=by
  rw[List.findIdx_eq hj];exact⟨by rw[←at_ j hj];exact h,fun i hi=>by rw[←at_ i (by omega)];exact hno i hi⟩
 unfold Lu;rw[N_ (ZCA.2 ⟨s[j],ZAR hj,by rw[←at_ j hj];exact h⟩),e]
theorem Io {α:Type}(d:α){p:α→Bool}{s:List α}(hno:∀i,i<s.length→p (s.getD i d)=false):Lu p s = -1:=by
 unfold Lu;rw[M_];intro h;obtain⟨x,hx,hp⟩:=ZCA.1 h;obtain⟨i,hi,rfl⟩:=ZAT hx;have:=hno i hi;rw[K',V' hi]at this;simp only[ZBK]at this;rw[this]at hp;cases hp
theorem MQ {α:Type}(p:α→Bool)(s:List α):decide (0≤Lu p s)=s.any p:=by
 unfold Lu;cases h:s.any p
 ·simp
 ·rw[N_ rfl];exact c_ (by omega)
theorem Qp {α:Type}{s:List α}{i:Nat}(d:α)(h:i<s.length):s.getD i d∈s:=by
 rw[K',V' h];exact ZAR h
def tL (x:Ln):AV:=.agg (KX x)
theorem dV (s:List Ln)(f:FuncId)(G_:List AV)(p:Ln→Bool)(hl:s.length<1000000)(hc:∀ a∈G_,A_ a)(hp:∀x∈s,Fn Tryz.prog f ([tL x] ++ G_) (.bool (p x))) :
  Fn Tryz.prog 180 [Et s,.fn f G_] (I (Lu p s)):=by
 refine q_ (fn:=Tryz.f180) Tryz.call180 Tryz.func180 rfl mixed 6 [6,7,8] [] [] (by kernel_rfl) (K_ rfl) (Kk (QV s) (Kg hc)) (Xk ?_);simp(disch:=omega)only[O_,XH,↓Xc,wG,seval];refine Xj (fun j:Nat=>⟨6,[6,7,8],[Et s,.fn f G_,.any,.any,.any,.any],[(6,Et s),(7,I s.length),(8,I j)],[]⟩) (fun j=>j≤s.length∧∀i,i<j→p (s.getD i KN)=false) (fun j=>s.length-j) 0 ⟨by omega,by omega⟩
  (Xh rfl (by simp[Xo,I,XH]) (by simp[Xx,XM,I,XH]) rfl) ?_
 rintro j ⟨hj,hno⟩ next
 by_cases h:j<s.length
 ·obtain⟨l1,l2,l3,l4,l5⟩:=zK s j
  have c1:=hp _ (Qp KN h);have el:tL (s.getD j KN)=.agg [XX (s.getD j KN).a,.bool (sg (lB s j)),X9 (Xa (lB s j).num.natAbs),.bool false,X9 (Xa (qd (lB s j)))]:=rfl;refine Xk ?_;simp(disch:=omega)only[XH,l1,l2,l3,l4,l5,qC,Xu,↓Xc,wG,seval];refine X0 c1 (X1 _) ?_;simp(disch:=omega)only[↓Xc,wG,seval];refine Qs (fun ht=>Xn (v:=I j) rfl rfl (X8 _) ?_) (fun hf=>next (j+1) _ ⟨by omega,fun i hi=>?_⟩ (by omega) (Xh rfl ?_ ?_ rfl))
  ·rw[MR KN h ht hno]
  ·by_cases e:i=j
   ·rw[e];exact hf
   ·exact hno i (by omega)
  ·simp[Xo,I,XH]
  ·simp[Xx,XM,I,XH]
 ·obtain rfl:j=s.length:=by omega
  refine Xk ?_;simp(disch:=omega)only[XH,↓Xc,wG,seval];exact Xn (v:=I (-1)) rfl rfl (X8 _) (by rw[Io KN fun i hi=>hno i hi])
theorem GP (s:List Ln)(f:FuncId)(G_:List AV)(p:Ln→Bool)(hl:s.length<1000000)(hc:∀ a∈G_,A_ a)(hp:∀x∈s,Fn Tryz.prog f ([tL x] ++ G_) (.bool (p x))) :
  Fn Tryz.prog 101 [Et s,.fn f G_] (.bool (s.any p)):=by
 refine q_ (fn:=Tryz.f101) Tryz.call101 Tryz.func101 rfl mixed 4 [] [] [] (by kernel_rfl) (K_ rfl) (Kk (QV s) (Kg hc)) (Xk ?_);simp(disch:=omega)only[O_,↓Xc,wG,seval];refine X0 (dV s f G_ p hl hc hp) (X1 _) ?_;simp(disch:=omega)only[↓Xc,wG,seval];exact Xn (v:=.bool (decide (0≤Lu p s))) rfl rfl (X5 _) (by rw[MQ])
def pP (v:Nat)(L:List Ln)(G:List Rat):AV:=.ptr 3 (Xf (Zz v L G)) 0
theorem Gx (v:Nat)(L:List Ln)(G:List Rat):A_ (pP v L G):=XR fun j _=>Xe (l:=Zz v L G) (by simp[Zz,X8,QV,Xr]) j
theorem Le (x:Ln):A_ (tL x):=XE (Z1 x)
theorem WG (v:Nat)(L:List Ln)(G:List Rat)(x:Ln):Fn Tryz.prog 198 [tL x,pP v L G] (.bool (decide (x.a.length≠v))):=by
 refine q_ (fn:=Tryz.f198) Tryz.call198 Tryz.func198 rfl mixed 4 [] [] [] (by kernel_rfl) (K_ rfl) (Kk (Le x) (Gx v L G)) (Xk ?_);have f1:(!decide (x.a.length=v))=decide (x.a.length≠v):=by simp
 simp(disch:=omega)only[O_,tL,KX,qC,pP,Zz,Xu,↓Xc,wG,seval];exact Xn rfl rfl (X5 _) (y_ AV.bool f1)
theorem gh (v:Nat)(L:List Ln)(G:List Rat)(hv:v≤48)(hm:L.length≤128)(hG:G.length=v)(ha:∀x∈L,x.a.length=v):Fn Tryz.prog 125 [P7 v L G] (I 0):=by
 subst hG;have c1:=GP L 198 [pP G.length L G] (fun x=>decide (x.a.length≠G.length)) (by omega) (by simp[Gx]) (fun x _=>WG G.length L G x);have e1:(L.any fun x=>decide (x.a.length≠G.length))=false:=by
  rw[List.any_eq_false];intro x hx;simp[ha x hx]
 rw[e1]at c1;have hp0:Xf [AV.int .i64 G.length,.sl L.length (L.length*5) (Xw KX 5 KN L) false,.sl G.length (G.length*4) (Xm fun i=>G.getD i 0) false]=Xf (Zz G.length L G):=by unfold Zz;rw[XH,Xu];rfl
 refine Fq Tryz.call125 Tryz.func125 3 [] [] [] (by simp[BT]) (XI 8 ?_);simp(disch:=omega)only[O_,P7,XH,Xu,↓Xc,wG,seval];rw[hp0];refine d_ ?_ (Xz 0 rfl);refine d_ ?_ (XK 1 rfl rfl);refine Xk ?_;simp(disch:=omega)only[ZAt,Zz,XH,Xu,↓Xc,wG,seval];refine X0 c1 (X1 _) ?_;simp(disch:=omega)only[↓Xc,wG,seval];exact Xn rfl rfl (X8 _) rfl
theorem g8 (k last:Nat)(hk:k<1000000)(hl:last<1000000):Fn Tryz.prog 128 [I k,.ptr 1 (Xf [I last]) 0] (qA (if last≤k then 1 else 0)):=by
 have sP:A_ (.ptr 1 (Xf [I last]) 0):=XR fun j _=>Xe (l:=[I last]) (by simp[X8]) j
 have c1:=D9 1 1 ⟨by omega,by omega⟩ ⟨by omega,by omega⟩;rw[show P' 1 1=1 by decide +kernel]at c1;obtain⟨R,hR⟩:∃R,R=qA (if last≤k then(1:Rat)else 0):=⟨_,rfl⟩
 have sR:A_ R:=hR▸Xb _;rw[←hR];by_cases h:last≤k
 ·rw[N_ h]at hR
  have f1:(last:Int)≤k:=by omega
  refine q_ (fn:=Tryz.f128) Tryz.call128 Tryz.func128 rfl mixed 4 [] [] [] (by kernel_rfl) (K_ rfl) (Kk (X8 _) sP) (Xk ?_);simp(disch:=omega)only[O_,f1,↓Xc,wG,seval];refine X2 c1 rfl ?_;simp(disch:=omega)only[qA,qC,↓Xc,wG,seval];exact Jf rfl XT rfl rfl rfl sR (hR.trans rfl)
 ·rw[M_ h]at hR
  have f1:¬ (last:Int)≤k:=by omega
  refine q_ (fn:=Tryz.f128) Tryz.call128 Tryz.func128 rfl mixed 4 [] [] [] (by kernel_rfl) (K_ rfl) (Kk (X8 _) sP) (Xk ?_);simp(disch:=omega)only[O_,f1,↓Xc,wG,seval];exact Ql rfl XT rfl rfl rfl (hR.trans rfl) sR (QB _)
def Km (v:Nat)(G:List Rat)(k:Nat):Rat:=if k<v then -lG G k else if k<2*v then lG G (k-v)else 0
theorem g9 (v k:Nat)(L:List Ln)(G:List Rat)(hk:k<1000000)(hv:v<100000)(hG:G.length=v):Fn Tryz.prog 132 [I k,pP v L G] (qA (Km v G k)):=by
 subst hG;have sP:=Gx G.length L G;have c1:=Zd (lG G k);obtain⟨R,hR⟩:∃R,R=qA (Km G.length G k):=⟨_,rfl⟩
 have sR:A_ R:=hR▸Xb _;rw[←hR];unfold Km at hR;by_cases h:k<G.length
 ·rw[N_ h]at hR
  have w1:=QD (fun i=>G.getD i 0) k;have w2:=JC (fun i=>G.getD i 0) k;refine q_ (fn:=Tryz.f132) Tryz.call132 Tryz.func132 rfl mixed 4 [] [] [] (by kernel_rfl) (K_ rfl) (Kk (X8 _) sP) (Xk ?_);simp(disch:=omega)only[O_,pP,Zz,Xu,w1,w2,qC,↓Xc,wG,seval];refine X2 c1 rfl ?_;simp(disch:=omega)only[qA,qC,↓Xc,wG,seval];exact Jf rfl XT rfl rfl rfl sR (hR.trans rfl)
 rw[M_ h]at hR;by_cases h2:k<2*G.length
 ·rw[N_ h2]at hR
  have w1:=QD (fun i=>G.getD i 0) (k-G.length);have w2:=JC (fun i=>G.getD i 0) (k-G.length);have t1:((k:Int)-G.length).toNat=k-G.length:=by omega
  have f1:¬ (k:Int)<G.length:=by omega
  have f2:(k:Int)<2*G.length:=by omega
  refine q_ (fn:=Tryz.f132) Tryz.call132 Tryz.func132 rfl mixed 4 [] [] [] (by kernel_rfl) (K_ rfl) (Kk (X8 _) sP) (Xk ?_);simp(disch:=omega)only[O_,pP,Zz,Xu,f1,f2,t1,w1,w2,qC,↓Xc,wG,seval];exact Jf rfl XT rfl rfl rfl sR (hR.trans rfl)
 ·rw[M_ h2]at hR
  have f1:¬ (k:Int)<G.length:=by omega
  have f2:¬ (k:Int)<2*G.length:=by omega
  refine q_ (fn:=Tryz.f132) Tryz.call132 Tryz.func132 rfl mixed 4 [] [] [] (by kernel_rfl) (K_ rfl) (Kk (X8 _) sP) (Xk ?_);simp(disch:=omega)only[O_,pP,Zz,Xu,f1,f2,↓Xc,wG,seval];exact Ql rfl XT rfl rfl rfl (hR.trans rfl) sR (QB _)
structure Laid (A:List AO)(Y:Lay)(v m n:Nat)(T:Tb)(a:AV):Prop where
 x:A[Y.x]?=some (LW Y v m n a)
 t:A[Y.tid]?=some (tO Y m n)
 b:A[Y.bid]?=some (DO Y m T.b)
 r:∀i,i<m→A[Y.rid i]?=some (Dx Y n i (T.t i))
 xt:Y.x≠Y.tid
 xb:Y.x≠Y.bid
 xr:∀i,i<m→Y.x≠Y.rid i
 tb:Y.tid≠Y.bid
 tr:∀i,i<m→Y.tid≠Y.rid i
 br:∀i,i<m→Y.bid≠Y.rid i
 rr:∀i j,i<m→j<m→Y.rid i=Y.rid j→i=j
 bel:KK A
 born:J6 A
theorem A7 {A:List AO}{i:Nat}{o:AO}(h:A[i]?=some o):i<A.length:=(S_.1 h).1
theorem Laid.app {A:List AO}{Y:Lay}{v m n:Nat}{T:Tb}{a:AV}(h:Laid A Y v m n T a)(l:List AO)(hl:∀o∈l,(∀q,A.length+l.length≤q→Q0 q o)∧o≠.D_):Laid (A ++ l) Y v m n T a :=
 ⟨Q7 h.x l,Q7 h.t l,Q7 h.b l,fun i hi=>Q7 (h.r i hi) l,h.xt,h.xb,h.xr,h.tb,h.tr,h.br,h.rr,fun o ho q hq=>by
  rw[j_]at hq;rcases n_.1 ho with g |g
  ·exact h.bel o g q (by omega)
  ·exact(hl o g).1 q hq,KO h.born fun o ho=>(hl o ho).2⟩
def Lay.cost (Y:Lay)(i:Nat):Lay:={ Y with cid:=i,cv:=0 }
def BP (A:List AO)(Y:Lay)(v m n:Nat)(c:Nat→Rat):List AO:=A.set Y.x (LW Y v m n (.osl A.length 0 4 0 (n+1))) ++ [.row 0 ((n+1)*4) (Xm (AB n c))]
theorem oL {H:List AO}{Y:Lay}{v m n:Nat}{T:Tb}(h:Y.Ok H v m n)(hb:H[Y.bid]?=some (DO Y m T.b)) (hc:H[Y.cid]?=some (DU Y n T.c)) (hr:∀i,i<m→H[Y.rid i]?=some (Dx Y n i (T.t i))):HT H Y m n T=H:=by
 refine ki (EA T) fun a ha=>?_
 by_cases eb:a=Y.bid
 ·subst eb;rw[RY h,hb]
 by_cases ec:a=Y.cid
 ·subst ec;rw[LY h,hc]
 by_cases er:∃j,j<m∧a=Y.rid j
 ·obtain⟨j,hj,rfl⟩:=er
  rw[Lo h _ hj,hr j hj]
 ·rw[DI T eb ec fun j hj g=>er ⟨j,hj,g⟩]
theorem Laid.TDC {A:List AO}{Y:Lay}{v m n:Nat}{T:Tb}{a:AV}(h:Laid A Y v m n T a)(c:Nat→Rat) :
  (Y.cost A.length).Ok (BP A Y v m n c) v m n∧HT (BP A Y v m n c) (Y.cost A.length) m n { T with c:=c }=BP A Y v m n c∧KK (BP A Y v m n c)∧J6 (BP A Y v m n c):=by
 have xl:=A7 h.x;have tl:=A7 h.t;have bl:=A7 h.b;have rl:=fun i hi=>A7 (h.r i hi)
 have len:(BP A Y v m n c).length=A.length+1:=by unfold BP;rw[j_,X_];rfl
 have hx:(BP A Y v m n c)[Y.x]?=some (LW Y v m n (.osl A.length 0 4 0 (n+1))):=Q7 (W_ xl) _;have ht:(BP A Y v m n c)[Y.tid]?=some (tO Y m n):=Q7 (by rw[L_ h.xt];exact h.t) _;have hb:(BP A Y v m n c)[Y.bid]?=some (DO Y m T.b):=Q7 (by rw[L_ h.xb];exact h.b) _;have hr:∀i,i<m→(BP A Y v m n c)[Y.rid i]?=some (Dx Y n i (T.t i)):=fun i hi=>Q7 (by rw[L_ (h.xr i hi)];exact h.r i hi) _
 have hc:(BP A Y v m n c)[A.length]?=some (.row 0 ((n+1)*4) (Xm (AB n c))):=BL (by rw[X_]) _ _;have ok:(Y.cost A.length).Ok (BP A Y v m n c) v m n:=by
  refine⟨hx,ht,by rw[len];show Y.bid<_;omega,by rw[len];show A.length<_;omega,fun i hi=>by have:=rl i hi;rw[len];show Y.rid i<_;omega,h.xb,?_,h.xr,h.tb,?_,h.tr,?_,h.br,fun i hi=>?_,h.rr⟩
  ·show Y.x≠A.length;omega
  ·show Y.tid≠A.length;omega
  ·show Y.bid≠A.length;omega
  ·show A.length≠Y.rid i
   have:=rl i hi;omega
 refine⟨ok,oL ok hb hc hr,fun o ho q hq=>?_,KO (ZT h.born (by simp[LW])) fun o ho=>by rw[Y_.1 ho];simp⟩;rw[len]at hq;rcases n_.1 ho with g |g
 ·rcases ZAd g with g |g
  ·exact h.bel o g q (by omega)
  ·rw[g];exact Sy Y v m n (JJ) (by omega) (by omega)
 ·rw[Y_.1 g];exact Al _ _ _ _
theorem Lay.Ok.laid {H:List AO}{Y:Lay}{v m n:Nat}(h:Y.Ok H v m n)(T:Tb)(hxt:Y.x≠Y.tid)(hH:KK H)(hB:J6 H):Laid (HT H Y m n T) Y v m n T (.osl Y.cid Y.cv 4 0 (n+1)) :=
 ⟨gK h T,oM h T,RY h T,fun i hi=>Lo h T hi,hxt,h.xb,h.xr,h.tb,h.tr,h.br,h.rr,DP T hH,PY T hB⟩
def MF (A:List AO)(Y:Lay)(n:Nat)(T:Tb):Nat→List AO
 |0=>A
 |i+1=>(MF A Y n T i).set (Y.rid i) (.con (Y.rv i) ((n+1)*4) (Xm (AB n (T.t i))))
theorem MG (A:List AO)(Y:Lay)(n:Nat)(T:Tb):∀i,(MF A Y n T i).length=A.length
 |0=>rfl
 |i+1=>by unfold MF;rw[X_,MG]
theorem Rj {A:List AO}{Y:Lay}{n:Nat}{T:Tb}{a:Nat}:∀i,(∀j,j<i→a≠Y.rid j)→(MF A Y n T i)[a]?=A[a]?
 |0,_=>rfl
 |i+1,h=>by unfold MF;rw[L_ (w_ (h i (by omega))),Rj i fun j hj=>h j (by omega)]
theorem YF {A:List AO}{Y:Lay}{n m:Nat}{T:Tb}(hr:∀ i,i<m→Y.rid i<A.length)(hd:∀ i j,i<m→j<m→Y.rid i=Y.rid j→i=j){k:Nat}:∀i,i≤m→k<i→(MF A Y n T i)[Y.rid k]?=some (.con (Y.rv k) ((n+1)*4) (Xm (AB n (T.t k))))
 |i+1,hi,hk=>by
  unfold MF;by_cases e:k=i
  ·subst e;rw[W_ (by rw[MG];exact hr k (by omega))]
  ·rw[L_ (fun g=>e (hd i k (by omega) (by omega) g).symm),YF hr hd i (by omega) (by omega)]
theorem Us {b:Nat}{s:AS}{Y:Lay}{n m:Nat}{T:Tb}(hr:∀i,i<m→s.h[Y.rid i]?=some (Dx Y n i (T.t i))) (hd:∀i j,i<m→j<m→Y.rid i=Y.rid j→i=j):∀i,i≤m→Sub b s { s with h:=MF s.h Y n T i }
 |0,_=>Sub.B_ _ _
 |i+1,hi=>by
  refine(Us hr hd i (by omega)).trans ?_;exact Xz (s:={ s with h:=MF s.h Y n T i }) (Y.rid i) (by
   show(MF s.h Y n T i)[Y.rid i]?=_;rw[Rj i fun j hj g=>by have:=hd i j (by omega) (by omega) g;omega];exact hr i (by omega))
theorem vZ {b:Nat}{s:AS}{Y:Lay}{v m n xb:Nat}{T:Tb}(hL:Laid s.h Y v m n T (.osl Y.cid Y.cv 4 0 (n+1))) (hc:s.h[Y.cid]?=some (DU Y n T.c)) (hcx:Y.x≠Y.cid) (hct:Y.tid≠Y.cid) (hcb:Y.bid≠Y.cid) (hcr:∀i,i<m→Y.cid≠Y.rid i)
  (hxb:s.h[xb]?=some (Q3 (.ref Y.x Y.vx 0))) (h1:xb≠Y.x) (h2:xb≠Y.tid) (h3:xb≠Y.bid) (h4:xb≠Y.cid) (h5:∀i,i<m→xb≠Y.rid i) :
  ∃F,Sub b s { s with h:=F }∧F.length=s.h.length∧F[xb]?=some (Q3 (xP v m n T))∧∀a,a≠xb→a≠Y.x→a≠Y.tid→a≠Y.bid→a≠Y.cid→(∀i,i<m→a≠Y.rid i)→F[a]?=s.h[a]?:=by
 have rl:=fun i hi=>A7 (hL.r i hi)
 obtain⟨F1,e1⟩:∃F1,F1=MF s.h Y n T m:=⟨_,rfl⟩
 have l1:F1.length=s.h.length:=by rw[e1,MG]
 have n1:∀a,(∀i,i<m→a≠Y.rid i)→F1[a]?=s.h[a]?:=fun a ha=>by rw[e1,Rj m ha]
 have r1:∀i,i<m→F1[Y.rid i]?=some (.con (Y.rv i) ((n+1)*4) (Xm (AB n (T.t i)))):=fun i hi=>by rw[e1];exact YF rl hL.rr m (N' _) hi
 have S1:Sub b s { s with h:=F1 }:=e1▸Us hL.r hL.rr m (N' _);obtain⟨F2,e2⟩:∃F2,F2=F1.set Y.cid (.con Y.cv ((n+1)*4) (Xm (AB n T.c))):=⟨_,rfl⟩
 have S2:Sub b { s with h:=F1 } { s with h:=F2 }:=e2▸Xz (s:={ s with h:=F1 }) Y.cid (by show F1[Y.cid]?=_;rw[n1 _ hcr];exact hc);obtain⟨F3,e3⟩:∃F3,F3=F2.set Y.bid (.con Y.bv m (fun i=>I ((if i<m then T.b i else 0:Nat)))):=⟨_,rfl⟩
 have S3:Sub b { s with h:=F2 } { s with h:=F3 }:=e3▸Xz (s:={ s with h:=F2 }) Y.bid (by show F2[Y.bid]?=_;rw[e2,L_ (w_ hcb),n1 _ hL.br];exact hL.b);have l3:F3.length=s.h.length:=by rw[e3,e2,X_,X_,l1]
 have t3:F3[Y.tid]?=some (tO Y m n):=by rw[e3,e2,L_ (w_ hL.tb),L_ (w_ hct),n1 _ hL.tr];exact hL.t
 have r3:∀i,i<m→F3[Y.rid i]?=some (.con (Y.rv i) ((n+1)*4) (Xm (AB n (T.t i)))):=fun i hi=>by rw[e3,e2,L_ (hL.br i hi),L_ (hcr i hi)];exact r1 i hi
 obtain⟨F4,e4⟩:∃F4,F4=F3.set Y.tid (.row Y.tv m (fun i=>RB n (T.t i))):=⟨_,rfl⟩
 have S4:Sub b { s with h:=F3 } { s with h:=F4 }:=e4▸Qe (s:={ s with h:=F3 }) Y.tid (fun i=>RB n (T.t i)) t3 (fun j hj=>JG (r3 j hj) (N' _) (by omega) fun _ _=>XD _ _);have tl:=A7 hL.t;have xl:=A7 hL.x;have bl:=A7 hL.b;have cl:=A7 hc;obtain⟨F5,e5⟩:∃F5,F5=F4.set Y.tid (.con Y.tv m (fun i=>RB n (T.t i))):=⟨_,rfl⟩
 have S5:Sub b { s with h:=F4 } { s with h:=F5 }:=e5▸Xz (s:={ s with h:=F4 }) Y.tid (by show F4[Y.tid]?=_;rw[e4,W_ (by omega)]);have l5:F5.length=s.h.length:=by rw[e5,e4,X_,X_,l3]
 have t5:F5[Y.tid]?=some (.con Y.tv m (fun i=>RB n (T.t i))):=by rw[e5,W_ (by rw[e4,X_];omega)]
 have n5:∀a,a≠Y.tid→F5[a]?=F3[a]?:=fun a ha=>by rw[e5,e4,L_ (w_ ha),L_ (w_ ha)]
 have c5:F5[Y.cid]?=some (.con Y.cv ((n+1)*4) (Xm (AB n T.c))):=by rw[n5 _ (w_ hct),e3,L_ hcb,e2,W_ (by omega)]
 have b5:F5[Y.bid]?=some (.con Y.bv m (fun i=>I ((if i<m then T.b i else 0:Nat)))):=by rw[n5 _ (w_ hL.tb),e3,W_ (by rw[e2,X_];omega)]
 have x5:F5[Y.x]?=some (LW Y v m n (.osl Y.cid Y.cv 4 0 (n+1))):=by rw[n5 _ hL.xt,e3,e2,L_ (w_ hL.xb),L_ (w_ hcx),n1 _ hL.xr];exact hL.x
 obtain⟨F6,e6⟩:∃F6,F6=F5.set Y.x (.row Y.vx 6 (Xf (xC v m n T))):=⟨_,rfl⟩
 have S6:Sub b { s with h:=F5 } { s with h:=F6 }:=e6▸Qe (s:={ s with h:=F5 }) Y.x (Xf (xC v m n T)) x5 (fun j hj=>by
  match j,hj with
  |0,_=>exact XD _ _
  |1,_=>exact XD _ _
  |2,_=>exact XD _ _
  |3,_=>exact JG t5 (N' _) (fun h=>h) fun _ _=>XD _ _
  |4,_=>exact JG c5 (N' _) (by omega) fun _ _=>XD _ _
  |5,_ =>
   show Jj _ (.osl Y.bid Y.bv 1 0 m) (X9 (PU m T));rw[Xl,GJ];refine JG b5 (N' _) (fun h=>h) fun j hj=>?_
   rw[Bs,Ly T hj,N_ hj];exact XD _ _
  |j+6,h=>omega)
 obtain⟨F7,e7⟩:∃F7,F7=F6.set Y.x (.con Y.vx 6 (Xf (xC v m n T))):=⟨_,rfl⟩
 have S7:Sub b { s with h:=F6 } { s with h:=F7 }:=e7▸Xz (s:={ s with h:=F6 }) Y.x (by show F6[Y.x]?=_;rw[e6,W_ (by omega)]);have x7:F7[Y.x]?=some (.con Y.vx 6 (Xf (xC v m n T))):=by rw[e7,W_ (by rw[e6,X_];omega)]
 have n7:∀a,a≠Y.x→F7[a]?=F5[a]?:=fun a ha=>by rw[e7,e6,L_ (w_ ha),L_ (w_ ha)]
 have n3:∀a,a≠Y.bid→a≠Y.cid→(∀i,i<m→a≠Y.rid i)→F3[a]?=s.h[a]?:=fun a ha hb hr=>by rw[e3,e2,L_ (w_ ha),L_ (w_ hb),n1 _ hr]
 have xb7:F7[xb]?=some (Q3 (.ref Y.x Y.vx 0)):=by rw[n7 _ h1,n5 _ h2,n3 _ h3 h4 h5];exact hxb
 have l7:F7.length=s.h.length:=by rw[e7,e6,X_,X_,l5]
 refine⟨F7.set xb (Q3 (xP v m n T)),?_,by rw[X_,l7],W_ (A7 xb7),fun a a1 a2 a3 a4 a5 a6=>by rw[L_ (w_ a1),n7 _ a2,n5 _ a3,n3 _ a4 a5 a6]⟩;refine S1.trans (S2.trans (S3.trans (S4.trans (S5.trans (S6.trans (S7.trans ?_))))));exact Qe (s:={ s with h:=F7 }) xb (Xf [xP v m n T]) xb7 (fun j hj=>by
  obtain rfl:j=0:=by omega
  exact WL x7 (by omega) fun _ _=>XD _ _)
end
end Go.Ab.N
