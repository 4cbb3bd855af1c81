/- Contracts of functions, for every argument that fits. -/
import Derived.Test.YtcmfnmceomhgcaaGreatC7
set_option linter.unusedSimpArgs false
set_option linter.unusedVariables false
open Go.Ab.AO renaming row→ZAk
open Go.Ab.AS renaming start→P',put→ZAm
open Go.Ab.G' renaming intro→ZDu
open List renaming range→ZAD,getElem?_range→ZD4
open Rat renaming divInt→O_
namespace Go.Ab.N
open Go Go.RowKit Go.Proofs
theorem ZAi:type_of%@List.getElem?_map:=@List.getElem?_map
noncomputable section
set_option maxRecDepth 10000
set_option maxHeartbeats 4000000
open Classical
def D7 (Y:Lay):AO:=.row 0 1 (Xf [.ref Y.x Y.vx 0])
def Q5 (a:AV):AO:=.row 0 1 (Xf [a])
def WV (n:Nat)(o:AO):Prop:=o≠.D_∧∀m,n≤m→XX m o
theorem I3 {n:Nat}{a:AV}(h:∀m,n≤m→J9 m a):WV n (Q5 a):=⟨by simp[Q5],fun m hm j hj=>by
 obtain rfl:j=0:=by omega
 exact h m hm⟩
theorem Ad {a:AV}{m v:Nat}(h:J9 m a):XX m (.row v 1 (Xf [a])):=fun j hj=>by
 obtain rfl:j=0:=by omega
 exact h
theorem V1 (c:Code)(k:List Item):sS (some c) k=.code c :: k:=rfl
theorem mA (H:List AO)(Y:Lay)(v m n E K:Nat)(S:Nat→Tb)(hY:Y.Ok H v m n)(hH:KH H)(hB:QY H)(hE:E≤n)(hn:n<100000)(hm:m<100000){Q:Nat}(hQ:Q≤15000000)
  (hq:∀k,k≤K→∀i j,i<m→j≤n→qb ((S k).t i j)≤Q) (hqc:∀k,k≤K→∀j,j≤n→qb ((S k).c j)≤Q)
  (hs:∀k,k<K→∃p r,I5 E (S k) p∧JA (S k) n p m=some r∧S (k+1)=C2 (S k) r p) (TAn:∀j,j<E→0≤(S K).c j) :
  G' Tryz.prog 129 [.ref Y.x Y.vx 0,I E] (HT H Y m n (S 0)) (I (-1)) (HT H Y m n (S K)):=by
 have hlen:=fun T=>Em (H:=H) (Y:=Y) (m:=m) (n:=n) T
 obtain⟨n0,hn0⟩:∃n0,H.length=n0:=⟨_,rfl⟩
 have l0:=fun T=>(hlen T).trans hn0
 have e0:=fun T=>BG (l0 T)
 have e1:=fun T=>FM (l0 T)
 have e2:=fun T=>dc (l0 T)
 have es2:∀T (x y z w:AO) l,(HT H Y m n T ++ x :: y :: z :: l).set (n0+2) w=HT H Y m n T ++ x :: y :: w :: l:=fun T x y z w l=>by
  rw[ZAj _ _ (by rw[l0];omega),l0,show n0+2-n0=2 by omega];rfl
 have el:=fun T=>Zz (l0 T)
 have xlt:Y.x<n0:=hn0▸(R_.1 hY.x).1;refine G'.TAo (fn:=Tryz.f129) Tryz.call129 Tryz.func129 rfl mixed 8 [12,23] [] [] (by kernel_rfl) (L' rfl) (X4 (X9 _)) (fun o ho=>DE _ hH o ho _ (by rw[hlen,hlen];exact N' _)) (Xk ?_);simp(disch:=omega)only[P',e0,e1,e2,es2,el,l0,P_,↓Xd,wG,seval];refine Xi (fun j:Nat×List AO×Bool=>⟨8,[12,23],[.ref Y.x Y.vx 0,I E,.ref n0 0 0,.any,.ref (n0+1) 0 0,.ref (n0+2+j.2.1.length) 0 0,.any,.any],[],(HT H Y m n (S j.1) ++ (D7 Y :: Q5 (I 0) :: j.2.1)) ++ [Q5 (.bool j.2.2)]⟩) (fun j=>j.1≤K∧(j.2.2=false→j.1=K)∧∀o∈j.2.1,WV n0 o) (fun j=>2*(K-j.1)+j.2.2.toNat) (0,[],true) ⟨by omega,by simp,by simp⟩
  (ZS (by simp[Xm,I]) (by simp[D7,Q5,I])) ?_
 rintro⟨k,G,b⟩ ⟨hk,hb,hG⟩ next
 simp only at hk hb hG;obtain⟨q0,hq0⟩:∃q0,q0=n0+2+G.length:=⟨_,rfl⟩
 have mk:∀T:Tb,∃Z,Z=HT H Y m n T ++ (D7 Y :: Q5 (I 0) :: G):=fun T=>⟨_,rfl⟩
 obtain⟨Z,hZ⟩:=mk (S k);have zl:Z.length=q0:=by rw[hZ,el,hq0];simp;omega
 have z0:∀l,(Z ++ l)[n0]?=some (D7 Y):=fun l=>by rw[hZ,P_];exact e0 _ _ _
 have zz0:=BG zl;have zz1:=FM zl;have zz2:=dc zl;have zs0:=CK zl;have zL:=Zz zl;show Run _ _ ⟨8,[12,23],[.ref Y.x Y.vx 0,I E,.ref n0 0 0,.any,.ref (n0+1) 0 0,.ref (n0+2+G.length) 0 0,.any,.any],[],(HT H Y m n (S k) ++ (D7 Y :: Q5 (I 0) :: G)) ++ [Q5 (.bool b)]⟩;rw[←hZ,←hq0];cases b with
 |false =>
  obtain rfl:=hb rfl;clear next
  have n1:n0+1<Z.length:=by omega
  have zs1:=fun o l=>Z2 n1 o l
  have zg1:∀o l,(Z.set (n0+1) o ++ l)[n0+1]?=some o:=fun o l=>Qa (U' n1) l
  have ht:∀o l,(Z.set (n0+1) o ++ l).take n0=HT H Y m n (S k):=fun o l=>by
   rw[hZ,ZAj _ _ (by rw[l0];omega),l0,show n0+1-n0=1 by omega,P_];exact CL (l0 _) _
  have z1:∀l,(Z ++ l)[n0+1]?=some (Q5 (I 0)):=fun l=>by rw[hZ,P_];exact e1 _ _ _ _
  unfold Q5 at zz0 z1 zg1;refine Xk ?_;simp(disch:=omega)only[zz0,z1,zs1,Q5,↓Xd,wG,seval];refine YQ (v:=I (-1)) (t:=4) (u:=3) rfl ?_ rfl (by rw[l0];exact ht _ _);show Qx Tryz.prog false 3 (.ref (n0+1) 0 0) (Z.set (n0+1) _ ++ _)=_;rw[Bu,yp,KA,Qa (U' n1),KB,mc];simp[Qd,Xf,I]
 |true =>
  have zb:KH Z:=fun o ho q' hq'=>by
   rw[zl]at hq';rw[hZ]at ho;rcases m_.1 ho with h |h
   ·exact DE _ hH o h _ (by rw[hlen];omega)
   ·simp only[b_]at h
    rcases h with rfl |rfl |h
    ·exact Ad (QX (by omega))
    ·exact Ad (X4 (X9 _))
    ·exact(hG o h).2 _ (by omega)
  have hbl:QY (D7 Y :: Q5 (I 0) :: G):=fun o ho=>by
   rcases b_.1 ho with rfl |ho
   ·simp[D7]
   rcases b_.1 ho with rfl |h
   ·simp[Q5]
   ·exact(hG o h).1
  have born:∀ (T:Tb) (l:List AO),QY l→∀id:Nat,((HT H Y m n T ++ (D7 Y :: Q5 (I 0) :: G)) ++ l)[id]?≠some AO.D_:=fun T l hl id=>Qg (KM (KM (PQ _ hB) hbl) hl) id
  have TBg:=born (S k);rw[←hZ]at TBg;have zx:∀l,(Z ++ l)[Y.x]?=some (xO Y v m n):=fun l=>by rw[hZ,P_];exact Qa (gg hY _) _
  have zc:∀l,(Z ++ l)[Y.cid]?=some (DI Y n (S k).c):=fun l=>by rw[hZ,P_];exact Qa (LP hY _) _
  have hen:G' Tryz.prog 201 [.ref Y.x Y.vx 0,I E] (Z ++ [Q5 (.bool false)]) (.fn 228 [.ref (q0+2) 0 0,.ref (q0+1) 0 0]) (Z ++ [Q5 (.bool false),D7 Y,Q5 (I E)]):=by
   have:=SC (Z ++ [Q5 (.bool false)]) Y E;rw[zL,P_]at this;exact this
  have TFw:K1 (Z ++ [Q5 (.bool false)]) (Z ++ [Q5 (.bool false),D7 Y,Q5 (I E)]):=by
   have h1:=ZM (h:=Z ++ [Q5 (.bool false)]) (ob:=D7 Y) (by simp[D7]);have h2:=ZM (h:=(Z ++ [Q5 (.bool false)]) ++ [D7 Y]) (ob:=Q5 (I E)) (by simp[Q5]);intro a w i f;rw[h1,h2,P_,P_];rfl
  unfold D7 at z0;unfold Q5 at zz0;refine Xk ?_;simp(disch:=omega)only[zz0,z0,zs0,Q5,Ju,↓Xd,wG,seval];refine Xz rfl hen TFw (TBg _ (by intro o ho;rw[a_.1 ho];simp)) (X1 _) ?_;simp(disch:=omega)only[Ju,↓Xd,wG,seval];have bl3:∀b,∀o∈[Q5 (.bool b),D7 Y,Q5 (I E)],WV n0 o:=fun b o ho=>by
   simp only[b_,V',or_false]at ho;rcases ho with rfl |rfl |rfl
   ·exact I3 fun m _=>X4 (X5 _)
   ·exact I3 fun m hm=>QX (by omega)
   ·exact I3 fun m _=>X4 (X9 _)
  refine e_ (s':=⟨8,[12,23],[.ref Y.x Y.vx 0,I E,.ref n0 0 0,.any,.ref (n0+1) 0 0,.ref q0 0 0,.any,.any],[(11,.fn 228 [.ref (q0+2) 0 0,.ref (q0+1) 0 0])],Z ++ [Q5 (.bool false),D7 Y,Q5 (I E)]⟩) ?_ (Xh rfl (by simp[Xm,I]) (by simp[Xu,XJ]) (by simp[Q5,D7,I]));have hG3:∀b,∀o∈G ++ [Q5 (.bool b),D7 Y,Q5 (I E)],WV n0 o:=fun b o ho=>(m_.1 ho).elim (hG o) (bl3 b o)
  have zz3:=de zl;have zs3:=Ym zl;have zbl:∀b,KH (Z ++ [Q5 (.bool b),D7 Y,Q5 (I E)]):=fun b=>Oj zb fun o ho m hm=>(bl3 b o ho).2 m (by omega)
  by_cases hk2:k<K
  rotate_left
  ·obtain rfl:k=K:=by omega
   refine G5 (gf:=228) (G_:=[.ref (q0+2) 0 0,.ref (q0+1) 0 0]) (Hn:=Z ++ [Q5 (.bool false),D7 Y,Q5 (I E)]) rfl rfl rfl (fun t ht=>?_) ?_
   ·exact dn _ Y v m n E (q0+2) (q0+1) (S k).c t (zz2 _ _ _ _) (zz1 _ _ _) (zx _) (zc _) hE hn (by rw[ht.ch];exact N' _) (zbl _) TAn
   ·refine Xk ?_
    simp(disch:=omega)only[zz0,zz3,zs3,zL,Q5,D7,P_,↓Xd,wG,seval];refine next (k,G ++ [Q5 (.bool false),D7 Y,Q5 (I E)],false) _ ⟨hk,fun _=>rfl,hG3 _⟩ (by show 2*(k-k)+0<2*(k-k)+1;omega) ?_
    have eq3:q0+3=n0+2+(G ++ [Q5 (.bool false),D7 Y,Q5 (I E)]).length:=by rw[f_];simp only[ZAF,ZAc];omega
    show Sub _ _ ⟨8,[12,23],[.ref Y.x Y.vx 0,I E,.ref n0 0 0,.any,.ref (n0+1) 0 0,.ref (n0+2+(G ++ [Q5 (.bool false),D7 Y,Q5 (I E)]).length) 0 0,.any,.any],[],(HT H Y m n (S k) ++ (D7 Y :: Q5 (I 0) :: (G ++ [Q5 (.bool false),D7 Y,Q5 (I E)]))) ++ [Q5 (.bool false)]⟩;rw[←eq3];refine ZS (by simp[Xm,I]) (by simp[hZ,Q5,D7,I])
  ·obtain⟨p,r,TEJ,hlv,hpv⟩:=hs k hk2
   have hl:=ZA hlv;have hp:p<E:=TEJ.1;have hr:r<m:=hl.1;have d0:(S k).t r p≠0:=by have:=hl.2.1;grind
   obtain⟨Z',hZ'⟩:=mk (S (k+1));have zl':Z'.length=q0:=by rw[hZ',el,hq0];simp;omega
   have TDl:∀T,∀o∈HT H Y m n T,XX (HT H Y m n T).length o:=fun T o ho=>DE _ hH o ho _ (by rw[hlen];exact N' _)
   have hx0:∀T,J9 (HT H Y m n T).length (.ref Y.x Y.vx 0):=fun T=>QX (by rw[l0];omega)
   have c1:∀l,G' Tryz.prog 202 [.ref Y.x Y.vx 0,I p] (Z ++ l) (I r) (Z ++ l):=fun l=>by
    have h1:=VB H Y v m n p (S k) hY hH hB (by omega) hn hm hQ (hq k (by omega));rw[hlv]at h1;have h2:=h1.frame rfl (by
     intro a ha;simp only[b_,V',or_false]at ha;rcases ha with rfl |rfl
     ·exact hx0 _
     ·exact X4 (X9 _)) (TDl _) ((D7 Y :: Q5 (I 0) :: G) ++ l)
    rw[←P_,←hZ]at h2;exact h2
   have c2:∀l,G' Tryz.prog 203 [.ref Y.x Y.vx 0,I r,I p] (Z ++ l) (.tup []) (Z' ++ l):=fun l=>by
    have h1:=lU H Y v m n r p (S k) hY hH hB hr (by omega) d0 hn hm hQ (hq k (by omega)) (hqc k (by omega));rw[←hpv]at h1;have h2:=h1.frame (by rw[hlen,hlen]) (by
     intro a ha;simp only[b_,V',or_false]at ha;rcases ha with rfl |rfl |rfl
     ·exact hx0 _
     ·exact X4 (X9 _)
     ·exact X4 (X9 _)) (TDl _) ((D7 Y :: Q5 (I 0) :: G) ++ l)
    rw[←P_,←P_,←hZ,←hZ']at h2;exact h2
   have TFx:∀l,K1 (Z ++ l) (Z' ++ l):=fun l=>Gb (by rw[zl,zl']) (by rw[hZ,hZ'];exact Gb (by rw[hlen,hlen]) (Ss hY _ _) _) l
   have zb':KH Z':=fun o ho q' hq'=>by
    rw[zl']at hq';rw[hZ']at ho;rcases m_.1 ho with h |h
    ·exact DE _ hH o h _ (by rw[hlen];omega)
    ·simp only[b_]at h
     rcases h with rfl |rfl |h
     ·exact Ad (QX (by omega))
     ·exact Ad (X4 (X9 _))
     ·exact(hG o h).2 _ (by omega)
   have TE3:∀b,KH (Z' ++ [Q5 (.bool b),D7 Y,Q5 (I E)]):=fun b=>Oj zb' fun o ho m hm=>(bl3 b o ho).2 m (by omega)
   have z0':∀l,(Z' ++ l)[n0]?=some (D7 Y):=fun l=>by rw[hZ',P_];exact e0 _ _ _
   have y0:=BG zl';have y3:=de zl';have ys0:=CK zl';have ys3:=Ym zl';have yL:=Zz zl';have TE4:∀b,QY [Q5 (.bool b),D7 Y,Q5 (I E)]:=fun b o ho=>(bl3 b o ho).1
   unfold D7 at z0';unfold Q5 at y0;refine ER (some (.exit 2)) (fun c e=>.inr ⟨2,by cases e;rfl⟩) (gf:=228) (G_:=[.ref (q0+2) 0 0,.ref (q0+1) 0 0]) (Hn:=Z' ++ [Q5 (.bool true),D7 Y,Q5 (I E)]) rfl rfl rfl (fun t ht=>?_) ?_
   ·refine kO _ _ Y v m n E (q0+2) (q0+1) p (S k).c t (.exit 2) (zz2 _ _ _ _) (zz1 _ _ _) (zx _) (zc _) hE hn (by rw[ht.ch];exact N' _) (TE3 _) (by rw[yL,zL];rfl) hp TEJ.2.1 TEJ.2.2 ?_
    refine NF (str:=[]) (hcs:=[]) (some (.exit 2)) (fun c e=>.inr ⟨2,by cases e;rfl⟩) ht mixed (by kernel_rfl) (by kernel_rfl) rfl (fun p hp=>?_) (fun o ho=>TE3 _ o ho _ (by rw[yL,zL];exact N' _)) (fun l' r' hr'=>?_)
    ·obtain rfl:p=12:=by simpa using hp
     exact L' rfl
    show Run _ _ ⟨8,[12,23],[.ref Y.x Y.vx 0,I E,.ref n0 0 0,.any,.ref (n0+1) 0 0,.ref q0 0 0,.any,.any],[(12,I p),(11,.fn 228 [.ref (q0+2) 0 0,.ref (q0+1) 0 0])],Z ++ [Q5 (.bool false),D7 Y,Q5 (I E)]⟩;have fr:¬ (r:Int)<0:=by omega
    refine Xk ?_;simp(disch:=omega)only[Ju,wQ,↓Xd,wG,seval];refine Vn hr' ?_;refine XF 38 ?_;simp(disch:=omega)only[z0,Ju,wQ,↓Xd,wG,seval];refine Xz rfl (c1 _) (Z1 _) (TBg _ (TE4 _)) (X1 _) ?_;simp(disch:=omega)only[fr,z0,Ju,wQ,↓Xd,wG,seval];refine Xz rfl (c2 _) (TFx _) (TBg _ (TE4 _)) (X1 _) ?_;simp(disch:=omega)only[y0,ys0,z0',Q5,Ju,wQ,↓Xd,wG,seval];refine fw (q:=(l',{ r' with state:=.busy })) (l:=0) (r:=kZ) (r1:=tP (.exit 2)) rfl rfl rfl rfl ?_;show List.take _ _=_;exact ZCW (by rw[zL,yL];exact N' _)
   ·rw[V1]
    show Run _ _ ⟨8,[12,23],[.ref Y.x Y.vx 0,I E,.ref n0 0 0,.any,.ref (n0+1) 0 0,.ref q0 0 0,.any,.any],[(11,.fn 228 [.ref (q0+2) 0 0,.ref (q0+1) 0 0])],Z' ++ [Q5 (.bool true),D7 Y,Q5 (I E)]⟩;refine Xk ?_;simp(disch:=omega)only[y0,y3,ys3,yL,Q5,D7,P_,↓Xd,wG,seval];refine next (k+1,G ++ [Q5 (.bool true),D7 Y,Q5 (I E)],true) _ ⟨hk2,(fun e=>absurd e (by simp)),hG3 _⟩ (by show 2*(K-(k+1))+1<2*(K-k)+1;omega) ?_
    have eq3:q0+3=n0+2+(G ++ [Q5 (.bool true),D7 Y,Q5 (I E)]).length:=by rw[f_];simp only[ZAF,ZAc];omega
    show Sub _ _ ⟨8,[12,23],[.ref Y.x Y.vx 0,I E,.ref n0 0 0,.any,.ref (n0+1) 0 0,.ref (n0+2+(G ++ [Q5 (.bool true),D7 Y,Q5 (I E)]).length) 0 0,.any,.any],[],(HT H Y m n (S (k+1)) ++ (D7 Y :: Q5 (I 0) :: (G ++ [Q5 (.bool true),D7 Y,Q5 (I E)]))) ++ [Q5 (.bool true)]⟩;rw[←eq3];refine ZS (by simp[Xm,I]) (by simp[hZ',Q5,D7,I])
theorem Jj (t:Bool):TAR [.bool false,.sl 0 0 (fun _=>.any) t,.bool false,.sl 0 0 (fun _=>.any) t] (qC 0) :=
 have h1:Xb (0:Rat).num.natAbs=[]:=by rw[ZB6];simp[Qu]
 have h2:Xb (qd (0:Rat))=[]:=N6 rfl
 ⟨X' _,ZV h1,X' _,ZV h2,trivial⟩
theorem CX (N:Nat)(j:Nat):B_ (KT TAD j) (Xl (fun _=>0) j):=by
 rw[FL _ _ (by simp[TAD])];show B_ (TAD.getD (j%4) .any) ((qC 0).getD (j%4) .any);obtain⟨w1,w2,w3,w4,_⟩:=Jj true;have h:j%4<4:=z_ _ (by omega);generalize j%4=i at *
 match i,h with
 |0,_=>exact w1
 |1,_=>exact w2
 |2,_=>exact w3
 |3,_=>exact w4
theorem tH {P:Program}{fn:Func}{str hcs:List Nat}{b:Nat}{H:List AO}{s:AS}(hr:fn.results=#[])(hH:s.h=H):TBS (Ms P fn str hcs b (.tup []) H) s :=
 ⟨.tup [],by show Al P fn s=_;simp[Al,hr,JC,BH],rfl,hH⟩
def LN (Y:Lay)(v m n:Nat)(a:AV):AO:=.row Y.vx 6 (Xf [I v,I m,I n,.osl Y.tid Y.tv 1 0 m,a,.osl Y.bid Y.bv 1 0 m])
def AN (c:Nat→Rat)(k:Nat):Nat→Rat:=fun j=>if j<k then c j else 0
theorem Fg (c:Nat→Rat)(k:Nat):(fun i=>if i=k then c k else AN c k i)=AN c (k+1):=funext fun i=>by
 unfold AN;by_cases h:i=k
 ·rw[N_ h,N_ (by omega),h]
 ·rw[M_ h]
  by_cases h2:i<k
  ·rw[N_ h2,N_ (by omega)]
  ·rw[M_ h2,M_ (by omega)]
theorem Sj (Y:Lay)(v m n:Nat){a:AV}{q:Nat}(hb:J9 q a)(h1:Y.tid<q)(h2:Y.bid<q):XX q (LN Y v m n a):=fun j hj=>BV q (by
 intro x hx;simp only[b_,V',or_false]at hx;rcases hx with rfl |rfl |rfl |rfl |rfl |rfl
 ·exact X4 (X9 _)
 ·exact X4 (X9 _)
 ·exact X4 (X9 _)
 ·exact JB h1
 ·exact hb
 ·exact JB h2) j
theorem Tn (H:List AO)(Y:Lay)(v m n:Nat)(T:Tb)(a:AV)(g:FuncId)(G_:List AV)(c:Nat→Rat)
  (hx:H[Y.x]?=some (LN Y v m n a)) (ht:H[Y.tid]?=some (tO Y m n)) (hb:H[Y.bid]?=some (DD Y m T.b)) (hr:∀i,i<m→H[Y.rid i]?=some (Ds Y n i (T.t i)))
  (hxt:Y.x≠Y.tid) (hxb:Y.x≠Y.bid) (hxr:∀i,i<m→Y.x≠Y.rid i) (hH:KH H) (hB:QY H) (hn:n<100000) (hm:m<100000) {Q:Nat} (hQ:Q≤15000000)
  (hq:∀i k,i<m→k≤n→qb (T.t i k)≤Q) (hqc:∀k,k≤n→qb (c k)≤Q) (hbn:∀i,i<m→T.b i≤n∧c (T.b i)=0) (hcn:c n=0)
  (hf:∀k:Nat,k<n→Fn Tryz.prog g (I k :: G_) (qA (c k))) :
  G' Tryz.prog 127 [.ref Y.x Y.vx 0,.fn g G_] H (.tup []) (H.set Y.x (LN Y v m n (.osl H.length 0 4 0 (n+1))) ++ [.row 0 ((n+1)*4) (Xl (Av n c))]):=by
 have xlt:Y.x<H.length:=(R_.1 hx).1;have tlt:Y.tid<H.length:=(R_.1 ht).1;have blt:Y.bid<H.length:=(R_.1 hb).1;obtain⟨n0,hn0⟩:∃n0,H.length=n0:=⟨_,rfl⟩
 obtain⟨K,hK⟩:∃K,K=H.set Y.x (LN Y v m n (.osl n0 0 4 0 (n+1))):=⟨_,rfl⟩
 have kl:K.length=n0:=by rw[hK,V_];exact hn0
 have kx:∀l,(K ++ l)[Y.x]?=some (LN Y v m n (.osl n0 0 4 0 (n+1))):=Qa (by rw[hK,U' xlt]);have kt:∀l,(K ++ l)[Y.tid]?=some (tO Y m n):=Qa (by rw[hK,L_ hxt];exact ht);have kb:∀l,(K ++ l)[Y.bid]?=some (DD Y m T.b):=Qa (by rw[hK,L_ hxb];exact hb);have kr:∀ {i:Nat},i<m→∀l,(K ++ l)[Y.rid i]?=some (Ds Y n i (T.t i)):=fun hi=>Qa (by rw[hK,L_ (hxr _ hi)];exact hr _ hi)
 have ks:∀l,(H ++ l).set Y.x (LN Y v m n (.osl n0 0 4 0 (n+1)))=K ++ l:=fun l=>by rw[Z2 xlt,hK]
 have TDS:∀q,n0<q→∀o∈K,XX q o:=fun q hq' o ho=>by
  rw[hK]at ho;rcases ZAN ho with h |h
  ·exact hH o h q (by omega)
  ·rw[h];exact Sj Y v m n (JB (by omega)) (by omega) (by omega)
 have TB4:QY K:=by rw[hK];exact ZK hB (by simp[LN])
 have TE5:∀f,KH (K ++ [.row 0 ((n+1)*4) (Xl f)]):=fun f o ho q hq'=>by
  rw[f_,kl]at hq';rcases m_.1 ho with h |h
  ·exact TDS q (by simp at hq';omega) o h
  ·rw[a_.1 h];exact Ae _ _ _ _
 have x0:=hx;have hx0:=Qa hx;unfold LN at kx ks hx0 x0;unfold I at ks;have tn:((n:Int)+1).toNat=n+1:=by omega
 unfold tO at kt;unfold DD at kb;unfold Ds at kr;have e0:=BG hn0;have el:=Zz hn0;have z0:=BG kl;have z1:=FM kl;have zl:=Zz kl;have zs0:=CK kl;have bx:J9 (n0+1) (.ref Y.x Y.vx 0)=True:=K_ (QX (by omega));rw[hn0,←hK];refine ZDu (fn:=Tryz.f127) Tryz.call127 Tryz.func127 rfl mixed 7 [19,20,36,37,38] [4,5003,9,10003,10007,10010] [9] (by kernel_rfl) (L' rfl) (Xk ?_);simp(disch:=omega)only[P',x0,hx0,hn0,e0,el,ks,kx,tn,P_,↓Xd,wG,seval];have c0:Xl (fun _=>0)=Xl (Av n (AN c 0)):=by
  congr 1;funext j;unfold Av AN;rw[M_ (ZAG _)];split <;> rfl
 refine e_ ?_ (Qh n0 (Xl (fun _=>0)) (by exact z0 _ _) (fun j _=>fun c' v' _ _ h=>CX 0 j c' v' h));refine Xi (fun k:Nat=>⟨7,[19,20,36,37,38],[.ref Y.x Y.vx 0,.fn g G_,.any,.any,.any,.any,.any],[(19,I n),(20,I k)],K ++ [.row 0 ((n+1)*4) (Xl (Av n (AN c k)))]⟩) (fun k=>k≤n) (fun k=>n-k) 0 (by omega)
  (Xh rfl (by simp[Xm,I]) (by simp[Xu,XJ,I]) (by rw[←c0];exact zs0 _ _ _)) ?_
 intro k hk next
 by_cases hk2:k<n
 ·have c1:=hf k hk2
  have hst:=TK (AN c k) (show k≤n by omega) (c k);rw[Fg]at hst;have nx:=next (k+1)
  refine Xk ?_;simp(disch:=omega)only[kx,z0,zl,zs0,P_,↓Xd,wG,seval];refine X0 c1 (X1 _) ?_;simp(disch:=omega)only[kx,z0,zl,zs0,qC,P_,↓Xd,wG,seval];exact nx _ (by omega) (by omega) (Xh rfl (by simp[Xm,I]) (by simp[Xu,XJ,I]) (by rw[←hst];rfl))
 obtain rfl:k=n:=by omega
 clear next
 have cn:Av k (AN c k)=Av k c:=Ir fun j hj=>by
  unfold AN;by_cases h:j<k
  ·rw[N_ h]
  ·rw[M_ h,show j=k by omega,hcn]
 rw[cn];refine Xk ?_;simp(disch:=omega)only[kx,kb,P_,↓Xd,wG,seval];obtain⟨Z,hZ⟩:∃Z,Z=K ++ [ZAk 0 ((k+1)*4) (Xl (Av k c))]:=⟨_,rfl⟩
 rw[←hZ];have zt:=fun i (hi:i<m)=>kr hi [ZAk 0 ((k+1)*4) (Xl (Av k c))]
 have zx:=kx [ZAk 0 ((k+1)*4) (Xl (Av k c))];have zt2:=kt [ZAk 0 ((k+1)*4) (Xl (Av k c))];have zb:=kb [ZAk 0 ((k+1)*4) (Xl (Av k c))];have zc:=z0 (ZAk 0 ((k+1)*4) (Xl (Av k c))) [];have TDT:=TE5 (Av k c);have TBg:QY Z:=by rw[hZ];exact KM TB4 (fun o ho=>by rw[a_.1 ho];simp)
 rw[←hZ]at zt zx zt2 zb zc TDT;refine Xi (fun i:Nat=>⟨7,[19,20,36,37,38],[.ref Y.x Y.vx 0,.fn g G_,.any,.any,.any,.any,.any],[(36,.osl Y.bid Y.bv 1 0 m),(37,I m),(38,I i)],Z⟩) (fun i=>i≤m) (fun i=>m-i) 0 (by omega)
  (Xh rfl (by simp[Xm,I]) (by simp[Xu,XJ,I]) rfl) ?_
 intro i hi next
 by_cases hi2:i<m
 ·obtain⟨hb1,hb2⟩:=hbn i hi2
  have nx:=next (i+1)
  have hbt:Y.rid i≠n0:=fun g=>by
   have:=zt i hi2;have h1:=(R_.1 (hr i hi2)).1;omega
  have hw:=aw Z n0 (Y.rid i) 0 (Y.rv i) (k+1) (Av k c) (Av k (T.t i)) (T.b i) (v_ hbt) zc (zt i hi2) (by omega) (by omega) (Q:=Q) (fun j hj=>by rw[EY c (by omega)];exact hqc j (by omega)) (fun j hj=>by rw[EY _ (by omega)];exact hq i j hi2 (by omega)) (by omega) TDT;have e1:Z.set n0 (.row 0 ((k+1)*4) (Xl (fun j=>Av k c j-Av k c (T.b i)*Av k (T.t i) j)))=Z:=by
   rw[EY c hb1,hb2,show(fun j=>Av k c j-0*Av k (T.t i) j)=Av k c from funext fun j=>by grind];exact ZAg fun j=>by
    by_cases e:n0=j
    ·rw[←e,zc,U' (R_.1 zc).1]
    ·rw[L_ e]
  rw[e1]at hw;have zr:=zt i hi2;have fb:(if i<m then T.b i else 0)=T.b i:=N_ hi2;refine Xk ?_;simp(disch:=omega)only[zx,zt2,zb,zr,fb,↓Xd,wG,seval];refine Xz rfl hw (Z1 _) (Qg TBg) (X1 _) ?_;simp(disch:=omega)only[↓Xd,wG,seval];exact nx _ (by omega) (by omega) (Xh rfl (by simp[Xm,I]) (by simp[Xu,XJ,I]) rfl)
 ·obtain rfl:i=m:=by omega
  refine Xk ?_;simp(disch:=omega)only[↓Xd,wG,seval];exact tH rfl rfl
def Q0 (l:List Rat):AV:=g8 qC 4 0 l
theorem Xt (l:List Rat):Q0 l=.sl l.length (l.length*4) (Xl fun i=>l.getD i 0) false:=C_ rfl
theorem ZR (f:Nat→Rat)(j:Nat):A_ (Xl f j):=Xe (l:=qC (f (j/4))) (by simp[qC,Xc,X5]) _
theorem Xn (l:List Rat):A_ (Q0 l):=QF fun j _=>ZR (fun i=>l.getD i 0) j
def Rs (n:Nat)(f:Nat→Rat):AV:=.sl (n+1) ((n+1)*4) (Xl (Av n f)) false
theorem Hv (n:Nat)(f:Nat→Rat):A_ (Rs n f):=QF fun j _=>ZR _ j
def wX (m n:Nat)(T:Tb):AV:=.sl m m (fun i=>Rs n (T.t i)) false
theorem Rv (m n:Nat)(T:Tb):A_ (wX m n T):=QF fun j _=>Hv _ _
def PM (m:Nat)(T:Tb):List Int:=(ZAD m).map fun i=>(T.b i:Int)
theorem GC (m:Nat)(T:Tb):(PM m T).length=m:=by simp[PM]
theorem Ll {m:Nat}(T:Tb){i:Nat}(h:i<m):(PM m T).getD i 0=T.b i:=by
 unfold PM;rw[K',ZAi,ZD4 h];rfl
def xC (v m n:Nat)(T:Tb):List AV:=[I v,I m,I n,wX m n T,Rs n T.c,X8 (PM m T)]
def xP (v m n:Nat)(T:Tb):AV:=.ptr 6 (Xf (xC v m n T)) 0
theorem Gt (v m n:Nat)(T:Tb):A_ (xP v m n T):=XP fun j _=>Xe (l:=xC v m n T) (by simp[xC,X9,Rv,Hv,Xc]) j
theorem kJ (s:List Int)(v:Int)(hl:s.length<1048576):Fn Tryz.prog 207 [X8 s,I v] (I (MJ (fun x=>decide (v=x)) s)):=by
 refine Fq Tryz.call207 Tryz.func207 6 [6,7,8] [] [] (by simp[Xc,X9]) (Xk ?_);simp only[P',Xo,↓X6,wF,seval];refine Xi (fun j:Nat=>⟨6,[6,7,8],[X8 s,I v,.any,.any,.any,.any],[(6,X8 s),(7,I s.length),(8,I j)],[]⟩) (fun j=>j≤s.length∧∀i,i<j→(fun x=>decide (v=x)) (s.getD i 0)=false) (fun j=>s.length-j) 0 ⟨by omega,by omega⟩
  (Xh rfl (by simp[Xm,Xo,I]) (by simp[Xu,XJ,Xo,I]) rfl) ?_
 rintro j ⟨hj,hno⟩ next
 have w1:=wj j (by omega);refine Xk ?_;simp only[Xo,w1,↓X6,wF,seval];refine⟨fun h=>⟨h,h,?_⟩,fun h=>Xp (v:=I (-1)) rfl rfl (X9 _) ?_⟩
 ·refine⟨fun ht=>Xp (v:=I j) rfl rfl (X9 _) ?_,fun hf=>next (j+1) _ ⟨by omega,fun i hi=>?_⟩ (by omega) (Xh rfl ?_ ?_ rfl)⟩
  ·rw[MK h (Y' ht) hno]
  ·by_cases e:i=j
   ·rw[e];exact Y_ hf
   ·exact hno i (by omega)
  ·simp[Xm,Xo,I]
  ·simp[Xu,XJ,Xo,I]
 ·rw[Ib fun i hi=>hno i (by omega)]
theorem Lu {m n e:Nat}{T:Tb}(h:T.Ok m n e){i:Nat}(hi:i<m):Jg m n T (T.b i)=T.t i n∧∀i',i'<m→i'≠i→T.b i'≠T.b i:=by
 have hne:∀i',i'<m→i'≠i→T.b i'≠T.b i:=fun i' hi' hn g=>by
  have h1:=h.unit i' i hi' hi;have h2:=h.unit i' i' hi' hi';rw[g,h1,M_ hn,N_ rfl]at h2;exact absurd h2 (by decide)
 refine⟨?_,hne⟩;unfold Jg;rw[An hi fun i' hi' hn=>M_ (hne i' hi' hn),N_ rfl]
theorem lE (v m n e:Nat)(T:Tb)(k:Nat)(h:T.Ok m n e)(hm:m<100000)(hn:n<100000):Fn Tryz.prog 137 [xP v m n T,I k] (qA (Jg m n T k)):=by
 have c1:=kJ (PM m T) k (by rw[GC];omega);obtain⟨R,hR⟩:∃R,R=qA (Jg m n T k):=⟨_,rfl⟩
 have sR:A_ R:=hR▸Xa _;have sX:=Gt v m n T;rw[←hR];by_cases hex:∃i,i<m∧T.b i=k
 ·obtain⟨i,hi,rfl⟩:=hex
  obtain⟨h1,h2⟩:=Lu h hi;rw[h1]at hR;have e1:MJ (fun x=>decide (((T.b i:Nat):Int)=x)) (PM m T)=i:=MK (by rw[GC];exact hi) (by rw[Ll T hi];simp) fun j hj=>by
   rw[Ll T (by omega)];have:=h2 j (by omega) (by omega);exact Y_ (by omega)
  rw[e1]at c1;have w1:=C7 (T.t i) (N' n);have w2:=BL (T.t i) (N' n);refine Fq Tryz.call137 Tryz.func137 6 [] [] [] (by simp[sX,X9]) (Xk ?_);simp(disch:=omega)only[P',xP,xC,↓Xd,wG,seval];refine X2 c1 rfl ?_;simp(disch:=omega)only[wX,Rs,w1,w2,qC,↓Xd,wG,seval];exact Jh rfl XY rfl rfl rfl sR (hR.trans rfl)
 ·have hno:∀i,i<m→T.b i≠k:=fun i hi g=>hex ⟨i,hi,g⟩
  have e1:MJ (fun x=>decide ((k:Int)=x)) (PM m T) = -1:=Ib fun j hj=>by
   rw[GC]at hj;rw[Ll T hj];have:=hno j hj;exact Y_ (by omega)
  rw[e1]at c1;rw[show Jg m n T k=0 from Ks fun i hi=>M_ (hno i hi)]at hR;refine Fq Tryz.call137 Tryz.func137 6 [] [] [] (by simp[sX,X9]) (Xk ?_);simp(disch:=omega)only[P',xP,xC,↓Xd,wG,seval];refine X2 c1 rfl ?_;simp(disch:=omega)only[↓Xd,wG,seval];exact Ql rfl XY rfl rfl rfl (hR.trans rfl) sR (Jj _)
theorem KS {p:AV→Prop}{a b:AV}(ha:p a)(hb:p b):∀x∈[a,b],p x:=fun x hx=>by
 rcases b_.1 hx with rfl |hx
 ·exact ha
 ·rw[a_.1 hx];exact hb
theorem uV (f:Nat→Rat):AN f 0=fun _=>0:=funext fun i=>M_ (ZAG i)
theorem So {X:Env}{M:Md}{o:Oper}{g:FuncId}{a:AV}{args as':List AV}{K:AS→Prop}{s:AS}{r:AV}(h:Fn X.P g as' r)(ha:TAR (a :: args) as') (hK:K (s.E' o.dst r)) :
  Gy X M o (.mfn g a) args K s :=
 ⟨r,s.h,⟨.inl g,a :: args,rfl,.inl ⟨_,ha,h.call,h.settled,rfl⟩⟩,hK⟩
def JT (v m n:Nat)(T:Tb):List Rat:=(ZAD v).map fun k=>Jg m n T k-Jg m n T (v+k)
theorem QP (f:Nat→Rat){v k:Nat}(h:k<v):((ZAD v).map f).getD k 0=f k:=by
 rw[K',ZAi,ZD4 h];rfl
theorem Ka {f g:Nat→Rat}{N:Nat}(h:∀ k,k<N→f k=g k)(j:Nat)(hj:j<N*4):Xl f j=Xl g j:=by
 unfold Xl;rw[h (j/4) (by omega)]
theorem lY (v m n e:Nat)(T:Tb)(h:T.Ok m n e)(hm:m<100000)(hn:n<100000)(hv:v<100000)(hq:∀k,qb (Jg m n T k)≤10000000):Fn Tryz.prog 134 [xP v m n T,.mfn 137 (xP v m n T)] (Q0 (JT v m n T)):=by
 have sX:=Gt v m n T;obtain⟨f,hf⟩:∃f:Nat→Rat,f=fun k=>Jg m n T k-Jg m n T (v+k):=⟨_,rfl⟩
 have tv:((v:Int)).toNat=v:=by omega
 refine Fq Tryz.call134 Tryz.func134 7 [13,14] [] [] (by simp[sX,TX]) (Xk ?_);simp(disch:=omega)only[P',xP,xC,tv,↓Xd,wG,seval];refine e_ ?_ (Qh 0 (Xl (fun _=>0)) rfl (fun j _=>fun c' v' _ _ h=>CX 0 j c' v' h));refine Xi (fun k:Nat=>⟨7,[13,14],[xP v m n T,.mfn 137 (xP v m n T),.any,.any,.any,.osl 0 0 4 0 v,.any],[(13,I v),(14,I k)],[.row 0 (v*4) (Xl (AN f k))]⟩) (fun k=>k≤v) (fun k=>v-k) 0 (by omega)
  (Xh rfl (by simp[Xm,I,xP,xC,Xo]) (by simp[Xu,XJ,I]) (by rw[uV];rfl)) ?_
 intro k hk next
 by_cases hk2:k<v
 ·have c1:=lE v m n e T k h hm hn
  have c2:=lE v m n e T (v+k) h hm hn;have q1:=hq k;have q2:=hq (v+k);have c3:=FC (Jg m n T k) (Jg m n T (v+k)) (by unfold rm;omega) (by unfold rm;omega);have hst:=Dq (AN f k) k (f k);rw[Fg]at hst;have nx:=next (k+1)
  have fk:f k=Jg m n T k-Jg m n T (v+k):=by rw[hf]
  rw[fk]at hst;refine Xk ?_;simp(disch:=omega)only[xP,xC,↓Xd,wG,seval];refine So c1 (X1 _) ?_;simp(disch:=omega)only[xP,xC,↓Xd,wG,seval];refine So c2 (X1 _) ?_;simp(disch:=omega)only[↓Xd,wG,seval];refine X2 c3 rfl ?_;simp(disch:=omega)only[qC,↓Xd,wG,seval];exact nx _ (by omega) (by omega) (Xh rfl (by simp[Xm,I,xP,xC,Xo]) (by simp[Xu,XJ,I]) (by rw[←hst];rfl))
 ·obtain rfl:k=v:=by omega
  refine Xk ?_;simp(disch:=omega)only[↓Xd,wG,seval];refine A9 rfl ?_;rw[Xt];have hl:(JT k m n T).length=k:=by simp[JT]
  rw[hl];refine Kc (.inl rfl) (by omega) (by omega) fun j hj=>?_
  have:Xl (AN f k) (0+j)=Xl (fun i=>(JT k m n T).getD i 0) j:=by
   rw[x_];refine Ka (N:=k) (fun i hi=>?_) j hj;unfold JT AN;rw[QP _ hi,N_ hi,hf]
  rw[this];exact(ZR _ _).TBH _
theorem TJ (f:Nat→Rat)(N:Nat)(x:Rat):Q1 (N*4) (Xl f) 4 (Xf (qC x))=Xl (fun i=>if i=N then x else f i):=by
 rw[←Dq];funext j;rw[ZH];have hl:(qC x).length=4:=rfl;unfold Q1;by_cases h1:j<N*4
 ·rw[N_ h1,M_ (by omega)]
 ·rw[M_ h1]
  by_cases h2:j<N*4+4
  ·rw[N_ h2,N_ (by omega)];rfl
  ·rw[M_ h2,M_ (by omega)]
theorem VW (a:Rat):∀j,j<4→((qC a).getD j .any).one=true:=fun j hj=>by
 match j,hj with
 |0,_=>rfl
 |1,_=>rfl
 |2,_=>rfl
 |3,_=>rfl
 |j+4,h=>omega
theorem XV (x:Rat):∀a∈qC x,A_ a:=by simp[qC,Xc,X5]
theorem Fa (q v:Nat)(x:Rat):XX q (.row v 4 (Xf (qC x))):=QN (XV x)
theorem wW (l:List Rat)(E:Nat)(hl:l.length<49)(hE:∀i,i<l.length→qb (l.getD i 0)≤E) (hE2:E≤2083000):Fn Tryz.prog 179 [Q0 l] (qA (XN (fun i=>l.getD i 0) l.length)):=by
 obtain⟨f,hf⟩:∃f:Nat→Rat,f=fun i=>l.getD i 0:=⟨_,rfl⟩
 obtain⟨N,hN⟩:∃N,N=l.length:=⟨_,rfl⟩
 have hE':∀i,i<N→qb (f i)≤E:=fun i hi=>by rw[hf];exact hE i (hN▸hi)
 obtain⟨A,hA⟩:∃A:AV,A=.sl N (N*4) (Xl f) false:=⟨_,rfl⟩
 have eA:Q0 l=A:=by rw[Xt,hA,hN,hf]
 rw[eA,←hN,←hf];have sA:A_ A:=eA▸Xn l;have bA:J9 2 A=True:=K_ (X4 sA);have bq:∀q v x,XX q (.row v 4 (Xf (qC x)))=True:=fun q v x=>K_ (Fa q v x)
 have bz:∀q v,XX q (.row v 4 (Xf TAD))=True:=fun q v=>K_ (QN (by simp[TAD,X5,J7]))
 obtain⟨R,hR⟩:∃R,R=qA (XN f N):=⟨_,rfl⟩
 have sR:A_ R:=hR▸Xa _;rw[←hR];refine Fq Tryz.call179 Tryz.func179 6 [6,7,8] [] [] (by simp[sA]) (Xk ?_);subst hA;simp(disch:=omega)only[P',↓Xd,wG,seval];refine e_ ?_ (Qh 1 (Xf (qC 0)) rfl (fun j hj=>fun c' v' _ _ h=>by
  have w:=Jj true
  match j,hj with
  |0,_=>exact w.1 c' v' h
  |1,_=>exact w.2.1 c' v' h
  |2,_=>exact w.2.2.1 c' v' h
  |3,_=>exact w.2.2.2.1 c' v' h
  |j+4,h=>omega))
 refine Xi (fun k:Nat=>⟨6,[6,7,8],[.any,.any,.ref 0 0 0,.ref 1 0 0,.any,.any],[(6,.sl N (N*4) (Xl f) false),(7,I N),(8,I k)],[.row 0 4 (Xf TAD),.row 0 4 (Xf (qC (XN f k)))]⟩) (fun k=>k≤N) (fun k=>N-k) 0 (by omega)
  (Xh rfl (by simp[Xm,I]) (by simp[Xu,XJ,I]) (by rfl)) ?_
 intro k hk next
 by_cases hk2:k<N
 ·have q1:=hE' k hk2
  have q2:=Hj (f:=f) (E:=E) (m:=k) fun i hi=>hE' i (by omega)
  have q3:k*(E+1)+1≤48*2083001+1:=by
   have:=ZAx (show k≤48 by omega) (show E+1≤2083001 by omega);omega
  have c1:=C5 (XN f k) (f k) (by unfold rm;omega) (by unfold rm;omega);have w1:=QA f k;have w2:=Jt f k;have nx:=next (k+1)
  refine Xk ?_;simp(disch:=omega)only[w1,w2,qC,TAD,↓Xd,wG,seval];refine X2 c1 rfl ?_;simp(disch:=omega)only[qC,TAD,↓Xd,wG,seval];exact nx _ (by omega) (by omega) (XD (m:=2) (p_ _) rfl (by simp[Xm,I]) (by simp[Xu,XJ,I]) (by rfl) (by simp[XK]) (by simp[XK,bA]) (by simp[bq,bz]))
 ·obtain rfl:k=N:=by omega
  refine Xk ?_;simp(disch:=omega)only[qC,TAD,↓Xd,wG,seval];exact Jh rfl XY rfl rfl rfl sR (hR.trans rfl)
theorem jl (a b:List Rat)(E:Nat)(ha:a.length<49)(hb:b.length=a.length)(hE:∀i,i<a.length→qb (a.getD i 0)+qb (b.getD i 0)≤E) (hE2:E≤2083000) :
  Fn Tryz.prog 100 [Q0 a,Q0 b] (qA (XN (fun i=>a.getD i 0*b.getD i 0) a.length)):=by
 obtain⟨N,hN⟩:∃N,N=a.length:=⟨_,rfl⟩
 obtain⟨f,hf⟩:∃f:Nat→Rat,f=fun i=>a.getD i 0*b.getD i 0:=⟨_,rfl⟩
 have hlen:((ZAD N).map f).length=N:=by simp
 have e0:∀i,i<N→((ZAD N).map f).getD i 0=f i:=fun i hi=>QP f hi
 have c0:=wW ((ZAD N).map f) E (by omega) (fun i hi=>by
  rw[hlen]at hi;rw[e0 i hi,hf];have:=Qo (a.getD i 0) (b.getD i 0);have:=hE i (by omega);show qb (a.getD i 0*b.getD i 0)≤E;omega) hE2
 rw[hlen,XQ fun i hi=>e0 i hi]at c0;rw[←hN,←hf];have eA:Q0 a=.sl N (N*4) (Xl fun i=>a.getD i 0) false:=by rw[Xt,hN]
 have eB:Q0 b=.sl N (N*4) (Xl fun i=>b.getD i 0) false:=by rw[Xt,hN,hb]
 have sA:=Xn a;have sB:=Xn b;obtain⟨R,hR⟩:∃R,R=qA (XN f N):=⟨_,rfl⟩
 have sR:A_ R:=hR▸Xa _;rw[eA]at sA;rw[eB]at sB;rw[←hR,eA,eB];refine y_ (fn:=Tryz.f100) Tryz.call100 Tryz.func100 rfl mixed 7 [11,12] [] [] (by kernel_rfl) (L' rfl) (KS sA sB) (Xk ?_);simp(disch:=omega)only[P',↓Xd,wG,seval];refine Xi (fun k:Nat=>⟨7,[11,12],[.sl N (N*4) (Xl fun i=>a.getD i 0) false,.sl N (N*4) (Xl fun i=>b.getD i 0) false,.any,.any,.ref 0 0 0,.osl 1 k 4 0 k,.any],[(11,I N),(12,I k)],[.row 0 4 (Xf TAD),.row k (k*4) (Xl (AN f k))]⟩) (fun k=>k≤N) (fun k=>N-k) 0 (by omega)
  (ZA8 (JM 5 4 (Xl (AN f 0)) rfl) (Xh rfl (by simp[ZAm,Xm,I]) (by simp[ZAm,Xu,XJ,I]) (by simp[ZAm,TAD]))) ?_
 intro k hk next
 by_cases hk2:k<N
 ·have q1:=hE k (by omega)
  have c1:=B5 (a.getD k 0) (b.getD k 0) (by unfold rm;omega) (by unfold rm;omega);have w1:=QA (fun i=>a.getD i 0) k;have w2:=Jt (fun i=>a.getD i 0) k;have w3:=QA (fun i=>b.getD i 0) k;have w4:=Jt (fun i=>b.getD i 0) k;have hap:=TJ (AN f k) k (f k);rw[Fg]at hap;have fk:f k=a.getD k 0*b.getD k 0:=by rw[hf]
  rw[fk]at hap;have nx:=next (k+1)
  refine Xk ?_;simp(disch:=omega)only[w1,w2,w3,w4,qC,TAD,↓Xd,wG,seval];refine X2 c1 rfl ?_;simp(disch:=omega)only[qC,TAD,↓Xd,wG,seval];exact⟨fun j hj=>VW (a.getD k 0*b.getD k 0) j hj,nx _ (by omega) (by omega) (Xh rfl (by simp[Xm,I]) (by simp[Xu,XJ,I]) (by rw[←hap];rfl))⟩
 ·obtain rfl:k=N:=by omega
  refine e_ ?_ (ZA8 (XB 1 rfl) (HE (M:=k*4) 5 rfl rfl (by omega) (by omega)));refine Xk ?_;simp(disch:=omega)only[qC,TAD,ZAm,↓Xd,wG,seval];refine X0 c0 ⟨JJ (by rw[hlen]) (by rw[hlen];exact N' _) (fun j hj=>?_),trivial⟩ ?_
  ·rw[hlen]at hj
   have:Xl (AN f k) j=Xl (fun i=>((ZAD k).map f).getD i 0) j:=Ka (N:=k) (fun i hi=>by rw[e0 i hi];exact N_ hi) j hj;show B_ (Xl (AN f k) j) (Xl (fun i=>((ZAD k).map f).getD i 0) j);rw[this];exact X' _
  simp(disch:=omega)only[qA,qC,TAD,↓Xd,wG,seval];exact Jh rfl XY rfl rfl rfl sR (hR.trans rfl)
theorem ck (l:List Rat)(hl:l.length<1000000):Fn Tryz.prog 204 [Q0 l] (Q0 l):=by
 obtain⟨N,hN⟩:∃N,N=l.length:=⟨_,rfl⟩
 obtain⟨f,hf⟩:∃f:Nat→Rat,f=fun i=>l.getD i 0:=⟨_,rfl⟩
 have sA:=Xn l;have eA:Q0 l=.sl N (N*4) (Xl f) false:=by rw[Xt,hN,hf]
 rw[eA]at sA ⊢;refine Fq Tryz.call204 Tryz.func204 3 [] [] [] (by simp[sA]) (Xk ?_);have TA8:∀j,(Xl f j).one=true:=fun j=>by unfold Xl;exact VW (f (j/4)) (j%4) (z_ _ (by omega))
 simp(disch:=omega)only[P',↓Xd,wG,seval];have hc:xy (JK Tryz.prog Tryz.f204 [] [] (.sl N (N*4) (Xl f) false)) .mk ⟨3,[],[.sl N (N*4) (Xl f) false,.any,.osl 0 0 4 0 N],[(7,.osl 0 0 4 0 N),(6,.sl N (N*4) (Xl f) false),(5,.sl 0 0 (Xf []) true)],[.row 0 (N*4) (Q1 0 (Xf []) (N*4) (Xl f))]⟩:=by
  exact bY rfl rfl rfl (fun h=>by rw[h]) fun j hj=>ZR _ _
 by_cases h0:N=0
 ·rw[N_ h0,HY]
  subst h0;refine⟨?_,?_,hc⟩
  ·exact Ve rfl rfl
  ·exact fun j hj=>TA8 j
 ·rw[M_ h0,Mb,DO]
  exact⟨fun j hj=>TA8 j,hc⟩
theorem fG (v m n:Nat)(T:Tb)(hv:2*v+m≤n)(hn:n<100000):Fn Tryz.prog 130 [xP v m n T] (Q0 ((ZAD m).map fun i=>T.c (2*v+i))):=by
 have sX:=Gt v m n T;obtain⟨L,hL⟩:∃L,L=(ZAD m).map fun i=>T.c (2*v+i):=⟨_,rfl⟩
 have hl:L.length=m:=by rw[hL];simp
 have c1:=ck L (by omega);have sL:=Xn L;rw[←hL];refine Fq Tryz.call130 Tryz.func130 3 [] [] [] (by simp[sX]) (Xk ?_);have t1:(2*(v:Int)).toNat=2*v:=by omega
 have t2:(2*(v:Int)+m).toNat=2*v+m:=by omega
 have t3:(2*(v:Int)+m-2*v).toNat=m:=by omega
 simp(disch:=omega)only[P',xP,xC,Rs,t1,t2,t3,↓Xd,wG,seval];refine X0 c1 ⟨JJ (by rw[hl]) (by rw[hl];omega) (fun j hj=>?_),trivial⟩ ?_
 ·rw[hl]at hj
  have:Xl (Av n T.c) (2*v*4+j)=Xl (fun i=>L.getD i 0) j:=by
   have e:L.getD (j/4) 0=T.c (2*v+j/4):=by rw[hL,QP _ (by omega)]
   show(qC (Av n T.c ((2*v*4+j)/4))).getD ((2*v*4+j)%4) .any=(qC (L.getD (j/4) 0)).getD (j%4) .any;rw[show(2*v*4+j)/4=2*v+j/4 by omega,show(2*v*4+j)%4=j%4 by omega,EY _ (by omega),e]
  rw[this];exact X' _
 simp(disch:=omega)only[↓Xd,wG,seval];exact Xp rfl rfl sL rfl
theorem jn (H:List AO)(Y:Lay)(v m n last:Nat)(b:Nat→Nat)(a:AV)(hx:H[Y.x]?=some (LN Y v m n a)) (hb:H[Y.bid]?=some (DD Y m b)) (hH:KH H) (hlt:∀i,i<m→b i<last) (hm:m<100000) :
  G' Tryz.prog 131 [.ref Y.x Y.vx 0,I last] H (.tup []) H:=by
 have x0:=hx;unfold LN at x0;unfold DD at hb;refine ZDu (fn:=Tryz.f131) Tryz.call131 Tryz.func131 rfl mixed 7 [10,11,12] [] [] (by kernel_rfl) (L' rfl) (Xk ?_);simp(disch:=omega)only[P',x0,↓Xd,wG,seval];refine Xi (fun i:Nat=>⟨7,[10,11,12],[.ref Y.x Y.vx 0,I last,.any,.any,.any,.any,.any],[(10,.osl Y.bid Y.bv 1 0 m),(11,I m),(12,I i)],H⟩) (fun i=>i≤m) (fun i=>m-i) 0 (by omega)
  (Xh rfl (by simp[Xm,I]) (by simp[Xu,XJ,I]) rfl) ?_
 intro i hi next
 by_cases hi2:i<m
 ·have nx:=next (i+1)
  have fb:(if i<m then b i else 0)=b i:=N_ hi2;have f1:=hlt i hi2;have f2:(b i:Int)<last:=by omega
  refine Xk ?_;simp(disch:=omega)only[x0,hb,fb,f2,↓Xd,wG,seval];exact nx _ (by omega) (by omega) (Xh rfl (by simp[Xm,I]) (by simp[Xu,XJ,I]) rfl)
 ·obtain rfl:i=m:=by omega
  refine Xk ?_;simp(disch:=omega)only[↓Xd,wG,seval];exact tH rfl rfl
structure Ln where
 a:List Rat
 b:Rat
def KR (x:Ln):List AV:=Q0 x.a :: qC x.b
def KK:Ln:=⟨[],0⟩
def Eh (L:List Ln):AV:=g8 KR 5 KK L
def P6 (v:Nat)(L:List Ln)(G:List Rat):AV:=.agg [I v,Eh L,Q0 G]
theorem XE (L:List Ln):Eh L=.sl L.length (L.length*5) (Xv KR 5 KK L) false:=C_ rfl
theorem KW (x:Ln):∀a∈KR x,A_ a:=by simp[KR,qC,Xn,Xc,X5]
theorem QS (L:List Ln):A_ (Eh L):=KZ fun a x hx=>KW a x hx
theorem BM (v:Nat)(L:List Ln)(G:List Rat):A_ (P6 v L G):=QD (by simp[X9,QS,Xn])
def lA (L:List Ln)(i k:Nat):Rat:=(L.getD i KK).a.getD k 0
def lB (L:List Ln)(i:Nat):Rat:=(L.getD i KK).b
def lG (G:List Rat)(k:Nat):Rat:=G.getD k 0
theorem z6 (L:List Ln)(i:Nat):Xv KR 5 KK L (i*5)=Q0 (L.getD i KK).a∧Xv KR 5 KK L (i*5+1)=(qC (lB L i)).getD 0 .any∧Xv KR 5 KK L (i*5+2)=(qC (lB L i)).getD 1 .any∧Xv KR 5 KK L (i*5+3)=(qC (lB L i)).getD 2 .any∧Xv KR 5 KK L (i*5+4)=(qC (lB L i)).getD 3 .any:=by
 refine⟨?_,?_,?_,?_,?_⟩
 ·rw[Kg _ _ _ _ _ (by omega)];rfl
 all_goals rw[JE _ _ _ _ _ _ (by omega)];rfl
theorem wu (H:List AO)(nid lid rid N k:Nat)(x:Rat)(f:Nat→Rat)(hn:H[nid]?=some (Q5 (.bool false))) (hl:H[lid]?=some (Q5 (.osl rid 0 4 0 N))) (hr:H[rid]?=some (.row 0 (N*4) (Xl f))) (hk:k<N) (hN:N<1000000) (hH:KH H) :
  G' Tryz.prog 199 [I k,qA x,.ref nid 0 0,.ref lid 0 0] H (.tup []) (H.set rid (.row 0 (N*4) (Xl fun i=>if i=k then x else f i))):=by
 have rlt:rid<H.length:=(R_.1 hr).1;have e1:=Qa hn;have e2:=Qa hl;have e3:=Qa hr;have e0:=fun x l=>BG (H:=H) rfl x l
 have es:=fun o l=>Z2 rlt o l
 have hst:=Dq f k x;unfold Q5 at e1 e2;refine G'.TAo (fn:=Tryz.f199) Tryz.call199 Tryz.func199 rfl mixed 6 [] [] [] (by kernel_rfl) (L' rfl) (X4 (Z0 (by simp))) (fun o ho=>by
  rcases ZAN ho with h |h
  ·exact hH o h _ (N' _)
  ·rw[h];exact Ae _ _ _ _) (Xk ?_)
 simp(disch:=omega)only[P',qA,qC,e1,e2,e3,e0,↓Xd,wG,seval];rw[es];exact Rq rfl (by rw[hst.symm.trans rfl];exact CL (V_ ..) _)
def vY (v m N n0 i:Nat):AO:=.row 0 6 (Xf [I v,I m,I N,.osl (n0+2) i 1 0 i,.sl 0 0 (fun _=>.any) true,.osl (n0+3) i 1 0 i])
def vX (N n0 i:Nat):AO:=.row i i (fun j=>.osl (n0+4+4*j+1) 0 4 0 (N+1))
def nX (v i:Nat):AO:=.row i i (fun j=>I ((2*v+j:Nat)))
def yr (L:List Ln)(T:Tb)(N n0 j:Nat):List AO:=[.row 0 5 (Xf (KR (L.getD j KK))),.row 0 ((N+1)*4) (Xl (Av N (T.t j))),Q5 (.osl (n0+4+4*j+1) 0 4 0 (N+1)),Q5 (.bool false)]
def qI (L:List Ln)(T:Tb)(N n0:Nat):Nat→List AO
 |0=>[]
 |i+1=>qI L T N n0 i ++ yr L T N n0 i
theorem H5 (L:List Ln)(T:Tb)(N n0:Nat):∀i,(qI L T N n0 i).length=4*i
 |0=>rfl
 |i+1=>by unfold qI;rw[f_,H5 L T N n0 i];show 4*i+4=_;omega
def Zt (v:Nat)(L:List Ln)(G:List Rat):List AV:=[I v,Eh L,Q0 G]
def tg (v:Nat)(L:List Ln)(G:List Rat):AO:=.con 0 3 (Xf (Zt v L G))
def In (v:Nat)(a:Nat→Rat)(k:Nat):Nat→Rat:=fun j=>if j<k then a j else if v≤j∧j<v+k then -a (j-v)else 0
theorem wI (v:Nat)(a:Nat→Rat):In v a 0=fun _=>0:=funext fun j=>by
 unfold In;rw[M_ (ZAG _),M_ (by omega)]
theorem fh {v k:Nat}(a:Nat→Rat)(h:k<v):(fun j=>if j=v+k then -a k else(fun j=>if j=k then a k else In v a k j) j)=In v a (k+1):=funext fun j=>by
 unfold In;by_cases h1:j=v+k
 ·rw[N_ h1,M_ (by omega),N_ (by omega),show j-v=k by omega]
 ·rw[M_ h1]
  show(if j=k then a k else _)=_;by_cases h2:j=k
  ·rw[N_ h2,N_ (by omega),h2]
  ·rw[M_ h2]
   by_cases h3:j<k
   ·rw[N_ h3,N_ (by omega)]
   ·rw[M_ h3,M_ (show ¬j<k+1 by omega)]
    by_cases h4:v≤j∧j<v+k
    ·rw[N_ h4,N_ (by omega)]
    ·rw[M_ h4,M_ (by omega)]
theorem PO (L:List Ln)(T:Tb)(N n0:Nat):∀i q,n0+4+4*i≤q→∀o∈qI L T N n0 i,XX q o∧o≠.D_
 |0,_,_,o,ho=>absurd ho (V')
 |i+1,q,hq,o,ho=>by
  rcases m_.1 ho with h |h
  ·exact PO L T N n0 i q (by omega) o h
  ·simp only[yr,b_,V',or_false]at h
   rcases h with rfl |rfl |rfl |rfl
   ·exact⟨QN (KW _),by simp⟩
   ·exact⟨Ae _ _ _ _,by simp⟩
   ·exact⟨Ad (JB (by omega)),by simp[Q5]⟩
   ·exact⟨Ad (X4 (X5 _)),by simp[Q5]⟩
def IG (H:List AO)(v:Nat)(L:List Ln)(G:List Rat)(T:Tb)(N i:Nat):List AO:=H ++ tg v L G :: vY v L.length N H.length i :: vX N H.length i :: nX v i :: qI L T N H.length i
theorem H6 (H:List AO)(v:Nat)(L:List Ln)(G:List Rat)(T:Tb)(N i:Nat):(IG H v L G T N i).length=H.length+4+4*i:=by
 unfold IG;rw[f_];simp only[ZAF];rw[H5];omega
theorem Sg {H:List AO}(v:Nat)(L:List Ln)(G:List Rat)(T:Tb)(N i:Nat)(hH:KH H):KH (IG H v L G T N i):=fun o ho q hq=>by
 rw[H6]at hq;unfold IG at ho;rcases m_.1 ho with h |h
 ·exact hH o h q (by omega)
 ·simp only[b_]at h
  rcases h with rfl |rfl |rfl |rfl |h
  ·exact fun j _=>BV q (by simp[Zt];exact⟨X4 (X9 _),X4 (QS _),X4 (Xn _)⟩) j
  ·exact fun j _=>BV q (by
    intro x hx;simp only[b_,V',or_false]at hx;rcases hx with rfl |rfl |rfl |rfl |rfl |rfl
    ·exact X4 (X9 _)
    ·exact X4 (X9 _)
    ·exact X4 (X9 _)
    ·exact JB (by omega)
    ·exact X4 (J7 _ _)
    ·exact JB (by omega)) j
  ·exact fun j hj=>JB (by omega)
  ·exact fun j hj=>X4 (X9 _)
  ·exact(PO L T N H.length i q (by omega) o h).1
theorem Oo {H:List AO}(v:Nat)(L:List Ln)(G:List Rat)(T:Tb)(N i:Nat)(hB:QY H):QY (IG H v L G T N i):=fun o ho=>by
 unfold IG at ho;rcases m_.1 ho with h |h
 ·exact hB o h
 ·simp only[b_]at h
  rcases h with rfl |rfl |rfl |rfl |h
  ·simp[tg]
  ·simp[vY]
  ·simp[vX]
  ·simp[nX]
  ·exact(PO L T N H.length i _ (N' _) o h).2
theorem Nw {m:Nat}{s:AS}(id:Nat){ver n:Nat}{f:Nat→AV}(ho:s.h[id]?=some (.con ver n f)):Sub m s { s with h:=s.h.set id .dead }:=by
 intro N c a hst;have hH:=hst.heap;rw[←hH]at ho;have hlt:=(R_.1 ho).1;have hat:(c.H.set id AO.dead)[id]?=some .dead:=by simp[hlt]
 have TAH:∀i,i≠id→(c.H.set id AO.dead)[i]?=c.H[i]?:=fun i hi=>L_ (v_ hi)
 let c':Ctx:=⟨c.w,c.S,c.γ,c.H.set id .dead⟩
 have J':Ext c c':=by
  refine⟨?_,fun b h=>h,fun b h=>.inl h,?_,fun _ _ _=>rfl,N' _,rfl,rfl,rfl⟩
  ·intro i o hoi
   by_cases hi:i=id
   ·subst hi
    rw[ho]at hoi;cases hoi;exact .inl (by simp only[c'];exact hat)
   ·have h1:=HLe.refl c i o hoi
    have e1:=TAH i hi;cases o with
    |D_=>trivial
    |dead=>simpa [c',e1]using h1
    |row v _ _=>simpa [c',e1,inf]using h1
    |con v _ _=>simpa [c',e1,inf]using h1
    |map k g=>simpa [c',e1]using h1
  ·rintro b ⟨i,o,sz,hoi,TAO,hg⟩
   by_cases hi:i=id
   ·subst hi
    simp only[c']at hoi;rw[hat]at hoi;cases hoi;simp[AO.owned]at TAO
   ·simp only[c']at hoi
    rw[TAH i hi]at hoi;exact .inr ⟨i,o,sz,hoi,TAO,hg⟩
 have TAa:∀ {v a},Rep c v a→Rep c' v a:=fun hv=>J'.rep hst.H_ hv
 refine⟨c',rfl,J'.toB m,hst.size,hst.defers,fun i=>TAa (hst.TAP i),by simp[c',hH],?_⟩;refine⟨?_,?_,?_,?_,hst.H_.bound⟩
 ·intro i v k g hoi
  by_cases hi:i=id
  ·subst hi;simp only[c']at hoi;rw[hat]at hoi;cases hoi
  ·simp only[c']at hoi
   rw[TAH i hi]at hoi;rcases hst.H_.row i v k g hoi with h | ⟨b,sz,cs,el,h1,h2,h3,h4,h5,h6⟩
   ·exact .inl h
   ·exact .inr ⟨b,sz,cs,el,h1,h2,h3,h4,h5,fun j hj=>TAa (h6 j hj)⟩
 ·intro i v k g hoi
  by_cases hi:i=id
  ·subst hi;simp only[c']at hoi;rw[hat]at hoi;cases hoi
  ·simp only[c']at hoi
   rw[TAH i hi]at hoi;rcases hst.H_.con i v k g hoi with h | ⟨b,sz,cs,el,fr,h1,h2,h3,h4,h5,h6⟩
   ·exact .inl h
   ·exact .inr ⟨b,sz,cs,el,fr,h1,h2,h3,h4,h5,fun j hj=>TAa (h6 j hj)⟩
 ·intro i k g hoi
  by_cases hi:i=id
  ·subst hi;simp only[c']at hoi;rw[hat]at hoi;cases hoi
  ·simp only[c']at hoi
   rw[TAH i hi]at hoi;obtain⟨b,sz,es,cl,h1,h2,h3,h4⟩:=hst.H_.map i k g hoi;exact⟨b,sz,es,cl,h1,h2,h3,h4.ext fun v a hv=>TAa hv⟩
 ·intro i i' o o' b sz sz' hoi TAm h1 h2 hg hg'
  by_cases hi:i=id
  ·subst hi;simp only[c']at hoi;rw[hat]at hoi;cases hoi;simp[AO.owned]at h1
  ·by_cases hi':i'=id
   ·subst hi';simp only[c']at TAm;rw[hat]at TAm;cases TAm;simp[AO.owned]at h2
   ·simp only[c']at hoi TAm
    rw[TAH i hi]at hoi;rw[TAH i' hi']at TAm;exact hst.H_.inj _ _ _ _ _ _ _ hoi TAm h1 h2 hg hg'
def RD (H:List AO)(v:Nat)(L:List Ln)(G:List Rat)(T:Tb)(N:Nat):List AO:=(IG H v L G T N L.length).set H.length .dead
theorem Oi (f:Nat→AV)(N:Nat)(x:AV)(h:x=f N):Q1 N f 1 (Xf [x])=f:=funext fun j=>by
 unfold Q1;by_cases h1:j<N
 ·rw[N_ h1]
 ·rw[M_ h1]
  by_cases h2:j<N+1
  ·rw[N_ h2,show j=N by omega,ZB4,←h];rfl
  ·rw[M_ h2]
theorem qG (H:List AO)(v:Nat)(L:List Ln)(G:List Rat)(T:Tb)(N:Nat)(hN:N=2*v+2*L.length)(hv:v≤100)(hm:L.length≤200)(ha:∀i,i<L.length→(L.getD i KK).a.length=v) (hB:∀i,i<L.length→0≤lB L i)
  (hT:∀i,i<L.length→∀k,k≤N→T.t i k=(JV v L.length (lA L) (lB L) (lG G)).t i k) (hq:∀i k,i<L.length→k<v→qb (lA L i k)≤10000) (hH:KH H) (hBo:QY H) :
  G' Tryz.prog 126 [P6 v L G] H (.ref (H.length+1) 0 0) (RD H v L G T N):=by
 obtain⟨n0,hn0⟩:∃n0,H.length=n0:=⟨_,rfl⟩
 have e0:=BG hn0;have e1:=FM hn0;have el:=Zz hn0;have es0:=CK hn0;have hcs:∀l,(H ++ l).set n0 (tg v L G)=H ++ l.set 0 (tg v L G):=fun l=>by rw[ZAj _ _ (by omega),hn0,ZB4]
 have c0:n0≤n0:=N' _;refine ZDu (fn:=Tryz.f126) Tryz.call126 Tryz.func126 rfl mixed 13 [28,29,30,47,48,49] [13,14005,15] [13,15,16] (by kernel_rfl) (L' rfl) (XF 8 ?_);simp(disch:=omega)only[P',P6,hn0,e0,e1,el,XE,Xt,↓Xd,wG,seval];have hp0:Xf [AV.int .i64 v,.sl L.length (L.length*5) (Xv KR 5 KK L) false,.sl G.length (G.length*4) (Xl fun i=>G.getD i 0) false]=Xf (Zt v L G):=by unfold Zt;rw[XE,Xt];rfl
 rw[hp0];refine e_ ?_ (XB n0 (e0 _ _));simp only[es0];refine e_ ?_ (XH 1 rfl (e0 _ _) (by omega));refine Xk ?_;simp(disch:=omega)only[ZAm,Zt,e0,e1,el,es0,XE,Xt,↓Xd,wG,seval];have es1:=GX hn0;have eL:(H ++ [tg v L G,.row 0 6 (Xf [I v,I L.length,I N,.sl 0 0 (fun _=>.any) true,.sl 0 0 (fun _=>.any) true,.sl 0 0 (fun _=>.any) true])]).length=n0+2:=by rw[el];rfl
 refine e_ (s':=⟨13,[28,29,30,47,48,49],[.any,.ptr 3 (Xf (Zt v L G)) 0,.any,I L.length,.ref (n0+1) 0 0,.any,.any,.any,.any,.any,.any,.any,.any],[(28,Eh L),(29,I L.length),(30,I 0)],H ++ [tg v L G,.row 0 6 (Xf [I v,I L.length,I N,.sl 0 0 (fun _=>.any) true,.sl 0 0 (fun _=>.any) true,.sl 0 0 (fun _=>.any) true])]⟩) ?_
  (Xh rfl (by simp[Xm,I,Zt,XE,Xt]) (by simp[Xu,XJ,I,XE]) (by simp[tg,Zt,XE,Xt,I,hN]))
 refine e_ ?_ (FF (fun j=>.osl (n0+4+4*j+1) 0 4 0 (N+1)));refine e_ ?_ (FF (fun j=>I ((2*v+j:Nat))));simp only[P_,g_,h_];refine e_ ?_ (Qh (n0+1) (Xf [I v,I L.length,I N,.osl (n0+2) 0 1 0 0,.sl 0 0 (fun _=>.any) true,.osl (n0+3) 0 1 0 0]) (e1 _ _ _) (fun j hj=>by
  match j,hj with
  |0,_=>exact XC _ _
  |1,_=>exact XC _ _
  |2,_=>exact XC _ _
  |3,_=>exact ZU (dc hn0 _ _ _ _)
  |4,_=>exact XC _ _
  |5,_=>exact ZU (de hn0 _ _ _ _ _)
  |j+6,h=>omega))
 simp only[es1];refine Xi (fun i:Nat=>⟨13,[28,29,30,47,48,49],[.any,.ptr 3 (Xf (Zt v L G)) 0,.any,I L.length,.ref (n0+1) 0 0,.any,.any,.any,.any,.any,.any,.any,.any],[(28,Eh L),(29,I L.length),(30,I i)],IG H v L G T N i⟩) (fun i=>i≤L.length) (fun i=>L.length-i) 0 (by omega)
  (Xh rfl (by simp[Xm]) (by simp[Xu,XJ]) (by subst hn0;rfl)) ?_
 intro i hi next
 by_cases hi2:i<L.length
 rotate_left
 ·obtain rfl:i=L.length:=by omega
  refine e_ ?_ (Nw n0 (by show(IG H v L G T N L.length)[n0]?=_;unfold IG;exact BG hn0 _ _));refine Xk ?_;simp(disch:=omega)only[XE,↓Xd,wG,seval];exact Pd rfl (by rw[hn0];rfl) (by show List.set _ _ _=_;unfold RD;rw[hn0])
 obtain⟨Z,hZ⟩:∃Z,Z=IG H v L G T N i:=⟨_,rfl⟩
 obtain⟨b0,hb0⟩:∃b0,b0=n0+4+4*i:=⟨_,rfl⟩
 have TBW:Z.length=b0:=by rw[hZ,H6,hn0,hb0]
 have TDT:KH Z:=hZ▸Sg v L G T N i hH;have TBg:QY Z:=hZ▸Oo v L G T N i hBo;have zx:∀l,(Z ++ l)[n0+1]?=some (vY v L.length N n0 i):=Qa (by rw[hZ];unfold IG;rw[hn0];exact FM hn0 _ _ _);have zt:∀l,(Z ++ l)[n0+2]?=some (vX N n0 i):=Qa (by rw[hZ];unfold IG;rw[hn0];exact dc hn0 _ _ _ _);have zb:∀l,(Z ++ l)[n0+3]?=some (nX v i):=Qa (by rw[hZ];unfold IG;rw[hn0];exact de hn0 _ _ _ _ _);rw[←hZ];have z0:=BG TBW;have z1:=FM TBW;have z2:=dc TBW;have z3:=de TBW;have zs0:=CK TBW;have zs1:=GX TBW;have zs2:=sZ TBW;have zs3:=Ym TBW;have zL:=Zz TBW;obtain⟨l1,l2,l3,l4,l5⟩:=z6 L i;have hai:=ha i hi2;have hbi:=hB i hi2;have c1:=Qv (lB L i);have f1:¬ (lB L i).num.sign<0:=fun g=>absurd ((BC _).1 g) (ZAW.2 hbi)
 have tN:((N:Int)+1).toNat=N+1:=by omega
 have zx0:=zx [];rw[ZAK]at zx0;unfold vY at zx zx0;refine Xk ?_;simp(disch:=omega)only[zx,zx0,zL,TBW,z0,z1,z2,z3,zs0,zs1,zs2,zs3,l1,l2,l3,l4,l5,tN,Zt,qC,XE,Xt,P_,↓Xd,wG,seval];refine X2 c1 rfl ?_;simp(disch:=omega)only[f1,zx,zx0,zL,TBW,z0,z1,z2,z3,zs0,zs1,zs2,zs3,Zt,qC,XE,Xt,P_,↓Xd,wG,seval];obtain⟨lo,hlo⟩:∃lo:AO,lo=.row 0 5 (Xf (KR (L.getD i KK))):=⟨_,rfl⟩
 obtain⟨lb,hlb⟩:∃lb:AO,lb=Q5 (.osl (b0+1) 0 4 0 (N+1)):=⟨_,rfl⟩
 obtain⟨nb,hnb⟩:∃nb:AO,nb=Q5 (.bool false):=⟨_,rfl⟩
 have hob:∀q,b0+1<q→XX q lo∧XX q lb∧XX q nb:=fun q hq=>⟨hlo▸QN (KW _),hlb▸Ad (JB (by omega)),hnb▸Ad (X4 (X5 _))⟩
 have hou:lo≠.D_∧lb≠.D_∧nb≠.D_:=⟨by rw[hlo];simp,by rw[hlb];simp[Q5],by rw[hnb];simp[Q5]⟩
 have TDS:∀ (f:Nat→Rat) (l:List AO),(∀o∈l,∀q,XX q o)→KH (Z ++ lo :: .row 0 ((N+1)*4) (Xl f) :: lb :: nb :: l):=fun f l hl o ho q hq=>by
  rw[zL]at hq;simp only[ZAF]at hq;obtain⟨u1,u2,u3⟩:=hob q (by omega);rcases m_.1 ho with h |h
  ·exact TDT o h q (by omega)
  ·simp only[b_]at h
   rcases h with rfl |rfl |rfl |rfl |h
   ·exact u1
   ·exact Ae _ _ _ _
   ·exact u2
   ·exact u3
   ·exact hl o h q
 have TB4:∀ (f:Nat→Rat) (l:List AO),QY l→QY (Z ++ lo :: .row 0 ((N+1)*4) (Xl f) :: lb :: nb :: l):=fun f l hl=>KM TBg fun o ho=>by
  simp only[b_]at ho;rcases ho with rfl |rfl |rfl |rfl |h
  ·exact hou.1
  ·simp
  ·exact hou.2.1
  ·exact hou.2.2
  ·exact hl o h
 have TDU:∀ (k:Nat) (f:Nat→Rat) (x:Rat) (l:List AO),k<N+1→(∀o∈l,∀q,XX q o)→G' Tryz.prog 199 [I k,qA x,.ref (b0+3) 0 0,.ref (b0+2) 0 0] (Z ++ lo :: .row 0 ((N+1)*4) (Xl f) :: lb :: nb :: l) (.tup []) (Z ++ lo :: .row 0 ((N+1)*4) (Xl fun j=>if j=k then x else f j) :: lb :: nb :: l):=fun k f x l hk hl=>by
  have h:=wu (Z ++ lo :: .row 0 ((N+1)*4) (Xl f) :: lb :: nb :: l) (b0+3) (b0+2) (b0+1) (N+1) k x f (by rw[z3,hnb]) (by rw[z2,hlb]) (z1 _ _ _) hk (by omega) (TDS f l hl);rw[zs1]at h;exact h
 have hce:∀ (f g:Nat→Rat) (l:List AO),K1 (Z ++ lo :: .row 0 ((N+1)*4) (Xl f) :: lb :: nb :: l) (Z ++ lo :: .row 0 ((N+1)*4) (Xl g) :: lb :: nb :: l):=fun f g l=>by
  rw[←zs1 lo (.row 0 ((N+1)*4) (Xl f)) (.row 0 ((N+1)*4) (Xl g))];exact QT (z1 _ _ _) (by simp) (by simp)
 have wl:=Xt (L.getD i KK).a;rw[hai]at wl;refine e_ ?_ (Qh (b0+1) (Xl (fun _=>0)) (z1 _ _ _) (fun j _=>fun c' v' _ _ h=>CX 0 j c' v' h));obtain⟨a,haa⟩:∃a:Nat→Rat,a=lA L i:=⟨_,rfl⟩
 have ea:(fun k=>(L.getD i KK).a.getD k 0)=a:=haa.symm;rw[ea]at wl;simp only[zs1,hai,ea];refine Xi (fun k:Nat=>⟨13,[28,29,30,47,48,49],[.any,.ptr 3 (Xf (Zt v L G)) 0,.any,I L.length,.ref (n0+1) 0 0,I i,.ref b0 0 0,.ref (b0+2) 0 0,.ref (b0+3) 0 0,.fn 199 [.ref (b0+3) 0 0,.ref (b0+2) 0 0],.any,.any,.any],[(28,Eh L),(29,I L.length),(30,I i),(47,.sl v (v*4) (Xl a) false),(48,I v),(49,I k)],Z ++ [lo,.row 0 ((N+1)*4) (Xl (In v a k)),lb,nb]⟩) (fun k=>k≤v) (fun k=>v-k) 0 (by omega)
  (Xh rfl (by simp[Xm,I,Zt,XE,Xt]) (by simp[Xu,XJ,I,XE]) (by rw[wI,hlo,hlb,hnb];unfold KR;rw[wl];rfl)) ?_
 intro k hk TAS;by_cases hk2:k<v
 rotate_left
 ·obtain rfl:k=v:=by omega
  clear TAS;have c3:=D3 1 1 ⟨by omega,by omega⟩ ⟨by omega,by omega⟩;rw[show O_ 1 1=1 by decide +kernel]at c3;have e3:2*(k:Int)+i=((2*k+i:Nat):Int):=by omega
  have q3:=fun f=>TDU (2*k+i) f 1 [] (by omega) (fun o ho=>absurd ho (V'))
  have q4:=fun f=>TDU N f (lB L i) [] (by omega) (fun o ho=>absurd ho (V'))
  have nbo:QY ([]:List AO):=fun o ho=>absurd ho (V')
  refine Xk ?_;simp(disch:=omega)only[zL,zx,z0,z1,z2,z3,Zt,P_,↓Xd,wG,seval];refine X2 c3 rfl ?_;simp(disch:=omega)only[e3,zL,zx,z0,z1,z2,z3,Zt,qA,qC,P_,↓Xd,wG,seval];refine Xz rfl (q3 _) (hce _ _ _) (Qg (TB4 _ _ nbo)) (X1 _) ?_;have ln1:KR (L.getD i KK)=[Q0 (L.getD i KK).a,.bool (sg (lB L i)),X8 (Xb (lB L i).num.natAbs),.bool false,X8 (Xb (qd (lB L i)))]:=rfl;rw[ln1]at hlo;have z0':∀l,(Z ++ lo :: l)[b0]?=some (.row 0 5 (Xf [Q0 (L.getD i KK).a,.bool (sg (lB L i)),X8 (Xb (lB L i).num.natAbs),.bool false,X8 (Xb (qd (lB L i)))])):=fun l=>by rw[z0,hlo]
  simp(disch:=omega)only[e3,zL,zx,z0',z1,z2,z3,Zt,qA,qC,P_,↓Xd,wG,seval];refine Xz rfl (q4 _) (hce _ _ _) (Qg (TB4 _ _ nbo)) (X1 _) ?_;have z3':∀x y z l,(Z ++ x :: y :: z :: nb :: l)[b0+3]?=some (Q5 (.bool false)):=fun x y z l=>by rw[z3,hnb]
  have z2':∀x y l,(Z ++ x :: y :: lb :: l)[b0+2]?=some (Q5 (.osl (b0+1) 0 4 0 (N+1))):=fun x y l=>by rw[z2,hlb]
  unfold Q5 at z3' z2';have n1:n0+1<Z.length:=by omega
  have n2:n0+2<Z.length:=by omega
  have n3:n0+3<Z.length:=by omega
  have s2:=fun o l=>Z2 (H:=Z) n2 o l
  have s3:=fun o o' l=>Z2 (H:=Z.set (n0+2) o) (a:=n0+3) (by rw[V_];exact n3) o' l
  have s4:=fun o o' o'' l=>Z2 (H:=(Z.set (n0+2) o).set (n0+3) o') (a:=n0+1) (by rw[V_,V_];exact n1) o'' l
  have s5:=fun o o' o'' o3 l=>Z2 (H:=((Z.set (n0+2) o).set (n0+3) o').set (n0+1) o'') (a:=n0+1) (by rw[V_,V_,V_];exact n1) o3 l
  have s6:∀o o' o'' o3:AO,(((Z.set (n0+2) o).set (n0+3) o').set (n0+1) o'').set (n0+1) o3=((Z.set (n0+2) o).set (n0+3) o').set (n0+1) o3:=fun o o' o'' o3=>ZBl _
  have zx':=zx [];rw[ZAK]at zx';have zb':=zb [];rw[ZAK]at zb';have x1:∀o l,(Z.set (n0+2) o ++ l)[n0+1]?=_:=fun o l=>Qa (by rw[L_ (by omega)];exact zx') l
  have b1:∀o l,(Z.set (n0+2) o ++ l)[n0+3]?=some (nX k i):=fun o l=>Qa (by rw[L_ (by omega)];exact zb') l
  have x2:∀o o' l,((Z.set (n0+2) o).set (n0+3) o' ++ l)[n0+1]?=_:=fun o o' l=>Qa (by rw[L_ (by omega),L_ (by omega)];exact zx') l
  have x3:∀o o' o'' l,(((Z.set (n0+2) o).set (n0+3) o').set (n0+1) o'' ++ l)[n0+1]?=some o'':=fun o o' o'' l=>Qa (U' (by rw[V_,V_];exact n1)) l
  unfold nX at b1;simp(disch:=omega)only[e3,zL,zx,zt,z0',z1,z2',z3',Zt,vX,nX,s2,s3,s4,s5,s6,x1,x2,x3,b1,P_,↓Xd,wG,seval];have TFy:=Oi (fun j=>AV.osl (n0+4+4*j+1) 0 4 0 (N+1)) i (.osl (b0+1) 0 4 0 (N+1)) (by rw[hb0]);have TFz:=Oi (fun j=>AV.int .i64 ((2*k+j:Nat):Int)) i (.int .i64 ((2*k+i:Nat):Int)) rfl;have TBx:(fun j=>if j=N then lB L i else if j=2*k+i then 1 else In k a k j)=Av N (T.t i):=funext fun j=>by
   unfold Av;by_cases hj:j≤N
   ·rw[N_ hj,hT i hi2 j hj]
    show _=if j<k then lA L i j else if j<2*k then -lA L i (j-k)else if j=2*k+i then 1 else if j=2*k+2*L.length then lB L i else 0
    unfold In;rw[haa];by_cases h1:j=N
    ·rw[N_ h1,M_ (by omega),M_ (by omega),M_ (by omega),N_ (by omega)]
    rw[M_ h1];by_cases h2:j=2*k+i
    ·rw[N_ h2,M_ (by omega),M_ (by omega),N_ h2]
    rw[M_ h2];by_cases h3:j<k
    ·rw[N_ h3,N_ h3]
    rw[M_ h3,M_ h3];by_cases h4:j<2*k
    ·rw[N_ (by omega),N_ h4]
    ·rw[M_ (by omega),M_ h4,M_ h2,M_ (by omega)]
   ·rw[M_ hj,M_ (by omega),M_ (by omega)]
    unfold In;rw[M_ (by omega),M_ (by omega)]
  rw[TFy,TFz,TBx];refine next (i+1) _ (by omega) (by omega) (Xh rfl (by simp[Xm,I,Zt]) (by simp[Xu,XJ,I]) ?_)
  show(((Z.set (n0+2) _).set (n0+3) _).set (n0+1) _) ++ [lo,_,lb,nb]=IG H k L G T N (i+1);rw[hZ];unfold IG;rw[hn0,sZ hn0,show n0+3=n0+3 from rfl,Ym hn0,GX hn0,hlo,hlb,hnb];show _=H ++ tg k L G :: vY k L.length N n0 (i+1) :: vX N n0 (i+1) :: nX k (i+1) :: (qI L T N n0 i ++ yr L T N n0 i);unfold yr;rw[hb0];simp[vY,vX,nX,I,ln1];rfl
 have q1:qb (a k)≤10000:=haa▸hq i k hi2 hk2;have w1:=QA a k;have w2:=Jt a k;have c2:=Z6 (a k);have p1:=fun l=>TDU k (In v a k) (a k) l (by omega)
 have p2:=fun l=>TDU (v+k) (fun j=>if j=k then a k else In v a k j) (-a k) l (by omega)
 rw[fh a hk2]at p2;have nx:=TAS (k+1);have z4:∀ (x y z w o:AO) l,(Z ++ x :: y :: z :: w :: o :: l)[b0+4]?=some o:=fun x y z w o l=>by
  rw[←TBW,d_ (by omega),show Z.length+4-Z.length=4 by omega];rfl
 have zs4:∀ (x y z w o o':AO) l,(Z ++ x :: y :: z :: w :: o :: l).set (b0+4) o'=Z ++ x :: y :: z :: w :: o' :: l:=fun x y z w o o' l=>by
  rw[ZAj _ _ (by omega),TBW,show b0+4-b0=4 by omega];rfl
 have ac:∀o∈[ZAk 0 4 (Xf (qC (a k)))],∀q,XX q o:=fun o ho q=>by rw[a_.1 ho];exact Fa _ _ _
 have acu:QY [ZAk 0 4 (Xf (qC (a k)))]:=fun o ho=>by rw[a_.1 ho];simp
 refine Xk ?_;simp(disch:=omega)only[zL,z4,zs4,w1,w2,qC,P_,↓Xd,wG,seval];refine Xz rfl (p1 [.row 0 4 (Xf (qC (a k)))] ac) (hce _ _ _) (Qg (TB4 _ _ acu)) (X1 _) ?_;simp(disch:=omega)only[zL,z4,zs4,w1,w2,Zt,qC,P_,↓Xd,wG,seval];refine X2 c2 rfl ?_;simp(disch:=omega)only[zL,z4,zs4,w1,w2,Zt,qA,qC,P_,↓Xd,wG,seval];refine Xz rfl (p2 [.row 0 4 (Xf (qC (a k)))] ac) (hce _ _ _) (Qg (TB4 _ _ acu)) (X1 _) ?_;simp(disch:=omega)only[zL,z4,zs4,w1,w2,qC,P_,↓Xd,wG,seval];have bl0:J9 (b0+4) (.ptr 3 (Xf (Zt v L G)) 0)=True:=K_ (X4 (XP fun j _=>Xe (l:=Zt v L G) (by simp[Zt,X9,QS,Xn]) j));have xM:J9 (b0+4) (.ref (n0+1) 0 0)=True:=K_ (QX (by omega));have bl2:J9 (b0+4) (.ref b0 0 0)=True:=K_ (QX (by omega));have bl3:J9 (b0+4) (.ref (b0+2) 0 0)=True:=K_ (QX (by omega));have bl4:J9 (b0+4) (.ref (b0+3) 0 0)=True:=K_ (QX (by omega));have bl5:J9 (b0+4) (.fn 199 [.ref (b0+3) 0 0,.ref (b0+2) 0 0])=True:=K_ (iJ (KS (QX (by omega)) (QX (by omega))));have bl6:J9 (b0+4) (Eh L)=True:=K_ (X4 (QS L));have bl7:J9 (b0+4) (.sl v (v*4) (Xl a) false)=True:=K_ (X4 (QF fun j _=>ZR _ _));refine nx _ (by omega) (by omega) (XD (m:=b0+4) (by show H.length≤b0+4;omega) rfl (by simp[Xm,I,Zt]) (by simp[Xu,XJ,I]) ?_ (by simp[XK,bl0,xM,bl2,bl3,bl4,bl5]) (by simp[XK,bl6,bl7]) (fun o ho=>TDS _ [] (fun o ho=>absurd ho (V')) o ho _ (by rw[zL];exact N' _)));show List.take (b0+4) (Z ++ [lo,ZAk 0 ((N+1)*4) (Xl (In v a (k+1))),lb,nb,_])=Z ++ [lo,ZAk 0 ((N+1)*4) (Xl (In v a (k+1))),lb,nb];rw[List.take_append,TBW,ZCW (by omega),show b0+4-b0=4 by omega];rfl
def Lf {α:Type}(p:α→Bool)(s:List α):Int:=if s.any p=true then(s.findIdx p:Nat)else -1
theorem MM {α:Type}(d:α){p:α→Bool}{s:List α}{j:Nat}(hj:j<s.length)(h:p (s.getD j d)=true) (hno:∀i,i<j→p (s.getD i d)=false):Lf p s=j:=by
 have at_:∀i (hi:i<s.length),s.getD i d=s[i]:=fun i hi=>by rw[K',U_ hi];rfl
 have e:s.findIdx p=j:=by
  rw[List.findIdx_eq hj];exact⟨by rw[←at_ j hj];exact h,fun i hi=>by rw[←at_ i (by omega)];exact hno i hi⟩
 unfold Lf;rw[N_ (ZBJ.2 ⟨s[j],ZAP hj,by rw[←at_ j hj];exact h⟩),e]
theorem Ic {α:Type}(d:α){p:α→Bool}{s:List α}(hno:∀i,i<s.length→p (s.getD i d)=false):Lf p s = -1:=by
 unfold Lf;rw[M_];intro h;obtain⟨x,hx,hp⟩:=ZBJ.1 h;obtain⟨i,hi,rfl⟩:=ZAI hx;have:=hno i hi;rw[K',U_ hi]at this;simp only[ZBH]at this;rw[this]at hp;cases hp
theorem ML {α:Type}(p:α→Bool)(s:List α):decide (0≤Lf p s)=s.any p:=by
 unfold Lf;cases h:s.any p
 ·simp
 ·rw[N_ rfl];exact Y' (by omega)
theorem Q9 {α:Type}{s:List α}{i:Nat}(d:α)(h:i<s.length):s.getD i d∈s:=by
 rw[K',U_ h];exact ZAP h
def te (x:Ln):AV:=.agg (KR x)
theorem dj (s:List Ln)(f:FuncId)(G_:List AV)(p:Ln→Bool)(hl:s.length<1000000)(hc:∀ a∈G_,A_ a)(hp:∀x∈s,Fn Tryz.prog f ([te x] ++ G_) (.bool (p x))) :
  Fn Tryz.prog 180 [Eh s,.fn f G_] (I (Lf p s)):=by
 refine y_ (fn:=Tryz.f180) Tryz.call180 Tryz.func180 rfl mixed 6 [6,7,8] [] [] (by kernel_rfl) (L' rfl) (KS (QS s) (Kd hc)) (Xk ?_);simp(disch:=omega)only[P',XE,↓Xd,wG,seval];refine Xi (fun j:Nat=>⟨6,[6,7,8],[Eh s,.fn f G_,.any,.any,.any,.any],[(6,Eh s),(7,I s.length),(8,I j)],[]⟩) (fun j=>j≤s.length∧∀i,i<j→p (s.getD i KK)=false) (fun j=>s.length-j) 0 ⟨by omega,by omega⟩
  (Xh rfl (by simp[Xm,I,XE]) (by simp[Xu,XJ,I,XE]) rfl) ?_
 rintro j ⟨hj,hno⟩ next
 by_cases h:j<s.length
 ·obtain⟨l1,l2,l3,l4,l5⟩:=z6 s j
  have c1:=hp _ (Q9 KK h);have el:te (s.getD j KK)=.agg [Q0 (s.getD j KK).a,.bool (sg (lB s j)),X8 (Xb (lB s j).num.natAbs),.bool false,X8 (Xb (qd (lB s j)))]:=rfl;refine Xk ?_;simp(disch:=omega)only[XE,l1,l2,l3,l4,l5,qC,Xt,↓Xd,wG,seval];refine X0 c1 (X1 _) ?_;simp(disch:=omega)only[↓Xd,wG,seval];refine Qs (fun ht=>Xp (v:=I j) rfl rfl (X9 _) ?_) (fun hf=>next (j+1) _ ⟨by omega,fun i hi=>?_⟩ (by omega) (Xh rfl ?_ ?_ rfl))
  ·rw[MM KK h ht hno]
  ·by_cases e:i=j
   ·rw[e];exact hf
   ·exact hno i (by omega)
  ·simp[Xm,I,XE]
  ·simp[Xu,XJ,I,XE]
 ·obtain rfl:j=s.length:=by omega
  refine Xk ?_;simp(disch:=omega)only[XE,↓Xd,wG,seval];exact Xp (v:=I (-1)) rfl rfl (X9 _) (by rw[Ic KK fun i hi=>hno i hi])
theorem GI (s:List Ln)(f:FuncId)(G_:List AV)(p:Ln→Bool)(hl:s.length<1000000)(hc:∀ a∈G_,A_ a)(hp:∀x∈s,Fn Tryz.prog f ([te x] ++ G_) (.bool (p x))) :
  Fn Tryz.prog 101 [Eh s,.fn f G_] (.bool (s.any p)):=by
 refine y_ (fn:=Tryz.f101) Tryz.call101 Tryz.func101 rfl mixed 4 [] [] [] (by kernel_rfl) (L' rfl) (KS (QS s) (Kd hc)) (Xk ?_);simp(disch:=omega)only[P',↓Xd,wG,seval];refine X0 (dj s f G_ p hl hc hp) (X1 _) ?_;simp(disch:=omega)only[↓Xd,wG,seval];exact Xp (v:=.bool (decide (0≤Lf p s))) rfl rfl (X5 _) (by rw[ML])
def pP (v:Nat)(L:List Ln)(G:List Rat):AV:=.ptr 3 (Xf (Zt v L G)) 0
theorem Gs (v:Nat)(L:List Ln)(G:List Rat):A_ (pP v L G):=XP fun j _=>Xe (l:=Zt v L G) (by simp[Zt,X9,QS,Xn]) j
theorem IU (x:Ln):A_ (te x):=QD (KW x)
theorem Wk (v:Nat)(L:List Ln)(G:List Rat)(x:Ln):Fn Tryz.prog 198 [te x,pP v L G] (.bool (decide (x.a.length≠v))):=by
 refine y_ (fn:=Tryz.f198) Tryz.call198 Tryz.func198 rfl mixed 4 [] [] [] (by kernel_rfl) (L' rfl) (KS (IU x) (Gs v L G)) (Xk ?_);have f1:(!decide (x.a.length=v))=decide (x.a.length≠v):=by simp
 simp(disch:=omega)only[P',te,KR,qC,pP,Zt,Xt,↓Xd,wG,seval];exact Xp rfl rfl (X5 _) (t_ AV.bool f1)
theorem fM (v:Nat)(L:List Ln)(G:List Rat)(hv:v≤48)(hm:L.length≤128)(hG:G.length=v)(ha:∀x∈L,x.a.length=v):Fn Tryz.prog 125 [P6 v L G] (I 0):=by
 subst hG;have c1:=GI L 198 [pP G.length L G] (fun x=>decide (x.a.length≠G.length)) (by omega) (by simp[Gs]) (fun x _=>Wk G.length L G x);have e1:(L.any fun x=>decide (x.a.length≠G.length))=false:=by
  rw[List.any_eq_false];intro x hx;simp[ha x hx]
 rw[e1]at c1;have hp0:Xf [AV.int .i64 G.length,.sl L.length (L.length*5) (Xv KR 5 KK L) false,.sl G.length (G.length*4) (Xl fun i=>G.getD i 0) false]=Xf (Zt G.length L G):=by unfold Zt;rw[XE,Xt];rfl
 refine Fq Tryz.call125 Tryz.func125 3 [] [] [] (by simp[BM]) (XF 8 ?_);simp(disch:=omega)only[P',P6,XE,Xt,↓Xd,wG,seval];rw[hp0];refine e_ ?_ (XB 0 rfl);refine e_ ?_ (XH 1 rfl rfl (by omega));refine Xk ?_;simp(disch:=omega)only[ZAm,Zt,XE,Xt,↓Xd,wG,seval];refine X0 c1 (X1 _) ?_;simp(disch:=omega)only[↓Xd,wG,seval];exact Xp rfl rfl (X9 _) rfl
theorem fH (k last:Nat)(hk:k<1000000)(hl:last<1000000):Fn Tryz.prog 128 [I k,.ptr 1 (Xf [I last]) 0] (qA (if last≤k then 1 else 0)):=by
 have sP:A_ (.ptr 1 (Xf [I last]) 0):=XP fun j _=>Xe (l:=[I last]) (by simp[X9]) j
 have c1:=D3 1 1 ⟨by omega,by omega⟩ ⟨by omega,by omega⟩;rw[show O_ 1 1=1 by decide +kernel]at c1;obtain⟨R,hR⟩:∃R,R=qA (if last≤k then(1:Rat)else 0):=⟨_,rfl⟩
 have sR:A_ R:=hR▸Xa _;rw[←hR];by_cases h:last≤k
 ·rw[N_ h]at hR
  have f1:(last:Int)≤k:=by omega
  refine y_ (fn:=Tryz.f128) Tryz.call128 Tryz.func128 rfl mixed 4 [] [] [] (by kernel_rfl) (L' rfl) (KS (X9 _) sP) (Xk ?_);simp(disch:=omega)only[P',f1,↓Xd,wG,seval];refine X2 c1 rfl ?_;simp(disch:=omega)only[qA,qC,↓Xd,wG,seval];exact Jh rfl XY rfl rfl rfl sR (hR.trans rfl)
 ·rw[M_ h]at hR
  have f1:¬ (last:Int)≤k:=by omega
  refine y_ (fn:=Tryz.f128) Tryz.call128 Tryz.func128 rfl mixed 4 [] [] [] (by kernel_rfl) (L' rfl) (KS (X9 _) sP) (Xk ?_);simp(disch:=omega)only[P',f1,↓Xd,wG,seval];exact Ql rfl XY rfl rfl rfl (hR.trans rfl) sR (Jj _)
def Kl (v:Nat)(G:List Rat)(k:Nat):Rat:=if k<v then -lG G k else if k<2*v then lG G (k-v)else 0
theorem fI (v k:Nat)(L:List Ln)(G:List Rat)(hk:k<1000000)(hv:v<100000)(hG:G.length=v):Fn Tryz.prog 132 [I k,pP v L G] (qA (Kl v G k)):=by
 subst hG;have sP:=Gs G.length L G;have c1:=Z6 (lG G k);obtain⟨R,hR⟩:∃R,R=qA (Kl G.length G k):=⟨_,rfl⟩
 have sR:A_ R:=hR▸Xa _;rw[←hR];unfold Kl at hR;by_cases h:k<G.length
 ·rw[N_ h]at hR
  have w1:=QA (fun i=>G.getD i 0) k;have w2:=Jt (fun i=>G.getD i 0) k;refine y_ (fn:=Tryz.f132) Tryz.call132 Tryz.func132 rfl mixed 4 [] [] [] (by kernel_rfl) (L' rfl) (KS (X9 _) sP) (Xk ?_);simp(disch:=omega)only[P',pP,Zt,Xt,w1,w2,qC,↓Xd,wG,seval];refine X2 c1 rfl ?_;simp(disch:=omega)only[qA,qC,↓Xd,wG,seval];exact Jh rfl XY rfl rfl rfl sR (hR.trans rfl)
 rw[M_ h]at hR;by_cases h2:k<2*G.length
 ·rw[N_ h2]at hR
  have w1:=QA (fun i=>G.getD i 0) (k-G.length);have w2:=Jt (fun i=>G.getD i 0) (k-G.length);have t1:((k:Int)-G.length).toNat=k-G.length:=by omega
  have f1:¬ (k:Int)<G.length:=by omega
  have f2:(k:Int)<2*G.length:=by omega
  refine y_ (fn:=Tryz.f132) Tryz.call132 Tryz.func132 rfl mixed 4 [] [] [] (by kernel_rfl) (L' rfl) (KS (X9 _) sP) (Xk ?_);simp(disch:=omega)only[P',pP,Zt,Xt,f1,f2,t1,w1,w2,qC,↓Xd,wG,seval];exact Jh rfl XY rfl rfl rfl sR (hR.trans rfl)
 ·rw[M_ h2]at hR
  have f1:¬ (k:Int)<G.length:=by omega
  have f2:¬ (k:Int)<2*G.length:=by omega
  refine y_ (fn:=Tryz.f132) Tryz.call132 Tryz.func132 rfl mixed 4 [] [] [] (by kernel_rfl) (L' rfl) (KS (X9 _) sP) (Xk ?_);simp(disch:=omega)only[P',pP,Zt,Xt,f1,f2,↓Xd,wG,seval];exact Ql rfl XY rfl rfl rfl (hR.trans rfl) sR (Jj _)
structure Laid (A:List AO)(Y:Lay)(v m n:Nat)(T:Tb)(a:AV):Prop where
 x:A[Y.x]?=some (LN Y v m n a)
 t:A[Y.tid]?=some (tO Y m n)
 b:A[Y.bid]?=some (DD Y m T.b)
 r:∀i,i<m→A[Y.rid i]?=some (Ds Y n i (T.t i))
 xt:Y.x≠Y.tid
 xb:Y.x≠Y.bid
 xr:∀i,i<m→Y.x≠Y.rid i
 tb:Y.tid≠Y.bid
 tr:∀i,i<m→Y.tid≠Y.rid i
 br:∀i,i<m→Y.bid≠Y.rid i
 rr:∀i j,i<m→j<m→Y.rid i=Y.rid j→i=j
 bel:KH A
 born:QY A
theorem ZW {A:List AO}{i:Nat}{o:AO}(h:A[i]?=some o):i<A.length:=(R_.1 h).1
theorem Laid.app {A:List AO}{Y:Lay}{v m n:Nat}{T:Tb}{a:AV}(h:Laid A Y v m n T a)(l:List AO)(hl:∀o∈l,(∀q,A.length+l.length≤q→XX q o)∧o≠.D_):Laid (A ++ l) Y v m n T a :=
 ⟨Qa h.x l,Qa h.t l,Qa h.b l,fun i hi=>Qa (h.r i hi) l,h.xt,h.xb,h.xr,h.tb,h.tr,h.br,h.rr,fun o ho q hq=>by
  rw[f_]at hq;rcases m_.1 ho with g |g
  ·exact h.bel o g q (by omega)
  ·exact(hl o g).1 q hq,KM h.born fun o ho=>(hl o ho).2⟩
def Lay.cost (Y:Lay)(i:Nat):Lay:={ Y with cid:=i,cv:=0 }
def BJ (A:List AO)(Y:Lay)(v m n:Nat)(c:Nat→Rat):List AO:=A.set Y.x (LN Y v m n (.osl A.length 0 4 0 (n+1))) ++ [.row 0 ((n+1)*4) (Xl (Av n c))]
theorem oo {H:List AO}{Y:Lay}{v m n:Nat}{T:Tb}(h:Y.Ok H v m n)(hb:H[Y.bid]?=some (DD Y m T.b)) (hc:H[Y.cid]?=some (DI Y n T.c)) (hr:∀i,i<m→H[Y.rid i]?=some (Ds Y n i (T.t i))):HT H Y m n T=H:=by
 refine jL (Em T) fun a ha=>?_
 by_cases eb:a=Y.bid
 ·subst eb;rw[RH h,hb]
 by_cases ec:a=Y.cid
 ·subst ec;rw[LP h,hc]
 by_cases er:∃j,j<m∧a=Y.rid j
 ·obtain⟨j,hj,rfl⟩:=er
  rw[Lc h _ hj,hr j hj]
 ·rw[Dy T eb ec fun j hj g=>er ⟨j,hj,g⟩]
theorem Laid.TC9 {A:List AO}{Y:Lay}{v m n:Nat}{T:Tb}{a:AV}(h:Laid A Y v m n T a)(c:Nat→Rat) :
  (Y.cost A.length).Ok (BJ A Y v m n c) v m n∧HT (BJ A Y v m n c) (Y.cost A.length) m n { T with c:=c }=BJ A Y v m n c∧KH (BJ A Y v m n c)∧QY (BJ A Y v m n c):=by
 have xl:=ZW h.x;have tl:=ZW h.t;have bl:=ZW h.b;have rl:=fun i hi=>ZW (h.r i hi)
 have len:(BJ A Y v m n c).length=A.length+1:=by unfold BJ;rw[f_,V_];rfl
 have hx:(BJ A Y v m n c)[Y.x]?=some (LN Y v m n (.osl A.length 0 4 0 (n+1))):=Qa (U' xl) _;have ht:(BJ A Y v m n c)[Y.tid]?=some (tO Y m n):=Qa (by rw[L_ h.xt];exact h.t) _;have hb:(BJ A Y v m n c)[Y.bid]?=some (DD Y m T.b):=Qa (by rw[L_ h.xb];exact h.b) _;have hr:∀i,i<m→(BJ A Y v m n c)[Y.rid i]?=some (Ds Y n i (T.t i)):=fun i hi=>Qa (by rw[L_ (h.xr i hi)];exact h.r i hi) _
 have hc:(BJ A Y v m n c)[A.length]?=some (.row 0 ((n+1)*4) (Xl (Av n c))):=BG (by rw[V_]) _ _;have ok:(Y.cost A.length).Ok (BJ A Y v m n c) v m n:=by
  refine⟨hx,ht,by rw[len];show Y.bid<_;omega,by rw[len];show A.length<_;omega,fun i hi=>by have:=rl i hi;rw[len];show Y.rid i<_;omega,h.xb,?_,h.xr,h.tb,?_,h.tr,?_,h.br,fun i hi=>?_,h.rr⟩
  ·show Y.x≠A.length;omega
  ·show Y.tid≠A.length;omega
  ·show Y.bid≠A.length;omega
  ·show A.length≠Y.rid i
   have:=rl i hi;omega
 refine⟨ok,oo ok hb hc hr,fun o ho q hq=>?_,KM (ZK h.born (by simp[LN])) fun o ho=>by rw[a_.1 ho];simp⟩;rw[len]at hq;rcases m_.1 ho with g |g
 ·rcases ZAN g with g |g
  ·exact h.bel o g q (by omega)
  ·rw[g];exact Sj Y v m n (JB (by omega)) (by omega) (by omega)
 ·rw[a_.1 g];exact Ae _ _ _ _
theorem Lay.Ok.laid {H:List AO}{Y:Lay}{v m n:Nat}(h:Y.Ok H v m n)(T:Tb)(hxt:Y.x≠Y.tid)(hH:KH H)(hB:QY H):Laid (HT H Y m n T) Y v m n T (.osl Y.cid Y.cv 4 0 (n+1)) :=
 ⟨gg h T,oq h T,RH h T,fun i hi=>Lc h T hi,hxt,h.xb,h.xr,h.tb,h.tr,h.br,h.rr,DE T hH,PQ T hB⟩
def Mx (A:List AO)(Y:Lay)(n:Nat)(T:Tb):Nat→List AO
 |0=>A
 |i+1=>(Mx A Y n T i).set (Y.rid i) (.con (Y.rv i) ((n+1)*4) (Xl (Av n (T.t i))))
theorem My (A:List AO)(Y:Lay)(n:Nat)(T:Tb):∀i,(Mx A Y n T i).length=A.length
 |0=>rfl
 |i+1=>by unfold Mx;rw[V_,My]
theorem Rd {A:List AO}{Y:Lay}{n:Nat}{T:Tb}{a:Nat}:∀i,(∀j,j<i→a≠Y.rid j)→(Mx A Y n T i)[a]?=A[a]?
 |0,_=>rfl
 |i+1,h=>by unfold Mx;rw[L_ (v_ (h i (by omega))),Rd i fun j hj=>h j (by omega)]
theorem Ye {A:List AO}{Y:Lay}{n m:Nat}{T:Tb}(hr:∀ i,i<m→Y.rid i<A.length)(hd:∀ i j,i<m→j<m→Y.rid i=Y.rid j→i=j){k:Nat}:∀i,i≤m→k<i→(Mx A Y n T i)[Y.rid k]?=some (.con (Y.rv k) ((n+1)*4) (Xl (Av n (T.t k))))
 |i+1,hi,hk=>by
  unfold Mx;by_cases e:k=i
  ·subst e;rw[U' (by rw[My];exact hr k (by omega))]
  ·rw[L_ (fun g=>e (hd i k (by omega) (by omega) g).symm),Ye hr hd i (by omega) (by omega)]
theorem Ub {b:Nat}{s:AS}{Y:Lay}{n m:Nat}{T:Tb}(hr:∀i,i<m→s.h[Y.rid i]?=some (Ds Y n i (T.t i))) (hd:∀i j,i<m→j<m→Y.rid i=Y.rid j→i=j):∀i,i≤m→Sub b s { s with h:=Mx s.h Y n T i }
 |0,_=>Sub.C' _ _
 |i+1,hi=>by
  refine(Ub hr hd i (by omega)).trans ?_;exact XB (s:={ s with h:=Mx s.h Y n T i }) (Y.rid i) (by
   show(Mx s.h Y n T i)[Y.rid i]?=_;rw[Rd i fun j hj g=>by have:=hd i j (by omega) (by omega) g;omega];exact hr i (by omega))
theorem vH {b:Nat}{s:AS}{Y:Lay}{v m n xb:Nat}{T:Tb}(hL:Laid s.h Y v m n T (.osl Y.cid Y.cv 4 0 (n+1))) (hc:s.h[Y.cid]?=some (DI Y n T.c)) (hcx:Y.x≠Y.cid) (hct:Y.tid≠Y.cid) (hcb:Y.bid≠Y.cid) (hcr:∀i,i<m→Y.cid≠Y.rid i)
  (hxb:s.h[xb]?=some (Q5 (.ref Y.x Y.vx 0))) (h1:xb≠Y.x) (h2:xb≠Y.tid) (h3:xb≠Y.bid) (h4:xb≠Y.cid) (h5:∀i,i<m→xb≠Y.rid i) :
  ∃F,Sub b s { s with h:=F }∧F.length=s.h.length∧F[xb]?=some (Q5 (xP v m n T))∧∀a,a≠xb→a≠Y.x→a≠Y.tid→a≠Y.bid→a≠Y.cid→(∀i,i<m→a≠Y.rid i)→F[a]?=s.h[a]?:=by
 have rl:=fun i hi=>ZW (hL.r i hi)
 obtain⟨F1,e1⟩:∃F1,F1=Mx s.h Y n T m:=⟨_,rfl⟩
 have l1:F1.length=s.h.length:=by rw[e1,My]
 have n1:∀a,(∀i,i<m→a≠Y.rid i)→F1[a]?=s.h[a]?:=fun a ha=>by rw[e1,Rd m ha]
 have r1:∀i,i<m→F1[Y.rid i]?=some (.con (Y.rv i) ((n+1)*4) (Xl (Av n (T.t i)))):=fun i hi=>by rw[e1];exact Ye rl hL.rr m (N' _) hi
 have S1:Sub b s { s with h:=F1 }:=e1▸Ub hL.r hL.rr m (N' _);obtain⟨F2,e2⟩:∃F2,F2=F1.set Y.cid (.con Y.cv ((n+1)*4) (Xl (Av n T.c))):=⟨_,rfl⟩
 have S2:Sub b { s with h:=F1 } { s with h:=F2 }:=e2▸XB (s:={ s with h:=F1 }) Y.cid (by show F1[Y.cid]?=_;rw[n1 _ hcr];exact hc);obtain⟨F3,e3⟩:∃F3,F3=F2.set Y.bid (.con Y.bv m (fun i=>I ((if i<m then T.b i else 0:Nat)))):=⟨_,rfl⟩
 have S3:Sub b { s with h:=F2 } { s with h:=F3 }:=e3▸XB (s:={ s with h:=F2 }) Y.bid (by show F2[Y.bid]?=_;rw[e2,L_ (v_ hcb),n1 _ hL.br];exact hL.b);have l3:F3.length=s.h.length:=by rw[e3,e2,V_,V_,l1]
 have t3:F3[Y.tid]?=some (tO Y m n):=by rw[e3,e2,L_ (v_ hL.tb),L_ (v_ hct),n1 _ hL.tr];exact hL.t
 have r3:∀i,i<m→F3[Y.rid i]?=some (.con (Y.rv i) ((n+1)*4) (Xl (Av n (T.t i)))):=fun i hi=>by rw[e3,e2,L_ (hL.br i hi),L_ (hcr i hi)];exact r1 i hi
 obtain⟨F4,e4⟩:∃F4,F4=F3.set Y.tid (.row Y.tv m (fun i=>Rs n (T.t i))):=⟨_,rfl⟩
 have S4:Sub b { s with h:=F3 } { s with h:=F4 }:=e4▸Qh (s:={ s with h:=F3 }) Y.tid (fun i=>Rs n (T.t i)) t3 (fun j hj=>Kh (r3 j hj) (N' _) (by omega) fun _ _=>XC _ _);have tl:=ZW hL.t;have xl:=ZW hL.x;have bl:=ZW hL.b;have cl:=ZW hc;obtain⟨F5,e5⟩:∃F5,F5=F4.set Y.tid (.con Y.tv m (fun i=>Rs n (T.t i))):=⟨_,rfl⟩
 have S5:Sub b { s with h:=F4 } { s with h:=F5 }:=e5▸XB (s:={ s with h:=F4 }) Y.tid (by show F4[Y.tid]?=_;rw[e4,U' (by omega)]);have l5:F5.length=s.h.length:=by rw[e5,e4,V_,V_,l3]
 have t5:F5[Y.tid]?=some (.con Y.tv m (fun i=>Rs n (T.t i))):=by rw[e5,U' (by rw[e4,V_];omega)]
 have n5:∀a,a≠Y.tid→F5[a]?=F3[a]?:=fun a ha=>by rw[e5,e4,L_ (v_ ha),L_ (v_ ha)]
 have c5:F5[Y.cid]?=some (.con Y.cv ((n+1)*4) (Xl (Av n T.c))):=by rw[n5 _ (v_ hct),e3,L_ hcb,e2,U' (by omega)]
 have b5:F5[Y.bid]?=some (.con Y.bv m (fun i=>I ((if i<m then T.b i else 0:Nat)))):=by rw[n5 _ (v_ hL.tb),e3,U' (by rw[e2,V_];omega)]
 have x5:F5[Y.x]?=some (LN Y v m n (.osl Y.cid Y.cv 4 0 (n+1))):=by rw[n5 _ hL.xt,e3,e2,L_ (v_ hL.xb),L_ (v_ hcx),n1 _ hL.xr];exact hL.x
 obtain⟨F6,e6⟩:∃F6,F6=F5.set Y.x (.row Y.vx 6 (Xf (xC v m n T))):=⟨_,rfl⟩
 have S6:Sub b { s with h:=F5 } { s with h:=F6 }:=e6▸Qh (s:={ s with h:=F5 }) Y.x (Xf (xC v m n T)) x5 (fun j hj=>by
  match j,hj with
  |0,_=>exact XC _ _
  |1,_=>exact XC _ _
  |2,_=>exact XC _ _
  |3,_=>exact Kh t5 (N' _) (fun h=>h) fun _ _=>XC _ _
  |4,_=>exact Kh c5 (N' _) (by omega) fun _ _=>XC _ _
  |5,_ =>
   show Ko _ (.osl Y.bid Y.bv 1 0 m) (X8 (PM m T));rw[Xo,GC];refine Kh b5 (N' _) (fun h=>h) fun j hj=>?_
   rw[Bq,Ll T hj,N_ hj];exact XC _ _
  |j+6,h=>omega)
 obtain⟨F7,e7⟩:∃F7,F7=F6.set Y.x (.con Y.vx 6 (Xf (xC v m n T))):=⟨_,rfl⟩
 have S7:Sub b { s with h:=F6 } { s with h:=F7 }:=e7▸XB (s:={ s with h:=F6 }) Y.x (by show F6[Y.x]?=_;rw[e6,U' (by omega)]);have x7:F7[Y.x]?=some (.con Y.vx 6 (Xf (xC v m n T))):=by rw[e7,U' (by rw[e6,V_];omega)]
 have n7:∀a,a≠Y.x→F7[a]?=F5[a]?:=fun a ha=>by rw[e7,e6,L_ (v_ ha),L_ (v_ ha)]
 have n3:∀a,a≠Y.bid→a≠Y.cid→(∀i,i<m→a≠Y.rid i)→F3[a]?=s.h[a]?:=fun a ha hb hr=>by rw[e3,e2,L_ (v_ ha),L_ (v_ hb),n1 _ hr]
 have xb7:F7[xb]?=some (Q5 (.ref Y.x Y.vx 0)):=by rw[n7 _ h1,n5 _ h2,n3 _ h3 h4 h5];exact hxb
 have l7:F7.length=s.h.length:=by rw[e7,e6,V_,V_,l5]
 refine⟨F7.set xb (Q5 (xP v m n T)),?_,by rw[V_,l7],U' (ZW xb7),fun a a1 a2 a3 a4 a5 a6=>by rw[L_ (v_ a1),n7 _ a2,n5 _ a3,n3 _ a4 a5 a6]⟩;refine S1.trans (S2.trans (S3.trans (S4.trans (S5.trans (S6.trans (S7.trans ?_))))));exact Qh (s:={ s with h:=F7 }) xb (Xf [xP v m n T]) xb7 (fun j hj=>by
  obtain rfl:j=0:=by omega
  exact Wp x7 (by omega) fun _ _=>XC _ _)
end
end Go.Ab.N
