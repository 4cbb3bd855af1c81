/- Contracts of functions, for every argument that fits. -/
import Derived.Test.YtcmfnmceomhgcaaGreatC5
import Derived.Test.YtcmfnmceomhgcaaGreatAb4
set_option linter.unusedSimpArgs false
set_option linter.unusedVariables false
open Nat renaming reducePow → Y1, reduceLT → Y2, reduceLeDiff → Y3, reduceEqDiff → Y4, reduceAdd → Y5, reduceMul → Y6, reduceSub → Y7, reduceBEq → Y8, reduceDiv → Y9, reduceMod → YA
open Go.Ab.AS renaming start→P'
open Go.Ab.AV renaming bool→ZAf
open Go.IntKind renaming i64→Q_
open Int renaming toNat_zero→ZAe,reduceLT→ZAu,reduceLE→ZA6,lt_trichotomy→ZBn
open Nat renaming lt_of_le_of_lt→ZCz
open Rat renaming divInt→O_,mul_eq_zero→ZA5,mul_inv_cancel→ZCK
namespace Go.Ab.N
open Go Go.RowKit Go.Proofs
theorem t_:type_of%@congrArg:=@congrArg
theorem zY:type_of%@Rat.mul_nonneg:=@Rat.mul_nonneg
theorem ZAS:type_of%@Rat.div_def:=@Rat.div_def
theorem ZAy:type_of%@Rat.le_of_lt:=@Rat.le_of_lt
theorem ZA8:type_of%@Go.Ab.Sub.trans:=@Go.Ab.Sub.trans
theorem ZBG:type_of%@Rat.mul_pos:=@Rat.mul_pos
theorem ZCR:type_of%@Rat.le_refl:=@Rat.le_refl
theorem ZC1:type_of%@Nat.mod_self:=@Nat.mod_self
noncomputable section
set_option maxRecDepth 10000
set_option maxHeartbeats 2000000
open Classical
def V2.F' (a:V2):V2:=⟨-a.y,a.x⟩
theorem Cc (a:V2):vb a.F'=vb a:=by
 unfold vb V2.F';simp only[C4];omega
theorem Pn (a:V2)(ha:vb a≤rm):Fn Tryz.prog 215 [vA a] (vA a.F'):=by
 have:=Jc a;have c:=Jx a.y (by omega);obtain⟨R,hR⟩:∃R,R=vA a.F':=⟨_,rfl⟩
 have sR:A_ R:=hR▸Xx _;rw[←hR];refine Fq Tryz.call215 Tryz.func215 3 [] [] [] (by simp[wS]) (Xk ?_);simp(maxSteps:=999999)only[P',↓X6,wF,seval];refine X2 c rfl ?_;simp only[↓X6,wF,seval];exact At rfl JH rfl rfl rfl sR (hR.trans rfl)
theorem cI (L:List V2)(i:Nat)(hn:L.length<1000000)(h0:L.length≠0)(hi:i<1000000000):Fn Tryz.prog 153 [Qm L,I i] (vA (L.getD (i%L.length) v0)):=by
 obtain⟨R,hR⟩:∃R,R=vA (L.getD (i%L.length) v0):=⟨_,rfl⟩
 have sR:A_ R:=hR▸Xx _;have hm:(i:Int).tmod L.length=((i%L.length:Nat):Int):=rfl;have hml:i%L.length<L.length:=z_ _ (by omega);have f4:(i%L.length<L.length)=True:=K_ hml;have f5:(i%L.length*8+8≤L.length*8)=True:=K_ (by omega);have f6:((L.length:Int)=0)=False:=Q' (by omega);have f6':(L.length=0)=False:=Q' h0;have v1:=vF L (i%L.length);rw[←hR];refine Fq Tryz.call153 Tryz.func153 5 [] [] [] (by simp[Xq,X9]) (Xk ?_);simp only[P',X7,f4,f5,f6,f6',hm,v1,T_,↓X6,wF,seval];exact At rfl JH rfl rfl rfl sR (hR.trans rfl)
theorem Ft (L:List V2)(i:Nat)(hn:L.length<1000000)(hi:i<L.length):Fn Tryz.prog 58 [Qm L,I i] (vA (L.getD ((i+1)%L.length) v0)):=by
 obtain⟨R,hR⟩:∃R,R=vA (L.getD ((i+1)%L.length) v0):=⟨_,rfl⟩
 have sR:A_ R:=hR▸Xx _;have w1:=wj i (by omega);rw[←hR];refine Fq Tryz.call58 Tryz.func58 5 [] [] [] (by simp[Xq,X9]) (Xk ?_);by_cases h:i+1<L.length
 ·have e:(i+1)%L.length=i+1:=ZAB h
  have f1:(((i+1:Nat):Int)<L.length)=True:=K_ (by omega);have f1':(i+1<L.length)=True:=K_ h;have f2:((i+1)*8+8≤L.length*8)=True:=K_ (by omega);have v1:=vF L (i+1);rw[e]at hR;simp only[P',X7,w1,f1,f1',f2,v1,T_,↓X6,wF,seval];exact At rfl JH rfl rfl rfl sR (hR.trans rfl)
 ·have hl:i+1=L.length:=by omega
  have e:(i+1)%L.length=0:=by rw[hl,ZC1]
  have f1:(((i+1:Nat):Int)<L.length)=False:=Q' (by omega);have f1':(i+1<L.length)=False:=Q' h;have f2:(0<L.length)=True:=K_ (by omega);have f2':((0:Int)<L.length)=True:=K_ (by omega);have f3:(8≤L.length*8)=True:=K_ (by omega);have v1:=vF L 0;rw[ZAo]at v1;simp only[x_]at v1;rw[e]at hR;simp only[P',X7,w1,f1,f1',f2,f2',f3,v1,ZAe,↓X6,wF,seval];exact At rfl JH rfl rfl rfl sR (hR.trans rfl)
def fQ (a b:V2):Rat:=(a.x-b.x)*(a.y+b.y)
def Be (L:List V2):Nat→Rat
 |0=>0
 |i+1=>Be L i+fQ (L.getD i v0) (L.getD ((i+1)%L.length) v0)
def aq (L:List V2):Rat:=Be L L.length*O_ 1 2
theorem rL (a b:V2):qb (fQ a b)≤2*(vb a+vb b)+2:=by
 have:=Jk a;have:=Jk b;have:=Jc a;have:=Jc b;have m1:=BS a.x b.x;have m2:=A8 a.y b.y;have m3:=Qo (a.x-b.x) (a.y+b.y);unfold fQ;omega
theorem Uj (L:List V2)(k:Nat)(h:Qw L k):∀i,qb (Be L i)≤(4*k+4)*i+1
 |0=>by have:=Bz;simp only[Be];omega
 |i+1=>by
  have ih:=Uj L k h i;have h1:=rL (L.getD i v0) (L.getD ((i+1)%L.length) v0);have h2:=h i;have h3:=h ((i+1)%L.length);have h4:=A8 (Be L i) (fQ (L.getD i v0) (L.getD ((i+1)%L.length) v0));have e:(4*k+4)*(i+1)=(4*k+4)*i+(4*k+4):=Nat.mul_succ _ _;simp only[Be];omega
theorem Nz (L:List V2):∀i,i<L.length→Be L i=Bc L i+(L.getD 0 v0).x*(L.getD 0 v0).y-(L.getD i v0).x*(L.getD i v0).y
 |0,_=>by simp only[Be,Bc];grind
 |i+1,h=>by
  have ih:=Nz L i (by omega);have e:(i+1)%L.length=i+1:=ZAB h;simp only[Be,Bc,e,ih,fQ,Xr];grind
theorem Wl (L:List V2):aq L=Zu L:=by
 unfold aq Zu;congr 1;cases hn:L.length with
 |zero=>rfl
 |succ n =>
  have ih:=Nz L n (by omega);have e:(n+1)%L.length=0:=by rw[hn,ZC1]
  simp only[Be,Bc,e,ih,fQ,Xr];grind
theorem Nb (L:List V2)(k:Nat)(h:Qw L k)(hk:k≤1000)(hl:L.length≤1000):Fn Tryz.prog 155 [Qm L] (qA (Zu L)):=by
 rw[←Wl];obtain⟨R,hR⟩:∃R,R=qA (aq L):=⟨_,rfl⟩
 have sR:A_ R:=hR▸Xa _;have bv:J9 2 (Qm L)=True:=K_ (X4 (Xq L));have bT:∀i,XX 2 (.row 0 4 (Xf (qC (Be L i))))=True:=fun i=>K_ (QN (by simp[qC,Xc,X5]))
 rw[←hR];refine Fq Tryz.call155 Tryz.func155 6 [] [6,7000,70000005,7,80000003] [] (by simp[Xq]) (Xk ?_);simp only[P',X7,↓X6,wF,seval];refine Xi (fun i:Nat=>⟨6,[],[Qm L,.any,.ref 0 0 0,.ref 1 0 0,I i,.any],[],[Zp,.row 0 4 (Xf (qC (Be L i)))]⟩) (fun i=>i≤L.length) (fun i=>L.length-i) 0 (by omega)
  ?_ ?_
 ·refine ZA8 (Qh 1 (Xf (qC 0)) rfl fun j hj=>?_) (Xh rfl (by simp[Xm,X7,I]) (by simp[Xu,XJ]) (by simp[Zp,Be]))
  match j,hj with
  |0,_=>exact XC _ _
  |1,_=>exact Cd (ZV (by rw[ZB6];simp[Qu]))
  |2,_=>exact XC _ _
  |3,_=>exact Cd (ZV (N6 rfl))
  |j+4,h=>omega
 intro i hi next
 have w1:=wj i (by omega);have hq:=Uj L k h i;have hq2:(4*k+4)*i≤4004*1000:=ZAx (by omega) (by omega);by_cases hi2:i<L.length
 rotate_left
 ·obtain rfl:i=L.length:=by omega
  have c1:=XS 1 2 ⟨by omega,by omega⟩ ⟨by omega,by omega⟩;have c2:=QR (Be L L.length) (O_ 1 2) (by unfold rm;omega) (by have:=(Zk 1 2 3 (by omega) (ZZ ⟨by omega,by omega⟩) (ZZ ⟨by omega,by omega⟩):qb (O_ 1 2)≤3);unfold rm;omega);rw[show Be L L.length*O_ 1 2=aq L from rfl,←hR]at c2;refine Xk ?_;simp only[Zp,X7,ZAE,zZ,↓X6,wF,seval];refine X2 c1 rfl ?_;simp only[↓X6,wF,seval];refine X2 c2 rfl ?_;simp only[hR,↓X6,wF,seval];exact Jh rfl XY rfl rfl rfl sR (hR.trans rfl)
 have f1:((i:Int)<L.length)=True:=K_ (by omega);have f2:(i<L.length)=True:=K_ hi2;have f3:(i*8+8≤L.length*8)=True:=K_ (by omega);have f4:(i*8+4≤L.length*8)=True:=K_ (by omega);have f5:(i*8+4+4≤L.length*8)=True:=K_ (by omega);have v1:=vF L i;have cn:=Ft L i (by omega) hi2;obtain⟨b,hb⟩:∃b,b=L.getD ((i+1)%L.length) v0:=⟨_,rfl⟩
 have h1:=h i;have h2:=h ((i+1)%L.length);rw[←hb]at cn h2;have:=Jk (L.getD i v0);have:=Jc (L.getD i v0);have:=Jk b;have:=Jc b;have m1:=BS (L.getD i v0).x b.x;have m2:=A8 (L.getD i v0).y b.y;have m3:=Qo ((L.getD i v0).x-b.x) ((L.getD i v0).y+b.y);have c1:=Bm (L.getD i v0).x b.x (by unfold rm;omega) (by unfold rm;omega);have c2:=JU (L.getD i v0).y b.y (by unfold rm;omega) (by unfold rm;omega);have c3:=QR ((L.getD i v0).x-b.x) ((L.getD i v0).y+b.y) (by unfold rm;omega) (by unfold rm;omega);have c4:=JU (Be L i) (((L.getD i v0).x-b.x)*((L.getD i v0).y+b.y)) (by unfold rm;omega) (by unfold rm;omega);have e:Be L i+((L.getD i v0).x-b.x)*((L.getD i v0).y+b.y)=Be L (i+1):=by rw[hb];rfl
 rw[e]at c4;refine Xk ?_;simp only[Zp,X7,w1,f1,f2,f3,f4,f5,v1,T_,↓X6,wF,seval];refine X2 cn rfl ?_;simp only[Zp,X7,w1,f1,f2,f3,f4,f5,v1,T_,↓X6,wF,seval];refine X2 c1 rfl ?_;simp only[Zp,X7,w1,f1,f2,f3,f4,f5,v1,T_,↓X6,wF,seval];refine X2 c2 rfl ?_;simp only[Zp,X7,w1,f1,f2,f3,f4,f5,v1,T_,↓X6,wF,seval];refine X2 c3 rfl ?_;simp only[Zp,X7,w1,f1,f2,f3,f4,f5,v1,T_,↓X6,wF,seval];refine X2 c4 rfl ?_;simp only[Zp,X7,w1,f1,f2,f3,f4,f5,v1,T_,↓X6,wF,seval];refine next (i+1) _ (by omega) (by omega) (XD (m:=2) (p_ _) rfl (by simp[X7,Xm,I]) (by simp[Xu]) (by simp[Zp,qC,Xo]) (by simp[XK,bv]) (by simp) (by simp[Zp,XK,bT]))
def IF (p q r s:Rat):Bool:=decide (p<r) && decide (p<s) && decide (q<r) && decide (q<s)
def Za (n a b c d:V2):Bool:=IF (Qb n a) (Qb n b) (Qb n c) (Qb n d) || IF (Qb n c) (Qb n d) (Qb n a) (Qb n b)
theorem YW {p q r s fa fb fc fd:Rat}(h1:p*fd - q*fc=s*fa - r*fb)(h2:p - q=s - r)(hp:0<p)(hq:q<0)(hs:0<s)(hr:r<0)(k1:fa<fc)(k2:fa<fd)(k3:fb<fc)(k4:fb<fd):False:=by
 have pos:∀x,x<fc→x<fd→0<p*(fd-x)+(-q)*(fc-x):=fun x hx1 hx2=>by
  have:=ZBG hp (show 0<fd-x by grind);have:=ZBG (show 0 < -q by grind) (show 0<fc-x by grind);grind
 rcases Rat.le_total (a:=fa) (b:=fb)with h |h
 ·have h3:=pos fb k3 k4
  have h4:=zY (ZAy hs) (show 0≤fb-fa by grind);have e1:p*(fd-fb) + -q*(fc-fb)=(p*fd-q*fc)-(p-q)*fb:=by grind
  have e2:(s*fa-r*fb)-(s-r)*fb = -(s*(fb-fa)):=by grind
  rw[e1,h1,h2,e2]at h3;generalize s*(fb-fa)=z at h3 h4;grind
 ·have h3:=pos fa k1 k2
  have h4:=zY (show 0≤-r by grind) (show 0≤fa-fb by grind);have e1:p*(fd-fa) + -q*(fc-fa)=(p*fd-q*fc)-(p-q)*fa:=by grind
  have e2:(s*fa-r*fb)-(s-r)*fa = -(-r*(fa-fb)):=by grind
  rw[e1,h1,h2,e2]at h3;generalize -r*(fa-fb)=z at h3 h4;grind
theorem Br (x:Rat):0≤x*x:=by
 rcases Rat.le_total (a:=0) (b:=x)with h |h
 ·exact zY h h
 ·have:=zY (show 0≤-x by grind) (show 0≤-x by grind)
  grind
theorem Wd (n a b c d:V2)(k1:Qb n a<Qb n c)(k2:Qb n a<Qb n d)(k3:Qb n b<Qb n c)(k4:Qb n b<Qb n d):C3 a b c d=false:=by
 have h1:Xr (b.sub a) (c.sub a)*Qb n d-Xr (b.sub a) (d.sub a)*Qb n c=Xr (d.sub c) (b.sub c)*Qb n a-Xr (d.sub c) (a.sub c)*Qb n b:=by
  unfold Xr Qb V2.sub;grind
 have h2:Xr (b.sub a) (c.sub a)-Xr (b.sub a) (d.sub a)=Xr (d.sub c) (b.sub c)-Xr (d.sub c) (a.sub c):=by
  unfold Xr V2.sub;grind
 rw[←ZA2];intro h;unfold C3 Kz at h;simp only[w_,decide_eq_true_eq]at h;generalize Xr (b.sub a) (c.sub a)=p at h1 h2 h;generalize Xr (b.sub a) (d.sub a)=q at h1 h2 h;generalize Xr (d.sub c) (a.sub c)=r at h1 h2 h;generalize Xr (d.sub c) (b.sub c)=s at h1 h2 h;have sp:∀x y:Rat,x.num.sign*y.num.sign<0→(0<x∧y<0)∨(x<0∧0<y):=fun x y h=>by
  rw[←E7,←E7,←Hy,←Hy];rcases ZBn x.num.sign 0 with hx |hx |hx
  ·rcases ZBn y.num.sign 0 with hy |hy |hy
   ·have:=Int.mul_pos_of_neg_of_neg hx hy;omega
   ·rw[hy]at h;omega
   ·exact .inr ⟨hx,hy⟩
  ·rw[hx]at h;omega
  ·rcases ZBn y.num.sign 0 with hy |hy |hy
   ·exact .inl ⟨hx,hy⟩
   ·rw[hy]at h;omega
   ·have:=Int.mul_pos hx hy;omega
 rcases sp p q h.1 with⟨hp,hq⟩ | ⟨hp,hq⟩
 ·rcases sp r s h.2 with⟨hr,hs⟩ | ⟨hr,hs⟩
  ·grind
  ·exact YW h1 h2 hp hq hs hr k1 k2 k3 k4
 ·rcases sp r s h.2 with⟨hr,hs⟩ | ⟨hr,hs⟩
  ·exact YW (p:=-p) (q:=-q) (r:=-r) (s:=-s) (by grind) (by grind) (by grind) (by grind) (by grind) (by grind) k1 k2 k3 k4
  ·grind
theorem Wc (n a b c:V2)(k1:Qb n a<Qb n c)(k2:Qb n b<Qb n c):OV a b c=false:=by
 have hid:Qb (a.sub c) (b.sub c)*Qb n (a.sub c)-Qb (a.sub c) (a.sub c)*Qb n (b.sub c)=Xr (b.sub a) (c.sub a)*(n.x*(a.sub c).y-n.y*(a.sub c).x):=by
  unfold Qb Xr V2.sub;grind
 have ha:Qb n (a.sub c)<0:=by
  have:Qb n (a.sub c)=Qb n a-Qb n c:=by unfold Qb V2.sub;grind
  grind
 have hb:Qb n (b.sub c)<0:=by
  have:Qb n (b.sub c)=Qb n b-Qb n c:=by unfold Qb V2.sub;grind
  grind
 have hu:0<Qb (a.sub c) (a.sub c):=by
  have hx:=Br (a.sub c).x;have hy:=Br (a.sub c).y;have hne:¬Qb (a.sub c) (a.sub c)=0:=fun h=>by
   unfold Qb at h;have h1:(a.sub c).x*(a.sub c).x=0:=by grind
   have h2:(a.sub c).y*(a.sub c).y=0:=by grind
   have h3:(a.sub c).x=0:=by rcases ZA5.1 h1 with h |h <;> exact h
   have h4:(a.sub c).y=0:=by rcases ZA5.1 h2 with h |h <;> exact h
   unfold Qb at ha;rw[h3,h4]at ha;grind
  unfold Qb at hne ⊢;grind
 rw[←ZA2];intro h;unfold OV Kz at h;simp only[w_,decide_eq_true_eq,YZ]at h;obtain⟨h1,h2⟩:=h;rw[h1]at hid;have h2':Qb (a.sub c) (b.sub c)≤0:=by
  rw[←ZAW,←E7];omega
 have m1:=zY (show 0≤-Qb (a.sub c) (b.sub c)by grind) (show 0≤-Qb n (a.sub c)by grind);have m2:=ZBG hu (show 0 < -Qb n (b.sub c)by grind);grind
theorem YX (n a b c:V2)(k1:Qb n c<Qb n a)(k2:Qb n c<Qb n b):OV a b c=false :=
 Wc ⟨-n.x,-n.y⟩ a b c (by unfold Qb at *;grind) (by unfold Qb at *;grind)
theorem Pm (n a b c d:V2)(k1:Qb n a<Qb n c)(k2:Qb n a<Qb n d)(k3:Qb n b<Qb n c)(k4:Qb n b<Qb n d):A5 a b c d=false:=by
 unfold A5;rw[Wd n a b c d k1 k2 k3 k4,Wc n a b c k1 k3,Wc n a b d k2 k4,YX n c d a k1 k2,YX n c d b k3 k4];rfl
theorem NU (n a b c d:V2)(h:Za n a b c d=true):A5 a b c d=false:=by
 unfold Za IF at h;simp only[Bool.or_eq_true,w_,decide_eq_true_eq]at h;rcases h with⟨⟨⟨h1,h2⟩,h3⟩,h4⟩ | ⟨⟨⟨h1,h2⟩,h3⟩,h4⟩
 ·exact Pm n a b c d h1 h2 h3 h4
 ·exact Pm ⟨-n.x,-n.y⟩ a b c d (by unfold Qb at *;grind) (by unfold Qb at *;grind) (by unfold Qb at *;grind) (by unfold Qb at *;grind)
def El (a b c d:V2):Nat→V2
 |0=>(b.sub a).F'
 |1=>(d.sub c).F'
 |2=>b.sub a
 |3=>d.sub c
 |_=>c.sub a
def AY (a b c d:V2):Prop:=∀i,i<5→Za (El a b c d i) a b c d=false
theorem eK (a b c d:V2)(h:¬AY a b c d):A5 a b c d=false:=by
 unfold AY at h;simp only[Classical.not_forall]at h;obtain⟨i,_,h⟩:=h;exact NU _ a b c d (by simpa using h)
def Re (L:List V2)(i k:Nat):Prop:=1<(k+L.length-i)%L.length∧(k+L.length-i)%L.length<L.length-1∧AY (atF L i) (atF L (i+1)) (atF L k) (atF L (k+1))
def Yg (L:List V2)(i:Nat):Prop:=¬WK L i∧∀k,k<L.length→¬Re L i k
def ZQ (L:List V2):Prop:=(3≤L.length∧L.length≤12)∧(∀i,i<L.length→Yg L i)∧0<(Zu L).num.sign
theorem md (L:List V2)(h:ZQ L):AW L:=by
 obtain⟨h1,h2,h3⟩:=h;refine⟨h1,fun i hi=>⟨(h2 i hi).1,fun k hk1 hk2 hb=>?_⟩,h3⟩;have hg:=(h2 i hi).2 k hk2;have e:(k+L.length-i)%L.length=k-i:=by
  rw[show k+L.length-i=(k-i)+L.length by omega,Nat.add_mod_right,ZAB (by omega)]
 have hne:k-i<L.length-1:=by
  rcases Nat.lt_or_ge (k-i) (L.length-1)with h |h
  ·exact h
  ·exfalso
   have h1:k=L.length-1:=by omega
   have h2:i=0:=by omega
   have:(k+1)%L.length=0:=by rw[show k+1=L.length by omega,ZC1]
   exact hb.1 (by omega)
 have hm:¬AY (atF L i) (atF L (i+1)) (atF L k) (atF L (k+1)):=fun hm=>hg ⟨by omega,by omega,hm⟩
 have:=eK _ _ _ _ hm;rw[hb.2]at this;exact absurd this (by decide)
theorem V6 (n a b c d:V2)(hn:vb n≤vs)(ha:vb a≤vs)(hb:vb b≤vs)(hc:vb c≤vs)(hd:vb d≤vs):Fn Tryz.prog 216 [vA n,vA a,vA b,vA c,vA d] (.bool (Za n a b c d)):=by
 unfold vs at hn ha hb hc hd;have e1:=KF n a (by unfold vm;omega) (by unfold vm;omega);have e2:=KF n b (by unfold vm;omega) (by unfold vm;omega);have e3:=KF n c (by unfold vm;omega) (by unfold vm;omega);have e4:=KF n d (by unfold vm;omega) (by unfold vm;omega);have q1:=Zn n a;have q2:=Zn n b;have q3:=Zn n c;have q4:=Zn n d;obtain⟨V,hV⟩:∃V,V=Za n a b c d:=⟨_,rfl⟩
 rw[←hV];unfold Za at hV;generalize Qb n a=p at *;generalize Qb n b=q at *;generalize Qb n c=r at *;generalize Qb n d=s at *;have k1:=K9 p r (by unfold rm;omega) (by unfold rm;omega);have k2:=K9 p s (by unfold rm;omega) (by unfold rm;omega);have k3:=K9 q r (by unfold rm;omega) (by unfold rm;omega);have k4:=K9 q s (by unfold rm;omega) (by unfold rm;omega);obtain⟨LE,hLE⟩:∃LE,LE=IF p q r s:=⟨_,rfl⟩
 obtain⟨MO,hMO⟩:∃MO,MO=IF r s p q:=⟨_,rfl⟩
 rw[←hLE,←hMO]at hV;have hl:LE=(decide (AJ p r<0) && decide (AJ p s<0) && decide (AJ q r<0) && decide (AJ q s<0)):=by
  rw[hLE];unfold IF;rw[decide_eq_decide.2 (CP p r),decide_eq_decide.2 (CP p s),decide_eq_decide.2 (CP q r),decide_eq_decide.2 (CP q s)]
 have hm:MO=(decide (0<AJ p r) && decide (0<AJ p s) && decide (0<AJ q r) && decide (0<AJ q s)):=by
  rw[hMO];unfold IF;rw[decide_eq_decide.2 (Ap p r),decide_eq_decide.2 (Ap p s),decide_eq_decide.2 (Ap q r),decide_eq_decide.2 (Ap q s)];cases decide (r<p) <;> cases decide (r<q) <;> cases decide (s<p) <;> cases decide (s<q) <;> rfl
 have TEG:∀ (A B C D:Prop) [Decidable A] [Decidable B] [Decidable C] [Decidable D] (X:Bool),X=(decide A && decide B && decide C && decide D)→(X=false∧A=False∧True∧True∧True)∨(X=false∧A=True∧B=False∧True∧True)∨(X=false∧A=True∧B=True∧C=False∧True)∨(X=false∧A=True∧B=True∧C=True∧D=False)∨(X=true∧A=True∧B=True∧C=True∧D=True):=by
  intro A B C D _ _ _ _ X h;by_cases hA:A
  rotate_left
  ·exact .inl ⟨by rw[h,Y_ hA];rfl,Q' hA,trivial,trivial,trivial⟩
  by_cases hB:B
  rotate_left
  ·exact .inr (.inl ⟨by rw[h,Y' hA,Y_ hB];rfl,K_ hA,Q' hB,trivial,trivial⟩)
  by_cases hC:C
  rotate_left
  ·exact .inr (.inr (.inl ⟨by rw[h,Y' hA,Y' hB,Y_ hC];rfl,K_ hA,K_ hB,Q' hC,trivial⟩))
  by_cases hD:D
  rotate_left
  ·exact .inr (.inr (.inr (.inl ⟨by rw[h,Y' hA,Y' hB,Y' hC,Y_ hD];rfl,K_ hA,K_ hB,K_ hC,Q' hD⟩)))
  ·exact .inr (.inr (.inr (.inr ⟨by rw[h,Y' hA,Y' hB,Y' hC,Y' hD];rfl,K_ hA,K_ hB,K_ hC,K_ hD⟩)))
 have cl:=TEG _ _ _ _ _ hl;have cm:=TEG _ _ _ _ _ hm;clear TEG hl hm hLE hMO q1 q2 q3 q4 hn ha hb hc hd;have fin:∀ {s:AS} {v:Bool},s.get 10=.bool v→v=(LE || MO)→TAC (JK Tryz.prog Tryz.f216 [] [] (.bool V)) s:=fun h e=>Xp rfl h (X5 _) (by rw[e,hV])
 refine Fq Tryz.call216 Tryz.func216 17 [] [] [] (by simp[Xx]) (Xk ?_);simp only[P',↓X6,wF,seval];refine X2 e1 rfl ?_;simp only[↓X6,wF,seval];refine X2 e2 rfl ?_;simp only[↓X6,wF,seval];refine X2 e3 rfl ?_;simp only[↓X6,wF,seval];refine X2 e4 rfl ?_;simp only[↓X6,wF,seval];rcases cl with⟨hX,l1,l2,l3,l4⟩ | ⟨hX,l1,l2,l3,l4⟩ | ⟨hX,l1,l2,l3,l4⟩ | ⟨hX,l1,l2,l3,l4⟩ | ⟨hX,l1,l2,l3,l4⟩
 all_goals
  refine X2 k1 rfl ?_;simp only[l1,l2,l3,l4,↓X6,wF,seval]
  try(refine X2 k2 rfl ?_;simp only[l1,l2,l3,l4,↓X6,wF,seval])
  try(refine X2 k3 rfl ?_;simp only[l1,l2,l3,l4,↓X6,wF,seval])
  try(refine X2 k4 rfl ?_;simp only[l1,l2,l3,l4,↓X6,wF,seval])
  rcases cm with⟨hY,m1,m2,m3,m4⟩ | ⟨hY,m1,m2,m3,m4⟩ | ⟨hY,m1,m2,m3,m4⟩ | ⟨hY,m1,m2,m3,m4⟩ | ⟨hY,m1,m2,m3,m4⟩
  all_goals
   refine X2 k1 rfl ?_;simp only[l1,l2,l3,l4,m1,m2,m3,m4,↓X6,wF,seval]
   try(refine X2 k2 rfl ?_;simp only[l1,l2,l3,l4,m1,m2,m3,m4,↓X6,wF,seval])
   try(refine X2 k3 rfl ?_;simp only[l1,l2,l3,l4,m1,m2,m3,m4,↓X6,wF,seval])
   try(refine X2 k4 rfl ?_;simp only[l1,l2,l3,l4,m1,m2,m3,m4,↓X6,wF,seval])
   exact fin rfl (by rw[hX,hY];rfl)
end
end Go.Ab.N
namespace Go.Ab.N
open Go Go.RowKit Go.Proofs
noncomputable section
set_option maxRecDepth 10000
set_option maxHeartbeats 4000000
open Classical
theorem VH (a b c d:V2)(ha:vb a≤10000)(hb:vb b≤10000)(hc:vb c≤10000)(hd:vb d≤10000):Fn Tryz.prog 154 [vA a,vA b,vA c,vA d] (.bool (decide (AY a b c d))):=by
 have m1:=J3 b a;have m2:=J3 d c;have m3:=J3 c a;have u1:=Cc (b.sub a);have u2:=Cc (d.sub c);have c1:=J1 b a (by unfold rm;omega) (by unfold rm;omega);have c2:=J1 d c (by unfold rm;omega) (by unfold rm;omega);have c5:=J1 c a (by unfold rm;omega) (by unfold rm;omega);have c3:=Pn (b.sub a) (by unfold rm;omega);have c4:=Pn (d.sub c) (by unfold rm;omega);have hA:∀i,i<5→vb (El a b c d i)≤vs:=fun i hi=>by
  unfold vs
  match i,hi with
  |0,_=>show vb (b.sub a).F'≤_;omega
  |1,_=>show vb (d.sub c).F'≤_;omega
  |2,_=>show vb (b.sub a)≤_;omega
  |3,_=>show vb (d.sub c)≤_;omega
  |4,_=>show vb (c.sub a)≤_;omega
  |i+5,h=>omega
 have kb:∀i,i<5→Fn Tryz.prog 216 [vA (El a b c d i),vA a,vA b,vA c,vA d] (.bool (Za (El a b c d i) a b c d)):=fun i hi=>V6 _ a b c d (hA i hi) (by unfold vs;omega) (by unfold vs;omega) (by unfold vs;omega) (by unfold vs;omega)
 obtain⟨V,hV⟩:∃V,V=decide (AY a b c d):=⟨_,rfl⟩
 rw[←hV];unfold AY at hV;replace c1:Fn Tryz.prog 97 [vA b,vA a] (vA (El a b c d 2)):=c1;replace c2:Fn Tryz.prog 97 [vA d,vA c] (vA (El a b c d 3)):=c2;replace c3:Fn Tryz.prog 215 [vA (El a b c d 2)] (vA (El a b c d 0)):=c3;replace c4:Fn Tryz.prog 215 [vA (El a b c d 3)] (vA (El a b c d 1)):=c4;replace c5:Fn Tryz.prog 97 [vA c,vA a] (vA (El a b c d 4)):=c5;clear m1 m2 m3 u1 u2 hA ha hb hc hd;generalize hF:(fun i=>Za (El a b c d i) a b c d)=F at *;have hF':∀i,Za (El a b c d i) a b c d=F i:=fun i=>by rw[←hF]
 simp only[hF']at kb hV;clear hF hF';generalize El a b c d=A at *;have fin:∀ {s:AS} {v:Bool},s.get 8=.bool v→v=V→TAC (JK Tryz.prog Tryz.f154 [] [] (.bool V)) s:=fun h e=>Xp rfl h (X5 _) (by rw[e])
 have hvc:∀a:V2,∀x∈vC a,A_ x:=fun a=>by simp[vC,Xc,X5]
 have TFs:∀a:V2,XX 4 (.row 0 8 (Xf (vC a)))=True:=fun a=>K_ (QN (hvc a))
 have bel:J9 4 (.sl 5 40 (Xf (vC (A 0) ++ (vC (A 1) ++ (vC (A 2) ++ (vC (A 3) ++ vC (A 4)))))) true)=True:=K_ (X4 (QF fun j hj=>Xe (fun x hx=>by
  simp only[m_]at hx;rcases hx with h |h |h |h |h <;> exact hvc _ _ h) j))
 refine Fq Tryz.call154 Tryz.func154 13 [] [] [] (by simp[wS]) (Xk ?_);simp(maxSteps:=999999)only[P',↓X6,wA,↓reduceIte,reduceIte,reduceCtorEq,Y1,Y2,Y3,Y4,Y5,Y6,Y7,Y8,Y9,YA,wE];refine X2 c1 rfl ?_;simp only[↓X6,wA,↓reduceIte,reduceIte,reduceCtorEq,Y1,Y2,Y3,Y4,Y5,Y6,Y7,Y8,Y9,YA,wE];refine X2 c2 rfl ?_;simp only[↓X6,wA,↓reduceIte,reduceIte,reduceCtorEq,Y1,Y2,Y3,Y4,Y5,Y6,Y7,Y8,Y9,YA,wE];refine X2 c3 rfl ?_;simp only[↓X6,wA,↓reduceIte,reduceIte,reduceCtorEq,Y1,Y2,Y3,Y4,Y5,Y6,Y7,Y8,Y9,YA,wE];refine X2 c4 rfl ?_;simp only[↓X6,wA,↓reduceIte,reduceIte,reduceCtorEq,Y1,Y2,Y3,Y4,Y5,Y6,Y7,Y8,Y9,YA,wE];refine X2 c5 rfl ?_;simp only[↓X6,wA,↓reduceIte,reduceIte,reduceCtorEq,Y1,Y2,Y3,Y4,Y5,Y6,Y7,Y8,Y9,YA,wE];refine Xi (fun i:Nat=>⟨13,[],[.any,.any,.any,.any,.ref 0 0 0,.ref 1 0 0,.ref 2 0 0,.ref 3 0 0,.bool false,.any,.any,.sl 5 40 (Xf (vC (A 0) ++ (vC (A 1) ++ (vC (A 2) ++ (vC (A 3) ++ vC (A 4)))))) true,I i],[],[.row 0 8 (Xf (vC a)),.row 0 8 (Xf (vC b)),.row 0 8 (Xf (vC c)),.row 0 8 (Xf (vC d))]⟩) (fun i=>i≤5∧∀j,j<i→F j=false) (fun i=>5-i) 0 ⟨by omega,by omega⟩
  (mD (m:=4) (by simp[vC,Xo,Xm,I]) (by simp[vC,Xo]) (by simp[XK,bel]) (by simp[TFs])) ?_
 rintro i ⟨hi,hok⟩ next
 have w0:Q_.wrap (0+1)=1:=by decide
 have w1:Q_.wrap (1+1)=2:=by decide
 have w2:Q_.wrap (2+1)=3:=by decide
 have w3:Q_.wrap (3+1)=4:=by decide
 have w4:Q_.wrap (4+1)=5:=by decide
 have e0:((0:Nat):Int)=0:=rfl;have e1:((1:Nat):Int)=1:=rfl;have e2:((2:Nat):Int)=2:=rfl;have e3:((3:Nat):Int)=3:=rfl;have e4:((4:Nat):Int)=4:=rfl;have e5:((5:Nat):Int)=5:=rfl;have t1:(1:Int).toNat=1:=rfl;have t2:(2:Int).toNat=2:=rfl;have t3:(3:Int).toNat=3:=rfl;have t4:(4:Int).toNat=4:=rfl;by_cases hi5:i<5
 ·have k:=kb i hi5
  have TDj:i=0∨i=1∨i=2∨i=3∨i=4:=by omega
  by_cases hv:F i=true
  ·rw[hv]at k
   have hb:false=V:=by
    rw[hV,Y_];intro h;rw[h i hi5]at hv;cases hv
   rcases TDj with rfl |rfl |rfl |rfl |rfl
   all_goals
    refine Xk ?_;simp only[vC,g_,h_,e0,e1,e2,e3,e4,e5,t1,t2,t3,t4,w0,w1,w2,w3,w4,ZAu,ZA6,ZAe,↓X6,wA,↓reduceIte,reduceIte,reduceCtorEq,Y1,Y2,Y3,Y4,Y5,Y6,Y7,Y8,Y9,YA,wE];refine X2 k rfl ?_;simp only[↓X6,wA,↓reduceIte,reduceIte,reduceCtorEq,Y1,Y2,Y3,Y4,Y5,Y6,Y7,Y8,Y9,YA,wE];exact fin rfl hb
  rw[ZA2]at hv;rw[hv]at k;have nx:=next (i+1)
  rcases TDj with rfl |rfl |rfl |rfl |rfl
  all_goals
   refine Xk ?_;simp only[vC,g_,h_,e0,e1,e2,e3,e4,e5,t1,t2,t3,t4,w0,w1,w2,w3,w4,ZAu,ZA6,ZAe,↓X6,wA,↓reduceIte,reduceIte,reduceCtorEq,Y1,Y2,Y3,Y4,Y5,Y6,Y7,Y8,Y9,YA,wE];refine X2 k rfl ?_;simp only[w0,w1,w2,w3,w4,↓X6,wA,↓reduceIte,reduceIte,reduceCtorEq,Y1,Y2,Y3,Y4,Y5,Y6,Y7,Y8,Y9,YA,wE];refine nx _ ⟨by omega,fun j hj=>?_⟩ (by omega) (ZS (by simp[vC,Xo,Xm,I]) (by simp[vC,Xo]));rcases Nat.lt_succ_iff_lt_or_eq.1 hj with h |h
   ·exact hok j h
   ·rw[h];exact hv
 obtain rfl:i=5:=by omega
 refine Xk ?_;simp only[e5,ZAE,↓X6,wA,↓reduceIte,reduceIte,reduceCtorEq,Y1,Y2,Y3,Y4,Y5,Y6,Y7,Y8,Y9,YA,wE];exact fin rfl (by rw[hV,Y' hok])
theorem H9 (L:List V2)(k:Nat)(h:Qw L k)(hk:k≤100000)(hl:L.length<1000000):Fn Tryz.prog 85 [Qm L] (.bool true):=by
 have rv:∀r:Rat,qb r≤100000→Fn Tryz.prog 86 [qA r] (.bool true):=fun r hr=>by
  have h1:=RQ.TBV r;have:=C6 (RQ.of r) (by omega);rwa[Y' ⟨r,rfl⟩]at this
 refine Fq Tryz.call85 Tryz.func85 4 [] [] [] (by simp[Xq]) (Xk ?_);simp only[P',X7,↓X6,wA,↓reduceIte,reduceIte,reduceCtorEq,Y1,Y2,Y3,Y4,Y5,Y6,Y7,Y8,Y9,YA,wE];refine Xi (fun i:Nat=>⟨4,[],[Qm L,.any,.bool false,I i],[],[]⟩) (fun i=>i≤L.length) (fun i=>L.length-i) 0 (by omega)
  (ZS (by simp[X7,Xm,I]) rfl) ?_
 intro i hi next
 have w1:=wj i (by omega);by_cases hi2:i<L.length
 ·have f3:((i:Int)<L.length)=True:=K_ (by omega)
  have f4:(i<L.length)=True:=K_ hi2;have f5:(i*8+8≤L.length*8)=True:=K_ (by omega);have f6:(i*8+4≤L.length*8)=True:=K_ (by omega);have f7:(i*8+4+4≤L.length*8)=True:=K_ (by omega);have v1:=vF L i;have hx:=Jk (L.getD i v0);have hy:=Jc (L.getD i v0);have hb:=h i;refine Xk ?_;simp only[X7,w1,f3,f4,f5,f6,f7,v1,T_,↓X6,wA,↓reduceIte,reduceIte,reduceCtorEq,Y1,Y2,Y3,Y4,Y5,Y6,Y7,Y8,Y9,YA,wE];refine X2 (rv (L.getD i v0).x (by omega)) rfl ?_;simp only[X7,w1,f3,f4,f5,f6,f7,v1,T_,↓X6,wA,↓reduceIte,reduceIte,reduceCtorEq,Y1,Y2,Y3,Y4,Y5,Y6,Y7,Y8,Y9,YA,wE];refine X2 (rv (L.getD i v0).y (by omega)) rfl ?_;simp only[w1,↓X6,wA,↓reduceIte,reduceIte,reduceCtorEq,Y1,Y2,Y3,Y4,Y5,Y6,Y7,Y8,Y9,YA,wE];exact next (i+1) _ (by omega) (by omega) (ZS (by simp[X7,Xm,I]) rfl)
 obtain rfl:i=L.length:=by omega
 refine Xk ?_;simp only[X7,ZAE,zZ,↓X6,wA,↓reduceIte,reduceIte,reduceCtorEq,Y1,Y2,Y3,Y4,Y5,Y6,Y7,Y8,Y9,YA,wE];exact Xp rfl rfl (X5 _) rfl
theorem DV (L:List V2)(h:Qw L 1000)(hl:L.length<1000000):Fn Tryz.prog 71 [Qm L] (.bool (decide (ZQ L))):=by
 obtain⟨V,hV⟩:∃V,V=decide (ZQ L):=⟨_,rfl⟩
 have cn:=H9 L 1000 h (by omega) hl;rw[←hV];have fin:∀ {s:AS} {v:Bool},s.get 2=.bool v→v=V→TAC (JK Tryz.prog Tryz.f71 [] [] (.bool V)) s:=fun h e=>Xp rfl h (X5 _) (by rw[e])
 have sm:∀i,vb (atF L i)≤1000:=fun i=>h (i%L.length)
 refine Fq Tryz.call71 Tryz.func71 6 [] [] [] (by simp[Xq]) (Xk ?_);by_cases hlo:(L.length:Int)<3
 ·have f1:((L.length:Int)<3)=True:=K_ hlo
  have f1':(L.length<3)=True:=K_ (by omega);simp only[P',X7,f1,f1',↓X6,wF,seval];exact fin rfl (by rw[hV,Y_];unfold ZQ;omega)
 have f1:((L.length:Int)<3)=False:=Q' hlo;have f1':(L.length<3)=False:=Q' (by omega);by_cases hhi:(12:Int)<L.length
 ·have f2:((12:Int)<L.length)=True:=K_ hhi
  have f2':(12<L.length)=True:=K_ (by omega);simp only[P',X7,f1,f1',f2,f2',↓X6,wF,seval];exact fin rfl (by rw[hV,Y_];unfold ZQ;omega)
 have f2:((12:Int)<L.length)=False:=Q' hhi;have f2':(12<L.length)=False:=Q' (by omega);simp only[P',X7,f1,f1',f2,f2',↓X6,wF,seval];refine X2 cn rfl ?_;simp only[f1,f1',f2,f2',↓X6,wF,seval];have hn0:L.length≠0:=by omega
 refine Xi (fun i:Nat=>⟨6,[],[Qm L,.any,.bool false,I i,.any,.any],[],[]⟩) (fun i=>i≤L.length∧∀j,j<i→Yg L j) (fun i=>L.length-i) 0 ⟨by omega,by omega⟩
  (ZS (by simp[X7,Xm,I]) rfl) ?_
 rintro i ⟨hi,TBv⟩ next
 have w1:=wj i (by omega);have w2:Q_.wrap ((i:Int)+2)=((i+2:Nat):Int):=by rw[M'];omega
 by_cases hi2:i<L.length
 rotate_left
 ·obtain rfl:i=L.length:=by omega
  refine Xk ?_;simp only[X7,ZAE,zZ,↓X6,wF,seval];have ca:=Nb L 1000 h (by omega) (by omega);have cs:=Qz (Zu L) (by have:=(WD L 1000 h (by omega) (by omega)).2;unfold rm;omega);refine X2 ca rfl ?_;simp only[↓X6,wF,seval];refine X2 cs rfl ?_;simp only[↓X6,wF,seval];exact fin rfl (by rw[hV,decide_eq_decide];unfold ZQ;exact⟨fun h=>⟨by omega,TBv,h⟩,fun h=>h.2.2⟩)
 have TCG:∀j,j<L.length→atF L j=L.getD j v0:=fun j hj=>by unfold atF;rw[ZAB hj]
 have f3:((i:Int)<L.length)=True:=K_ (by omega);have f4:(i<L.length)=True:=K_ hi2;have f5:(i*8+8≤L.length*8)=True:=K_ (by omega);have v1:=vF L i;have cat:∀j:Nat,j<1000000000→Fn Tryz.prog 153 [Qm L,I j] (vA (atF L j)):=fun j hj=>cI L j hl hn0 hj
 have cs:=Tz (atF L i) (atF L (i+1)) (atF L (i+2)) (by have:=sm i;unfold vs;omega) (by have:=sm (i+1);unfold vs;omega) (by have:=sm (i+2);unfold vs;omega);refine Xk ?_;simp only[X7,w1,w2,f3,f4,f5,v1,T_,↓X6,wF,seval];refine X2 (cat (i+1) (by omega)) rfl ?_;simp only[X7,w1,w2,f3,f4,f5,v1,T_,↓X6,wF,seval];refine X2 (cat (i+2) (by omega)) rfl ?_;simp only[X7,w1,w2,f3,f4,f5,v1,T_,↓X6,wF,seval];have cs':=cs;rw[TCG i hi2]at cs';refine X2 cs' rfl ?_;by_cases hs:Kz (atF L i) (atF L (i+1)) (atF L (i+2))=0
 ·have g5:(Kz (L.getD i v0) (atF L (i+1)) (atF L (i+2))=0)=True:=K_ (by rw[←TCG i hi2];exact hs)
  simp only[g5,↓X6,wF,seval];exact fin rfl (by rw[hV,Y_];exact fun hp=>(hp.2.1 i hi2).1 hs)
 have g5:(Kz (L.getD i v0) (atF L (i+1)) (atF L (i+2))=0)=False:=Q' (by rw[←TCG i hi2];exact hs);simp only[g5,w1,w2,↓X6,wF,seval];refine Xi (fun k:Nat=>⟨6,[],[Qm L,.any,.bool false,I i,I k,.any],[],[]⟩) (fun k=>k≤L.length∧∀j,j<k→¬Re L i j) (fun k=>L.length-k) 0 ⟨by omega,by omega⟩
  (ZS (by simp[X7,Xm,I]) rfl) ?_
 rintro k ⟨hk,TB3⟩ TBE;have u1:=wj k (by omega);by_cases hk3:k<L.length
 rotate_left
 ·obtain rfl:k=L.length:=by omega
  refine Xk ?_;simp only[X7,ZAE,zZ,w1,↓X6,wF,seval];refine next (i+1) _ ⟨by omega,fun j hj=>?_⟩ (by omega) (ZS (by simp[X7,Xm,I]) rfl)
  by_cases hji:j<i
  ·exact TBv j hji
  ·obtain rfl:j=i:=by omega
   exact⟨hs,fun q hq=>TB3 q hq⟩
 have g3:((k:Int)<L.length)=True:=K_ (by omega);have g4:(k<L.length)=True:=K_ hk3;have h5:(k*8+8≤L.length*8)=True:=K_ (by omega);have v2:=vF L k;have f6:((L.length:Int)=0)=False:=Q' (by omega);have f6':(L.length=0)=False:=Q' hn0;have r1:Q_.wrap ((k:Int)-i)=(k:Int)-i:=by rw[M'];omega
 have r2:Q_.wrap ((k:Int)-i+L.length)=((k+L.length-i:Nat):Int):=by rw[M'];omega
 have r3:((k+L.length-i:Nat):Int).tmod L.length=(((k+L.length-i)%L.length:Nat):Int):=rfl;have r4:Q_.wrap ((L.length:Int)-1)=((L.length-1:Nat):Int):=by rw[M'];omega
 obtain⟨G,hG⟩:∃G,G=(k+L.length-i)%L.length:=⟨_,rfl⟩
 rw[←hG]at r3;have step:¬Re L i k→∀j,j<k+1→¬Re L i j:=fun hb j hj=>by
  by_cases hjk:j<k
  ·exact TB3 j hjk
  ·obtain rfl:j=k:=by omega
   exact hb
 by_cases q1:1<G
 rotate_left
 ·have q2:(1<G)=False:=Q' q1
  have q2':((1:Int)<(G:Int))=False:=Q' (by omega);refine Xk ?_;simp only[X7,w1,u1,g3,g4,f6,f6',r1,r2,r3,r4,q2,q2',↓X6,wF,seval];exact TBE (k+1) _ ⟨by omega,step fun hb=>q1 (by rw[hG];exact hb.1)⟩ (by omega) (ZS (by simp[X7,Xm,I]) rfl)
 have q2:(1<G)=True:=K_ q1;have q2':((1:Int)<(G:Int))=True:=K_ (by omega);by_cases q3:G<L.length-1
 rotate_left
 ·have q4:(G<L.length-1)=False:=Q' q3
  have q4':((G:Int)<((L.length-1:Nat):Int))=False:=Q' (by omega);refine Xk ?_;simp only[X7,w1,u1,g3,g4,f6,f6',r1,r2,r3,r4,q2,q2',q4,q4',↓X6,wF,seval];exact TBE (k+1) _ ⟨by omega,step fun hb=>q3 (by rw[hG];exact hb.2.1)⟩ (by omega) (ZS (by simp[X7,Xm,I]) rfl)
 have q4:(G<L.length-1)=True:=K_ q3;have q4':((G:Int)<((L.length-1:Nat):Int))=True:=K_ (by omega);have cm:=VH (atF L i) (atF L (i+1)) (atF L k) (atF L (k+1)) (by have:=sm i;omega) (by have:=sm (i+1);omega) (by have:=sm k;omega) (by have:=sm (k+1);omega);rw[TCG i hi2,TCG k hk3]at cm;refine Xk ?_;simp only[X7,w1,u1,f3,f4,f5,g3,g4,h5,f6,f6',r1,r2,r3,r4,q2,q2',q4,q4',v1,v2,T_,↓X6,wF,seval];refine X2 (cat (i+1) (by omega)) rfl ?_;simp only[X7,w1,u1,f3,f4,f5,g3,g4,h5,f6,f6',r1,r2,r3,r4,q2,q2',q4,q4',v1,v2,T_,↓X6,wF,seval];refine X2 (cat (k+1) (by omega)) rfl ?_;simp only[X7,w1,u1,f3,f4,f5,g3,g4,h5,f6,f6',r1,r2,r3,r4,q2,q2',q4,q4',v1,v2,T_,↓X6,wF,seval];refine X2 cm rfl ?_;by_cases hmt:AY (L.getD i v0) (atF L (i+1)) (L.getD k v0) (atF L (k+1))
 ·rw[Y' hmt]
  simp only[↓X6,wF,seval];exact fin rfl (by rw[hV,Y_];exact fun hp=>(hp.2.1 i hi2).2 k hk3 ⟨by omega,by omega,by rw[TCG i hi2,TCG k hk3];exact hmt⟩)
 ·rw[Y_ hmt]
  simp only[u1,↓X6,wF,seval];exact TBE (k+1) _ ⟨by omega,step fun hb=>hmt (by have:=hb.2.2;rwa[TCG i hi2,TCG k hk3]at this)⟩ (by omega) (ZS (by simp[X7,Xm,I]) rfl)
theorem K2 (n m:Int)(hn:ZO n)(hm:m≠0):Fn Tryz.prog 21 [I n,I m] (I (XA n m)):=by
 obtain⟨h1,h2⟩:=hn;refine Fq Tryz.call21 Tryz.func21 5 [] [] [] (by simp[wS]) (Xk ?_);simp(maxSteps:=999999)only[P',↓X6,wF,seval];refine⟨fun h=>⟨hm,A9 rfl (XU (X9 _) ?_)⟩,fun h=>⟨hm,A9 rfl (XU (X9 _) ?_)⟩⟩
 ·have e1:Q_.wrap (n+1)=n+1:=by rw[M'];omega
  have e2:Q_.wrap (-(n+1)) = -(n+1):=by rw[M'];omega
  simp[AS.get,XA,h,e1,e2,I]
 ·simp[AS.get,XA,h,I]
theorem JY (l:List Int)(i m:Int)(hl:FR l)(hm:m≠0):Fn Tryz.prog 32 [X8 l,I i,I m] (I (Ab.atF l i m)):=by
 refine Fq Tryz.call32 Tryz.func32 7 [] [] [] (by simp[Xc,X9]) (Xk ?_);by_cases h0:i<0
 ·have f1:(i<0)=True:=K_ h0
  simp only[P',Xo,f1,↓X6,wF,seval];exact Xp (v:=I 0) rfl rfl (X9 _) (by rw[show Ab.atF l i m=0 from N_ (.inl h0)])
 have f1:(i<0)=False:=Q' h0;by_cases h1:(l.length:Int)≤i
 ·have f2:((l.length:Int)≤i)=True:=K_ h1
  simp only[P',Xo,f1,f2,↓X6,wF,seval];exact Xp (v:=I 0) rfl rfl (X9 _) (by rw[show Ab.atF l i m=0 from N_ (.inr h1)])
 have f2:((l.length:Int)≤i)=False:=Q' h1;have f3:(0≤i)=True:=K_ (by omega);have f4:(i<(l.length:Int))=True:=K_ (by omega);have f5:(i.toNat<l.length)=True:=K_ (by omega);simp only[P',Xo,f1,f2,f3,f4,f5,↓X6,wF,seval];refine X2 (K2 _ m (io hl i.toNat) hm) rfl ?_;simp only[↓X6,wF,seval];exact Xp (v:=I (XA (l.getD i.toNat 0) m)) rfl rfl (X9 _) (by rw[show Ab.atF l i m=XA (l.getD i.toNat 0) m from M_ (by omega)])
theorem Ha {a:Rat}(h:qb a≤rm):(RQ.of a).sz<4611686018427387904:=ZCz (RQ.TBV a) (by unfold rm at h;omega)
theorem ms (a b:Rat)(ha:qb a≤rm)(hb:qb b≤rm):Fn Tryz.prog 39 [qA a,qA b] (.bool (decide (a=b))):=by
 have:=mu (RQ.of a) (RQ.of b) (Ha ha) (Ha hb);rwa[decide_eq_decide.2 (show RQ.of a=RQ.of b↔a=b from⟨RQ.TCh,fun h=>by rw[h]⟩)]at this
theorem Pb (a b:Rat)(ha:qb a≤rm)(hb:qb b≤rm):Fn Tryz.prog 26 [qA a,qA b] (.bool (decide (a=b))):=by
 have:=Pl (RQ.of a) (RQ.of b) (Ha ha) (Ha hb);rwa[decide_eq_decide.2 (show RQ.of a=RQ.of b↔a=b from⟨RQ.TCh,fun h=>by rw[h]⟩)]at this
theorem Ct (a:Rat)(ha:qb a≤rm):Fn Tryz.prog 86 [qA a] (.bool true):=by
 have:=C6 (RQ.of a) (ZCz (RQ.TBV a) (by unfold rm at ha;omega));rwa[Y' ⟨a,rfl⟩]at this
def tI (t a:V2):V2:=⟨t.x*a.x-t.y*a.y,t.y*a.x+t.x*a.y⟩
def V2.scale (a:V2)(k:Rat):V2:=⟨a.x*k,a.y*k⟩
theorem nn (t a:V2):vb (tI t a)≤2*(vb t+vb a)+1:=by
 have:=Qo t.x a.x;have:=Qo t.y a.y;have:=Qo t.y a.x;have:=Qo t.x a.y;have:=Jk t;have:=Jc t;have:=Jk a;have:=Jc a;have:=BS (t.x*a.x) (t.y*a.y);have:=A8 (t.y*a.x) (t.x*a.y);unfold tI;show max (qb (t.x*a.x-t.y*a.y)) (qb (t.y*a.x+t.x*a.y))≤_;omega
theorem Un (a:V2)(k:Rat):vb (a.scale k)≤vb a+qb k:=by
 have:=Qo a.x k;have:=Qo a.y k;have:=Jk a;have:=Jc a;unfold V2.scale;show max (qb (a.x*k)) (qb (a.y*k))≤_;omega
theorem V2.ext' {a b:V2}:a=b↔a.x=b.x∧a.y=b.y:=by
 cases a;cases b;simp
theorem r8 (a b:V2)(ha:vb a≤vm)(hb:vb b≤vm):Fn Tryz.prog 66 [vA a,vA b] (.bool (decide (a=b))):=by
 unfold vm at ha hb;have:=Jk a;have:=Jk b;have:=Jc a;have:=Jc b;have c1:=ms a.x b.x (by unfold rm;omega) (by unfold rm;omega);have c2:=ms a.y b.y (by unfold rm;omega) (by unfold rm;omega);obtain⟨V,hV⟩:∃V,V=decide (a=b):=⟨_,rfl⟩
 rw[←hV];refine Fq Tryz.call66 Tryz.func66 5 [] [] [] (by simp[wS]) (Xk ?_);simp(maxSteps:=999999)only[P',↓X6,wF,seval];refine X2 c1 rfl ?_;by_cases h:a.x=b.x
 ·rw[Y' h]
  simp only[↓X6,wF,seval];refine X2 c2 rfl ?_;simp only[↓X6,wF,seval];exact Xp (v:=.bool (decide (a.y=b.y))) rfl rfl (X5 _) (by rw[hV];exact t_ ZAf (decide_eq_decide.2 (show a.y=b.y↔a=b from⟨fun e=>V2.ext'.2 ⟨h,e⟩,fun e=>(V2.ext'.1 e).2⟩)))
 ·rw[Y_ h]
  simp only[↓X6,wF,seval];exact Xp (v:=.bool false) rfl rfl (X5 _) (by rw[hV,Y_ (p:=a=b) fun e=>h (by rw[e])])
theorem YE (a b:V2)(ha:vb a≤vm)(hb:vb b≤vm):Fn Tryz.prog 195 [vA a,vA b] (vA (a.add b)):=by
 unfold vm at ha hb;obtain⟨R,hR⟩:∃R,R=vA (a.add b):=⟨_,rfl⟩
 have sR:A_ R:=hR▸Xx _;have:=Jk a;have:=Jk b;have:=Jc a;have:=Jc b;have c1:=C5 a.x b.x (by unfold rm;omega) (by unfold rm;omega);have c2:=C5 a.y b.y (by unfold rm;omega) (by unfold rm;omega);rw[←hR];refine Fq Tryz.call195 Tryz.func195 5 [] [] [] (by simp[wS]) (Xk ?_);simp(maxSteps:=999999)only[P',↓X6,wF,seval];refine X2 c1 rfl ?_;simp only[↓X6,wF,seval];refine X2 c2 rfl ?_;simp only[↓X6,wF,seval];exact At rfl JH rfl rfl rfl sR (hR.trans rfl)
theorem P7 (a:V2)(k:Rat)(ha:vb a≤vm)(hk:qb k≤vm):Fn Tryz.prog 196 [vA a,qA k] (vA (a.scale k)):=by
 unfold vm at ha hk;obtain⟨R,hR⟩:∃R,R=vA (a.scale k):=⟨_,rfl⟩
 have sR:A_ R:=hR▸Xx _;have:=Jk a;have:=Jc a;have c1:=B5 a.x k (by unfold rm;omega) (by unfold rm;omega);have c2:=B5 a.y k (by unfold rm;omega) (by unfold rm;omega);rw[←hR];refine Fq Tryz.call196 Tryz.func196 5 [] [] [] (by simp[wS]) (Xk ?_);simp(maxSteps:=999999)only[P',↓X6,wF,seval];refine X2 c1 rfl ?_;simp only[↓X6,wF,seval];refine X2 c2 rfl ?_;simp only[↓X6,wF,seval];exact At rfl JH rfl rfl rfl sR (hR.trans rfl)
theorem W2 (a b:V2)(ha:vb a≤vm)(hb:vb b≤vm):Fn Tryz.prog 72 [vA a,vA b] (.bool (decide (a=b))):=by
 unfold vm at ha hb;have:=Jk a;have:=Jk b;have:=Jc a;have:=Jc b;have c1:=Pb a.x b.x (by unfold rm;omega) (by unfold rm;omega);have c2:=Pb a.y b.y (by unfold rm;omega) (by unfold rm;omega);obtain⟨V,hV⟩:∃V,V=decide (a=b):=⟨_,rfl⟩
 rw[←hV];refine Fq Tryz.call72 Tryz.func72 5 [] [] [] (by simp[wS]) (Xk ?_);simp(maxSteps:=999999)only[P',↓X6,wF,seval];refine X2 c1 rfl ?_;by_cases h:a.x=b.x
 ·rw[Y' h]
  simp only[↓X6,wF,seval];refine X2 c2 rfl ?_;simp only[↓X6,wF,seval];exact Xp (v:=.bool (decide (a.y=b.y))) rfl rfl (X5 _) (by rw[hV];exact t_ ZAf (decide_eq_decide.2 (show a.y=b.y↔a=b from⟨fun e=>V2.ext'.2 ⟨h,e⟩,fun e=>(V2.ext'.1 e).2⟩)))
 ·rw[Y_ h]
  simp only[↓X6,wF,seval];exact Xp (v:=.bool false) rfl rfl (X5 _) (by rw[hV,Y_ (p:=a=b) fun e=>h (by rw[e])])
theorem Jw (a b:V2)(ha:vb a≤vm)(hb:vb b≤vm):Fn Tryz.prog 36 [vA a,vA b] (vA (a.add b)):=by
 unfold vm at ha hb;obtain⟨R,hR⟩:∃R,R=vA (a.add b):=⟨_,rfl⟩
 have sR:A_ R:=hR▸Xx _;have:=Jk a;have:=Jk b;have:=Jc a;have:=Jc b;have c1:=JU a.x b.x (by unfold rm;omega) (by unfold rm;omega);have c2:=JU a.y b.y (by unfold rm;omega) (by unfold rm;omega);rw[←hR];refine Fq Tryz.call36 Tryz.func36 5 [] [] [] (by simp[wS]) (Xk ?_);simp(maxSteps:=999999)only[P',↓X6,wF,seval];refine X2 c1 rfl ?_;simp only[↓X6,wF,seval];refine X2 c2 rfl ?_;simp only[↓X6,wF,seval];exact At rfl JH rfl rfl rfl sR (hR.trans rfl)
theorem AZ (a:V2)(k:Rat)(ha:vb a≤vm)(hk:qb k≤vm):Fn Tryz.prog 37 [vA a,qA k] (vA (a.scale k)):=by
 unfold vm at ha hk;obtain⟨R,hR⟩:∃R,R=vA (a.scale k):=⟨_,rfl⟩
 have sR:A_ R:=hR▸Xx _;have:=Jk a;have:=Jc a;have c1:=QR a.x k (by unfold rm;omega) (by unfold rm;omega);have c2:=QR a.y k (by unfold rm;omega) (by unfold rm;omega);rw[←hR];refine Fq Tryz.call37 Tryz.func37 5 [] [] [] (by simp[wS]) (Xk ?_);simp(maxSteps:=999999)only[P',↓X6,wF,seval];refine X2 c1 rfl ?_;simp only[↓X6,wF,seval];refine X2 c2 rfl ?_;simp only[↓X6,wF,seval];exact At rfl JH rfl rfl rfl sR (hR.trans rfl)
theorem O4 (t a:V2)(ht:vb t≤vm)(ha:vb a≤vm):Fn Tryz.prog 139 [vA t,vA a] (vA (tI t a)):=by
 unfold vm at ht ha;obtain⟨R,hR⟩:∃R,R=vA (tI t a):=⟨_,rfl⟩
 have sR:A_ R:=hR▸Xx _;have:=Jk t;have:=Jc t;have:=Jk a;have:=Jc a;have m1:=Qo t.x a.x;have m2:=Qo t.y a.y;have m3:=Qo t.y a.x;have m4:=Qo t.x a.y;have c1:=QR t.x a.x (by unfold rm;omega) (by unfold rm;omega);have c2:=QR t.y a.y (by unfold rm;omega) (by unfold rm;omega);have c4:=Bm (t.x*a.x) (t.y*a.y) (by unfold rm;omega) (by unfold rm;omega);have c5:=QR t.y a.x (by unfold rm;omega) (by unfold rm;omega);have c6:=QR t.x a.y (by unfold rm;omega) (by unfold rm;omega);have c7:=JU (t.y*a.x) (t.x*a.y) (by unfold rm;omega) (by unfold rm;omega);rw[←hR];refine Fq Tryz.call139 Tryz.func139 7 [] [1,20000002,20000003,2,30000002,30000003] [] (by simp[wS]) (Xk ?_);simp(maxSteps:=999999)only[P',↓X6,wF,seval];refine X2 c1 rfl ?_;simp only[↓X6,wF,seval];refine X2 c2 rfl ?_;simp only[↓X6,wF,seval];refine X2 c4 rfl ?_;simp only[↓X6,wF,seval];refine X2 c5 rfl ?_;simp only[↓X6,wF,seval];refine X2 c6 rfl ?_;simp only[↓X6,wF,seval];refine X2 c7 rfl ?_;simp only[↓X6,wF,seval];exact At rfl JH rfl rfl rfl sR (hR.trans rfl)
end
end Go.Ab.N
namespace Go.Ab.N
open Go Go.RowKit Go.Proofs
set_option maxRecDepth 10000
set_option maxHeartbeats 4000000
structure GG where
 p:V2
 q:V2
 n:V2
 force:Rat
 E_:Rat
structure BB where
 c:V2
 TAX:Rat
 TAJ:Rat
 TAB:Rat
def CY (a:Rat):Rat:=if a<0 then -a else a
def QM (n:V2):Rat:=CY n.x+CY n.y
structure okP (b:BB)(g:GG)(a0 c0 a1 c1 k:Rat):Prop where
 n0:0≤a0
 n1:0≤a1
 r0:c0≤g.E_*a0
 r1:c1≤g.E_*a1
 s0:-c0≤g.E_*a0
 s1:-c1≤g.E_*a1
 f0:QM g.n*a0≤g.force
 f1:QM g.n*a1≤g.force
 st:QM g.n*a0+QM g.n*a1≤b.TAB
 k0:0≤k
 k1:k≤16
 ex:g.n.x*a0 + -g.n.y*c0-g.n.x*a1 - -g.n.y*c1=0
 ey:g.n.y*a0+g.n.x*c0-g.n.y*a1-g.n.x*c1-b.TAJ*k=0
 et:Xr (g.p.sub b.c) g.n*a0+Xr (g.p.sub b.c) ⟨-g.n.y,g.n.x⟩*c0-Xr (g.q.sub b.c) g.n*a1-Xr (g.q.sub b.c) ⟨-g.n.y,g.n.x⟩*c1=0
def kM (b:BB)(g:GG)(k:Rat):Prop:=(∃a0 c0 a1 c1,okP b g a0 c0 a1 c1 k)∧∀a0 c0 a1 c1 k',okP b g a0 c0 a1 c1 k'→k'≤k
theorem kN {b:BB}{g:GG}{k k':Rat}(h:kM b g k)(h':kM b g k'):k=k':=by
 obtain⟨⟨a,c,d,e,h1⟩,h2⟩:=h;obtain⟨⟨a',c',d',e',h3⟩,h4⟩:=h';exact Rat.le_antisymm (h4 _ _ _ _ _ h1) (h2 _ _ _ _ _ h3)
end Go.Ab.N
namespace Go.Ab.N
open Go Go.RowKit Go.Proofs
noncomputable section
set_option maxRecDepth 10000
set_option maxHeartbeats 4000000
open Classical
def Ig (m n:V2):Prop:=Xr m n=0∧Qb m n<0
theorem BC (a:Rat):a.num.sign<0↔a<0:=Hy a
theorem Cz (a:Rat):a.num.sign=0↔a=0:=YZ a
theorem Rw (a:Rat):0<a.num.sign↔0<a:=E7 a
theorem Ik (a:Rat):qb (CY a)=qb a:=by unfold CY;split;exact Cs a;rfl
theorem SQ (a:Rat):Fn Tryz.prog 213 [qA a] (qA (CY a)):=by
 have c1:=Qv a;have c2:=Z6 a;have s1:=BC a;obtain⟨R,hR⟩:∃R,R=qA (CY a):=⟨_,rfl⟩
 have sR:A_ R:=hR▸Xa _;rw[←hR];unfold CY at hR;by_cases h:a<0
 ·rw[N_ h]at hR
  have f:=s1.2 h;refine Fq Tryz.call213 Tryz.func213 3 [] [] [] (by simp[wS]) (Xk ?_);simp(maxSteps:=999999)only[P',↓X6,wF,seval];refine X2 c1 rfl ?_;simp(disch:=omega)only[f,qA,qC,↓Xd,wG,seval];refine X2 c2 rfl ?_;simp(disch:=omega)only[qA,qC,↓Xd,wG,seval];exact Jh rfl XY rfl rfl rfl sR (hR.trans rfl)
 ·rw[M_ h]at hR
  have f:¬a.num.sign<0:=fun g=>h (s1.1 g)
  refine Fq Tryz.call213 Tryz.func213 3 [] [] [] (by simp[wS]) (Xk ?_);simp(maxSteps:=999999)only[P',↓X6,wF,seval];refine X2 c1 rfl ?_;simp(disch:=omega)only[f,qA,qC,↓Xd,wG,seval];exact Jh rfl XY rfl rfl rfl sR (hR.trans rfl)
theorem TM (a:Rat)(ha:qb a≤rm):Fn Tryz.prog 92 [qA a] (qA (CY a)):=by
 have c1:=Qz a ha;have c2:=Jx a ha;have s1:=BC a;obtain⟨R,hR⟩:∃R,R=qA (CY a):=⟨_,rfl⟩
 have sR:A_ R:=hR▸Xa _;rw[←hR];unfold CY at hR;by_cases h:a<0
 ·rw[N_ h]at hR
  have f:=s1.2 h;refine Fq Tryz.call92 Tryz.func92 3 [] [] [] (by simp[wS]) (Xk ?_);simp(maxSteps:=999999)only[P',↓X6,wF,seval];refine X2 c1 rfl ?_;simp(disch:=omega)only[f,qA,qC,↓Xd,wG,seval];refine X2 c2 rfl ?_;simp(disch:=omega)only[qA,qC,↓Xd,wG,seval];exact Jh rfl XY rfl rfl rfl sR (hR.trans rfl)
 ·rw[M_ h]at hR
  have f:¬a.num.sign<0:=fun g=>h (s1.1 g)
  refine Fq Tryz.call92 Tryz.func92 3 [] [] [] (by simp[wS]) (Xk ?_);simp(maxSteps:=999999)only[P',↓X6,wF,seval];refine X2 c1 rfl ?_;simp(disch:=omega)only[f,qA,qC,↓Xd,wG,seval];exact Jh rfl XY rfl rfl rfl sR (hR.trans rfl)
theorem ME (n:V2)(hn:vb n≤rm):Fn Tryz.prog 146 [vA n] (qA (QM n)):=by
 have:=Jk n;have:=Jc n;have c1:=SQ n.x;have c2:=SQ n.y;have c3:=C5 (CY n.x) (CY n.y) (by rw[Ik];omega) (by rw[Ik];omega);obtain⟨R,hR⟩:∃R,R=qA (QM n):=⟨_,rfl⟩
 have sR:A_ R:=hR▸Xa _;rw[←hR];refine Fq Tryz.call146 Tryz.func146 3 [] [] [] (by simp[wS]) (Xk ?_);simp(maxSteps:=999999)only[P',↓X6,wF,seval];refine X2 c1 rfl ?_;simp(disch:=omega)only[↓Xd,wG,seval];refine X2 c2 rfl ?_;simp(disch:=omega)only[↓Xd,wG,seval];refine X2 c3 rfl ?_;simp(disch:=omega)only[qA,qC,↓Xd,wG,seval];exact Jh rfl XY rfl rfl rfl sR (hR.trans rfl)
theorem W4 (n:V2)(hn:vb n≤rm):Fn Tryz.prog 94 [vA n] (qA (QM n)):=by
 have:=Jk n;have:=Jc n;have c1:=TM n.x (by omega);have c2:=TM n.y (by omega);have c3:=JU (CY n.x) (CY n.y) (by rw[Ik];omega) (by rw[Ik];omega);obtain⟨R,hR⟩:∃R,R=qA (QM n):=⟨_,rfl⟩
 have sR:A_ R:=hR▸Xa _;rw[←hR];refine Fq Tryz.call94 Tryz.func94 3 [] [] [] (by simp[wS]) (Xk ?_);simp(maxSteps:=999999)only[P',↓X6,wF,seval];refine X2 c1 rfl ?_;simp(disch:=omega)only[↓Xd,wG,seval];refine X2 c2 rfl ?_;simp(disch:=omega)only[↓Xd,wG,seval];refine X2 c3 rfl ?_;simp(disch:=omega)only[qA,qC,↓Xd,wG,seval];exact Jh rfl XY rfl rfl rfl sR (hR.trans rfl)
theorem SO (n:V2):Fn Tryz.prog 165 [vA n] (vA n.F'):=by
 have c1:=Z6 n.y;obtain⟨R,hR⟩:∃R,R=vA n.F':=⟨_,rfl⟩
 have sR:A_ R:=hR▸Xx _;rw[←hR];refine Fq Tryz.call165 Tryz.func165 3 [] [] [] (by simp[wS]) (Xk ?_);simp(maxSteps:=999999)only[P',↓X6,wF,seval];refine X2 c1 rfl ?_;simp(disch:=omega)only[qA,qC,↓Xd,wG,seval];exact At rfl JH rfl rfl rfl sR (hR.trans rfl)
theorem IP (n:V2)(hn:vb n≤rm):Fn Tryz.prog 61 [vA n] (vA n.F'):=by
 have:=Jc n;have c1:=Jx n.y (by omega);obtain⟨R,hR⟩:∃R,R=vA n.F':=⟨_,rfl⟩
 have sR:A_ R:=hR▸Xx _;rw[←hR];refine Fq Tryz.call61 Tryz.func61 3 [] [] [] (by simp[wS]) (Xk ?_);simp(maxSteps:=999999)only[P',↓X6,wF,seval];refine X2 c1 rfl ?_;simp(disch:=omega)only[qA,qC,↓Xd,wG,seval];exact At rfl JH rfl rfl rfl sR (hR.trans rfl)
theorem Yh (m n:V2)(hm:vb m≤vm)(hn:vb n≤vm):Fn Tryz.prog 69 [vA m,vA n] (.bool (decide (Ig m n))):=by
 have c1:=Bj m n hm hn;have c2:=DR m n hm hn;have c3:=Qv (Xr m n);have c4:=Qv (Qb m n);have s3:=Cz (Xr m n);have s4:=BC (Qb m n);obtain⟨b,hb⟩:∃b,b=decide (Ig m n):=⟨_,rfl⟩
 rw[←hb];generalize (Xr m n).num.sign=x at *;generalize (Qb m n).num.sign=y at *;by_cases h:Xr m n=0
 ·have e3:x=0:=s3.2 h
  have e4:b=decide (y<0):=by
   rw[hb];by_cases hy:y<0
   ·rw[Y' hy];exact Y' ⟨h,s4.1 hy⟩
   ·rw[Y_ hy];exact Y_ fun g=>hy (s4.2 g.2)
  refine Fq Tryz.call69 Tryz.func69 5 [] [] [] (by simp[wS]) (Xk ?_);simp(maxSteps:=999999)only[P',↓X6,wF,seval];refine X2 c1 rfl ?_;simp(disch:=omega)only[qA,qC,↓Xd,wG,seval];refine X2 c3 rfl ?_;simp(disch:=omega)only[e3,qA,qC,↓Xd,wG,seval];refine X2 c2 rfl ?_;simp(disch:=omega)only[qA,qC,↓Xd,wG,seval];refine X2 c4 rfl ?_;simp(disch:=omega)only[↓Xd,wG,seval];exact Xp rfl rfl (X5 _) (t_ ZAf e4.symm)
 ·have e3:¬x=0:=fun g=>h (s3.1 g)
  have e4:b=false:=by rw[hb];exact Y_ fun g=>h g.1
  refine Fq Tryz.call69 Tryz.func69 5 [] [] [] (by simp[wS]) (Xk ?_);simp(maxSteps:=999999)only[P',↓X6,wF,seval];refine X2 c1 rfl ?_;simp(disch:=omega)only[qA,qC,↓Xd,wG,seval];refine X2 c3 rfl ?_;simp(disch:=omega)only[e3,↓Xd,wG,seval];exact Xp rfl rfl (X5 _) (t_ ZAf e4.symm)
theorem rn (m n:V2)(hm:vb m≤1000000)(hn:vb n≤1000000):Fn Tryz.prog 74 [vA m,vA n] (.bool (decide (Ig m n))):=by
 have q1:=Kv m n;have q2:=Zn m n;have c1:=Z4 m n (by unfold vm;omega) (by unfold vm;omega);have c2:=KF m n (by unfold vm;omega) (by unfold vm;omega);have c3:=Qz (Xr m n) (by unfold rm;omega);have c4:=Qz (Qb m n) (by unfold rm;omega);have s3:=Cz (Xr m n);have s4:=BC (Qb m n);obtain⟨b,hb⟩:∃b,b=decide (Ig m n):=⟨_,rfl⟩
 rw[←hb];generalize (Xr m n).num.sign=x at *;generalize (Qb m n).num.sign=y at *;by_cases h:Xr m n=0
 ·have e3:x=0:=s3.2 h
  have e4:b=decide (y<0):=by
   rw[hb];by_cases hy:y<0
   ·rw[Y' hy];exact Y' ⟨h,s4.1 hy⟩
   ·rw[Y_ hy];exact Y_ fun g=>hy (s4.2 g.2)
  refine Fq Tryz.call74 Tryz.func74 5 [] [] [] (by simp[wS]) (Xk ?_);simp(maxSteps:=999999)only[P',↓X6,wF,seval];refine X2 c1 rfl ?_;simp(disch:=omega)only[qA,qC,↓Xd,wG,seval];refine X2 c3 rfl ?_;simp(disch:=omega)only[e3,qA,qC,↓Xd,wG,seval];refine X2 c2 rfl ?_;simp(disch:=omega)only[qA,qC,↓Xd,wG,seval];refine X2 c4 rfl ?_;simp(disch:=omega)only[↓Xd,wG,seval];exact Xp rfl rfl (X5 _) (t_ ZAf e4.symm)
 ·have e3:¬x=0:=fun g=>h (s3.1 g)
  have e4:b=false:=by rw[hb];exact Y_ fun g=>h g.1
  refine Fq Tryz.call74 Tryz.func74 5 [] [] [] (by simp[wS]) (Xk ?_);simp(maxSteps:=999999)only[P',↓X6,wF,seval];refine X2 c1 rfl ?_;simp(disch:=omega)only[qA,qC,↓Xd,wG,seval];refine X2 c3 rfl ?_;simp(disch:=omega)only[e3,↓Xd,wG,seval];exact Xp rfl rfl (X5 _) (t_ ZAf e4.symm)
def Xl (f:Nat→Rat):Nat→AV:=fun j=>(qC (f (j/4))).getD (j%4) .any
theorem QA (f:Nat→Rat)(k j:Nat)(h:j<4):Xl f (k*4+j)=(qC (f k)).getD j .any:=by
 unfold Xl;rw[show(k*4+j)/4=k by omega,show(k*4+j)%4=j by omega]
theorem Jt (f:Nat→Rat)(k:Nat):Xl f (k*4)=(qC (f k)).getD 0 .any:=QA f k 0 (by omega)
theorem Dq (f:Nat→Rat)(k:Nat)(x:Rat):CE (Xl f) (k*4) (qC x)=Xl (fun i=>if i=k then x else f i):=by
 funext j;rw[ZH];have hl:(qC x).length=4:=rfl;unfold Xl;by_cases h:k*4≤j∧j<k*4+(qC x).length
 ·rw[N_ h]
  rw[hl]at h;show _=(qC (if j/4=k then x else f (j/4))).getD (j%4) .any;rw[N_ (show j/4=k by omega),show j%4=j-k*4 by omega]
 ·rw[M_ h]
  rw[hl]at h;show _=(qC (if j/4=k then x else f (j/4))).getD (j%4) .any;rw[M_ (show ¬j/4=k by omega)]
theorem Ae (m v n:Nat)(f:Nat→Rat):XX m (.row v n (Xl f)):=fun j _=>X4 (Xe (l:=qC (f (j/4))) (by simp[qC,Xc,X5]) _)
theorem Qa {H:List AO}{a:Nat}{o:AO}(h:H[a]?=some o)(l:List AO):(H ++ l)[a]?=some o:=by
 rw[S_ (R_.1 h).1];exact h
theorem BG {H:List AO}{n:Nat}(h:H.length=n)(x:AO)(l:List AO):(H ++ x :: l)[n]?=some x:=by
 rw[←h,d_ (N' _),ZB4];rfl
theorem FM {H:List AO}{n:Nat}(h:H.length=n)(x y:AO)(l:List AO):(H ++ x :: y :: l)[n+1]?=some y:=by
 rw[←h,d_ (by omega),show H.length+1-H.length=1 by omega];rfl
theorem Z2 {H:List AO}{a:Nat}(h:a<H.length)(o:AO)(l:List AO):(H ++ l).set a o=H.set a o ++ l:=List.set_append_left _ _ h
theorem CK {H:List AO}{n:Nat}(h:H.length=n)(x y:AO)(l:List AO):(H ++ x :: l).set n y=H ++ y :: l:=by
 rw[ZAj _ _ (by omega),←h,ZB4];rfl
theorem GX {H:List AO}{n:Nat}(h:H.length=n)(x y z:AO)(l:List AO):(H ++ x :: y :: l).set (n+1) z=H ++ x :: z :: l:=by
 rw[ZAj _ _ (by omega),←h,show H.length+1-H.length=1 by omega];rfl
theorem Zz {H:List AO}{n:Nat}(h:H.length=n)(l:List AO):(H ++ l).length=n+l.length:=by rw[f_,h]
theorem Af {H:List AO}{n:Nat}(h:H.length=n)(x:AO)(l:List AO):(H ++ x :: l).take (n+1)=H ++ [x]:=by
 rw[←h,List.take_append];simp[ZCW]
theorem CL {H:List AO}{n:Nat}(h:H.length=n)(l:List AO):(H ++ l).take n=H:=by rw[←h];simp
def AH (L R:Nat→Rat)(c k:Nat):Nat→Rat:=fun i=>if i<k then L i-L c*R i else L i
theorem sd (L R:Nat→Rat)(c:Nat):AH L R c 0=L:=funext fun i=>M_ (ZAG i)
theorem Uu (L R:Nat→Rat)(c k:Nat):AH L R c k k=L k:=M_ (zZ k)
theorem ND (L R:Nat→Rat)(c k:Nat):(fun i=>if i=k then L k-L c*R k else AH L R c k i)=AH L R c (k+1):=funext fun i=>by
 unfold AH;by_cases h:i=k
 ·rw[N_ h,N_ (by omega),h]
 ·rw[M_ h]
  by_cases h2:i<k
  ·rw[N_ h2,N_ (by omega)]
  ·rw[M_ h2,M_ (by omega)]
theorem Wr (L R:Nat→Rat)(c k:Nat)(h:R k=0):AH L R c k=AH L R c (k+1):=by
 rw[←ND];funext i;by_cases e:i=k
 ·rw[N_ e,e,Uu,h];grind
 ·rw[M_ e]
theorem YR {P:Program}{fn:Func}{str hcs:List Nat}{m:Nat}{H:List AO}{s:AS}(hr:fn.results=#[])(hH:s.h.take m=H):TBS (I6 P fn str hcs m (.tup []) H) s :=
 ⟨.tup [],by show Al P fn s=_;simp[Al,hr,JC,BH],rfl,hH⟩
theorem Rq {P:Program}{fn:Func}{str hcs:List Nat}{m:Nat}{H:List AO}{s:AS}(hr:fn.results=#[])(hH:s.h.take m=H):TAC (I6 P fn str hcs m (.tup []) H) s :=
 ⟨.tup [],by show Al P fn s=_;simp[Al,hr,JC,BH],rfl,hH⟩
theorem aw (H:List AO)(a b va vb N:Nat)(L R:Nat→Rat)(c:Nat)(hab:a≠b)(ha:H[a]?=some (.row va (N*4) (Xl L))) (hb:H[b]?=some (.row vb (N*4) (Xl R))) (hN:N<1000000) (hc:c<N) {Q:Nat} (hL:∀k,k<N→qb (L k)≤Q) (hR:∀k,k<N→qb (R k)≤Q) (hQ:Q≤30000000) (hO:∀o∈H,∀m,H.length≤m→XX m o) :
  G' Tryz.prog 200 [.osl a va 4 0 N,.osl b vb 4 0 N,I c] H (.tup []) (H.set a (.row va (N*4) (Xl (fun k=>L k-L c*R k)))):=by
 have hlt:a<H.length:=(R_.1 ha).1;have hO2:∀f,∀o∈H.set a (.row va (N*4) (Xl f)),∀m,H.length≤m→XX m o:=fun f o ho m hm=>by
  rcases ZAN ho with h |h
  ·exact hO o h m hm
  ·rw[h];exact Ae _ _ _ _
 have s1:=Qv (L c);have z1:=Cz (L c);obtain⟨n0,hn⟩:∃n0,H.length=n0:=⟨_,rfl⟩
 have a1:=QA L c;have a2:=Jt L c;have ea:=Qa ha;have eb:=Qa hb;have e0:=BG hn;have el:=Zz hn;have es:=CK hn;have hOn:∀o∈H.set a (.row va (N*4) (Xl (fun k=>L k-L c*R k))),XX H.length o:=fun o ho=>hO2 _ o ho _ (N' _)
 refine G'.TAo (fn:=Tryz.f200) Tryz.call200 Tryz.func200 rfl mixed 9 [16,17,18] [6,7005,7006,7007] [] (by kernel_rfl) (L' rfl) (X4 (Z0 (by simp))) hOn (Xk ?_);by_cases h0:L c=0
 ·have f0:=z1.2 h0
  have hid:H.set a (.row va (N*4) (Xl (fun k=>L k-L c*R k)))=H:=by
   rw[show(fun k=>L k-L c*R k)=L from funext fun k=>by rw[h0];grind];exact ZAg fun i=>by
    by_cases e:a=i
    ·rw[←e,U' hlt,ha]
    ·rw[L_ e]
  rw[hid];simp(disch:=omega)only[P',ha,a1,a2,hn,ea,e0,el,es,qC,P_,↓Xd,wG,seval];refine X2 s1 rfl ?_;simp(disch:=omega)only[f0,↓Xd,wG,seval];exact Rq rfl (CL rfl _)
 have f0:¬ (L c).num.sign=0:=fun g=>h0 (z1.1 g)
 simp(disch:=omega)only[P',ha,a1,a2,hn,ea,e0,el,es,qC,P_,↓Xd,wG,seval];refine X2 s1 rfl ?_;simp(disch:=omega)only[f0,↓Xd,wG,seval];have TAG:∀f,(H.set a (.row va (N*4) (Xl f))).length=n0:=fun f=>by rw[V_];exact hn
 have hga:∀f,(H.set a (.row va (N*4) (Xl f)))[a]?=some (.row va (N*4) (Xl f)):=fun f=>U' hlt
 have hgb:∀f,(H.set a (.row va (N*4) (Xl f)))[b]?=some (.row vb (N*4) (Xl R)):=fun f=>by rw[L_ hab];exact hb
 have hss:∀f g,(H.set a (.row va (N*4) (Xl f))).set a (.row va (N*4) (Xl g))=H.set a (.row va (N*4) (Xl g)):=fun f g=>ZBl _
 have h00:H.set a (.row va (N*4) (Xl (AH L R c 0)))=H:=by
  rw[sd];exact ZAg fun i=>by
   by_cases e:a=i
   ·rw[←e,U' hlt,ha]
   ·rw[L_ e]
 refine Xi (fun k:Nat=>⟨9,[16,17,18],[.osl a va 4 0 N,.osl b vb 4 0 N,I c,.any,.any,.any,.ref n0 0 0,.any,.any],[(16,.osl b vb 4 0 N),(17,I N),(18,I k)],H.set a (.row va (N*4) (Xl (AH L R c k))) ++ [.row 0 4 (Xf (qC (L c)))]⟩) (fun k=>k≤N) (fun k=>N-k) 0 (by omega)
  (Xh rfl (by simp[Xm,I]) (by simp[Xu,XJ,I]) (by rw[h00];rfl)) ?_
 intro k hk next
 by_cases hk2:k<N
 rotate_left
 ·obtain rfl:k=N:=by omega
  refine e_ ?_ (Zh a (k*4) (Xl (fun k=>L k-L c*R k)) (Qa (hga _) _) (N' _) (fun j hj=>by
   unfold Xl AH;rw[N_ (show j/4<k by omega)]))
  refine Xk ?_;simp(disch:=omega)only[↓Xd,wG,seval];exact YR rfl (by rw[Z2 (by rw[V_];exact hlt),hss];exact CL (by rw[V_]) _)
 have hAt:=hga (AH L R c k);have hBt:=hgb (AH L R c k);have hLn:=TAG (AH L R c k);have hSt:=hss (AH L R c k);have hbt:a<(H.set a (.row va (N*4) (Xl (AH L R c k)))).length:=by rw[V_];exact hlt
 have TEv:=Wr L R c k;have TEw:=ND L R c k;have hkk:=Uu L R c k;have b1:=QA R k;have b2:=Jt R k;have w1:=QA (AH L R c k) k;have w2:=Jt (AH L R c k) k;have hst:=Dq (AH L R c k) k (L k-L c*R k);rw[hkk]at w1 w2;rw[TEw]at hst;have s2:=Qv (R k);have z2:=Cz (R k);have q1:=hL k hk2;have q2:=hR k hk2;have q3:=hL c hc;have c1:=B5 (L c) (R k) (by unfold rm;omega) (by unfold rm;omega);have q4:=Qo (L c) (R k);have c2:=FC (L k) (L c*R k) (by unfold rm;omega) (by unfold rm;omega);have nx:=next (k+1)
 have bO:∀f,∀o∈H.set a (.row va (N*4) (Xl f)) ++ [.row 0 4 (Xf (qC (L c)))],XX (n0+1) o:=fun f o ho=>by
  rcases m_.1 ho with h |h
  ·exact hO2 f o h _ (by omega)
  ·rw[a_.1 h];exact QN (by simp[qC,Xc,X5])
 have bO:=bO (AH L R c (k+1));have TGg:b<H.length:=(R_.1 hb).1;have ba:J9 (n0+1) (.osl a va 4 0 N)=True:=K_ (JB (by omega));have bb:J9 (n0+1) (.osl b vb 4 0 N)=True:=K_ (JB (by omega));have bc:J9 (n0+1) (.ref n0 0 0)=True:=K_ (QX (by omega));generalize hHk:H.set a (.row va (N*4) (Xl (AH L R c k)))=Hk at *;have ea':=Qa hAt;have eb':=Qa hBt;have e0':=BG hLn;have e1':=FM hLn;have el':=Zz hLn;have es0:=CK hLn;have es1:=GX hLn;have esa:=Z2 hbt;refine Xk ?_;simp(disch:=omega)only[ea',eb',e0',e1',el',es0,es1,b1,b2,qC,P_,↓Xd,wG,seval];refine X2 s2 rfl ?_;by_cases hR0:R k=0
 ·have f2:=z2.2 hR0
  simp(disch:=omega)only[f2,↓Xd,wG,seval];exact nx _ (by omega) (by omega) (XD (m:=n0+1) (by show H.length≤n0+1;omega) rfl (by simp[Xm,I]) (by simp[Xu,XJ,I]) (by rw[Af hLn,←hHk,TEv hR0];rfl) (by simp[XK,ba,bb,bc]) (by simp[XK,bb]) bO)
 ·have f2:¬ (R k).num.sign=0:=fun g=>hR0 (z2.1 g)
  simp(disch:=omega)only[f2,ea',eb',e0',e1',el',es0,es1,w1,w2,qC,P_,↓Xd,wG,seval];refine X2 c1 rfl ?_;simp(disch:=omega)only[qC,↓Xd,wG,seval];refine X2 c2 rfl ?_;simp(disch:=omega)only[ea',esa,qC,P_,↓Xd,wG,seval];exact nx _ (by omega) (by omega) (XD (m:=n0+1) (by show H.length≤n0+1;omega) rfl (by simp[Xm,I]) (by simp[Xu,XJ,I]) (by rw[Af (by rw[V_];exact hLn),←hst,←hHk,ZBl];rfl) (by simp[XK,ba,bb,bc]) (by simp[XK,bb]) bO)
end
end Go.Ab.N
namespace Go.Ab.N
set_option maxRecDepth 10000
set_option maxHeartbeats 4000000
def XN (f:Nat→Rat):Nat→Rat
 |0=>0
 |n+1=>XN f n+f n
theorem XQ {f g:Nat→Rat}:∀ {n:Nat},(∀i,i<n→f i=g i)→XN f n=XN g n
 |0,_=>rfl
 |n+1,h=>by
  unfold XN;rw[XQ fun i hi=>h i (by omega),h n (by omega)]
theorem Ks {f:Nat→Rat}:∀ {n:Nat},(∀i,i<n→f i=0)→XN f n=0
 |0,_=>rfl
 |n+1,h=>by
  unfold XN;rw[Ks fun i hi=>h i (by omega),h n (by omega)];grind
theorem HF (f g:Nat→Rat):∀n,XN (fun i=>f i+g i) n=XN f n+XN g n
 |0=>by unfold XN;grind
 |n+1=>by unfold XN;rw[HF f g n];grind
theorem J8 (a:Rat)(f:Nat→Rat):∀n,XN (fun i=>a*f i) n=a*XN f n
 |0=>by unfold XN;grind
 |n+1=>by unfold XN;rw[J8 a f n];grind
theorem Dw (f g:Nat→Rat)(n:Nat):XN (fun i=>f i-g i) n=XN f n-XN g n:=by
 have:=HF f (fun i=>(-1)*g i) n;rw[J8]at this;rw[show(fun i=>f i-g i)=fun i=>f i+(-1)*g i from funext fun i=>by grind,this];grind
theorem FG (f:Nat→Nat→Rat)(m:Nat):∀n,XN (fun i=>XN (fun j=>f i j) m) n=XN (fun j=>XN (fun i=>f i j) n) m
 |0=>by show(0:Rat)=XN (fun j=>0) m;exact(Ks fun _ _=>rfl).symm
 |n+1=>by
  show XN _ n+_=_;rw[FG f m n,←HF];rfl
theorem An {f:Nat→Rat}{k:Nat}:∀ {n:Nat},k<n→(∀i,i<n→i≠k→f i=0)→XN f n=f k
 |n+1,hk,h=>by
  unfold XN;by_cases e:k=n
  ·subst e;rw[Ks fun i hi=>h i (by omega) (by omega)];grind
  ·rw[An (by omega) fun i hi hn=>h i (by omega) hn,h n (by omega) (by omega)];grind
theorem Ue {f:Nat→Rat}:∀ {n:Nat},0<XN f n→∃i,i<n∧0<f i
 |0,h=>absurd h (by unfold XN;decide)
 |n+1,h=>by
  by_cases h1:0<f n
  ·exact⟨n,by omega,h1⟩
  ·obtain⟨i,hi,hp⟩:=Ue (f:=f) (n:=n) (by unfold XN at h;grind)
   exact⟨i,by omega,hp⟩
theorem CV {f:Nat→Rat}:∀ {n:Nat},(∀i,i<n→0≤f i)→0≤XN f n
 |0,_=>ZCR
 |n+1,h=>by
  unfold XN;have:=CV (f:=f) (n:=n) fun i hi=>h i (by omega)
  have:=h n (by omega);grind
structure Tb where
 t:Nat→Nat→Rat
 c:Nat→Rat
 b:Nat→Nat
def C2 (T:Tb)(r p:Nat):Tb where
 t i k:=if i=r then T.t r k/T.t r p else T.t i k-T.t i p*(T.t r k/T.t r p)
 c k:=T.c k-T.c p*(T.t r k/T.t r p)
 b i:=if i=r then p else T.b i
structure Tb.Ok (m n e:Nat)(T:Tb):Prop where
 bas:∀i,i<m→T.b i<e
 unit:∀i k,i<m→k<m→T.t i (T.b k)=if i=k then 1 else 0
 cost:∀i,i<m→T.c (T.b i)=0
 rhs:∀i,i<m→0≤T.t i n
def Tb.Eqv (m n:Nat)(T U:Tb):Prop:=(∀i k,i<m→k≤n→T.t i k=U.t i k)∧(∀k,k≤n→T.c k=U.c k)∧∀i,i<m→T.b i=U.b i
def kV (m n:Nat)(T:Tb)(p r:Nat):Prop:=r<m∧0<T.t r p∧∀i,i<m→0<T.t i p→T.t r n/T.t r p<T.t i n/T.t i p∨(T.t r n/T.t r p=T.t i n/T.t i p∧T.b r≤T.b i)
def I5 (e:Nat)(T:Tb)(p:Nat):Prop:=p<e∧T.c p<0∧∀j,j<p→0≤T.c j
structure Step (m n e:Nat)(T:Tb)(p r:Nat)(U:Tb):Prop where
 ent:I5 e T p
 lv:kV m n T p r
 piv:Tb.Eqv m n U (C2 T r p)
def Tb.ker (m n:Nat)(T:Tb)(x:Nat→Rat):Prop:=∀i,i<m→XN (fun j=>T.t i j*x j) (n+1)=0
def Tb.Sim (m n:Nat)(T U:Tb):Prop:=∀x,(T.ker m n x↔U.ker m n x)∧(T.ker m n x→XN (fun j=>T.c j*x j) (n+1)=XN (fun j=>U.c j*x j) (n+1))
theorem Tb.Sim.refl (m n:Nat)(T:Tb):T.Sim m n T:=fun _=>⟨ZCj,fun _=>rfl⟩
theorem Tb.Sim.trans {m n:Nat}{T U V:Tb}(h:T.Sim m n U)(g:U.Sim m n V):T.Sim m n V:=fun x=>⟨(h x).1.trans (g x).1,fun k=>((h x).2 k).trans ((g x).2 ((h x).1.1 k))⟩
theorem Tb.Sim.symm {m n:Nat}{T U:Tb}(h:T.Sim m n U):U.Sim m n T:=fun x=>⟨(h x).1.symm,fun k=>((h x).2 ((h x).1.2 k)).symm⟩
theorem Tb.Eqv.sim {m n:Nat}{T U:Tb}(h:T.Eqv m n U):T.Sim m n U:=fun x=>by
 have h1:∀i,i<m→XN (fun j=>T.t i j*x j) (n+1)=XN (fun j=>U.t i j*x j) (n+1):=fun i hi=>XQ fun j hj=>by rw[h.1 i j hi (by omega)]
 refine⟨⟨fun k i hi=>(h1 i hi).symm.trans (k i hi),fun k i hi=>(h1 i hi).trans (k i hi)⟩,fun _=>XQ fun j hj=>by rw[h.2.1 j (by omega)]⟩
theorem Rl (T:Tb)(r p:Nat)(x:Nat→Rat)(N i:Nat):XN (fun j=>(C2 T r p).t i j*x j) N=if i=r then(T.t r p)⁻¹*XN (fun j=>T.t r j*x j) N else XN (fun j=>T.t i j*x j) N-T.t i p*((T.t r p)⁻¹*XN (fun j=>T.t r j*x j) N):=by
 by_cases h:i=r
 ·rw[N_ h,←J8]
  refine XQ fun j _=>?_
  unfold C2;simp only[h,if_true];rw[ZAS];grind
 ·rw[M_ h,←J8,←J8,←Dw]
  refine XQ fun j _=>?_
  unfold C2;simp only[h,if_false];rw[ZAS];grind
theorem lS (T:Tb)(r p:Nat)(x:Nat→Rat)(N:Nat):XN (fun j=>(C2 T r p).c j*x j) N=XN (fun j=>T.c j*x j) N-T.c p*((T.t r p)⁻¹*XN (fun j=>T.t r j*x j) N):=by
 rw[←J8,←J8,←Dw];refine XQ fun j _=>?_
 unfold C2;simp only;rw[ZAS];grind
theorem qY {T:Tb}{m n r p:Nat}(hr:r<m)(hd:T.t r p≠0):T.Sim m n (C2 T r p):=fun x=>by
 have h1:T.ker m n x↔(C2 T r p).ker m n x:=by
  constructor
  ·intro k i hi
   rw[Rl]
   split
   ·rw[k r hr];grind
   ·rw[k r hr,k i hi];grind
  ·intro k
   have kr:XN (fun j=>T.t r j*x j) (n+1)=0:=by
    have:=k r hr;rw[Rl,N_ rfl]at this;rcases ZA5.1 this with h |h
    ·have hi:=ZCK _ hd
     rw[h,Rat.mul_zero]at hi;exact absurd hi (by decide)
    ·exact h
   intro i hi;by_cases e:i=r
   ·rw[e];exact kr
   ·have:=k i hi
    rw[Rl,M_ e,kr]at this;grind
 refine⟨h1,fun k=>?_⟩;rw[lS,k r hr];grind
theorem Step.sim {m n e p r:Nat}{T U:Tb}(h:Step m n e T p r U):T.Sim m n U :=
 (qY h.lv.1 (by have:=h.lv.2.1;grind)).trans h.piv.sim.symm
def Gd (m:Nat)(T:Tb)(p:Nat)(j:Nat):Rat:=(if j=p then 1 else 0)-XN (fun i=>if T.b i=j then T.t i p else 0) m
theorem GO {m n p:Nat}(T:Tb)(f:Nat→Rat)(hp:p≤n)(hb:∀i,i<m→T.b i≤n):XN (fun j=>f j*Gd m T p j) (n+1)=f p-XN (fun i=>f (T.b i)*T.t i p) m:=by
 have e:∀j,f j*Gd m T p j=f j*(if j=p then 1 else 0)-XN (fun i=>f j*(if T.b i=j then T.t i p else 0)) m:=fun j=>by
  rw[J8];unfold Gd;grind
 rw[XQ fun j _=>e j,Dw,FG];congr 1
 ·rw[An (k:=p) (by omega) fun i _ hn=>by rw[M_ hn];grind,N_ rfl];grind
 ·refine XQ fun i hi=>?_
  rw[An (k:=T.b i) (by have:=hb i hi;omega) fun j _ hn=>by rw[M_ (v_ hn)];grind,N_ rfl]
theorem Tb.Ok.TBh {m n e p:Nat}{T:Tb}(h:T.Ok m n e)(he:e≤n)(hp:p≤n):T.ker m n (Gd m T p):=fun i hi=>by
 rw[GO T (T.t i) hp fun k hk=>by have:=h.bas k hk;omega];rw[An (k:=i) hi fun k hk hn=>by rw[h.unit i k hi hk,M_ (v_ hn)];grind,h.unit i i hi hi,N_ rfl];grind
theorem Tb.Ok.TBw {m n e p:Nat}{T:Tb}(h:T.Ok m n e)(he:e≤n)(hp:p≤n):XN (fun j=>T.c j*Gd m T p j) (n+1)=T.c p:=by
 rw[GO T T.c hp fun k hk=>by have:=h.bas k hk;omega];rw[Ks fun i hi=>by rw[h.cost i hi];grind];grind
theorem GK {m n e p:Nat}{T U:Tb}(h:T.Sim m n U)(hU:U.Ok m n e)(he:e≤n)(hp:p≤n):T.c p-XN (fun i=>T.c (U.b i)*U.t i p) m=U.c p:=by
 rw[←hU.TBw he hp,←GO U T.c hp fun k hk=>by have:=hU.bas k hk;omega];exact((h _).2 ((h _).1.2 (hU.TBh he hp)))
theorem wJ {m n e p i:Nat}{T U:Tb}(h:T.Sim m n U)(hU:U.Ok m n e)(he:e≤n)(hp:p≤n)(hi:i<m):T.t i p=XN (fun k=>T.t i (U.b k)*U.t k p) m:=by
 have:=(h _).1.2 (hU.TBh he hp) i hi;rw[GO U (T.t i) hp fun k hk=>by have:=hU.bas k hk;omega]at this;grind
theorem R8 {m n e:Nat}{T U:Tb}(h:T.Sim m n U)(hT:T.Ok m n e)(hU:U.Ok m n e)(he:e≤n)(hb:∀i,i<m→T.b i=U.b i):T.Eqv m n U:=by
 refine⟨fun i k hi hk=>?_,fun k hk=>?_,hb⟩
 ·rw[wJ h hU he hk hi,An (k:=i) hi fun j hj hn=>by rw[←hb j hj,hT.unit i j hi hj,M_ (v_ hn)];grind,←hb i hi,hT.unit i i hi hi,N_ rfl];grind
 ·have:=GK h hU he hk
  rw[Ks fun i hi=>by rw[←hb i hi,hT.cost i hi];grind]at this;grind
theorem Step.ok {m n e p r:Nat}{T U:Tb}(h:Step m n e T p r U)(hT:T.Ok m n e)(he:e≤n):U.Ok m n e:=by
 obtain⟨⟨e1,e2,e3⟩,⟨l1,l2,l3⟩,v1,v2,v3⟩:=h;have hd:T.t r p≠0:=by grind
 have hb:∀i,i<m→U.b i=if i=r then p else T.b i:=v3
 have ht:∀i k,i<m→k≤n→U.t i k=if i=r then T.t r k/T.t r p else T.t i k-T.t i p*(T.t r k/T.t r p):=v1
 have hc:∀k,k≤n→U.c k=T.c k-T.c p*(T.t r k/T.t r p):=v2;have dd:T.t r p/T.t r p=1:=by rw[ZAS,ZCK _ hd]
 have hU:∀i,i<m→U.b i<e:=fun i hi=>by
  rw[hb i hi];split
  ·exact e1
  ·exact hT.bas i hi
 refine⟨hU,fun i k hi hk=>?_,fun i hi=>?_,fun i hi=>?_⟩
 ·rw[ht i _ hi (by have:=hU k hk;omega),hb k hk]
  by_cases k1:k=r
  ·rw[N_ k1,dd]
   by_cases i1:i=r
   ·rw[N_ i1,N_ (i1.trans k1.symm)]
   ·rw[M_ i1,M_ (fun h=>i1 (h.trans k1))];grind
  ·rw[M_ k1,hT.unit r k l1 hk,M_ (v_ k1),ZAS,Rat.zero_mul]
   by_cases i1:i=r
   ·rw[N_ i1,M_ (fun h=>k1 (h.symm.trans i1))]
   ·rw[M_ i1,hT.unit i k hi hk];grind
 ·rw[hc _ (by have:=hU i hi;omega),hb i hi]
  by_cases i1:i=r
  ·rw[N_ i1,dd];grind
  ·rw[M_ i1,hT.cost i hi,hT.unit r i l1 hi,M_ (v_ i1),ZAS,Rat.zero_mul];grind
 ·rw[ht i n hi (N' _)]
  have hq:0≤T.t r n/T.t r p:=by rw[ZAS];exact zY (hT.rhs r l1) (ZAy (Rat.inv_pos.2 l2))
  by_cases i1:i=r
  ·rw[N_ i1];exact hq
  ·rw[M_ i1]
   by_cases hp:0<T.t i p
   ·have hl:T.t r n/T.t r p≤T.t i n/T.t i p:=by
     rcases l3 i hi hp with h |h
     ·exact ZAy h
     ·rw[h.1];exact ZCR
    have:T.t r n/T.t r p*T.t i p≤T.t i n:=by
     have:=Rat.mul_le_mul_of_nonneg_right hl (ZAy hp);rwa[Rat.div_mul_cancel (by grind)]at this
    grind
   ·have h1:=hT.rhs i hi
    have h2:T.t i p*(T.t r n/T.t r p)≤0:=by
     have:=zY (a:=-T.t i p) (by grind) hq;grind
    grind
end Go.Ab.N
