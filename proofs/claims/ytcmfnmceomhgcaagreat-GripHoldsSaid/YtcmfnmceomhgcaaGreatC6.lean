/- Contracts of functions, for every argument that fits. -/
import Derived.Test.YtcmfnmceomhgcaaGreatC5
import Derived.Test.YtcmfnmceomhgcaaGreatAb4
set_option linter.unusedSimpArgs false
set_option linter.unusedVariables false
open Nat renaming reducePow → Y1, reduceLT → Y2, reduceLeDiff → Y3, reduceEqDiff → Y4, reduceAdd → Y5, reduceMul → Y6, reduceSub → Y7, reduceBEq → Y8, reduceDiv → Y9, reduceMod → YA
open Go.Ab.AS renaming start→O_
open Go.Ab.AV renaming bool→ZAX
open Go.IntKind renaming i64→Q_
open Int renaming toNat_zero→ZAo,reduceLT→ZAz,reduceLE→ZBA,lt_trichotomy→ZBo
open Nat renaming lt_of_le_of_lt→ZCO
open Rat renaming divInt→P',mul_eq_zero→ZA9,mul_inv_cancel→ZEK
namespace Go.Ab.N
open Go Go.RowKit Go.Proofs
theorem y_:type_of%@congrArg:=@congrArg
theorem ZAS:type_of%@Rat.mul_nonneg:=@Rat.mul_nonneg
theorem ZAZ:type_of%@Go.Ab.Sub.trans:=@Go.Ab.Sub.trans
theorem ZAr:type_of%@Rat.div_def:=@Rat.div_def
theorem ZBI:type_of%@Rat.le_of_lt:=@Rat.le_of_lt
theorem ZBJ:type_of%@Rat.mul_pos:=@Rat.mul_pos
theorem ZCT:type_of%@Rat.div_mul_cancel:=@Rat.div_mul_cancel
theorem ZCt:type_of%@Rat.le_refl:=@Rat.le_refl
theorem ZC6:type_of%@Nat.mod_self:=@Nat.mod_self
noncomputable section
set_option maxRecDepth 10000
set_option maxHeartbeats 2000000
open Classical
def V2.F' (a:V2):V2:=⟨-a.y,a.x⟩
theorem AJ (a:V2):vb a.F'=vb a:=by
 unfold vb V2.F';simp only[BF];omega
theorem Pt (a:V2)(ha:vb a≤rm):Fn Tryz.prog 215 [vA a] (vA a.F'):=by
 have:=J7 a;have c:=J9 a.y (by omega);obtain⟨R,hR⟩:∃R,R=vA a.F':=⟨_,rfl⟩
 have sR:A_ R:=hR▸Xv _;rw[←hR];refine Fq Tryz.call215 Tryz.func215 3 [] [] [] (by simp[wS]) (Xk ?_);simp(maxSteps:=999999)only[O_,↓X6,wF,seval];refine X2 c rfl ?_;simp only[↓X6,wF,seval];exact ZK rfl Jn rfl rfl rfl sR (hR.trans rfl)
theorem dw (L:List V2)(i:Nat)(hn:L.length<1000000)(h0:L.length≠0)(hi:i<1000000000):Fn Tryz.prog 153 [Qx L,I i] (vA (L.getD (i%L.length) v0)):=by
 obtain⟨R,hR⟩:∃R,R=vA (L.getD (i%L.length) v0):=⟨_,rfl⟩
 have sR:A_ R:=hR▸Xv _;have hm:(i:Int).tmod L.length=((i%L.length:Nat):Int):=rfl;have hml:i%L.length<L.length:=ZAI _ (by omega);have f4:(i%L.length<L.length)=True:=L' hml;have f5:(i%L.length*8+8≤L.length*8)=True:=L' (by omega);have f6:((L.length:Int)=0)=False:=R_ (by omega);have f6':(L.length=0)=False:=R_ h0;have v1:=vF L (i%L.length);rw[←hR];refine Fq Tryz.call153 Tryz.func153 5 [] [] [] (by simp[Xs,X8]) (Xk ?_);simp only[O_,X7,f4,f5,f6,f6',hm,v1,U',↓X6,wF,seval];exact ZK rfl Jn rfl rfl rfl sR (hR.trans rfl)
theorem Cc (L:List V2)(i:Nat)(hn:L.length<1000000)(hi:i<L.length):Fn Tryz.prog 58 [Qx L,I i] (vA (L.getD ((i+1)%L.length) v0)):=by
 obtain⟨R,hR⟩:∃R,R=vA (L.getD ((i+1)%L.length) v0):=⟨_,rfl⟩
 have sR:A_ R:=hR▸Xv _;have w1:=wj i;rw[←hR];refine Fq Tryz.call58 Tryz.func58 5 [] [] [] (by simp[Xs,X8]) (Xk ?_);by_cases h:i+1<L.length
 ·have e:(i+1)%L.length=i+1:=ZAJ h
  have f1:(((i+1:Nat):Int)<L.length)=True:=L' (by omega);have f1':(i+1<L.length)=True:=L' h;have f2:((i+1)*8+8≤L.length*8)=True:=L' (by omega);have v1:=vF L (i+1);rw[e]at hR;simp only[O_,X7,w1,f1,f1',f2,v1,U',↓X6,wF,seval];exact ZK rfl Jn rfl rfl rfl sR (hR.trans rfl)
 ·have hl:i+1=L.length:=by omega
  have e:(i+1)%L.length=0:=by rw[hl,ZC6]
  have f1:(((i+1:Nat):Int)<L.length)=False:=R_ (by omega);have f1':(i+1<L.length)=False:=R_ h;have f2:(0<L.length)=True:=L' (by omega);have f2':((0:Int)<L.length)=True:=L' (by omega);have f3:(8≤L.length*8)=True:=L' (by omega);have v1:=vF L 0;rw[ZA8]at v1;simp only[z_]at v1;rw[e]at hR;simp only[O_,X7,w1,f1,f1',f2,f2',f3,v1,ZAo,↓X6,wF,seval];exact ZK rfl Jn rfl rfl rfl sR (hR.trans rfl)
def gn (a b:V2):Rat:=(a.x-b.x)*(a.y+b.y)
def Bc (L:List V2):Nat→Rat
 |0=>0
 |i+1=>Bc L i+gn (L.getD i v0) (L.getD ((i+1)%L.length) v0)
def aR (L:List V2):Rat:=Bc L L.length*P' 1 2
theorem se (a b:V2):qb (gn a b)≤2*(vb a+vb b)+2:=by
 have:=Ja a;have:=Ja b;have:=J7 a;have:=J7 b;have m1:=C3 a.x b.x;have m2:=KE a.y b.y;have m3:=Qa (a.x-b.x) (a.y+b.y);unfold gn;omega
theorem Uz (L:List V2)(k:Nat)(h:J3 L k):∀i,qb (Bc L i)≤(4*k+4)*i+1
 |0=>by have:=AX;simp only[Bc];omega
 |i+1=>by
  have ih:=Uz L k h i;have h1:=se (L.getD i v0) (L.getD ((i+1)%L.length) v0);have h2:=h i;have h3:=h ((i+1)%L.length);have h4:=KE (Bc L i) (gn (L.getD i v0) (L.getD ((i+1)%L.length) v0));have e:(4*k+4)*(i+1)=(4*k+4)*i+(4*k+4):=Nat.mul_succ _ _;simp only[Bc];omega
theorem NE (L:List V2):∀i,i<L.length→Bc L i=Ba L i+(L.getD 0 v0).x*(L.getD 0 v0).y-(L.getD i v0).x*(L.getD i v0).y
 |0,_=>by simp only[Bc,Ba];grind
 |i+1,h=>by
  have ih:=NE L i (by omega);have e:(i+1)%L.length=i+1:=ZAJ h;simp only[Bc,Ba,e,ih,gn,Xq];grind
theorem WH (L:List V2):aR L=ZB L:=by
 unfold aR ZB;congr 1;cases hn:L.length with
 |zero=>rfl
 |succ n =>
  have ih:=NE L n (by omega);have e:(n+1)%L.length=0:=by rw[hn,ZC6]
  simp only[Bc,Ba,e,ih,gn,Xq];grind
theorem Ni (L:List V2)(k:Nat)(h:J3 L k)(hk:k≤1000)(hl:L.length≤1000):Fn Tryz.prog 155 [Qx L] (qA (ZB L)):=by
 rw[←WH];obtain⟨R,hR⟩:∃R,R=qA (aR L):=⟨_,rfl⟩
 have sR:A_ R:=hR▸Xb _;have bv:Jl 2 (Qx L)=True:=L' (X4 (Xs L));have bT:∀i,Q0 2 (.row 0 4 (Xf (qC (Bc L i))))=True:=fun i=>L' (QZ (by simp[qC,Xd,X5]))
 rw[←hR];refine Fq Tryz.call155 Tryz.func155 6 [] [6,7000,70000005,7,80000003] [] (by simp[Xs]) (Xk ?_);simp only[O_,X7,↓X6,wF,seval];refine Xj (fun i:Nat=>⟨6,[],[Qx L,.any,.ref 0 0 0,.ref 1 0 0,I i,.any],[],[Zw,.row 0 4 (Xf (qC (Bc L i)))]⟩) (fun i=>i≤L.length) (fun i=>L.length-i) 0 (by omega)
  ?_ ?_
 ·refine ZAZ (Qe 1 (Xf (qC 0)) rfl fun j hj=>?_) (Xh rfl (by simp[Xo,X7,I]) (by simp[Xx,XM]) (by simp[Zw,Bc]))
  match j,hj with
  |0,_=>exact XD _ _
  |1,_=>exact Cq (A6 (by rw[ZB9];simp[Qu]))
  |2,_=>exact XD _ _
  |3,_=>exact Cq (A6 (Nc rfl))
  |j+4,h=>omega
 intro i hi next
 have w1:=wj i;have hq:=Uz L k h i;have hq2:(4*k+4)*i≤4004*1000:=ZBQ (by omega) (by omega);by_cases hi2:i<L.length
 rotate_left
 ·obtain rfl:i=L.length:=by omega
  have c1:=XL 1 2 ⟨by omega,by omega⟩ ⟨by omega,by omega⟩;have c2:=Qm (Bc L L.length) (P' 1 2) (by unfold rm;omega) (by have:=(Zq 1 2 3 (by omega) (Aa ⟨by omega,by omega⟩) (Aa ⟨by omega,by omega⟩):qb (P' 1 2)≤3);unfold rm;omega);rw[show Bc L L.length*P' 1 2=aR L from rfl,←hR]at c2;refine Xk ?_;simp only[Zw,X7,ZAM,ZAG,↓X6,wF,seval];refine X2 c1 rfl ?_;simp only[↓X6,wF,seval];refine X2 c2 rfl ?_;simp only[hR,↓X6,wF,seval];exact Jf rfl XT rfl rfl rfl sR (hR.trans rfl)
 have f1:((i:Int)<L.length)=True:=L' (by omega);have f2:(i<L.length)=True:=L' hi2;have f3:(i*8+8≤L.length*8)=True:=L' (by omega);have f4:(i*8+4≤L.length*8)=True:=L' (by omega);have f5:(i*8+4+4≤L.length*8)=True:=L' (by omega);have v1:=vF L i;have cn:=Cc L i (by omega) hi2;obtain⟨b,hb⟩:∃b,b=L.getD ((i+1)%L.length) v0:=⟨_,rfl⟩
 have h1:=h i;have h2:=h ((i+1)%L.length);rw[←hb]at cn h2;have:=Ja (L.getD i v0);have:=J7 (L.getD i v0);have:=Ja b;have:=J7 b;have m1:=C3 (L.getD i v0).x b.x;have m2:=KE (L.getD i v0).y b.y;have m3:=Qa ((L.getD i v0).x-b.x) ((L.getD i v0).y+b.y);have c1:=Bm (L.getD i v0).x b.x;have c2:=QT (L.getD i v0).y b.y;have c3:=Qm ((L.getD i v0).x-b.x) ((L.getD i v0).y+b.y);have c4:=QT (Bc L i) (((L.getD i v0).x-b.x)*((L.getD i v0).y+b.y));have e:Bc L i+((L.getD i v0).x-b.x)*((L.getD i v0).y+b.y)=Bc L (i+1):=by rw[hb];rfl
 rw[e]at c4;refine Xk ?_;simp only[Zw,X7,w1,f1,f2,f3,f4,f5,v1,U',↓X6,wF,seval];refine X2 cn rfl ?_;simp only[Zw,X7,w1,f1,f2,f3,f4,f5,v1,U',↓X6,wF,seval];refine X2 c1 rfl ?_;simp only[Zw,X7,w1,f1,f2,f3,f4,f5,v1,U',↓X6,wF,seval];refine X2 c2 rfl ?_;simp only[Zw,X7,w1,f1,f2,f3,f4,f5,v1,U',↓X6,wF,seval];refine X2 c3 rfl ?_;simp only[Zw,X7,w1,f1,f2,f3,f4,f5,v1,U',↓X6,wF,seval];refine X2 c4 rfl ?_;simp only[Zw,X7,w1,f1,f2,f3,f4,f5,v1,U',↓X6,wF,seval];refine next (i+1) _ (by omega) (by omega) (XG (m:=2) (p_ _) rfl (by simp[X7,Xo,I]) (by simp[Xx]) (by simp[Zw,qC,Xl]) (by simp[XP,bv]) (by simp) (by simp[Zw,XP,bT]))
def IV (p q r s:Rat):Bool:=decide (p<r) && decide (p<s) && decide (q<r) && decide (q<s)
def Zi (n a b c d:V2):Bool:=IV (Qn n a) (Qn n b) (Qn n c) (Qn n d) || IV (Qn n c) (Qn n d) (Qn n a) (Qn n b)
theorem aE {p q r s fa fb fc fd:Rat}(h1:p*fd - q*fc=s*fa - r*fb)(h2:p - q=s - r)(hp:0<p)(hq:q<0)(hs:0<s)(hr:r<0)(k1:fa<fc)(k2:fa<fd)(k3:fb<fc)(k4:fb<fd):False:=by
 have pos:∀x,x<fc→x<fd→0<p*(fd-x)+(-q)*(fc-x):=fun x hx1 hx2=>by
  have:=ZBJ hp (show 0<fd-x by grind);have:=ZBJ (show 0 < -q by grind) (show 0<fc-x by grind);grind
 rcases Rat.le_total (a:=fa) (b:=fb)with h |h
 ·have h3:=pos fb k3 k4
  have h4:=ZAS (ZBI hs) (show 0≤fb-fa by grind);have e1:p*(fd-fb) + -q*(fc-fb)=(p*fd-q*fc)-(p-q)*fb:=by grind
  have e2:(s*fa-r*fb)-(s-r)*fb = -(s*(fb-fa)):=by grind
  rw[e1,h1,h2,e2]at h3;generalize s*(fb-fa)=z at h3 h4;grind
 ·have h3:=pos fa k1 k2
  have h4:=ZAS (show 0≤-r by grind) (show 0≤fa-fb by grind);have e1:p*(fd-fa) + -q*(fc-fa)=(p*fd-q*fc)-(p-q)*fa:=by grind
  have e2:(s*fa-r*fb)-(s-r)*fa = -(-r*(fa-fb)):=by grind
  rw[e1,h1,h2,e2]at h3;generalize -r*(fa-fb)=z at h3 h4;grind
theorem Bu (x:Rat):0≤x*x:=by
 rcases Rat.le_total (a:=0) (b:=x)with h |h
 ·exact ZAS h h
 ·have:=ZAS (show 0≤-x by grind) (show 0≤-x by grind)
  grind
theorem Wx (n a b c d:V2)(k1:Qn n a<Qn n c)(k2:Qn n a<Qn n d)(k3:Qn n b<Qn n c)(k4:Qn n b<Qn n d):Ce a b c d=false:=by
 have h1:Xq (b.sub a) (c.sub a)*Qn n d-Xq (b.sub a) (d.sub a)*Qn n c=Xq (d.sub c) (b.sub c)*Qn n a-Xq (d.sub c) (a.sub c)*Qn n b:=by
  unfold Xq Qn V2.sub;grind
 have h2:Xq (b.sub a) (c.sub a)-Xq (b.sub a) (d.sub a)=Xq (d.sub c) (b.sub c)-Xq (d.sub c) (a.sub c):=by
  unfold Xq V2.sub;grind
 rw[←ZA7];intro h;unfold Ce Ky at h;simp only[x_,decide_eq_true_eq]at h;generalize Xq (b.sub a) (c.sub a)=p at h1 h2 h;generalize Xq (b.sub a) (d.sub a)=q at h1 h2 h;generalize Xq (d.sub c) (a.sub c)=r at h1 h2 h;generalize Xq (d.sub c) (b.sub c)=s at h1 h2 h;have sp:∀x y:Rat,x.num.sign*y.num.sign<0→(0<x∧y<0)∨(x<0∧0<y):=fun x y h=>by
  rw[←Ek,←Ek,←HK,←HK];rcases ZBo x.num.sign 0 with hx |hx |hx
  ·rcases ZBo y.num.sign 0 with hy |hy |hy
   ·have:=Int.mul_pos_of_neg_of_neg hx hy;omega
   ·rw[hy]at h;omega
   ·exact .inr ⟨hx,hy⟩
  ·rw[hx]at h;omega
  ·rcases ZBo y.num.sign 0 with hy |hy |hy
   ·exact .inl ⟨hx,hy⟩
   ·rw[hy]at h;omega
   ·have:=Int.mul_pos hx hy;omega
 rcases sp p q h.1 with⟨hp,hq⟩ | ⟨hp,hq⟩
 ·rcases sp r s h.2 with⟨hr,hs⟩ | ⟨hr,hs⟩
  ·grind
  ·exact aE h1 h2 hp hq hs hr k1 k2 k3 k4
 ·rcases sp r s h.2 with⟨hr,hs⟩ | ⟨hr,hs⟩
  ·exact aE (p:=-p) (q:=-q) (r:=-r) (s:=-s) (by grind) (by grind) (by grind) (by grind) (by grind) (by grind) k1 k2 k3 k4
  ·grind
theorem Ww (n a b c:V2)(k1:Qn n a<Qn n c)(k2:Qn n b<Qn n c):OT a b c=false:=by
 have hid:Qn (a.sub c) (b.sub c)*Qn n (a.sub c)-Qn (a.sub c) (a.sub c)*Qn n (b.sub c)=Xq (b.sub a) (c.sub a)*(n.x*(a.sub c).y-n.y*(a.sub c).x):=by
  unfold Qn Xq V2.sub;grind
 have ha:Qn n (a.sub c)<0:=by
  have:Qn n (a.sub c)=Qn n a-Qn n c:=by unfold Qn V2.sub;grind
  grind
 have hb:Qn n (b.sub c)<0:=by
  have:Qn n (b.sub c)=Qn n b-Qn n c:=by unfold Qn V2.sub;grind
  grind
 have hu:0<Qn (a.sub c) (a.sub c):=by
  have hx:=Bu (a.sub c).x;have hy:=Bu (a.sub c).y;have hne:¬Qn (a.sub c) (a.sub c)=0:=fun h=>by
   unfold Qn at h;have h1:(a.sub c).x*(a.sub c).x=0:=by grind
   have h2:(a.sub c).y*(a.sub c).y=0:=by grind
   have h3:(a.sub c).x=0:=by rcases ZA9.1 h1 with h |h <;> exact h
   have h4:(a.sub c).y=0:=by rcases ZA9.1 h2 with h |h <;> exact h
   unfold Qn at ha;rw[h3,h4]at ha;grind
  unfold Qn at hne ⊢;grind
 rw[←ZA7];intro h;unfold OT Ky at h;simp only[x_,decide_eq_true_eq,aH]at h;obtain⟨h1,h2⟩:=h;rw[h1]at hid;have h2':Qn (a.sub c) (b.sub c)≤0:=by
  rw[←ZAf,←Ek];omega
 have m1:=ZAS (show 0≤-Qn (a.sub c) (b.sub c)by grind) (show 0≤-Qn n (a.sub c)by grind);have m2:=ZBJ hu (show 0 < -Qn n (b.sub c)by grind);grind
theorem aF (n a b c:V2)(k1:Qn n c<Qn n a)(k2:Qn n c<Qn n b):OT a b c=false :=
 Ww ⟨-n.x,-n.y⟩ a b c (by unfold Qn at *;grind) (by unfold Qn at *;grind)
theorem Pr (n a b c d:V2)(k1:Qn n a<Qn n c)(k2:Qn n a<Qn n d)(k3:Qn n b<Qn n c)(k4:Qn n b<Qn n d):Ad a b c d=false:=by
 unfold Ad;rw[Wx n a b c d k1 k2 k3 k4,Ww n a b c k1 k3,Ww n a b d k2 k4,aF n c d a k1 k2,aF n c d b k3 k4];rfl
theorem NV (n a b c d:V2)(h:Zi n a b c d=true):Ad a b c d=false:=by
 unfold Zi IV at h;simp only[Bool.or_eq_true,x_,decide_eq_true_eq]at h;rcases h with⟨⟨⟨h1,h2⟩,h3⟩,h4⟩ | ⟨⟨⟨h1,h2⟩,h3⟩,h4⟩
 ·exact Pr n a b c d h1 h2 h3 h4
 ·exact Pr ⟨-n.x,-n.y⟩ a b c d (by unfold Qn at *;grind) (by unfold Qn at *;grind) (by unfold Qn at *;grind) (by unfold Qn at *;grind)
def Ey (a b c d:V2):Nat→V2
 |0=>(b.sub a).F'
 |1=>(d.sub c).F'
 |2=>b.sub a
 |3=>d.sub c
 |_=>c.sub a
def AZ (a b c d:V2):Prop:=∀i,i<5→Zi (Ey a b c d i) a b c d=false
theorem fG (a b c d:V2)(h:¬AZ a b c d):Ad a b c d=false:=by
 unfold AZ at h;simp only[Classical.not_forall]at h;obtain⟨i,_,h⟩:=h;exact NV _ a b c d (by simpa using h)
def Rl (L:List V2)(i k:Nat):Prop:=1<(k+L.length-i)%L.length∧(k+L.length-i)%L.length<L.length-1∧AZ (atF L i) (atF L (i+1)) (atF L k) (atF L (k+1))
def YH (L:List V2)(i:Nat):Prop:=¬Yj L i∧∀k,k<L.length→¬Rl L i k
def Ax (L:List V2):Prop:=(3≤L.length∧L.length≤12)∧(∀i,i<L.length→YH L i)∧0<(ZB L).num.sign
theorem mC (L:List V2)(h:Ax L):C1 L:=by
 obtain⟨h1,h2,h3⟩:=h;refine⟨h1,fun i hi=>⟨(h2 i hi).1,fun k hk1 hk2 hb=>?_⟩,h3⟩;have hg:=(h2 i hi).2 k hk2;have e:(k+L.length-i)%L.length=k-i:=by
  rw[show k+L.length-i=(k-i)+L.length by omega,Nat.add_mod_right,ZAJ (by omega)]
 have hne:k-i<L.length-1:=by
  rcases Nat.lt_or_ge (k-i) (L.length-1)with h |h
  ·exact h
  ·exfalso
   have h1:k=L.length-1:=by omega
   have h2:i=0:=by omega
   have:(k+1)%L.length=0:=by rw[show k+1=L.length by omega,ZC6]
   exact hb.1 (by omega)
 have hm:¬AZ (atF L i) (atF L (i+1)) (atF L k) (atF L (k+1)):=fun hm=>hg ⟨by omega,by omega,hm⟩
 have:=fG _ _ _ _ hm;rw[hb.2]at this;exact absurd this (by decide)
theorem Vo (n a b c d:V2)(hn:vb n≤vs)(ha:vb a≤vs)(hb:vb b≤vs)(hc:vb c≤vs)(hd:vb d≤vs):Fn Tryz.prog 216 [vA n,vA a,vA b,vA c,vA d] (.bool (Zi n a b c d)):=by
 unfold vs at hn ha hb hc hd;have e1:=KG n a;have e2:=KG n b;have e3:=KG n c;have e4:=KG n d;have q1:=Zu n a;have q2:=Zu n b;have q3:=Zu n c;have q4:=Zu n d;obtain⟨V,hV⟩:∃V,V=Zi n a b c d:=⟨_,rfl⟩
 rw[←hV];unfold Zi at hV;generalize Qn n a=p at *;generalize Qn n b=q at *;generalize Qn n c=r at *;generalize Qn n d=s at *;have k1:=J2 p r;have k2:=J2 p s;have k3:=J2 q r;have k4:=J2 q s;obtain⟨LE,hLE⟩:∃LE,LE=IV p q r s:=⟨_,rfl⟩
 obtain⟨MO,hMO⟩:∃MO,MO=IV r s p q:=⟨_,rfl⟩
 rw[←hLE,←hMO]at hV;have hl:LE=(decide (Bk p r<0) && decide (Bk p s<0) && decide (Bk q r<0) && decide (Bk q s<0)):=by
  rw[hLE];unfold IV;rw[decide_eq_decide.2 (CV p r),decide_eq_decide.2 (CV p s),decide_eq_decide.2 (CV q r),decide_eq_decide.2 (CV q s)]
 have hm:MO=(decide (0<Bk p r) && decide (0<Bk p s) && decide (0<Bk q r) && decide (0<Bk q s)):=by
  rw[hMO];unfold IV;rw[decide_eq_decide.2 (Zy p r),decide_eq_decide.2 (Zy p s),decide_eq_decide.2 (Zy q r),decide_eq_decide.2 (Zy q s)];cases decide (r<p) <;> cases decide (r<q) <;> cases decide (s<p) <;> cases decide (s<q) <;> rfl
 have TEH:∀ (A B C D:Prop) [Decidable A] [Decidable B] [Decidable C] [Decidable D] (X:Bool),X=(decide A && decide B && decide C && decide D)→(X=false∧A=False∧True∧True∧True)∨(X=false∧A=True∧B=False∧True∧True)∨(X=false∧A=True∧B=True∧C=False∧True)∨(X=false∧A=True∧B=True∧C=True∧D=False)∨(X=true∧A=True∧B=True∧C=True∧D=True):=by
  intro A B C D _ _ _ _ X h;by_cases hA:A
  rotate_left
  ·exact .inl ⟨by rw[h,Z_ hA];rfl,R_ hA,trivial,trivial,trivial⟩
  by_cases hB:B
  rotate_left
  ·exact .inr (.inl ⟨by rw[h,c_ hA,Z_ hB];rfl,L' hA,R_ hB,trivial,trivial⟩)
  by_cases hC:C
  rotate_left
  ·exact .inr (.inr (.inl ⟨by rw[h,c_ hA,c_ hB,Z_ hC];rfl,L' hA,L' hB,R_ hC,trivial⟩))
  by_cases hD:D
  rotate_left
  ·exact .inr (.inr (.inr (.inl ⟨by rw[h,c_ hA,c_ hB,c_ hC,Z_ hD];rfl,L' hA,L' hB,L' hC,R_ hD⟩)))
  ·exact .inr (.inr (.inr (.inr ⟨by rw[h,c_ hA,c_ hB,c_ hC,c_ hD];rfl,L' hA,L' hB,L' hC,L' hD⟩)))
 have cl:=TEH _ _ _ _ _ hl;have cm:=TEH _ _ _ _ _ hm;clear TEH hl hm hLE hMO q1 q2 q3 q4 hn ha hb hc hd;have fin:∀ {s:AS} {v:Bool},s.get 10=.bool v→v=(LE || MO)→TAC (JK Tryz.prog Tryz.f216 [] [] (.bool V)) s:=fun h e=>Xn rfl h (X5 _) (by rw[e,hV])
 refine Fq Tryz.call216 Tryz.func216 17 [] [] [] (by simp[Xv]) (Xk ?_);simp only[O_,↓X6,wF,seval];refine X2 e1 rfl ?_;simp only[↓X6,wF,seval];refine X2 e2 rfl ?_;simp only[↓X6,wF,seval];refine X2 e3 rfl ?_;simp only[↓X6,wF,seval];refine X2 e4 rfl ?_;simp only[↓X6,wF,seval];rcases cl with⟨hX,l1,l2,l3,l4⟩ | ⟨hX,l1,l2,l3,l4⟩ | ⟨hX,l1,l2,l3,l4⟩ | ⟨hX,l1,l2,l3,l4⟩ | ⟨hX,l1,l2,l3,l4⟩
 all_goals
  refine X2 k1 rfl ?_;simp only[l1,l2,l3,l4,↓X6,wF,seval]
  try(refine X2 k2 rfl ?_;simp only[l1,l2,l3,l4,↓X6,wF,seval])
  try(refine X2 k3 rfl ?_;simp only[l1,l2,l3,l4,↓X6,wF,seval])
  try(refine X2 k4 rfl ?_;simp only[l1,l2,l3,l4,↓X6,wF,seval])
  rcases cm with⟨hY,m1,m2,m3,m4⟩ | ⟨hY,m1,m2,m3,m4⟩ | ⟨hY,m1,m2,m3,m4⟩ | ⟨hY,m1,m2,m3,m4⟩ | ⟨hY,m1,m2,m3,m4⟩
  all_goals
   refine X2 k1 rfl ?_;simp only[l1,l2,l3,l4,m1,m2,m3,m4,↓X6,wF,seval]
   try(refine X2 k2 rfl ?_;simp only[l1,l2,l3,l4,m1,m2,m3,m4,↓X6,wF,seval])
   try(refine X2 k3 rfl ?_;simp only[l1,l2,l3,l4,m1,m2,m3,m4,↓X6,wF,seval])
   try(refine X2 k4 rfl ?_;simp only[l1,l2,l3,l4,m1,m2,m3,m4,↓X6,wF,seval])
   exact fin rfl (by rw[hX,hY];rfl)
end
end Go.Ab.N
namespace Go.Ab.N
open Go Go.RowKit Go.Proofs
noncomputable section
set_option maxRecDepth 10000
set_option maxHeartbeats 4000000
open Classical
theorem W2 (a b c d:V2)(ha:vb a≤10000)(hb:vb b≤10000)(hc:vb c≤10000)(hd:vb d≤10000):Fn Tryz.prog 154 [vA a,vA b,vA c,vA d] (.bool (decide (AZ a b c d))):=by
 have m1:=J4 b a;have m2:=J4 d c;have m3:=J4 c a;have u1:=AJ (b.sub a);have u2:=AJ (d.sub c);have c1:=QS b a;have c2:=QS d c;have c5:=QS c a;have c3:=Pt (b.sub a) (by unfold rm;omega);have c4:=Pt (d.sub c) (by unfold rm;omega);have hA:∀i,i<5→vb (Ey a b c d i)≤vs:=fun i hi=>by
  unfold vs
  match i,hi with
  |0,_=>show vb (b.sub a).F'≤_;omega
  |1,_=>show vb (d.sub c).F'≤_;omega
  |2,_=>show vb (b.sub a)≤_;omega
  |3,_=>show vb (d.sub c)≤_;omega
  |4,_=>show vb (c.sub a)≤_;omega
  |i+5,h=>omega
 have kb:∀i,i<5→Fn Tryz.prog 216 [vA (Ey a b c d i),vA a,vA b,vA c,vA d] (.bool (Zi (Ey a b c d i) a b c d)):=fun i hi=>Vo _ a b c d (hA i hi) (by unfold vs;omega) (by unfold vs;omega) (by unfold vs;omega) (by unfold vs;omega)
 obtain⟨V,hV⟩:∃V,V=decide (AZ a b c d):=⟨_,rfl⟩
 rw[←hV];unfold AZ at hV;replace c1:Fn Tryz.prog 97 [vA b,vA a] (vA (Ey a b c d 2)):=c1;replace c2:Fn Tryz.prog 97 [vA d,vA c] (vA (Ey a b c d 3)):=c2;replace c3:Fn Tryz.prog 215 [vA (Ey a b c d 2)] (vA (Ey a b c d 0)):=c3;replace c4:Fn Tryz.prog 215 [vA (Ey a b c d 3)] (vA (Ey a b c d 1)):=c4;replace c5:Fn Tryz.prog 97 [vA c,vA a] (vA (Ey a b c d 4)):=c5;clear m1 m2 m3 u1 u2 hA ha hb hc hd;generalize hF:(fun i=>Zi (Ey a b c d i) a b c d)=F at *;have hF':∀i,Zi (Ey a b c d i) a b c d=F i:=fun i=>by rw[←hF]
 simp only[hF']at kb hV;clear hF hF';generalize Ey a b c d=A at *;have fin:∀ {s:AS} {v:Bool},s.get 8=.bool v→v=V→TAC (JK Tryz.prog Tryz.f154 [] [] (.bool V)) s:=fun h e=>Xn rfl h (X5 _) (by rw[e])
 have hvc:∀a:V2,∀x∈vC a,A_ x:=fun a=>by simp[vC,Xd,X5]
 have TFs:∀a:V2,Q0 4 (.row 0 8 (Xf (vC a)))=True:=fun a=>L' (QZ (hvc a))
 have bel:Jl 4 (.sl 5 40 (Xf (vC (A 0) ++ (vC (A 1) ++ (vC (A 2) ++ (vC (A 3) ++ vC (A 4)))))) true)=True:=L' (X4 (Qw fun j hj=>Xe (fun x hx=>by
  simp only[n_]at hx;rcases hx with h |h |h |h |h <;> exact hvc _ _ h) j))
 refine Fq Tryz.call154 Tryz.func154 13 [] [] [] (by simp[wS]) (Xk ?_);simp(maxSteps:=999999)only[O_,↓X6,wA,↓reduceIte,reduceIte,reduceCtorEq,Y1,Y2,Y3,Y4,Y5,Y6,Y7,Y8,Y9,YA,wE];refine X2 c1 rfl ?_;simp only[↓X6,wA,↓reduceIte,reduceIte,reduceCtorEq,Y1,Y2,Y3,Y4,Y5,Y6,Y7,Y8,Y9,YA,wE];refine X2 c2 rfl ?_;simp only[↓X6,wA,↓reduceIte,reduceIte,reduceCtorEq,Y1,Y2,Y3,Y4,Y5,Y6,Y7,Y8,Y9,YA,wE];refine X2 c3 rfl ?_;simp only[↓X6,wA,↓reduceIte,reduceIte,reduceCtorEq,Y1,Y2,Y3,Y4,Y5,Y6,Y7,Y8,Y9,YA,wE];refine X2 c4 rfl ?_;simp only[↓X6,wA,↓reduceIte,reduceIte,reduceCtorEq,Y1,Y2,Y3,Y4,Y5,Y6,Y7,Y8,Y9,YA,wE];refine X2 c5 rfl ?_;simp only[↓X6,wA,↓reduceIte,reduceIte,reduceCtorEq,Y1,Y2,Y3,Y4,Y5,Y6,Y7,Y8,Y9,YA,wE];refine Xj (fun i:Nat=>⟨13,[],[.any,.any,.any,.any,.ref 0 0 0,.ref 1 0 0,.ref 2 0 0,.ref 3 0 0,.bool false,.any,.any,.sl 5 40 (Xf (vC (A 0) ++ (vC (A 1) ++ (vC (A 2) ++ (vC (A 3) ++ vC (A 4)))))) true,I i],[],[.row 0 8 (Xf (vC a)),.row 0 8 (Xf (vC b)),.row 0 8 (Xf (vC c)),.row 0 8 (Xf (vC d))]⟩) (fun i=>i≤5∧∀j,j<i→F j=false) (fun i=>5-i) 0 ⟨by omega,by omega⟩
  (rM (m:=4) (by simp[vC,Xl,Xo,I]) (by simp[vC,Xl]) (by simp[XP,bel]) (by simp[TFs])) ?_
 rintro i ⟨hi,hok⟩ next
 have w0:Q_.wrap (0+1)=1:=by decide
 have w1:Q_.wrap (1+1)=2:=by decide
 have w2:Q_.wrap (2+1)=3:=by decide
 have w3:Q_.wrap (3+1)=4:=by decide
 have w4:Q_.wrap (4+1)=5:=by decide
 have e0:((0:Nat):Int)=0:=rfl;have e1:((1:Nat):Int)=1:=rfl;have e2:((2:Nat):Int)=2:=rfl;have e3:((3:Nat):Int)=3:=rfl;have e4:((4:Nat):Int)=4:=rfl;have e5:((5:Nat):Int)=5:=rfl;have t1:(1:Int).toNat=1:=rfl;have t2:(2:Int).toNat=2:=rfl;have t3:(3:Int).toNat=3:=rfl;have t4:(4:Int).toNat=4:=rfl;by_cases hi5:i<5
 ·have k:=kb i hi5
  have TDn:i=0∨i=1∨i=2∨i=3∨i=4:=by omega
  by_cases hv:F i=true
  ·rw[hv]at k
   have hb:false=V:=by
    rw[hV,Z_];intro h;rw[h i hi5]at hv;cases hv
   rcases TDn with rfl |rfl |rfl |rfl |rfl
   all_goals
    refine Xk ?_;simp only[vC,e_,h_,e0,e1,e2,e3,e4,e5,t1,t2,t3,t4,w0,w1,w2,w3,w4,ZAz,ZBA,ZAo,↓X6,wA,↓reduceIte,reduceIte,reduceCtorEq,Y1,Y2,Y3,Y4,Y5,Y6,Y7,Y8,Y9,YA,wE];refine X2 k rfl ?_;simp only[↓X6,wA,↓reduceIte,reduceIte,reduceCtorEq,Y1,Y2,Y3,Y4,Y5,Y6,Y7,Y8,Y9,YA,wE];exact fin rfl hb
  rw[ZA7]at hv;rw[hv]at k;have nx:=next (i+1)
  rcases TDn with rfl |rfl |rfl |rfl |rfl
  all_goals
   refine Xk ?_;simp only[vC,e_,h_,e0,e1,e2,e3,e4,e5,t1,t2,t3,t4,w0,w1,w2,w3,w4,ZAz,ZBA,ZAo,↓X6,wA,↓reduceIte,reduceIte,reduceCtorEq,Y1,Y2,Y3,Y4,Y5,Y6,Y7,Y8,Y9,YA,wE];refine X2 k rfl ?_;simp only[w0,w1,w2,w3,w4,↓X6,wA,↓reduceIte,reduceIte,reduceCtorEq,Y1,Y2,Y3,Y4,Y5,Y6,Y7,Y8,Y9,YA,wE];refine nx _ ⟨by omega,fun j hj=>?_⟩ (by omega) (ZZ (by simp[vC,Xl,Xo,I]) (by simp[vC,Xl]));rcases Nat.lt_succ_iff_lt_or_eq.1 hj with h |h
   ·exact hok j h
   ·rw[h];exact hv
 obtain rfl:i=5:=by omega
 refine Xk ?_;simp only[e5,ZAM,↓X6,wA,↓reduceIte,reduceIte,reduceCtorEq,Y1,Y2,Y3,Y4,Y5,Y6,Y7,Y8,Y9,YA,wE];exact fin rfl (by rw[hV,c_ hok])
theorem E3 (L:List V2)(k:Nat)(h:J3 L k)(hk:k≤100000)(hl:L.length<1000000):Fn Tryz.prog 85 [Qx L] (.bool true):=by
 have rv:∀r:Rat,qb r≤100000→Fn Tryz.prog 86 [qA r] (.bool true):=fun r hr=>by
  have h1:=RQ.TBv r;have:=Cg (RQ.of r) (by omega);rwa[c_ ⟨r,rfl⟩]at this
 refine Fq Tryz.call85 Tryz.func85 4 [] [] [] (by simp[Xs]) (Xk ?_);simp only[O_,X7,↓X6,wA,↓reduceIte,reduceIte,reduceCtorEq,Y1,Y2,Y3,Y4,Y5,Y6,Y7,Y8,Y9,YA,wE];refine Xj (fun i:Nat=>⟨4,[],[Qx L,.any,.bool false,I i],[],[]⟩) (fun i=>i≤L.length) (fun i=>L.length-i) 0 (by omega)
  (ZZ (by simp[X7,Xo,I]) rfl) ?_
 intro i hi next
 have w1:=wj i;by_cases hi2:i<L.length
 ·have f3:((i:Int)<L.length)=True:=L' (by omega)
  have f4:(i<L.length)=True:=L' hi2;have f5:(i*8+8≤L.length*8)=True:=L' (by omega);have f6:(i*8+4≤L.length*8)=True:=L' (by omega);have f7:(i*8+4+4≤L.length*8)=True:=L' (by omega);have v1:=vF L i;have hx:=Ja (L.getD i v0);have hy:=J7 (L.getD i v0);have hb:=h i;refine Xk ?_;simp only[X7,w1,f3,f4,f5,f6,f7,v1,U',↓X6,wA,↓reduceIte,reduceIte,reduceCtorEq,Y1,Y2,Y3,Y4,Y5,Y6,Y7,Y8,Y9,YA,wE];refine X2 (rv (L.getD i v0).x (by omega)) rfl ?_;simp only[X7,w1,f3,f4,f5,f6,f7,v1,U',↓X6,wA,↓reduceIte,reduceIte,reduceCtorEq,Y1,Y2,Y3,Y4,Y5,Y6,Y7,Y8,Y9,YA,wE];refine X2 (rv (L.getD i v0).y (by omega)) rfl ?_;simp only[w1,↓X6,wA,↓reduceIte,reduceIte,reduceCtorEq,Y1,Y2,Y3,Y4,Y5,Y6,Y7,Y8,Y9,YA,wE];exact next (i+1) _ (by omega) (by omega) (ZZ (by simp[X7,Xo,I]) rfl)
 obtain rfl:i=L.length:=by omega
 refine Xk ?_;simp only[X7,ZAM,ZAG,↓X6,wA,↓reduceIte,reduceIte,reduceCtorEq,Y1,Y2,Y3,Y4,Y5,Y6,Y7,Y8,Y9,YA,wE];exact Xn rfl rfl (X5 _) rfl
theorem HA (L:List V2)(h:J3 L 1000)(hl:L.length<1000000):Fn Tryz.prog 71 [Qx L] (.bool (decide (Ax L))):=by
 obtain⟨V,hV⟩:∃V,V=decide (Ax L):=⟨_,rfl⟩
 have cn:=E3 L 1000 h (by omega) hl;rw[←hV];have fin:∀ {s:AS} {v:Bool},s.get 2=.bool v→v=V→TAC (JK Tryz.prog Tryz.f71 [] [] (.bool V)) s:=fun h e=>Xn rfl h (X5 _) (by rw[e])
 have sm:∀i,vb (atF L i)≤1000:=fun i=>h (i%L.length)
 refine Fq Tryz.call71 Tryz.func71 6 [] [] [] (by simp[Xs]) (Xk ?_);by_cases hlo:(L.length:Int)<3
 ·have f1:((L.length:Int)<3)=True:=L' hlo
  have f1':(L.length<3)=True:=L' (by omega);simp only[O_,X7,f1,f1',↓X6,wF,seval];exact fin rfl (by rw[hV,Z_];unfold Ax;omega)
 have f1:((L.length:Int)<3)=False:=R_ hlo;have f1':(L.length<3)=False:=R_ (by omega);by_cases hhi:(12:Int)<L.length
 ·have f2:((12:Int)<L.length)=True:=L' hhi
  have f2':(12<L.length)=True:=L' (by omega);simp only[O_,X7,f1,f1',f2,f2',↓X6,wF,seval];exact fin rfl (by rw[hV,Z_];unfold Ax;omega)
 have f2:((12:Int)<L.length)=False:=R_ hhi;have f2':(12<L.length)=False:=R_ (by omega);simp only[O_,X7,f1,f1',f2,f2',↓X6,wF,seval];refine X2 cn rfl ?_;simp only[f1,f1',f2,f2',↓X6,wF,seval];have hn0:L.length≠0:=by omega
 refine Xj (fun i:Nat=>⟨6,[],[Qx L,.any,.bool false,I i,.any,.any],[],[]⟩) (fun i=>i≤L.length∧∀j,j<i→YH L j) (fun i=>L.length-i) 0 ⟨by omega,by omega⟩
  (ZZ (by simp[X7,Xo,I]) rfl) ?_
 rintro i ⟨hi,TBw⟩ next
 have w1:=wj i;have w2:Q_.wrap ((i:Int)+2)=((i+2:Nat):Int):=by rw[M'];omega
 by_cases hi2:i<L.length
 rotate_left
 ·obtain rfl:i=L.length:=by omega
  refine Xk ?_;simp only[X7,ZAM,ZAG,↓X6,wF,seval];have ca:=Ni L 1000 h (by omega) (by omega);have cs:=Q8 (ZB L) (by have:=(Yc L 1000 h (by omega) (by omega)).2;unfold rm;omega);refine X2 ca rfl ?_;simp only[↓X6,wF,seval];refine X2 cs rfl ?_;simp only[↓X6,wF,seval];exact fin rfl (by rw[hV,decide_eq_decide];unfold Ax;exact⟨fun h=>⟨by omega,TBw,h⟩,fun h=>h.2.2⟩)
 have TCG:∀j,j<L.length→atF L j=L.getD j v0:=fun j hj=>by unfold atF;rw[ZAJ hj]
 have f3:((i:Int)<L.length)=True:=L' (by omega);have f4:(i<L.length)=True:=L' hi2;have f5:(i*8+8≤L.length*8)=True:=L' (by omega);have v1:=vF L i;have cat:∀j:Nat,j<1000000000→Fn Tryz.prog 153 [Qx L,I j] (vA (atF L j)):=fun j hj=>dw L j hl hn0 hj
 have cs:=TQ (atF L i) (atF L (i+1)) (atF L (i+2)) (by have:=sm i;unfold vs;omega) (by have:=sm (i+1);unfold vs;omega) (by have:=sm (i+2);unfold vs;omega);refine Xk ?_;simp only[X7,w1,w2,f3,f4,f5,v1,U',↓X6,wF,seval];refine X2 (cat (i+1) (by omega)) rfl ?_;simp only[X7,w1,w2,f3,f4,f5,v1,U',↓X6,wF,seval];refine X2 (cat (i+2) (by omega)) rfl ?_;simp only[X7,w1,w2,f3,f4,f5,v1,U',↓X6,wF,seval];have cs':=cs;rw[TCG i hi2]at cs';refine X2 cs' rfl ?_;by_cases hs:Ky (atF L i) (atF L (i+1)) (atF L (i+2))=0
 ·have g5:(Ky (L.getD i v0) (atF L (i+1)) (atF L (i+2))=0)=True:=L' (by rw[←TCG i hi2];exact hs)
  simp only[g5,↓X6,wF,seval];exact fin rfl (by rw[hV,Z_];exact fun hp=>(hp.2.1 i hi2).1 hs)
 have g5:(Ky (L.getD i v0) (atF L (i+1)) (atF L (i+2))=0)=False:=R_ (by rw[←TCG i hi2];exact hs);simp only[g5,w1,w2,↓X6,wF,seval];refine Xj (fun k:Nat=>⟨6,[],[Qx L,.any,.bool false,I i,I k,.any],[],[]⟩) (fun k=>k≤L.length∧∀j,j<k→¬Rl L i j) (fun k=>L.length-k) 0 ⟨by omega,by omega⟩
  (ZZ (by simp[X7,Xo,I]) rfl) ?_
 rintro k ⟨hk,TB5⟩ TBD;have u1:=wj k;by_cases hk3:k<L.length
 rotate_left
 ·obtain rfl:k=L.length:=by omega
  refine Xk ?_;simp only[X7,ZAM,ZAG,w1,↓X6,wF,seval];refine next (i+1) _ ⟨by omega,fun j hj=>?_⟩ (by omega) (ZZ (by simp[X7,Xo,I]) rfl)
  by_cases hji:j<i
  ·exact TBw j hji
  ·obtain rfl:j=i:=by omega
   exact⟨hs,fun q hq=>TB5 q hq⟩
 have g3:((k:Int)<L.length)=True:=L' (by omega);have g4:(k<L.length)=True:=L' hk3;have h5:(k*8+8≤L.length*8)=True:=L' (by omega);have v2:=vF L k;have f6:((L.length:Int)=0)=False:=R_ (by omega);have f6':(L.length=0)=False:=R_ hn0;have r1:Q_.wrap ((k:Int)-i)=(k:Int)-i:=by rw[M'];omega
 have r2:Q_.wrap ((k:Int)-i+L.length)=((k+L.length-i:Nat):Int):=by rw[M'];omega
 have r3:((k+L.length-i:Nat):Int).tmod L.length=(((k+L.length-i)%L.length:Nat):Int):=rfl;have r4:Q_.wrap ((L.length:Int)-1)=((L.length-1:Nat):Int):=by rw[M'];omega
 obtain⟨G,hG⟩:∃G,G=(k+L.length-i)%L.length:=⟨_,rfl⟩
 rw[←hG]at r3;have step:¬Rl L i k→∀j,j<k+1→¬Rl L i j:=fun hb j hj=>by
  by_cases hjk:j<k
  ·exact TB5 j hjk
  ·obtain rfl:j=k:=by omega
   exact hb
 by_cases q1:1<G
 rotate_left
 ·have q2:(1<G)=False:=R_ q1
  have q2':((1:Int)<(G:Int))=False:=R_ (by omega);refine Xk ?_;simp only[X7,w1,u1,g3,g4,f6,f6',r1,r2,r3,r4,q2,q2',↓X6,wF,seval];exact TBD (k+1) _ ⟨by omega,step fun hb=>q1 (by rw[hG];exact hb.1)⟩ (by omega) (ZZ (by simp[X7,Xo,I]) rfl)
 have q2:(1<G)=True:=L' q1;have q2':((1:Int)<(G:Int))=True:=L' (by omega);by_cases q3:G<L.length-1
 rotate_left
 ·have q4:(G<L.length-1)=False:=R_ q3
  have q4':((G:Int)<((L.length-1:Nat):Int))=False:=R_ (by omega);refine Xk ?_;simp only[X7,w1,u1,g3,g4,f6,f6',r1,r2,r3,r4,q2,q2',q4,q4',↓X6,wF,seval];exact TBD (k+1) _ ⟨by omega,step fun hb=>q3 (by rw[hG];exact hb.2.1)⟩ (by omega) (ZZ (by simp[X7,Xo,I]) rfl)
 have q4:(G<L.length-1)=True:=L' q3;have q4':((G:Int)<((L.length-1:Nat):Int))=True:=L' (by omega);have cm:=W2 (atF L i) (atF L (i+1)) (atF L k) (atF L (k+1)) (by have:=sm i;omega) (by have:=sm (i+1);omega) (by have:=sm k;omega) (by have:=sm (k+1);omega);rw[TCG i hi2,TCG k hk3]at cm;refine Xk ?_;simp only[X7,w1,u1,f3,f4,f5,g3,g4,h5,f6,f6',r1,r2,r3,r4,q2,q2',q4,q4',v1,v2,U',↓X6,wF,seval];refine X2 (cat (i+1) (by omega)) rfl ?_;simp only[X7,w1,u1,f3,f4,f5,g3,g4,h5,f6,f6',r1,r2,r3,r4,q2,q2',q4,q4',v1,v2,U',↓X6,wF,seval];refine X2 (cat (k+1) (by omega)) rfl ?_;simp only[X7,w1,u1,f3,f4,f5,g3,g4,h5,f6,f6',r1,r2,r3,r4,q2,q2',q4,q4',v1,v2,U',↓X6,wF,seval];refine X2 cm rfl ?_;by_cases hmt:AZ (L.getD i v0) (atF L (i+1)) (L.getD k v0) (atF L (k+1))
 ·rw[c_ hmt]
  simp only[↓X6,wF,seval];exact fin rfl (by rw[hV,Z_];exact fun hp=>(hp.2.1 i hi2).2 k hk3 ⟨by omega,by omega,by rw[TCG i hi2,TCG k hk3];exact hmt⟩)
 ·rw[Z_ hmt]
  simp only[u1,↓X6,wF,seval];exact TBD (k+1) _ ⟨by omega,step fun hb=>hmt (by have:=hb.2.2;rwa[TCG i hi2,TCG k hk3]at this)⟩ (by omega) (ZZ (by simp[X7,Xo,I]) rfl)
theorem Kq (n m:Int)(hn:Ap n)(hm:m≠0):Fn Tryz.prog 21 [I n,I m] (I (Qk n m)):=by
 obtain⟨h1,h2⟩:=hn;refine Fq Tryz.call21 Tryz.func21 5 [] [] [] (by simp[wS]) (Xk ?_);simp(maxSteps:=999999)only[O_,↓X6,wF,seval];refine⟨fun h=>⟨hm,C4 rfl (XY (X8 _) ?_)⟩,fun h=>⟨hm,C4 rfl (XY (X8 _) ?_)⟩⟩
 ·have e1:Q_.wrap (n+1)=n+1:=by rw[M'];omega
  have e2:Q_.wrap (-(n+1)) = -(n+1):=by rw[M'];omega
  simp[AS.get,Qk,h,e1,e2,I]
 ·simp[AS.get,Qk,h,I]
theorem QW (l:List Int)(i m:Int)(hl:Eo l)(hm:m≠0:=by omega):Fn Tryz.prog 32 [X9 l,I i,I m] (I (Ab.atF l i m)):=by
 refine Fq Tryz.call32 Tryz.func32 7 [] [] [] (by simp[Xd,X8]) (Xk ?_);by_cases h0:i<0
 ·have f1:(i<0)=True:=L' h0
  simp only[O_,Xl,f1,↓X6,wF,seval];exact Xn (v:=I 0) rfl rfl (X8 _) (by rw[show Ab.atF l i m=0 from N_ (.inl h0)])
 have f1:(i<0)=False:=R_ h0;by_cases h1:(l.length:Int)≤i
 ·have f2:((l.length:Int)≤i)=True:=L' h1
  simp only[O_,Xl,f1,f2,↓X6,wF,seval];exact Xn (v:=I 0) rfl rfl (X8 _) (by rw[show Ab.atF l i m=0 from N_ (.inr h1)])
 have f2:((l.length:Int)≤i)=False:=R_ h1;have f3:(0≤i)=True:=L' (by omega);have f4:(i<(l.length:Int))=True:=L' (by omega);have f5:(i.toNat<l.length)=True:=L' (by omega);simp only[O_,Xl,f1,f2,f3,f4,f5,↓X6,wF,seval];refine X2 (Kq _ m (iL hl i.toNat) hm) rfl ?_;simp only[↓X6,wF,seval];exact Xn (v:=I (Qk (l.getD i.toNat 0) m)) rfl rfl (X8 _) (by rw[show Ab.atF l i m=Qk (l.getD i.toNat 0) m from M_ (by omega)])
theorem Hi {a:Rat}(h:qb a≤rm):(RQ.of a).sz<4611686018427387904:=ZCO (RQ.TBv a) (by unfold rm at h;omega)
theorem mM (a b:Rat)(ha:qb a≤rm:=by unfold rm;omega)(hb:qb b≤rm:=by unfold rm;omega):Fn Tryz.prog 39 [qA a,qA b] (.bool (decide (a=b))):=by
 have:=mN (RQ.of a) (RQ.of b) (Hi ha) (Hi hb);rwa[decide_eq_decide.2 (show RQ.of a=RQ.of b↔a=b from⟨RQ.TCi,fun h=>by rw[h]⟩)]at this
theorem Pc (a b:Rat)(ha:qb a≤rm:=by unfold rm;omega)(hb:qb b≤rm:=by unfold rm;omega):Fn Tryz.prog 26 [qA a,qA b] (.bool (decide (a=b))):=by
 have:=Pq (RQ.of a) (RQ.of b) (Hi ha) (Hi hb);rwa[decide_eq_decide.2 (show RQ.of a=RQ.of b↔a=b from⟨RQ.TCi,fun h=>by rw[h]⟩)]at this
theorem KH (a:Rat)(ha:qb a≤rm:=by unfold rm;omega):Fn Tryz.prog 86 [qA a] (.bool true):=by
 have:=Cg (RQ.of a) (ZCO (RQ.TBv a) (by unfold rm at ha;omega));rwa[c_ ⟨a,rfl⟩]at this
def ue (t a:V2):V2:=⟨t.x*a.x-t.y*a.y,t.y*a.x+t.x*a.y⟩
def V2.scale (a:V2)(k:Rat):V2:=⟨a.x*k,a.y*k⟩
theorem nH (t a:V2):vb (ue t a)≤2*(vb t+vb a)+1:=by
 have:=Qa t.x a.x;have:=Qa t.y a.y;have:=Qa t.y a.x;have:=Qa t.x a.y;have:=Ja t;have:=J7 t;have:=Ja a;have:=J7 a;have:=C3 (t.x*a.x) (t.y*a.y);have:=KE (t.y*a.x) (t.x*a.y);unfold ue;show max (qb (t.x*a.x-t.y*a.y)) (qb (t.y*a.x+t.x*a.y))≤_;omega
theorem UD (a:V2)(k:Rat):vb (a.scale k)≤vb a+qb k:=by
 have:=Qa a.x k;have:=Qa a.y k;have:=Ja a;have:=J7 a;unfold V2.scale;show max (qb (a.x*k)) (qb (a.y*k))≤_;omega
theorem V2.ext' {a b:V2}:a=b↔a.x=b.x∧a.y=b.y:=by
 cases a;cases b;simp
theorem ry (a b:V2)(ha:vb a≤vm)(hb:vb b≤vm):Fn Tryz.prog 66 [vA a,vA b] (.bool (decide (a=b))):=by
 unfold vm at ha hb;have:=Ja a;have:=Ja b;have:=J7 a;have:=J7 b;have c1:=mM a.x b.x;have c2:=mM a.y b.y;obtain⟨V,hV⟩:∃V,V=decide (a=b):=⟨_,rfl⟩
 rw[←hV];refine Fq Tryz.call66 Tryz.func66 5 [] [] [] (by simp[wS]) (Xk ?_);simp(maxSteps:=999999)only[O_,↓X6,wF,seval];refine X2 c1 rfl ?_;by_cases h:a.x=b.x
 ·rw[c_ h]
  simp only[↓X6,wF,seval];refine X2 c2 rfl ?_;simp only[↓X6,wF,seval];exact Xn (v:=.bool (decide (a.y=b.y))) rfl rfl (X5 _) (by rw[hV];exact y_ ZAX (decide_eq_decide.2 (show a.y=b.y↔a=b from⟨fun e=>V2.ext'.2 ⟨h,e⟩,fun e=>(V2.ext'.1 e).2⟩)))
 ·rw[Z_ h]
  simp only[↓X6,wF,seval];exact Xn (v:=.bool false) rfl rfl (X5 _) (by rw[hV,Z_ (p:=a=b) fun e=>h (by rw[e])])
theorem ae (a b:V2)(ha:vb a≤vm:=by unfold vm;omega)(hb:vb b≤vm:=by unfold vm;omega):Fn Tryz.prog 195 [vA a,vA b] (vA (a.add b)):=by
 unfold vm at ha hb;obtain⟨R,hR⟩:∃R,R=vA (a.add b):=⟨_,rfl⟩
 have sR:A_ R:=hR▸Xv _;have:=Ja a;have:=Ja b;have:=J7 a;have:=J7 b;have c1:=Cf a.x b.x;have c2:=Cf a.y b.y;rw[←hR];refine Fq Tryz.call195 Tryz.func195 5 [] [] [] (by simp[wS]) (Xk ?_);simp(maxSteps:=999999)only[O_,↓X6,wF,seval];refine X2 c1 rfl ?_;simp only[↓X6,wF,seval];refine X2 c2 rfl ?_;simp only[↓X6,wF,seval];exact ZK rfl Jn rfl rfl rfl sR (hR.trans rfl)
theorem P8 (a:V2)(k:Rat)(ha:vb a≤vm:=by unfold vm;omega)(hk:qb k≤vm:=by unfold vm;omega):Fn Tryz.prog 196 [vA a,qA k] (vA (a.scale k)):=by
 unfold vm at ha hk;obtain⟨R,hR⟩:∃R,R=vA (a.scale k):=⟨_,rfl⟩
 have sR:A_ R:=hR▸Xv _;have:=Ja a;have:=J7 a;have c1:=B5 a.x k (by unfold rm;omega) (by unfold rm;omega);have c2:=B5 a.y k (by unfold rm;omega) (by unfold rm;omega);rw[←hR];refine Fq Tryz.call196 Tryz.func196 5 [] [] [] (by simp[wS]) (Xk ?_);simp(maxSteps:=999999)only[O_,↓X6,wF,seval];refine X2 c1 rfl ?_;simp only[↓X6,wF,seval];refine X2 c2 rfl ?_;simp only[↓X6,wF,seval];exact ZK rfl Jn rfl rfl rfl sR (hR.trans rfl)
theorem Gu (a b:V2)(ha:vb a≤vm)(hb:vb b≤vm):Fn Tryz.prog 72 [vA a,vA b] (.bool (decide (a=b))):=by
 unfold vm at ha hb;have:=Ja a;have:=Ja b;have:=J7 a;have:=J7 b;have c1:=Pc a.x b.x;have c2:=Pc a.y b.y;obtain⟨V,hV⟩:∃V,V=decide (a=b):=⟨_,rfl⟩
 rw[←hV];refine Fq Tryz.call72 Tryz.func72 5 [] [] [] (by simp[wS]) (Xk ?_);simp(maxSteps:=999999)only[O_,↓X6,wF,seval];refine X2 c1 rfl ?_;by_cases h:a.x=b.x
 ·rw[c_ h]
  simp only[↓X6,wF,seval];refine X2 c2 rfl ?_;simp only[↓X6,wF,seval];exact Xn (v:=.bool (decide (a.y=b.y))) rfl rfl (X5 _) (by rw[hV];exact y_ ZAX (decide_eq_decide.2 (show a.y=b.y↔a=b from⟨fun e=>V2.ext'.2 ⟨h,e⟩,fun e=>(V2.ext'.1 e).2⟩)))
 ·rw[Z_ h]
  simp only[↓X6,wF,seval];exact Xn (v:=.bool false) rfl rfl (X5 _) (by rw[hV,Z_ (p:=a=b) fun e=>h (by rw[e])])
theorem QR (a b:V2)(ha:vb a≤vm:=by unfold vm;omega)(hb:vb b≤vm:=by unfold vm;omega):Fn Tryz.prog 36 [vA a,vA b] (vA (a.add b)):=by
 unfold vm at ha hb;obtain⟨R,hR⟩:∃R,R=vA (a.add b):=⟨_,rfl⟩
 have sR:A_ R:=hR▸Xv _;have:=Ja a;have:=Ja b;have:=J7 a;have:=J7 b;have c1:=QT a.x b.x;have c2:=QT a.y b.y;rw[←hR];refine Fq Tryz.call36 Tryz.func36 5 [] [] [] (by simp[wS]) (Xk ?_);simp(maxSteps:=999999)only[O_,↓X6,wF,seval];refine X2 c1 rfl ?_;simp only[↓X6,wF,seval];refine X2 c2 rfl ?_;simp only[↓X6,wF,seval];exact ZK rfl Jn rfl rfl rfl sR (hR.trans rfl)
theorem Zb (a:V2)(k:Rat)(ha:vb a≤vm:=by unfold vm;omega)(hk:qb k≤vm:=by unfold vm;omega):Fn Tryz.prog 37 [vA a,qA k] (vA (a.scale k)):=by
 unfold vm at ha hk;obtain⟨R,hR⟩:∃R,R=vA (a.scale k):=⟨_,rfl⟩
 have sR:A_ R:=hR▸Xv _;have:=Ja a;have:=J7 a;have c1:=Qm a.x k;have c2:=Qm a.y k;rw[←hR];refine Fq Tryz.call37 Tryz.func37 5 [] [] [] (by simp[wS]) (Xk ?_);simp(maxSteps:=999999)only[O_,↓X6,wF,seval];refine X2 c1 rfl ?_;simp only[↓X6,wF,seval];refine X2 c2 rfl ?_;simp only[↓X6,wF,seval];exact ZK rfl Jn rfl rfl rfl sR (hR.trans rfl)
theorem O6 (t a:V2)(ht:vb t≤vm)(ha:vb a≤vm):Fn Tryz.prog 139 [vA t,vA a] (vA (ue t a)):=by
 unfold vm at ht ha;obtain⟨R,hR⟩:∃R,R=vA (ue t a):=⟨_,rfl⟩
 have sR:A_ R:=hR▸Xv _;have:=Ja t;have:=J7 t;have:=Ja a;have:=J7 a;have m1:=Qa t.x a.x;have m2:=Qa t.y a.y;have m3:=Qa t.y a.x;have m4:=Qa t.x a.y;have c1:=Qm t.x a.x;have c2:=Qm t.y a.y;have c4:=Bm (t.x*a.x) (t.y*a.y);have c5:=Qm t.y a.x;have c6:=Qm t.x a.y;have c7:=QT (t.y*a.x) (t.x*a.y);rw[←hR];refine Fq Tryz.call139 Tryz.func139 7 [] [1,20000002,20000003,2,30000002,30000003] [] (by simp[wS]) (Xk ?_);simp(maxSteps:=999999)only[O_,↓X6,wF,seval];refine X2 c1 rfl ?_;simp only[↓X6,wF,seval];refine X2 c2 rfl ?_;simp only[↓X6,wF,seval];refine X2 c4 rfl ?_;simp only[↓X6,wF,seval];refine X2 c5 rfl ?_;simp only[↓X6,wF,seval];refine X2 c6 rfl ?_;simp only[↓X6,wF,seval];refine X2 c7 rfl ?_;simp only[↓X6,wF,seval];exact ZK rfl Jn rfl rfl rfl sR (hR.trans rfl)
end
end Go.Ab.N
namespace Go.Ab.N
open Go Go.RowKit Go.Proofs
set_option maxRecDepth 10000
set_option maxHeartbeats 4000000
structure GG where
 p:V2
 q:V2
 n:V2
 force:Rat
 E_:Rat
structure BB where
 c:V2
 TAS:Rat
 TAD:Rat
 TAB:Rat
def BI (a:Rat):Rat:=if a<0 then -a else a
def Qj (n:V2):Rat:=BI n.x+BI n.y
structure okP (b:BB)(g:GG)(a0 c0 a1 c1 k:Rat):Prop where
 n0:0≤a0
 n1:0≤a1
 r0:c0≤g.E_*a0
 r1:c1≤g.E_*a1
 s0:-c0≤g.E_*a0
 s1:-c1≤g.E_*a1
 f0:Qj g.n*a0≤g.force
 f1:Qj g.n*a1≤g.force
 st:Qj g.n*a0+Qj g.n*a1≤b.TAB
 k0:0≤k
 k1:k≤16
 ex:g.n.x*a0 + -g.n.y*c0-g.n.x*a1 - -g.n.y*c1=0
 ey:g.n.y*a0+g.n.x*c0-g.n.y*a1-g.n.x*c1-b.TAD*k=0
 et:Xq (g.p.sub b.c) g.n*a0+Xq (g.p.sub b.c) ⟨-g.n.y,g.n.x⟩*c0-Xq (g.q.sub b.c) g.n*a1-Xq (g.q.sub b.c) ⟨-g.n.y,g.n.x⟩*c1=0
def lh (b:BB)(g:GG)(k:Rat):Prop:=(∃a0 c0 a1 c1,okP b g a0 c0 a1 c1 k)∧∀a0 c0 a1 c1 k',okP b g a0 c0 a1 c1 k'→k'≤k
theorem li {b:BB}{g:GG}{k k':Rat}(h:lh b g k)(h':lh b g k'):k=k':=by
 obtain⟨⟨a,c,d,e,h1⟩,h2⟩:=h;obtain⟨⟨a',c',d',e',h3⟩,h4⟩:=h';exact Rat.le_antisymm (h4 _ _ _ _ _ h1) (h2 _ _ _ _ _ h3)
end Go.Ab.N
namespace Go.Ab.N
open Go Go.RowKit Go.Proofs
noncomputable section
set_option maxRecDepth 10000
set_option maxHeartbeats 4000000
open Classical
def V2.opp (a:V2):V2:=⟨-a.x,-a.y⟩
def O5 (m n:V2):Prop:=Xq m n=0∧Qn m n<0
theorem BG (a:Rat):a.num.sign<0↔a<0:=HK a
theorem BU (a:Rat):a.num.sign=0↔a=0:=aH a
theorem RI (a:Rat):0<a.num.sign↔0<a:=Ek a
theorem EX (a:Rat):qb (BI a)=qb a:=by unfold BI;split;exact Bj a;rfl
theorem nG (a:V2):vb a.opp=vb a:=by unfold vb V2.opp;rw[Bj,Bj]
theorem T7 (a:Rat):Fn Tryz.prog 213 [qA a] (qA (BI a)):=by
 have c1:=Qv a;have c2:=Zd a;have s1:=BG a;obtain⟨R,hR⟩:∃R,R=qA (BI a):=⟨_,rfl⟩
 have sR:A_ R:=hR▸Xb _;rw[←hR];unfold BI at hR;by_cases h:a<0
 ·rw[N_ h]at hR
  have f:=s1.2 h;refine Fq Tryz.call213 Tryz.func213 3 [] [] [] (by simp[wS]) (Xk ?_);simp(maxSteps:=999999)only[O_,↓X6,wF,seval];refine X2 c1 rfl ?_;simp(disch:=omega)only[f,qA,qC,↓Xc,wG,seval];refine X2 c2 rfl ?_;simp(disch:=omega)only[qA,qC,↓Xc,wG,seval];exact Jf rfl XT rfl rfl rfl sR (hR.trans rfl)
 ·rw[M_ h]at hR
  have f:¬a.num.sign<0:=fun g=>h (s1.1 g)
  refine Fq Tryz.call213 Tryz.func213 3 [] [] [] (by simp[wS]) (Xk ?_);simp(maxSteps:=999999)only[O_,↓X6,wF,seval];refine X2 c1 rfl ?_;simp(disch:=omega)only[f,qA,qC,↓Xc,wG,seval];exact Jf rfl XT rfl rfl rfl sR (hR.trans rfl)
theorem HD (a:Rat)(ha:qb a≤rm):Fn Tryz.prog 92 [qA a] (qA (BI a)):=by
 have c1:=Q8 a ha;have c2:=J9 a ha;have s1:=BG a;obtain⟨R,hR⟩:∃R,R=qA (BI a):=⟨_,rfl⟩
 have sR:A_ R:=hR▸Xb _;rw[←hR];unfold BI at hR;by_cases h:a<0
 ·rw[N_ h]at hR
  have f:=s1.2 h;refine Fq Tryz.call92 Tryz.func92 3 [] [] [] (by simp[wS]) (Xk ?_);simp(maxSteps:=999999)only[O_,↓X6,wF,seval];refine X2 c1 rfl ?_;simp(disch:=omega)only[f,qA,qC,↓Xc,wG,seval];refine X2 c2 rfl ?_;simp(disch:=omega)only[qA,qC,↓Xc,wG,seval];exact Jf rfl XT rfl rfl rfl sR (hR.trans rfl)
 ·rw[M_ h]at hR
  have f:¬a.num.sign<0:=fun g=>h (s1.1 g)
  refine Fq Tryz.call92 Tryz.func92 3 [] [] [] (by simp[wS]) (Xk ?_);simp(maxSteps:=999999)only[O_,↓X6,wF,seval];refine X2 c1 rfl ?_;simp(disch:=omega)only[f,qA,qC,↓Xc,wG,seval];exact Jf rfl XT rfl rfl rfl sR (hR.trans rfl)
theorem MI (n:V2)(hn:vb n≤rm):Fn Tryz.prog 146 [vA n] (qA (Qj n)):=by
 have:=Ja n;have:=J7 n;have c1:=T7 n.x;have c2:=T7 n.y;have c3:=Cf (BI n.x) (BI n.y) (by rw[EX];omega) (by rw[EX];omega);obtain⟨R,hR⟩:∃R,R=qA (Qj n):=⟨_,rfl⟩
 have sR:A_ R:=hR▸Xb _;rw[←hR];refine Fq Tryz.call146 Tryz.func146 3 [] [] [] (by simp[wS]) (Xk ?_);simp(maxSteps:=999999)only[O_,↓X6,wF,seval];refine X2 c1 rfl ?_;simp(disch:=omega)only[↓Xc,wG,seval];refine X2 c2 rfl ?_;simp(disch:=omega)only[↓Xc,wG,seval];refine X2 c3 rfl ?_;simp(disch:=omega)only[qA,qC,↓Xc,wG,seval];exact Jf rfl XT rfl rfl rfl sR (hR.trans rfl)
theorem Gv (n:V2)(hn:vb n≤rm:=by unfold rm;omega):Fn Tryz.prog 94 [vA n] (qA (Qj n)):=by
 have:=Ja n;have:=J7 n;have c1:=HD n.x (by omega);have c2:=HD n.y (by omega);have c3:=QT (BI n.x) (BI n.y) (by rw[EX];omega) (by rw[EX];omega);obtain⟨R,hR⟩:∃R,R=qA (Qj n):=⟨_,rfl⟩
 have sR:A_ R:=hR▸Xb _;rw[←hR];refine Fq Tryz.call94 Tryz.func94 3 [] [] [] (by simp[wS]) (Xk ?_);simp(maxSteps:=999999)only[O_,↓X6,wF,seval];refine X2 c1 rfl ?_;simp(disch:=omega)only[↓Xc,wG,seval];refine X2 c2 rfl ?_;simp(disch:=omega)only[↓Xc,wG,seval];refine X2 c3 rfl ?_;simp(disch:=omega)only[qA,qC,↓Xc,wG,seval];exact Jf rfl XT rfl rfl rfl sR (hR.trans rfl)
theorem T5 (n:V2):Fn Tryz.prog 165 [vA n] (vA n.F'):=by
 have c1:=Zd n.y;obtain⟨R,hR⟩:∃R,R=vA n.F':=⟨_,rfl⟩
 have sR:A_ R:=hR▸Xv _;rw[←hR];refine Fq Tryz.call165 Tryz.func165 3 [] [] [] (by simp[wS]) (Xk ?_);simp(maxSteps:=999999)only[O_,↓X6,wF,seval];refine X2 c1 rfl ?_;simp(disch:=omega)only[qA,qC,↓Xc,wG,seval];exact ZK rfl Jn rfl rfl rfl sR (hR.trans rfl)
theorem Fb (n:V2)(hn:vb n≤rm:=by unfold rm;omega):Fn Tryz.prog 61 [vA n] (vA n.F'):=by
 have:=J7 n;have c1:=J9 n.y (by omega);obtain⟨R,hR⟩:∃R,R=vA n.F':=⟨_,rfl⟩
 have sR:A_ R:=hR▸Xv _;rw[←hR];refine Fq Tryz.call61 Tryz.func61 3 [] [] [] (by simp[wS]) (Xk ?_);simp(maxSteps:=999999)only[O_,↓X6,wF,seval];refine X2 c1 rfl ?_;simp(disch:=omega)only[qA,qC,↓Xc,wG,seval];exact ZK rfl Jn rfl rfl rfl sR (hR.trans rfl)
theorem TO (n:V2)(hn:vb n≤rm):Fn Tryz.prog 38 [vA n] (vA n.opp):=by
 have:=Ja n;have:=J7 n;have c1:=J9 n.x (by omega);have c2:=J9 n.y (by omega);obtain⟨R,hR⟩:∃R,R=vA n.opp:=⟨_,rfl⟩
 have sR:A_ R:=hR▸Xv _;rw[←hR];refine Fq Tryz.call38 Tryz.func38 3 [] [] [] (by simp[wS]) (Xk ?_);simp(maxSteps:=999999)only[O_,↓X6,wF,seval];refine X2 c1 rfl ?_;simp(disch:=omega)only[qA,qC,↓Xc,wG,seval];refine X2 c2 rfl ?_;simp(disch:=omega)only[qA,qC,↓Xc,wG,seval];exact ZK rfl Jn rfl rfl rfl sR (hR.trans rfl)
theorem YI (m n:V2)(hm:vb m≤vm:=by unfold vm;omega)(hn:vb n≤vm:=by unfold vm;omega):Fn Tryz.prog 69 [vA m,vA n] (.bool (decide (O5 m n))):=by
 have c1:=Bh m n hm hn;have c2:=E4 m n hm hn;have c3:=Qv (Xq m n);have c4:=Qv (Qn m n);have s3:=BU (Xq m n);have s4:=BG (Qn m n);obtain⟨b,hb⟩:∃b,b=decide (O5 m n):=⟨_,rfl⟩
 rw[←hb];generalize (Xq m n).num.sign=x at *;generalize (Qn m n).num.sign=y at *;by_cases h:Xq m n=0
 ·have e3:x=0:=s3.2 h
  have e4:b=decide (y<0):=by
   rw[hb];by_cases hy:y<0
   ·rw[c_ hy];exact c_ ⟨h,s4.1 hy⟩
   ·rw[Z_ hy];exact Z_ fun g=>hy (s4.2 g.2)
  refine Fq Tryz.call69 Tryz.func69 5 [] [] [] (by simp[wS]) (Xk ?_);simp(maxSteps:=999999)only[O_,↓X6,wF,seval];refine X2 c1 rfl ?_;simp(disch:=omega)only[qA,qC,↓Xc,wG,seval];refine X2 c3 rfl ?_;simp(disch:=omega)only[e3,qA,qC,↓Xc,wG,seval];refine X2 c2 rfl ?_;simp(disch:=omega)only[qA,qC,↓Xc,wG,seval];refine X2 c4 rfl ?_;simp(disch:=omega)only[↓Xc,wG,seval];exact Xn rfl rfl (X5 _) (y_ ZAX e4.symm)
 ·have e3:¬x=0:=fun g=>h (s3.1 g)
  have e4:b=false:=by rw[hb];exact Z_ fun g=>h g.1
  refine Fq Tryz.call69 Tryz.func69 5 [] [] [] (by simp[wS]) (Xk ?_);simp(maxSteps:=999999)only[O_,↓X6,wF,seval];refine X2 c1 rfl ?_;simp(disch:=omega)only[qA,qC,↓Xc,wG,seval];refine X2 c3 rfl ?_;simp(disch:=omega)only[e3,↓Xc,wG,seval];exact Xn rfl rfl (X5 _) (y_ ZAX e4.symm)
theorem rG (m n:V2)(hm:vb m≤1000000)(hn:vb n≤1000000):Fn Tryz.prog 74 [vA m,vA n] (.bool (decide (O5 m n))):=by
 have q1:=K1 m n;have q2:=Zu m n;have c1:=K4 m n;have c2:=KG m n;have c3:=Q8 (Xq m n);have c4:=Q8 (Qn m n);have s3:=BU (Xq m n);have s4:=BG (Qn m n);obtain⟨b,hb⟩:∃b,b=decide (O5 m n):=⟨_,rfl⟩
 rw[←hb];generalize (Xq m n).num.sign=x at *;generalize (Qn m n).num.sign=y at *;by_cases h:Xq m n=0
 ·have e3:x=0:=s3.2 h
  have e4:b=decide (y<0):=by
   rw[hb];by_cases hy:y<0
   ·rw[c_ hy];exact c_ ⟨h,s4.1 hy⟩
   ·rw[Z_ hy];exact Z_ fun g=>hy (s4.2 g.2)
  refine Fq Tryz.call74 Tryz.func74 5 [] [] [] (by simp[wS]) (Xk ?_);simp(maxSteps:=999999)only[O_,↓X6,wF,seval];refine X2 c1 rfl ?_;simp(disch:=omega)only[qA,qC,↓Xc,wG,seval];refine X2 c3 rfl ?_;simp(disch:=omega)only[e3,qA,qC,↓Xc,wG,seval];refine X2 c2 rfl ?_;simp(disch:=omega)only[qA,qC,↓Xc,wG,seval];refine X2 c4 rfl ?_;simp(disch:=omega)only[↓Xc,wG,seval];exact Xn rfl rfl (X5 _) (y_ ZAX e4.symm)
 ·have e3:¬x=0:=fun g=>h (s3.1 g)
  have e4:b=false:=by rw[hb];exact Z_ fun g=>h g.1
  refine Fq Tryz.call74 Tryz.func74 5 [] [] [] (by simp[wS]) (Xk ?_);simp(maxSteps:=999999)only[O_,↓X6,wF,seval];refine X2 c1 rfl ?_;simp(disch:=omega)only[qA,qC,↓Xc,wG,seval];refine X2 c3 rfl ?_;simp(disch:=omega)only[e3,↓Xc,wG,seval];exact Xn rfl rfl (X5 _) (y_ ZAX e4.symm)
def Xm (f:Nat→Rat):Nat→AV:=fun j=>(qC (f (j/4))).getD (j%4) .any
theorem QD (f:Nat→Rat)(k j:Nat)(h:j<4):Xm f (k*4+j)=(qC (f k)).getD j .any:=by
 unfold Xm;rw[show(k*4+j)/4=k by omega,show(k*4+j)%4=j by omega]
theorem JC (f:Nat→Rat)(k:Nat):Xm f (k*4)=(qC (f k)).getD 0 .any:=QD f k 0 (by omega)
theorem Dv (f:Nat→Rat)(k:Nat)(x:Rat):DE (Xm f) (k*4) (qC x)=Xm (fun i=>if i=k then x else f i):=by
 funext j;rw[BW];have hl:(qC x).length=4:=rfl;unfold Xm;by_cases h:k*4≤j∧j<k*4+(qC x).length
 ·rw[N_ h]
  rw[hl]at h;show _=(qC (if j/4=k then x else f (j/4))).getD (j%4) .any;rw[N_ (show j/4=k by omega),show j%4=j-k*4 by omega]
 ·rw[M_ h]
  rw[hl]at h;show _=(qC (if j/4=k then x else f (j/4))).getD (j%4) .any;rw[M_ (show ¬j/4=k by omega)]
theorem Al (m v n:Nat)(f:Nat→Rat):Q0 m (.row v n (Xm f)):=fun j _=>X4 (Xe (l:=qC (f (j/4))) (by simp[qC,Xd,X5]) _)
theorem Q7 {H:List AO}{a:Nat}{o:AO}(h:H[a]?=some o)(l:List AO):(H ++ l)[a]?=some o:=by
 rw[T_ (S_.1 h).1];exact h
theorem BL {H:List AO}{n:Nat}(h:H.length=n)(x:AO)(l:List AO):(H ++ x :: l)[n]?=some x:=by
 rw[←h,g_ (N' _),ZB7];rfl
theorem FU {H:List AO}{n:Nat}(h:H.length=n)(x y:AO)(l:List AO):(H ++ x :: y :: l)[n+1]?=some y:=by
 rw[←h,g_ (by omega),show H.length+1-H.length=1 by omega];rfl
theorem Z7 {H:List AO}{a:Nat}(h:a<H.length)(o:AO)(l:List AO):(H ++ l).set a o=H.set a o ++ l:=List.set_append_left _ _ h
theorem CQ {H:List AO}{n:Nat}(h:H.length=n)(x y:AO)(l:List AO):(H ++ x :: l).set n y=H ++ y :: l:=by
 rw[ZAs _ _ (by omega),←h,ZB7];rfl
theorem H9 {H:List AO}{n:Nat}(h:H.length=n)(x y z:AO)(l:List AO):(H ++ x :: y :: l).set (n+1) z=H ++ x :: z :: l:=by
 rw[ZAs _ _ (by omega),←h,show H.length+1-H.length=1 by omega];rfl
theorem ZH {H:List AO}{n:Nat}(h:H.length=n)(l:List AO):(H ++ l).length=n+l.length:=by rw[j_,h]
theorem An {H:List AO}{n:Nat}(h:H.length=n)(x:AO)(l:List AO):(H ++ x :: l).take (n+1)=H ++ [x]:=by
 rw[←h,List.take_append];simp[ZCb]
theorem CR {H:List AO}{n:Nat}(h:H.length=n)(l:List AO):(H ++ l).take n=H:=by rw[←h];simp
def AK (L R:Nat→Rat)(c k:Nat):Nat→Rat:=fun i=>if i<k then L i-L c*R i else L i
theorem sV (L R:Nat→Rat)(c:Nat):AK L R c 0=L:=funext fun i=>M_ (ZAL i)
theorem UL (L R:Nat→Rat)(c k:Nat):AK L R c k k=L k:=M_ (ZAG k)
theorem NG (L R:Nat→Rat)(c k:Nat):(fun i=>if i=k then L k-L c*R k else AK L R c k i)=AK L R c (k+1):=funext fun i=>by
 unfold AK;by_cases h:i=k
 ·rw[N_ h,N_ (by omega),h]
 ·rw[M_ h]
  by_cases h2:i<k
  ·rw[N_ h2,N_ (by omega)]
  ·rw[M_ h2,M_ (by omega)]
theorem WQ (L R:Nat→Rat)(c k:Nat)(h:R k=0):AK L R c k=AK L R c (k+1):=by
 rw[←NG];funext i;by_cases e:i=k
 ·rw[N_ e,e,UL,h];grind
 ·rw[M_ e]
theorem aw {P:Program}{fn:Func}{str hcs:List Nat}{m:Nat}{H:List AO}{s:AS}(hr:fn.results=#[])(hH:s.h.take m=H):TBT (Ig P fn str hcs m (.tup []) H) s :=
 ⟨.tup [],by show Au P fn s=_;simp[Au,hr,JL,BO],rfl,hH⟩
theorem RA {P:Program}{fn:Func}{str hcs:List Nat}{m:Nat}{H:List AO}{s:AS}(hr:fn.results=#[])(hH:s.h.take m=H):TAC (Ig P fn str hcs m (.tup []) H) s :=
 ⟨.tup [],by show Au P fn s=_;simp[Au,hr,JL,BO],rfl,hH⟩
theorem aW (H:List AO)(a b va vb N:Nat)(L R:Nat→Rat)(c:Nat)(hab:a≠b)(ha:H[a]?=some (.row va (N*4) (Xm L))) (hb:H[b]?=some (.row vb (N*4) (Xm R))) (hN:N<1000000) (hc:c<N) {Q:Nat} (hL:∀k,k<N→qb (L k)≤Q) (hR:∀k,k<N→qb (R k)≤Q) (hQ:Q≤30000000) (hO:∀o∈H,∀m,H.length≤m→Q0 m o) :
  G' Tryz.prog 200 [.osl a va 4 0 N,.osl b vb 4 0 N,I c] H (.tup []) (H.set a (.row va (N*4) (Xm (fun k=>L k-L c*R k)))):=by
 have hlt:a<H.length:=(S_.1 ha).1;have hO2:∀f,∀o∈H.set a (.row va (N*4) (Xm f)),∀m,H.length≤m→Q0 m o:=fun f o ho m hm=>by
  rcases ZAd ho with h |h
  ·exact hO o h m hm
  ·rw[h];exact Al _ _ _ _
 have s1:=Qv (L c);have z1:=BU (L c);obtain⟨n0,hn⟩:∃n0,H.length=n0:=⟨_,rfl⟩
 have a1:=QD L c;have a2:=JC L c;have ea:=Q7 ha;have eb:=Q7 hb;have e0:=BL hn;have el:=ZH hn;have es:=CQ hn;have hOn:∀o∈H.set a (.row va (N*4) (Xm (fun k=>L k-L c*R k))),Q0 H.length o:=fun o ho=>hO2 _ o ho _ (N' _)
 refine G'.TAp (fn:=Tryz.f200) Tryz.call200 Tryz.func200 rfl mixed 9 [16,17,18] [6,7005,7006,7007] [] (by kernel_rfl) (K_ rfl) (X4 (Z5)) hOn (Xk ?_);by_cases h0:L c=0
 ·have f0:=z1.2 h0
  have hid:H.set a (.row va (N*4) (Xm (fun k=>L k-L c*R k)))=H:=by
   rw[show(fun k=>L k-L c*R k)=L from funext fun k=>by rw[h0];grind];exact ZAp fun i=>by
    by_cases e:a=i
    ·rw[←e,W_ hlt,ha]
    ·rw[L_ e]
  rw[hid];simp(disch:=omega)only[O_,ha,a1,a2,hn,ea,e0,el,es,qC,P_,↓Xc,wG,seval];refine X2 s1 rfl ?_;simp(disch:=omega)only[f0,↓Xc,wG,seval];exact RA rfl (CR rfl _)
 have f0:¬ (L c).num.sign=0:=fun g=>h0 (z1.1 g)
 simp(disch:=omega)only[O_,ha,a1,a2,hn,ea,e0,el,es,qC,P_,↓Xc,wG,seval];refine X2 s1 rfl ?_;simp(disch:=omega)only[f0,↓Xc,wG,seval];have TAM:∀f,(H.set a (.row va (N*4) (Xm f))).length=n0:=fun f=>by rw[X_];exact hn
 have hga:∀f,(H.set a (.row va (N*4) (Xm f)))[a]?=some (.row va (N*4) (Xm f)):=fun f=>W_ hlt
 have hgb:∀f,(H.set a (.row va (N*4) (Xm f)))[b]?=some (.row vb (N*4) (Xm R)):=fun f=>by rw[L_ hab];exact hb
 have hss:∀f g,(H.set a (.row va (N*4) (Xm f))).set a (.row va (N*4) (Xm g))=H.set a (.row va (N*4) (Xm g)):=fun f g=>ZBm _
 have h00:H.set a (.row va (N*4) (Xm (AK L R c 0)))=H:=by
  rw[sV];exact ZAp fun i=>by
   by_cases e:a=i
   ·rw[←e,W_ hlt,ha]
   ·rw[L_ e]
 refine Xj (fun k:Nat=>⟨9,[16,17,18],[.osl a va 4 0 N,.osl b vb 4 0 N,I c,.any,.any,.any,.ref n0 0 0,.any,.any],[(16,.osl b vb 4 0 N),(17,I N),(18,I k)],H.set a (.row va (N*4) (Xm (AK L R c k))) ++ [.row 0 4 (Xf (qC (L c)))]⟩) (fun k=>k≤N) (fun k=>N-k) 0 (by omega)
  (Xh rfl (by simp[Xo,I]) (by simp[Xx,XM,I]) (by rw[h00];rfl)) ?_
 intro k hk next
 by_cases hk2:k<N
 rotate_left
 ·obtain rfl:k=N:=by omega
  refine d_ ?_ (Zm a (k*4) (Xm (fun k=>L k-L c*R k)) (Q7 (hga _) _) (N' _) (fun j hj=>by
   unfold Xm AK;rw[N_ (show j/4<k by omega)]))
  refine Xk ?_;simp(disch:=omega)only[↓Xc,wG,seval];exact aw rfl (by rw[Z7 (by rw[X_];exact hlt),hss];exact CR (by rw[X_]) _)
 have hAt:=hga (AK L R c k);have hBt:=hgb (AK L R c k);have hLn:=TAM (AK L R c k);have hSt:=hss (AK L R c k);have hbt:a<(H.set a (.row va (N*4) (Xm (AK L R c k)))).length:=by rw[X_];exact hlt
 have TEt:=WQ L R c k;have TEu:=NG L R c k;have hkk:=UL L R c k;have b1:=QD R k;have b2:=JC R k;have w1:=QD (AK L R c k) k;have w2:=JC (AK L R c k) k;have hst:=Dv (AK L R c k) k (L k-L c*R k);rw[hkk]at w1 w2;rw[TEu]at hst;have s2:=Qv (R k);have z2:=BU (R k);have q1:=hL k hk2;have q2:=hR k hk2;have q3:=hL c hc;have c1:=B5 (L c) (R k) (by unfold rm;omega) (by unfold rm;omega);have q4:=Qa (L c) (R k);have c2:=FM (L k) (L c*R k);have nx:=next (k+1)
 have bO:∀f,∀o∈H.set a (.row va (N*4) (Xm f)) ++ [.row 0 4 (Xf (qC (L c)))],Q0 (n0+1) o:=fun f o ho=>by
  rcases n_.1 ho with h |h
  ·exact hO2 f o h _ (by omega)
  ·rw[Y_.1 h];exact QZ (by simp[qC,Xd,X5])
 have bO:=bO (AK L R c (k+1));have TGh:b<H.length:=(S_.1 hb).1;have ba:Jl (n0+1) (.osl a va 4 0 N)=True:=L' (JJ);have bb:Jl (n0+1) (.osl b vb 4 0 N)=True:=L' (JJ);have bc:Jl (n0+1) (.ref n0 0 0)=True:=L' (QX);generalize hHk:H.set a (.row va (N*4) (Xm (AK L R c k)))=Hk at *;have ea':=Q7 hAt;have eb':=Q7 hBt;have e0':=BL hLn;have e1':=FU hLn;have el':=ZH hLn;have es0:=CQ hLn;have es1:=H9 hLn;have esa:=Z7 hbt;refine Xk ?_;simp(disch:=omega)only[ea',eb',e0',e1',el',es0,es1,b1,b2,qC,P_,↓Xc,wG,seval];refine X2 s2 rfl ?_;by_cases hR0:R k=0
 ·have f2:=z2.2 hR0
  simp(disch:=omega)only[f2,↓Xc,wG,seval];exact nx _ (by omega) (by omega) (XG (m:=n0+1) (by show H.length≤n0+1;omega) rfl (by simp[Xo,I]) (by simp[Xx,XM,I]) (by rw[An hLn,←hHk,TEt hR0];rfl) (by simp[XP,ba,bb,bc]) (by simp[XP,bb]) bO)
 ·have f2:¬ (R k).num.sign=0:=fun g=>hR0 (z2.1 g)
  simp(disch:=omega)only[f2,ea',eb',e0',e1',el',es0,es1,w1,w2,qC,P_,↓Xc,wG,seval];refine X2 c1 rfl ?_;simp(disch:=omega)only[qC,↓Xc,wG,seval];refine X2 c2 rfl ?_;simp(disch:=omega)only[ea',esa,qC,P_,↓Xc,wG,seval];exact nx _ (by omega) (by omega) (XG (m:=n0+1) (by show H.length≤n0+1;omega) rfl (by simp[Xo,I]) (by simp[Xx,XM,I]) (by rw[An (by rw[X_];exact hLn),←hst,←hHk,ZBm];rfl) (by simp[XP,ba,bb,bc]) (by simp[XP,bb]) bO)
end
end Go.Ab.N
namespace Go.Ab.N
set_option maxRecDepth 10000
set_option maxHeartbeats 4000000
def XO (f:Nat→Rat):Nat→Rat
 |0=>0
 |n+1=>XO f n+f n
theorem XQ {f g:Nat→Rat}:∀ {n:Nat},(∀i,i<n→f i=g i)→XO f n=XO g n
 |0,_=>rfl
 |n+1,h=>by
  unfold XO;rw[XQ fun i hi=>h i (by omega),h n (by omega)]
theorem Kp {f:Nat→Rat}:∀ {n:Nat},(∀i,i<n→f i=0)→XO f n=0
 |0,_=>rfl
 |n+1,h=>by
  unfold XO;rw[Kp fun i hi=>h i (by omega),h n (by omega)];grind
theorem HQ (f g:Nat→Rat):∀n,XO (fun i=>f i+g i) n=XO f n+XO g n
 |0=>by unfold XO;grind
 |n+1=>by unfold XO;rw[HQ f g n];grind
theorem Ji (a:Rat)(f:Nat→Rat):∀n,XO (fun i=>a*f i) n=a*XO f n
 |0=>by unfold XO;grind
 |n+1=>by unfold XO;rw[Ji a f n];grind
theorem DD (f g:Nat→Rat)(n:Nat):XO (fun i=>f i-g i) n=XO f n-XO g n:=by
 have:=HQ f (fun i=>(-1)*g i) n;rw[Ji]at this;rw[show(fun i=>f i-g i)=fun i=>f i+(-1)*g i from funext fun i=>by grind,this];grind
theorem FQ (f:Nat→Nat→Rat)(m:Nat):∀n,XO (fun i=>XO (fun j=>f i j) m) n=XO (fun j=>XO (fun i=>f i j) n) m
 |0=>by show(0:Rat)=XO (fun j=>0) m;exact(Kp fun _ _=>rfl).symm
 |n+1=>by
  show XO _ n+_=_;rw[FQ f m n,←HQ];rfl
theorem Aw {f:Nat→Rat}{k:Nat}:∀ {n:Nat},k<n→(∀i,i<n→i≠k→f i=0)→XO f n=f k
 |n+1,hk,h=>by
  unfold XO;by_cases e:k=n
  ·subst e;rw[Kp fun i hi=>h i (by omega) (by omega)];grind
  ·rw[Aw (by omega) fun i hi hn=>h i (by omega) hn,h n (by omega) (by omega)];grind
theorem Uu {f:Nat→Rat}:∀ {n:Nat},0<XO f n→∃i,i<n∧0<f i
 |0,h=>absurd h (by unfold XO;decide)
 |n+1,h=>by
  by_cases h1:0<f n
  ·exact⟨n,by omega,h1⟩
  ·obtain⟨i,hi,hp⟩:=Uu (f:=f) (n:=n) (by unfold XO at h;grind)
   exact⟨i,by omega,hp⟩
theorem D2 {f:Nat→Rat}:∀ {n:Nat},(∀i,i<n→0≤f i)→0≤XO f n
 |0,_=>ZCt
 |n+1,h=>by
  unfold XO;have:=D2 (f:=f) (n:=n) fun i hi=>h i (by omega)
  have:=h n (by omega);grind
structure Tb where
 t:Nat→Nat→Rat
 c:Nat→Rat
 b:Nat→Nat
def Cd (T:Tb)(r p:Nat):Tb where
 t i k:=if i=r then T.t r k/T.t r p else T.t i k-T.t i p*(T.t r k/T.t r p)
 c k:=T.c k-T.c p*(T.t r k/T.t r p)
 b i:=if i=r then p else T.b i
structure Tb.Ok (m n e:Nat)(T:Tb):Prop where
 bas:∀i,i<m→T.b i<e
 unit:∀i k,i<m→k<m→T.t i (T.b k)=if i=k then 1 else 0
 cost:∀i,i<m→T.c (T.b i)=0
 rhs:∀i,i<m→0≤T.t i n
def Tb.Eqv (m n:Nat)(T U:Tb):Prop:=(∀i k,i<m→k≤n→T.t i k=U.t i k)∧(∀k,k≤n→T.c k=U.c k)∧∀i,i<m→T.b i=U.b i
def lC (m n:Nat)(T:Tb)(p r:Nat):Prop:=r<m∧0<T.t r p∧∀i,i<m→0<T.t i p→T.t r n/T.t r p<T.t i n/T.t i p∨(T.t r n/T.t r p=T.t i n/T.t i p∧T.b r≤T.b i)
def Ie (e:Nat)(T:Tb)(p:Nat):Prop:=p<e∧T.c p<0∧∀j,j<p→0≤T.c j
structure Step (m n e:Nat)(T:Tb)(p r:Nat)(U:Tb):Prop where
 ent:Ie e T p
 lv:lC m n T p r
 piv:Tb.Eqv m n U (Cd T r p)
def Tb.ker (m n:Nat)(T:Tb)(x:Nat→Rat):Prop:=∀i,i<m→XO (fun j=>T.t i j*x j) (n+1)=0
def Tb.Sim (m n:Nat)(T U:Tb):Prop:=∀x,(T.ker m n x↔U.ker m n x)∧(T.ker m n x→XO (fun j=>T.c j*x j) (n+1)=XO (fun j=>U.c j*x j) (n+1))
theorem Tb.Sim.refl (m n:Nat)(T:Tb):T.Sim m n T:=fun _=>⟨ZCo,fun _=>rfl⟩
theorem Tb.Sim.trans {m n:Nat}{T U V:Tb}(h:T.Sim m n U)(g:U.Sim m n V):T.Sim m n V:=fun x=>⟨(h x).1.trans (g x).1,fun k=>((h x).2 k).trans ((g x).2 ((h x).1.1 k))⟩
theorem Tb.Sim.symm {m n:Nat}{T U:Tb}(h:T.Sim m n U):U.Sim m n T:=fun x=>⟨(h x).1.symm,fun k=>((h x).2 ((h x).1.2 k)).symm⟩
theorem Tb.Eqv.sim {m n:Nat}{T U:Tb}(h:T.Eqv m n U):T.Sim m n U:=fun x=>by
 have h1:∀i,i<m→XO (fun j=>T.t i j*x j) (n+1)=XO (fun j=>U.t i j*x j) (n+1):=fun i hi=>XQ fun j hj=>by rw[h.1 i j hi (by omega)]
 refine⟨⟨fun k i hi=>(h1 i hi).symm.trans (k i hi),fun k i hi=>(h1 i hi).trans (k i hi)⟩,fun _=>XQ fun j hj=>by rw[h.2.1 j (by omega)]⟩
theorem Rt (T:Tb)(r p:Nat)(x:Nat→Rat)(N i:Nat):XO (fun j=>(Cd T r p).t i j*x j) N=if i=r then(T.t r p)⁻¹*XO (fun j=>T.t r j*x j) N else XO (fun j=>T.t i j*x j) N-T.t i p*((T.t r p)⁻¹*XO (fun j=>T.t r j*x j) N):=by
 by_cases h:i=r
 ·rw[N_ h,←Ji]
  refine XQ fun j _=>?_
  unfold Cd;simp only[h,if_true];rw[ZAr];grind
 ·rw[M_ h,←Ji,←Ji,←DD]
  refine XQ fun j _=>?_
  unfold Cd;simp only[h,if_false];rw[ZAr];grind
theorem mj (T:Tb)(r p:Nat)(x:Nat→Rat)(N:Nat):XO (fun j=>(Cd T r p).c j*x j) N=XO (fun j=>T.c j*x j) N-T.c p*((T.t r p)⁻¹*XO (fun j=>T.t r j*x j) N):=by
 rw[←Ji,←Ji,←DD];refine XQ fun j _=>?_
 unfold Cd;simp only;rw[ZAr];grind
theorem rq {T:Tb}{m n r p:Nat}(hr:r<m)(hd:T.t r p≠0):T.Sim m n (Cd T r p):=fun x=>by
 have h1:T.ker m n x↔(Cd T r p).ker m n x:=by
  constructor
  ·intro k i hi
   rw[Rt]
   split
   ·rw[k r hr];grind
   ·rw[k r hr,k i hi];grind
  ·intro k
   have kr:XO (fun j=>T.t r j*x j) (n+1)=0:=by
    have:=k r hr;rw[Rt,N_ rfl]at this;rcases ZA9.1 this with h |h
    ·have hi:=ZEK _ hd
     rw[h,Rat.mul_zero]at hi;exact absurd hi (by decide)
    ·exact h
   intro i hi;by_cases e:i=r
   ·rw[e];exact kr
   ·have:=k i hi
    rw[Rt,M_ e,kr]at this;grind
 refine⟨h1,fun k=>?_⟩;rw[mj,k r hr];grind
theorem Step.sim {m n e p r:Nat}{T U:Tb}(h:Step m n e T p r U):T.Sim m n U :=
 (rq h.lv.1 (by have:=h.lv.2.1;grind)).trans h.piv.sim.symm
def Gh (m:Nat)(T:Tb)(p:Nat)(j:Nat):Rat:=(if j=p then 1 else 0)-XO (fun i=>if T.b i=j then T.t i p else 0) m
theorem GW {m n p:Nat}(T:Tb)(f:Nat→Rat)(hp:p≤n)(hb:∀i,i<m→T.b i≤n):XO (fun j=>f j*Gh m T p j) (n+1)=f p-XO (fun i=>f (T.b i)*T.t i p) m:=by
 have e:∀j,f j*Gh m T p j=f j*(if j=p then 1 else 0)-XO (fun i=>f j*(if T.b i=j then T.t i p else 0)) m:=fun j=>by
  rw[Ji];unfold Gh;grind
 rw[XQ fun j _=>e j,DD,FQ];congr 1
 ·rw[Aw (k:=p) (by omega) fun i _ hn=>by rw[M_ hn];grind,N_ rfl];grind
 ·refine XQ fun i hi=>?_
  rw[Aw (k:=T.b i) (by have:=hb i hi;omega) fun j _ hn=>by rw[M_ (w_ hn)];grind,N_ rfl]
theorem Tb.Ok.TBh {m n e p:Nat}{T:Tb}(h:T.Ok m n e)(he:e≤n)(hp:p≤n):T.ker m n (Gh m T p):=fun i hi=>by
 rw[GW T (T.t i) hp fun k hk=>by have:=h.bas k hk;omega];rw[Aw (k:=i) hi fun k hk hn=>by rw[h.unit i k hi hk,M_ (w_ hn)];grind,h.unit i i hi hi,N_ rfl];grind
theorem Tb.Ok.TBy {m n e p:Nat}{T:Tb}(h:T.Ok m n e)(he:e≤n)(hp:p≤n):XO (fun j=>T.c j*Gh m T p j) (n+1)=T.c p:=by
 rw[GW T T.c hp fun k hk=>by have:=h.bas k hk;omega];rw[Kp fun i hi=>by rw[h.cost i hi];grind];grind
theorem GR {m n e p:Nat}{T U:Tb}(h:T.Sim m n U)(hU:U.Ok m n e)(he:e≤n)(hp:p≤n):T.c p-XO (fun i=>T.c (U.b i)*U.t i p) m=U.c p:=by
 rw[←hU.TBy he hp,←GW U T.c hp fun k hk=>by have:=hU.bas k hk;omega];exact((h _).2 ((h _).1.2 (hU.TBh he hp)))
theorem x8 {m n e p i:Nat}{T U:Tb}(h:T.Sim m n U)(hU:U.Ok m n e)(he:e≤n)(hp:p≤n)(hi:i<m):T.t i p=XO (fun k=>T.t i (U.b k)*U.t k p) m:=by
 have:=(h _).1.2 (hU.TBh he hp) i hi;rw[GW U (T.t i) hp fun k hk=>by have:=hU.bas k hk;omega]at this;grind
theorem Rg {m n e:Nat}{T U:Tb}(h:T.Sim m n U)(hT:T.Ok m n e)(hU:U.Ok m n e)(he:e≤n)(hb:∀i,i<m→T.b i=U.b i):T.Eqv m n U:=by
 refine⟨fun i k hi hk=>?_,fun k hk=>?_,hb⟩
 ·rw[x8 h hU he hk hi,Aw (k:=i) hi fun j hj hn=>by rw[←hb j hj,hT.unit i j hi hj,M_ (w_ hn)];grind,←hb i hi,hT.unit i i hi hi,N_ rfl];grind
 ·have:=GR h hU he hk
  rw[Kp fun i hi=>by rw[←hb i hi,hT.cost i hi];grind]at this;grind
theorem Step.ok {m n e p r:Nat}{T U:Tb}(h:Step m n e T p r U)(hT:T.Ok m n e)(he:e≤n):U.Ok m n e:=by
 obtain⟨⟨e1,e2,e3⟩,⟨l1,l2,l3⟩,v1,v2,v3⟩:=h;have hd:T.t r p≠0:=by grind
 have hb:∀i,i<m→U.b i=if i=r then p else T.b i:=v3
 have ht:∀i k,i<m→k≤n→U.t i k=if i=r then T.t r k/T.t r p else T.t i k-T.t i p*(T.t r k/T.t r p):=v1
 have hc:∀k,k≤n→U.c k=T.c k-T.c p*(T.t r k/T.t r p):=v2;have dd:T.t r p/T.t r p=1:=by rw[ZAr,ZEK _ hd]
 have hU:∀i,i<m→U.b i<e:=fun i hi=>by
  rw[hb i hi];split
  ·exact e1
  ·exact hT.bas i hi
 refine⟨hU,fun i k hi hk=>?_,fun i hi=>?_,fun i hi=>?_⟩
 ·rw[ht i _ hi (by have:=hU k hk;omega),hb k hk]
  by_cases k1:k=r
  ·rw[N_ k1,dd]
   by_cases i1:i=r
   ·rw[N_ i1,N_ (i1.trans k1.symm)]
   ·rw[M_ i1,M_ (fun h=>i1 (h.trans k1))];grind
  ·rw[M_ k1,hT.unit r k l1 hk,M_ (w_ k1),ZAr,Rat.zero_mul]
   by_cases i1:i=r
   ·rw[N_ i1,M_ (fun h=>k1 (h.symm.trans i1))]
   ·rw[M_ i1,hT.unit i k hi hk];grind
 ·rw[hc _ (by have:=hU i hi;omega),hb i hi]
  by_cases i1:i=r
  ·rw[N_ i1,dd];grind
  ·rw[M_ i1,hT.cost i hi,hT.unit r i l1 hi,M_ (w_ i1),ZAr,Rat.zero_mul];grind
 ·rw[ht i n hi (N' _)]
  have hq:0≤T.t r n/T.t r p:=by rw[ZAr];exact ZAS (hT.rhs r l1) (ZBI (Rat.inv_pos.2 l2))
  by_cases i1:i=r
  ·rw[N_ i1];exact hq
  ·rw[M_ i1]
   by_cases hp:0<T.t i p
   ·have hl:T.t r n/T.t r p≤T.t i n/T.t i p:=by
     rcases l3 i hi hp with h |h
     ·exact ZBI h
     ·rw[h.1];exact ZCt
    have:T.t r n/T.t r p*T.t i p≤T.t i n:=by
     have:=Rat.mul_le_mul_of_nonneg_right hl (ZBI hp);rwa[ZCT (by grind)]at this
    grind
   ·have h1:=hT.rhs i hi
    have h2:T.t i p*(T.t r n/T.t r p)≤0:=by
     have:=ZAS (a:=-T.t i p) (by grind) hq;grind
    grind
end Go.Ab.N
