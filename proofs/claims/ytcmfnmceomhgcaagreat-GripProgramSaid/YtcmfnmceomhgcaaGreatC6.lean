/- Contracts of functions, for every argument that fits. -/
import Derived.Test.YtcmfnmceomhgcaaGreatC5
import Derived.Test.YtcmfnmceomhgcaaGreatAb4
set_option linter.unusedSimpArgs false
set_option linter.unusedVariables false
open Nat renaming reducePow → Y1, reduceLT → Y2, reduceLeDiff → Y3, reduceEqDiff → Y4, reduceAdd → Y5, reduceMul → Y6, reduceSub → Y7, reduceBEq → Y8, reduceDiv → Y9, reduceMod → YA
namespace Go.Ab.N
open Go Go.RowKit Go.Proofs
noncomputable section
set_option maxRecDepth 10000
set_option maxHeartbeats 2000000
open Classical
def V2.turned (a:V2):V2:=⟨-a.y,a.x⟩
theorem BI (a:V2):vb a.turned=vb a:=by
 unfold vb V2.turned;simp only[Dq];omega
theorem Ob (a:V2)(ha:vb a≤rm):Fn Tryz.prog 215 [vA a] (vA a.turned):=by
 have:=J4 a;have c:=Jw a.y (by omega);obtain⟨R,hR⟩:∃R,R=vA a.turned:=⟨_,rfl⟩
 have sR:Settled R:=hR▸Xt _;rw[←hR];refine Fq Tryz.call215 Tryz.func215 3 [] [] [] (by simp[wS]) (Xk ?_);simp(maxSteps:=999999)only[AS.start,↓X4,wF,seval];refine X1 c rfl ?_;simp only[↓X4,wF,seval];exact A0 rfl Jm rfl rfl rfl sR (hR.trans rfl)
theorem YH (L:List V2)(i:Nat)(hn:L.length<1000000)(h0:L.length≠0)(hi:i<1000000000):Fn Tryz.prog 153 [Ql L,I i] (vA (L.getD (i%L.length) v0)):=by
 obtain⟨R,hR⟩:∃R,R=vA (L.getD (i%L.length) v0):=⟨_,rfl⟩
 have sR:Settled R:=hR▸Xt _;have hm:(i:Int).tmod L.length=((i%L.length:Nat):Int):=rfl;have hml:i%L.length<L.length:=Nat.mod_lt _ (by omega);have f4:(i%L.length<L.length)=True:=eq_true hml;have f5:(i%L.length*8+8≤L.length*8)=True:=eq_true (by omega);have f6:((L.length:Int)=0)=False:=eq_false (by omega);have f6':(L.length=0)=False:=eq_false h0;have v1:=vF L (i%L.length);rw[←hR];refine Fq Tryz.call153 Tryz.func153 5 [] [] [] (by simp[Xq,Xb]) (Xk ?_);simp only[AS.start,X7,f4,f5,f6,f6',hm,v1,Int.toNat_natCast,↓X4,wF,seval];exact A0 rfl Jm rfl rfl rfl sR (hR.trans rfl)
theorem Bq (L:List V2)(i:Nat)(hn:L.length<1000000)(hi:i<L.length):Fn Tryz.prog 58 [Ql L,I i] (vA (L.getD ((i+1)%L.length) v0)):=by
 obtain⟨R,hR⟩:∃R,R=vA (L.getD ((i+1)%L.length) v0):=⟨_,rfl⟩
 have sR:Settled R:=hR▸Xt _;have w1:=wj i (by omega);rw[←hR];refine Fq Tryz.call58 Tryz.func58 5 [] [] [] (by simp[Xq,Xb]) (Xk ?_);by_cases h:i+1<L.length
 ·have e:(i+1)%L.length=i+1:=Nat.mod_eq_of_lt h
  have f1:(((i+1:Nat):Int)<L.length)=True:=eq_true (by omega);have f1':(i+1<L.length)=True:=eq_true h;have f2:((i+1)*8+8≤L.length*8)=True:=eq_true (by omega);have v1:=vF L (i+1);rw[e]at hR;simp only[AS.start,X7,w1,f1,f1',f2,v1,Int.toNat_natCast,↓X4,wF,seval];exact A0 rfl Jm rfl rfl rfl sR (hR.trans rfl)
 ·have hl:i+1=L.length:=by omega
  have e:(i+1)%L.length=0:=by rw[hl,Nat.mod_self]
  have f1:(((i+1:Nat):Int)<L.length)=False:=eq_false (by omega);have f1':(i+1<L.length)=False:=eq_false h;have f2:(0<L.length)=True:=eq_true (by omega);have f2':((0:Int)<L.length)=True:=eq_true (by omega);have f3:(8≤L.length*8)=True:=eq_true (by omega);have v1:=vF L 0;rw[Nat.zero_mul]at v1;simp only[Nat.zero_add]at v1;rw[e]at hR;simp only[AS.start,X7,w1,f1,f1',f2,f2',f3,v1,Int.toNat_zero,↓X4,wF,seval];exact A0 rfl Jm rfl rfl rfl sR (hR.trans rfl)
def bM (a b:V2):Rat:=(a.x-b.x)*(a.y+b.y)
def Aw (L:List V2):Nat→Rat
 |0=>0
 |i+1=>Aw L i+bM (L.getD i v0) (L.getD ((i+1)%L.length) v0)
def WF (L:List V2):Rat:=Aw L L.length*Rat.divInt 1 2
theorem pb (a b:V2):qb (bM a b)≤2*(vb a+vb b)+2:=by
 have:=J8 a;have:=J8 b;have:=J4 a;have:=J4 b;have m1:=Cy a.x b.x;have m2:=ZA a.y b.y;have m3:=Qk (a.x-b.x) (a.y+b.y);unfold bM;omega
theorem SZ (L:List V2)(k:Nat)(h:QN L k):∀i,qb (Aw L i)≤(4*k+4)*i+1
 |0=>by have:=AY;simp only[Aw];omega
 |i+1=>by
  have ih:=SZ L k h i;have h1:=pb (L.getD i v0) (L.getD ((i+1)%L.length) v0);have h2:=h i;have h3:=h ((i+1)%L.length);have h4:=ZA (Aw L i) (bM (L.getD i v0) (L.getD ((i+1)%L.length) v0));have e:(4*k+4)*(i+1)=(4*k+4)*i+(4*k+4):=Nat.mul_succ _ _;simp only[Aw];omega
theorem MC (L:List V2):∀i,i<L.length→Aw L i=Au L i+(L.getD 0 v0).x*(L.getD 0 v0).y-(L.getD i v0).x*(L.getD i v0).y
 |0,_=>by simp only[Aw,Au];grind
 |i+1,h=>by
  have ih:=MC L i (by omega);have e:(i+1)%L.length=i+1:=Nat.mod_eq_of_lt h;simp only[Aw,Au,e,ih,bM,Xp];grind
theorem V4 (L:List V2):WF L=KT L:=by
 unfold WF KT;congr 1;cases hn:L.length with
 |zero=>rfl
 |succ n =>
  have ih:=MC L n (by omega);have e:(n+1)%L.length=0:=by rw[hn,Nat.mod_self]
  simp only[Aw,Au,e,ih,bM,Xp];grind
theorem Mi (L:List V2)(k:Nat)(h:QN L k)(hk:k≤1000)(hl:L.length≤1000):Fn Tryz.prog 155 [Ql L] (qA (KT L)):=by
 rw[←V4];obtain⟨R,hR⟩:∃R,R=qA (WF L):=⟨_,rfl⟩
 have sR:Settled R:=hR▸Xa _;have bv:Jq 2 (Ql L)=True:=eq_true (X6 (Xq L));have bT:∀i,Qa 2 (.row 0 4 (Xf (qC (Aw L i))))=True:=fun i=>eq_true (QX (by simp[qC,Xc,X5]))
 rw[←hR];refine Fq Tryz.call155 Tryz.func155 6 [] [6,7000,70000005,7,80000003] [] (by simp[Xq]) (Xk ?_);simp only[AS.start,X7,↓X4,wF,seval];refine Xj (fun i:Nat=>⟨6,[],[Ql L,.any,.ref 0 0 0,.ref 1 0 0,I i,.any],[],[KQ,.row 0 4 (Xf (qC (Aw L i)))]⟩) (fun i=>i≤L.length) (fun i=>L.length-i) 0 (by omega)
  ?_ ?_
 ·refine Sub.trans (Qo 1 (Xf (qC 0)) rfl fun j hj=>?_) (Xi rfl (by simp[Xm,X7,I]) (by simp[Xw,XA]) (by simp[KQ,Aw]))
  match j,hj with
  |0,_=>exact XL _ _
  |1,_=>exact BJ (Zn (by rw[Rat.zero_num];simp[Qj]))
  |2,_=>exact XL _ _
  |3,_=>exact BJ (Zn (Ma rfl))
  |j+4,h=>omega
 intro i hi next
 have w1:=wj i (by omega);have hq:=SZ L k h i;have hq2:(4*k+4)*i≤4004*1000:=Nat.mul_le_mul (by omega) (by omega);by_cases hi2:i<L.length
 rotate_left
 ·obtain rfl:i=L.length:=by omega
  have c1:=XP 1 2 ⟨by omega,by omega⟩ ⟨by omega,by omega⟩;have c2:=J1 (Aw L L.length) (Rat.divInt 1 2) (by unfold rm;omega) (by have:=(KK 1 2 3 (by omega) (Zt ⟨by omega,by omega⟩) (Zt ⟨by omega,by omega⟩):qb (Rat.divInt 1 2)≤3);unfold rm;omega);rw[show Aw L L.length*Rat.divInt 1 2=WF L from rfl,←hR]at c2;refine Xk ?_;simp only[KQ,X7,Int.lt_irrefl,Nat.lt_irrefl,↓X4,wF,seval];refine X1 c1 rfl ?_;simp only[↓X4,wF,seval];refine X1 c2 rfl ?_;simp only[hR,↓X4,wF,seval];exact J2 rfl XR rfl rfl rfl sR (hR.trans rfl)
 have f1:((i:Int)<L.length)=True:=eq_true (by omega);have f2:(i<L.length)=True:=eq_true hi2;have f3:(i*8+8≤L.length*8)=True:=eq_true (by omega);have f4:(i*8+4≤L.length*8)=True:=eq_true (by omega);have f5:(i*8+4+4≤L.length*8)=True:=eq_true (by omega);have v1:=vF L i;have cn:=Bq L i (by omega) hi2;obtain⟨b,hb⟩:∃b,b=L.getD ((i+1)%L.length) v0:=⟨_,rfl⟩
 have h1:=h i;have h2:=h ((i+1)%L.length);rw[←hb]at cn h2;have:=J8 (L.getD i v0);have:=J4 (L.getD i v0);have:=J8 b;have:=J4 b;have m1:=Cy (L.getD i v0).x b.x;have m2:=ZA (L.getD i v0).y b.y;have m3:=Qk ((L.getD i v0).x-b.x) ((L.getD i v0).y+b.y);have c1:=C2 (L.getD i v0).x b.x (by unfold rm;omega) (by unfold rm;omega);have c2:=K5 (L.getD i v0).y b.y (by unfold rm;omega) (by unfold rm;omega);have c3:=J1 ((L.getD i v0).x-b.x) ((L.getD i v0).y+b.y) (by unfold rm;omega) (by unfold rm;omega);have c4:=K5 (Aw L i) (((L.getD i v0).x-b.x)*((L.getD i v0).y+b.y)) (by unfold rm;omega) (by unfold rm;omega);have e:Aw L i+((L.getD i v0).x-b.x)*((L.getD i v0).y+b.y)=Aw L (i+1):=by rw[hb];rfl
 rw[e]at c4;refine Xk ?_;simp only[KQ,X7,w1,f1,f2,f3,f4,f5,v1,Int.toNat_natCast,↓X4,wF,seval];refine X1 cn rfl ?_;simp only[KQ,X7,w1,f1,f2,f3,f4,f5,v1,Int.toNat_natCast,↓X4,wF,seval];refine X1 c1 rfl ?_;simp only[KQ,X7,w1,f1,f2,f3,f4,f5,v1,Int.toNat_natCast,↓X4,wF,seval];refine X1 c2 rfl ?_;simp only[KQ,X7,w1,f1,f2,f3,f4,f5,v1,Int.toNat_natCast,↓X4,wF,seval];refine X1 c3 rfl ?_;simp only[KQ,X7,w1,f1,f2,f3,f4,f5,v1,Int.toNat_natCast,↓X4,wF,seval];refine X1 c4 rfl ?_;simp only[KQ,X7,w1,f1,f2,f3,f4,f5,v1,Int.toNat_natCast,↓X4,wF,seval];refine next (i+1) _ (by omega) (by omega) (XT (m:=2) (Nat.zero_le _) rfl (by simp[X7,Xm,I]) (by simp[Xw]) (by simp[KQ,qC,Xl]) (by simp[XW,bv]) (by simp) (by simp[KQ,XW,bT]))
def I1 (p q r s:Rat):Bool:=decide (p<r) && decide (p<s) && decide (q<r) && decide (q<s)
def KE (n a b c d:V2):Bool:=I1 (Q8 n a) (Q8 n b) (Q8 n c) (Q8 n d) || I1 (Q8 n c) (Q8 n d) (Q8 n a) (Q8 n b)
theorem Ws {p q r s fa fb fc fd:Rat}(h1:p*fd - q*fc=s*fa - r*fb)(h2:p - q=s - r)(hp:0<p)(hq:q<0)(hs:0<s)(hr:r<0)(k1:fa<fc)(k2:fa<fd)(k3:fb<fc)(k4:fb<fd):False:=by
 have pos:∀x,x<fc→x<fd→0<p*(fd-x)+(-q)*(fc-x):=fun x hx1 hx2=>by
  have:=Rat.mul_pos hp (show 0<fd-x by grind);have:=Rat.mul_pos (show 0 < -q by grind) (show 0<fc-x by grind);grind
 rcases Rat.le_total (a:=fa) (b:=fb)with h |h
 ·have h3:=pos fb k3 k4
  have h4:=Rat.mul_nonneg (Rat.le_of_lt hs) (show 0≤fb-fa by grind);have e1:p*(fd-fb) + -q*(fc-fb)=(p*fd-q*fc)-(p-q)*fb:=by grind
  have e2:(s*fa-r*fb)-(s-r)*fb = -(s*(fb-fa)):=by grind
  rw[e1,h1,h2,e2]at h3;generalize s*(fb-fa)=z at h3 h4;grind
 ·have h3:=pos fa k1 k2
  have h4:=Rat.mul_nonneg (show 0≤-r by grind) (show 0≤fa-fb by grind);have e1:p*(fd-fa) + -q*(fc-fa)=(p*fd-q*fc)-(p-q)*fa:=by grind
  have e2:(s*fa-r*fb)-(s-r)*fa = -(-r*(fa-fb)):=by grind
  rw[e1,h1,h2,e2]at h3;generalize -r*(fa-fb)=z at h3 h4;grind
theorem AN (x:Rat):0≤x*x:=by
 rcases Rat.le_total (a:=0) (b:=x)with h |h
 ·exact Rat.mul_nonneg h h
 ·have:=Rat.mul_nonneg (show 0≤-x by grind) (show 0≤-x by grind)
  grind
theorem UV (n a b c d:V2)(k1:Q8 n a<Q8 n c)(k2:Q8 n a<Q8 n d)(k3:Q8 n b<Q8 n c)(k4:Q8 n b<Q8 n d):Br a b c d=false:=by
 have h1:Xp (b.sub a) (c.sub a)*Q8 n d-Xp (b.sub a) (d.sub a)*Q8 n c=Xp (d.sub c) (b.sub c)*Q8 n a-Xp (d.sub c) (a.sub c)*Q8 n b:=by
  unfold Xp Q8 V2.sub;grind
 have h2:Xp (b.sub a) (c.sub a)-Xp (b.sub a) (d.sub a)=Xp (d.sub c) (b.sub c)-Xp (d.sub c) (a.sub c):=by
  unfold Xp V2.sub;grind
 rw[←Bool.not_eq_true];intro h;unfold Br JX at h;simp only[Bool.and_eq_true,decide_eq_true_eq]at h;generalize Xp (b.sub a) (c.sub a)=p at h1 h2 h;generalize Xp (b.sub a) (d.sub a)=q at h1 h2 h;generalize Xp (d.sub c) (a.sub c)=r at h1 h2 h;generalize Xp (d.sub c) (b.sub c)=s at h1 h2 h;have sp:∀x y:Rat,x.num.sign*y.num.sign<0→(0<x∧y<0)∨(x<0∧0<y):=fun x y h=>by
  rw[←DG,←DG,←GO,←GO];rcases Int.lt_trichotomy x.num.sign 0 with hx |hx |hx
  ·rcases Int.lt_trichotomy y.num.sign 0 with hy |hy |hy
   ·have:=Int.mul_pos_of_neg_of_neg hx hy;omega
   ·rw[hy]at h;omega
   ·exact .inr ⟨hx,hy⟩
  ·rw[hx]at h;omega
  ·rcases Int.lt_trichotomy y.num.sign 0 with hy |hy |hy
   ·exact .inl ⟨hx,hy⟩
   ·rw[hy]at h;omega
   ·have:=Int.mul_pos hx hy;omega
 rcases sp p q h.1 with⟨hp,hq⟩ | ⟨hp,hq⟩
 ·rcases sp r s h.2 with⟨hr,hs⟩ | ⟨hr,hs⟩
  ·grind
  ·exact Ws h1 h2 hp hq hs hr k1 k2 k3 k4
 ·rcases sp r s h.2 with⟨hr,hs⟩ | ⟨hr,hs⟩
  ·exact Ws (p:=-p) (q:=-q) (r:=-r) (s:=-s) (by grind) (by grind) (by grind) (by grind) (by grind) (by grind) k1 k2 k3 k4
  ·grind
theorem UU (n a b c:V2)(k1:Q8 n a<Q8 n c)(k2:Q8 n b<Q8 n c):NK a b c=false:=by
 have hid:Q8 (a.sub c) (b.sub c)*Q8 n (a.sub c)-Q8 (a.sub c) (a.sub c)*Q8 n (b.sub c)=Xp (b.sub a) (c.sub a)*(n.x*(a.sub c).y-n.y*(a.sub c).x):=by
  unfold Q8 Xp V2.sub;grind
 have ha:Q8 n (a.sub c)<0:=by
  have:Q8 n (a.sub c)=Q8 n a-Q8 n c:=by unfold Q8 V2.sub;grind
  grind
 have hb:Q8 n (b.sub c)<0:=by
  have:Q8 n (b.sub c)=Q8 n b-Q8 n c:=by unfold Q8 V2.sub;grind
  grind
 have hu:0<Q8 (a.sub c) (a.sub c):=by
  have hx:=AN (a.sub c).x;have hy:=AN (a.sub c).y;have hne:¬Q8 (a.sub c) (a.sub c)=0:=fun h=>by
   unfold Q8 at h;have h1:(a.sub c).x*(a.sub c).x=0:=by grind
   have h2:(a.sub c).y*(a.sub c).y=0:=by grind
   have h3:(a.sub c).x=0:=by rcases Rat.mul_eq_zero.1 h1 with h |h <;> exact h
   have h4:(a.sub c).y=0:=by rcases Rat.mul_eq_zero.1 h2 with h |h <;> exact h
   unfold Q8 at ha;rw[h3,h4]at ha;grind
  unfold Q8 at hne ⊢;grind
 rw[←Bool.not_eq_true];intro h;unfold NK JX at h;simp only[Bool.and_eq_true,decide_eq_true_eq,Wv]at h;obtain⟨h1,h2⟩:=h;rw[h1]at hid;have h2':Q8 (a.sub c) (b.sub c)≤0:=by
  rw[←Rat.not_lt,←DG];omega
 have m1:=Rat.mul_nonneg (show 0≤-Q8 (a.sub c) (b.sub c)by grind) (show 0≤-Q8 n (a.sub c)by grind);have m2:=Rat.mul_pos hu (show 0 < -Q8 n (b.sub c)by grind);grind
theorem Wt (n a b c:V2)(k1:Q8 n c<Q8 n a)(k2:Q8 n c<Q8 n b):NK a b c=false :=
 UU ⟨-n.x,-n.y⟩ a b c (by unfold Q8 at *;grind) (by unfold Q8 at *;grind)
theorem O9 (n a b c d:V2)(k1:Q8 n a<Q8 n c)(k2:Q8 n a<Q8 n d)(k3:Q8 n b<Q8 n c)(k4:Q8 n b<Q8 n d):Zx a b c d=false:=by
 unfold Zx;rw[UV n a b c d k1 k2 k3 k4,UU n a b c k1 k3,UU n a b d k2 k4,Wt n c d a k1 k2,Wt n c d b k3 k4];rfl
theorem MS (n a b c d:V2)(h:KE n a b c d=true):Zx a b c d=false:=by
 unfold KE I1 at h;simp only[Bool.or_eq_true,Bool.and_eq_true,decide_eq_true_eq]at h;rcases h with⟨⟨⟨h1,h2⟩,h3⟩,h4⟩ | ⟨⟨⟨h1,h2⟩,h3⟩,h4⟩
 ·exact O9 n a b c d h1 h2 h3 h4
 ·exact O9 ⟨-n.x,-n.y⟩ a b c d (by unfold Q8 at *;grind) (by unfold Q8 at *;grind) (by unfold Q8 at *;grind) (by unfold Q8 at *;grind)
def DT (a b c d:V2):Nat→V2
 |0=>(b.sub a).turned
 |1=>(d.sub c).turned
 |2=>b.sub a
 |3=>d.sub c
 |_=>c.sub a
def Ao (a b c d:V2):Prop:=∀i,i<5→KE (DT a b c d i) a b c d=false
theorem aP (a b c d:V2)(h:¬Ao a b c d):Zx a b c d=false:=by
 unfold Ao at h;simp only[Classical.not_forall]at h;obtain⟨i,_,h⟩:=h;exact MS _ a b c d (by simpa using h)
def P2 (L:List V2)(i k:Nat):Prop:=1<(k+L.length-i)%L.length∧(k+L.length-i)%L.length<L.length-1∧Ao (atF L i) (atF L (i+1)) (atF L k) (atF L (k+1))
def VO (L:List V2)(i:Nat):Prop:=¬Vs L i∧∀k,k<L.length→¬P2 L i k
def ZV (L:List V2):Prop:=(3≤L.length∧L.length≤12)∧(∀i,i<L.length→VO L i)∧0<(KT L).num.sign
theorem jz (L:List V2)(h:ZV L):Bk L:=by
 obtain⟨h1,h2,h3⟩:=h;refine⟨h1,fun i hi=>⟨(h2 i hi).1,fun k hk1 hk2 hb=>?_⟩,h3⟩;have hg:=(h2 i hi).2 k hk2;have e:(k+L.length-i)%L.length=k-i:=by
  rw[show k+L.length-i=(k-i)+L.length by omega,Nat.add_mod_right,Nat.mod_eq_of_lt (by omega)]
 have hne:k-i<L.length-1:=by
  rcases Nat.lt_or_ge (k-i) (L.length-1)with h |h
  ·exact h
  ·exfalso
   have h1:k=L.length-1:=by omega
   have h2:i=0:=by omega
   have:(k+1)%L.length=0:=by rw[show k+1=L.length by omega,Nat.mod_self]
   exact hb.1 (by omega)
 have hm:¬Ao (atF L i) (atF L (i+1)) (atF L k) (atF L (k+1)):=fun hm=>hg ⟨by omega,by omega,hm⟩
 have:=aP _ _ _ _ hm;rw[hb.2]at this;exact absurd this (by decide)
theorem TR (n a b c d:V2)(hn:vb n≤vs)(ha:vb a≤vs)(hb:vb b≤vs)(hc:vb c≤vs)(hd:vb d≤vs):Fn Tryz.prog 216 [vA n,vA a,vA b,vA c,vA d] (.bool (KE n a b c d)):=by
 unfold vs at hn ha hb hc hd;have e1:=K4 n a (by unfold vm;omega) (by unfold vm;omega);have e2:=K4 n b (by unfold vm;omega) (by unfold vm;omega);have e3:=K4 n c (by unfold vm;omega) (by unfold vm;omega);have e4:=K4 n d (by unfold vm;omega) (by unfold vm;omega);have q1:=KO n a;have q2:=KO n b;have q3:=KO n c;have q4:=KO n d;obtain⟨V,hV⟩:∃V,V=KE n a b c d:=⟨_,rfl⟩
 rw[←hV];unfold KE at hV;generalize Q8 n a=p at *;generalize Q8 n b=q at *;generalize Q8 n c=r at *;generalize Q8 n d=s at *;have k1:=Z1 p r (by unfold rm;omega) (by unfold rm;omega);have k2:=Z1 p s (by unfold rm;omega) (by unfold rm;omega);have k3:=Z1 q r (by unfold rm;omega) (by unfold rm;omega);have k4:=Z1 q s (by unfold rm;omega) (by unfold rm;omega);obtain⟨LE,hLE⟩:∃LE,LE=I1 p q r s:=⟨_,rfl⟩
 obtain⟨MO,hMO⟩:∃MO,MO=I1 r s p q:=⟨_,rfl⟩
 rw[←hLE,←hMO]at hV;have hl:LE=(decide (Bs p r<0) && decide (Bs p s<0) && decide (Bs q r<0) && decide (Bs q s<0)):=by
  rw[hLE];unfold I1;rw[decide_eq_decide.2 (Dr p r),decide_eq_decide.2 (Dr p s),decide_eq_decide.2 (Dr q r),decide_eq_decide.2 (Dr q s)]
 have hm:MO=(decide (0<Bs p r) && decide (0<Bs p s) && decide (0<Bs q r) && decide (0<Bs q s)):=by
  rw[hMO];unfold I1;rw[decide_eq_decide.2 (AZ p r),decide_eq_decide.2 (AZ p s),decide_eq_decide.2 (AZ q r),decide_eq_decide.2 (AZ q s)];cases decide (r<p) <;> cases decide (r<q) <;> cases decide (s<p) <;> cases decide (s<q) <;> rfl
 have five:∀ (A B C D:Prop) [Decidable A] [Decidable B] [Decidable C] [Decidable D] (X:Bool),X=(decide A && decide B && decide C && decide D)→(X=false∧A=False∧True∧True∧True)∨(X=false∧A=True∧B=False∧True∧True)∨(X=false∧A=True∧B=True∧C=False∧True)∨(X=false∧A=True∧B=True∧C=True∧D=False)∨(X=true∧A=True∧B=True∧C=True∧D=True):=by
  intro A B C D _ _ _ _ X h;by_cases hA:A
  rotate_left
  ·exact .inl ⟨by rw[h,decide_eq_false hA];rfl,eq_false hA,trivial,trivial,trivial⟩
  by_cases hB:B
  rotate_left
  ·exact .inr (.inl ⟨by rw[h,decide_eq_true hA,decide_eq_false hB];rfl,eq_true hA,eq_false hB,trivial,trivial⟩)
  by_cases hC:C
  rotate_left
  ·exact .inr (.inr (.inl ⟨by rw[h,decide_eq_true hA,decide_eq_true hB,decide_eq_false hC];rfl,eq_true hA,eq_true hB,eq_false hC,trivial⟩))
  by_cases hD:D
  rotate_left
  ·exact .inr (.inr (.inr (.inl ⟨by rw[h,decide_eq_true hA,decide_eq_true hB,decide_eq_true hC,decide_eq_false hD];rfl,eq_true hA,eq_true hB,eq_true hC,eq_false hD⟩)))
  ·exact .inr (.inr (.inr (.inr ⟨by rw[h,decide_eq_true hA,decide_eq_true hB,decide_eq_true hC,decide_eq_true hD];rfl,eq_true hA,eq_true hB,eq_true hC,eq_true hD⟩)))
 have cl:=five _ _ _ _ _ hl;have cm:=five _ _ _ _ _ hm;clear five hl hm hLE hMO q1 q2 q3 q4 hn ha hb hc hd;have fin:∀ {s:AS} {v:Bool},s.get 10=.bool v→v=(LE || MO)→RetOk (Ju Tryz.prog Tryz.f216 [] [] (.bool V)) s:=fun h e=>Xo rfl h (X5 _) (by rw[e,hV])
 refine Fq Tryz.call216 Tryz.func216 17 [] [] [] (by simp[Xt]) (Xk ?_);simp only[AS.start,↓X4,wF,seval];refine X1 e1 rfl ?_;simp only[↓X4,wF,seval];refine X1 e2 rfl ?_;simp only[↓X4,wF,seval];refine X1 e3 rfl ?_;simp only[↓X4,wF,seval];refine X1 e4 rfl ?_;simp only[↓X4,wF,seval];rcases cl with⟨hX,l1,l2,l3,l4⟩ | ⟨hX,l1,l2,l3,l4⟩ | ⟨hX,l1,l2,l3,l4⟩ | ⟨hX,l1,l2,l3,l4⟩ | ⟨hX,l1,l2,l3,l4⟩
 all_goals
  refine X1 k1 rfl ?_;simp only[l1,l2,l3,l4,↓X4,wF,seval]
  try(refine X1 k2 rfl ?_;simp only[l1,l2,l3,l4,↓X4,wF,seval])
  try(refine X1 k3 rfl ?_;simp only[l1,l2,l3,l4,↓X4,wF,seval])
  try(refine X1 k4 rfl ?_;simp only[l1,l2,l3,l4,↓X4,wF,seval])
  rcases cm with⟨hY,m1,m2,m3,m4⟩ | ⟨hY,m1,m2,m3,m4⟩ | ⟨hY,m1,m2,m3,m4⟩ | ⟨hY,m1,m2,m3,m4⟩ | ⟨hY,m1,m2,m3,m4⟩
  all_goals
   refine X1 k1 rfl ?_;simp only[l1,l2,l3,l4,m1,m2,m3,m4,↓X4,wF,seval]
   try(refine X1 k2 rfl ?_;simp only[l1,l2,l3,l4,m1,m2,m3,m4,↓X4,wF,seval])
   try(refine X1 k3 rfl ?_;simp only[l1,l2,l3,l4,m1,m2,m3,m4,↓X4,wF,seval])
   try(refine X1 k4 rfl ?_;simp only[l1,l2,l3,l4,m1,m2,m3,m4,↓X4,wF,seval])
   exact fin rfl (by rw[hX,hY];rfl)
end
end Go.Ab.N
namespace Go.Ab.N
open Go Go.RowKit Go.Proofs
noncomputable section
set_option maxRecDepth 10000
set_option maxHeartbeats 4000000
open Classical
theorem Uq (a b c d:V2)(ha:vb a≤10000)(hb:vb b≤10000)(hc:vb c≤10000)(hd:vb d≤10000):Fn Tryz.prog 154 [vA a,vA b,vA c,vA d] (.bool (decide (Ao a b c d))):=by
 have m1:=QO b a;have m2:=QO d c;have m3:=QO c a;have u1:=BI (b.sub a);have u2:=BI (d.sub c);have c1:=QM b a (by unfold rm;omega) (by unfold rm;omega);have c2:=QM d c (by unfold rm;omega) (by unfold rm;omega);have c5:=QM c a (by unfold rm;omega) (by unfold rm;omega);have c3:=Ob (b.sub a) (by unfold rm;omega);have c4:=Ob (d.sub c) (by unfold rm;omega);have hA:∀i,i<5→vb (DT a b c d i)≤vs:=fun i hi=>by
  unfold vs
  match i,hi with
  |0,_=>show vb (b.sub a).turned≤_;omega
  |1,_=>show vb (d.sub c).turned≤_;omega
  |2,_=>show vb (b.sub a)≤_;omega
  |3,_=>show vb (d.sub c)≤_;omega
  |4,_=>show vb (c.sub a)≤_;omega
  |i+5,h=>omega
 have kb:∀i,i<5→Fn Tryz.prog 216 [vA (DT a b c d i),vA a,vA b,vA c,vA d] (.bool (KE (DT a b c d i) a b c d)):=fun i hi=>TR _ a b c d (hA i hi) (by unfold vs;omega) (by unfold vs;omega) (by unfold vs;omega) (by unfold vs;omega)
 obtain⟨V,hV⟩:∃V,V=decide (Ao a b c d):=⟨_,rfl⟩
 rw[←hV];unfold Ao at hV;replace c1:Fn Tryz.prog 97 [vA b,vA a] (vA (DT a b c d 2)):=c1;replace c2:Fn Tryz.prog 97 [vA d,vA c] (vA (DT a b c d 3)):=c2;replace c3:Fn Tryz.prog 215 [vA (DT a b c d 2)] (vA (DT a b c d 0)):=c3;replace c4:Fn Tryz.prog 215 [vA (DT a b c d 3)] (vA (DT a b c d 1)):=c4;replace c5:Fn Tryz.prog 97 [vA c,vA a] (vA (DT a b c d 4)):=c5;clear m1 m2 m3 u1 u2 hA ha hb hc hd;generalize hF:(fun i=>KE (DT a b c d i) a b c d)=F at *;have hF':∀i,KE (DT a b c d i) a b c d=F i:=fun i=>by rw[←hF]
 simp only[hF']at kb hV;clear hF hF';generalize DT a b c d=A at *;have fin:∀ {s:AS} {v:Bool},s.get 8=.bool v→v=V→RetOk (Ju Tryz.prog Tryz.f154 [] [] (.bool V)) s:=fun h e=>Xo rfl h (X5 _) (by rw[e])
 have hvc:∀a:V2,∀x∈vC a,Settled x:=fun a=>by simp[vC,Xc,X5]
 have brow:∀a:V2,Qa 4 (.row 0 8 (Xf (vC a)))=True:=fun a=>eq_true (QX (hvc a))
 have bel:Jq 4 (.sl 5 40 (Xf (vC (A 0) ++ (vC (A 1) ++ (vC (A 2) ++ (vC (A 3) ++ vC (A 4)))))) true)=True:=eq_true (X6 (J3 fun j hj=>Xe (fun x hx=>by
  simp only[List.mem_append]at hx;rcases hx with h |h |h |h |h <;> exact hvc _ _ h) j))
 refine Fq Tryz.call154 Tryz.func154 13 [] [] [] (by simp[wS]) (Xk ?_);simp(maxSteps:=999999)only[AS.start,↓X4,wA,↓reduceIte,reduceIte,reduceCtorEq,Y1,Y2,Y3,Y4,Y5,Y6,Y7,Y8,Y9,YA,wE];refine X1 c1 rfl ?_;simp only[↓X4,wA,↓reduceIte,reduceIte,reduceCtorEq,Y1,Y2,Y3,Y4,Y5,Y6,Y7,Y8,Y9,YA,wE];refine X1 c2 rfl ?_;simp only[↓X4,wA,↓reduceIte,reduceIte,reduceCtorEq,Y1,Y2,Y3,Y4,Y5,Y6,Y7,Y8,Y9,YA,wE];refine X1 c3 rfl ?_;simp only[↓X4,wA,↓reduceIte,reduceIte,reduceCtorEq,Y1,Y2,Y3,Y4,Y5,Y6,Y7,Y8,Y9,YA,wE];refine X1 c4 rfl ?_;simp only[↓X4,wA,↓reduceIte,reduceIte,reduceCtorEq,Y1,Y2,Y3,Y4,Y5,Y6,Y7,Y8,Y9,YA,wE];refine X1 c5 rfl ?_;simp only[↓X4,wA,↓reduceIte,reduceIte,reduceCtorEq,Y1,Y2,Y3,Y4,Y5,Y6,Y7,Y8,Y9,YA,wE];refine Xj (fun i:Nat=>⟨13,[],[.any,.any,.any,.any,.ref 0 0 0,.ref 1 0 0,.ref 2 0 0,.ref 3 0 0,.bool false,.any,.any,.sl 5 40 (Xf (vC (A 0) ++ (vC (A 1) ++ (vC (A 2) ++ (vC (A 3) ++ vC (A 4)))))) true,I i],[],[.row 0 8 (Xf (vC a)),.row 0 8 (Xf (vC b)),.row 0 8 (Xf (vC c)),.row 0 8 (Xf (vC d))]⟩) (fun i=>i≤5∧∀j,j<i→F j=false) (fun i=>5-i) 0 ⟨by omega,by omega⟩
  (ta (m:=4) (by simp[vC,Xl,Xm,I]) (by simp[vC,Xl]) (by simp[XW,bel]) (by simp[brow])) ?_
 rintro i ⟨hi,hok⟩ next
 have w0:IntKind.i64.wrap (0+1)=1:=by decide
 have w1:IntKind.i64.wrap (1+1)=2:=by decide
 have w2:IntKind.i64.wrap (2+1)=3:=by decide
 have w3:IntKind.i64.wrap (3+1)=4:=by decide
 have w4:IntKind.i64.wrap (4+1)=5:=by decide
 have e0:((0:Nat):Int)=0:=rfl;have e1:((1:Nat):Int)=1:=rfl;have e2:((2:Nat):Int)=2:=rfl;have e3:((3:Nat):Int)=3:=rfl;have e4:((4:Nat):Int)=4:=rfl;have e5:((5:Nat):Int)=5:=rfl;have t1:(1:Int).toNat=1:=rfl;have t2:(2:Int).toNat=2:=rfl;have t3:(3:Int).toNat=3:=rfl;have t4:(4:Int).toNat=4:=rfl;by_cases hi5:i<5
 ·have k:=kb i hi5
  have hcase:i=0∨i=1∨i=2∨i=3∨i=4:=by omega
  by_cases hv:F i=true
  ·rw[hv]at k
   have hb:false=V:=by
    rw[hV,decide_eq_false];intro h;rw[h i hi5]at hv;cases hv
   rcases hcase with rfl |rfl |rfl |rfl |rfl
   all_goals
    refine Xk ?_;simp only[vC,List.cons_append,List.nil_append,e0,e1,e2,e3,e4,e5,t1,t2,t3,t4,w0,w1,w2,w3,w4,Int.reduceLT,Int.reduceLE,Int.toNat_zero,↓X4,wA,↓reduceIte,reduceIte,reduceCtorEq,Y1,Y2,Y3,Y4,Y5,Y6,Y7,Y8,Y9,YA,wE];refine X1 k rfl ?_;simp only[↓X4,wA,↓reduceIte,reduceIte,reduceCtorEq,Y1,Y2,Y3,Y4,Y5,Y6,Y7,Y8,Y9,YA,wE];exact fin rfl hb
  rw[Bool.not_eq_true]at hv;rw[hv]at k;have nx:=next (i+1)
  rcases hcase with rfl |rfl |rfl |rfl |rfl
  all_goals
   refine Xk ?_;simp only[vC,List.cons_append,List.nil_append,e0,e1,e2,e3,e4,e5,t1,t2,t3,t4,w0,w1,w2,w3,w4,Int.reduceLT,Int.reduceLE,Int.toNat_zero,↓X4,wA,↓reduceIte,reduceIte,reduceCtorEq,Y1,Y2,Y3,Y4,Y5,Y6,Y7,Y8,Y9,YA,wE];refine X1 k rfl ?_;simp only[w0,w1,w2,w3,w4,↓X4,wA,↓reduceIte,reduceIte,reduceCtorEq,Y1,Y2,Y3,Y4,Y5,Y6,Y7,Y8,Y9,YA,wE];refine nx _ ⟨by omega,fun j hj=>?_⟩ (by omega) (BA (by simp[vC,Xl,Xm,I]) (by simp[vC,Xl]));rcases Nat.lt_succ_iff_lt_or_eq.1 hj with h |h
   ·exact hok j h
   ·rw[h];exact hv
 obtain rfl:i=5:=by omega
 refine Xk ?_;simp only[e5,Int.lt_irrefl,↓X4,wA,↓reduceIte,reduceIte,reduceCtorEq,Y1,Y2,Y3,Y4,Y5,Y6,Y7,Y8,Y9,YA,wE];exact fin rfl (by rw[hV,decide_eq_true hok])
theorem P7 (L:List V2)(k:Nat)(h:QN L k)(hk:k≤100000)(hl:L.length<1000000):Fn Tryz.prog 85 [Ql L] (.bool true):=by
 have rv:∀r:Rat,qb r≤100000→Fn Tryz.prog 86 [qA r] (.bool true):=fun r hr=>by
  have h1:=RQ.of_sz r;have:=GF (RQ.of r) (by omega);rwa[decide_eq_true ⟨r,rfl⟩]at this
 refine Fq Tryz.call85 Tryz.func85 4 [] [] [] (by simp[Xq]) (Xk ?_);simp only[AS.start,X7,↓X4,wA,↓reduceIte,reduceIte,reduceCtorEq,Y1,Y2,Y3,Y4,Y5,Y6,Y7,Y8,Y9,YA,wE];refine Xj (fun i:Nat=>⟨4,[],[Ql L,.any,.bool false,I i],[],[]⟩) (fun i=>i≤L.length) (fun i=>L.length-i) 0 (by omega)
  (BA (by simp[X7,Xm,I]) rfl) ?_
 intro i hi next
 have w1:=wj i (by omega);by_cases hi2:i<L.length
 ·have f3:((i:Int)<L.length)=True:=eq_true (by omega)
  have f4:(i<L.length)=True:=eq_true hi2;have f5:(i*8+8≤L.length*8)=True:=eq_true (by omega);have f6:(i*8+4≤L.length*8)=True:=eq_true (by omega);have f7:(i*8+4+4≤L.length*8)=True:=eq_true (by omega);have v1:=vF L i;have hx:=J8 (L.getD i v0);have hy:=J4 (L.getD i v0);have hb:=h i;refine Xk ?_;simp only[X7,w1,f3,f4,f5,f6,f7,v1,Int.toNat_natCast,↓X4,wA,↓reduceIte,reduceIte,reduceCtorEq,Y1,Y2,Y3,Y4,Y5,Y6,Y7,Y8,Y9,YA,wE];refine X1 (rv (L.getD i v0).x (by omega)) rfl ?_;simp only[X7,w1,f3,f4,f5,f6,f7,v1,Int.toNat_natCast,↓X4,wA,↓reduceIte,reduceIte,reduceCtorEq,Y1,Y2,Y3,Y4,Y5,Y6,Y7,Y8,Y9,YA,wE];refine X1 (rv (L.getD i v0).y (by omega)) rfl ?_;simp only[w1,↓X4,wA,↓reduceIte,reduceIte,reduceCtorEq,Y1,Y2,Y3,Y4,Y5,Y6,Y7,Y8,Y9,YA,wE];exact next (i+1) _ (by omega) (by omega) (BA (by simp[X7,Xm,I]) rfl)
 obtain rfl:i=L.length:=by omega
 refine Xk ?_;simp only[X7,Int.lt_irrefl,Nat.lt_irrefl,↓X4,wA,↓reduceIte,reduceIte,reduceCtorEq,Y1,Y2,Y3,Y4,Y5,Y6,Y7,Y8,Y9,YA,wE];exact Xo rfl rfl (X5 _) rfl
theorem GE (L:List V2)(h:QN L 1000)(hl:L.length<1000000):Fn Tryz.prog 71 [Ql L] (.bool (decide (ZV L))):=by
 obtain⟨V,hV⟩:∃V,V=decide (ZV L):=⟨_,rfl⟩
 have cn:=P7 L 1000 h (by omega) hl;rw[←hV];have fin:∀ {s:AS} {v:Bool},s.get 2=.bool v→v=V→RetOk (Ju Tryz.prog Tryz.f71 [] [] (.bool V)) s:=fun h e=>Xo rfl h (X5 _) (by rw[e])
 have sm:∀i,vb (atF L i)≤1000:=fun i=>h (i%L.length)
 refine Fq Tryz.call71 Tryz.func71 6 [] [] [] (by simp[Xq]) (Xk ?_);by_cases hlo:(L.length:Int)<3
 ·have f1:((L.length:Int)<3)=True:=eq_true hlo
  have f1':(L.length<3)=True:=eq_true (by omega);simp only[AS.start,X7,f1,f1',↓X4,wF,seval];exact fin rfl (by rw[hV,decide_eq_false];unfold ZV;omega)
 have f1:((L.length:Int)<3)=False:=eq_false hlo;have f1':(L.length<3)=False:=eq_false (by omega);by_cases hhi:(12:Int)<L.length
 ·have f2:((12:Int)<L.length)=True:=eq_true hhi
  have f2':(12<L.length)=True:=eq_true (by omega);simp only[AS.start,X7,f1,f1',f2,f2',↓X4,wF,seval];exact fin rfl (by rw[hV,decide_eq_false];unfold ZV;omega)
 have f2:((12:Int)<L.length)=False:=eq_false hhi;have f2':(12<L.length)=False:=eq_false (by omega);simp only[AS.start,X7,f1,f1',f2,f2',↓X4,wF,seval];refine X1 cn rfl ?_;simp only[f1,f1',f2,f2',↓X4,wF,seval];have hn0:L.length≠0:=by omega
 refine Xj (fun i:Nat=>⟨6,[],[Ql L,.any,.bool false,I i,.any,.any],[],[]⟩) (fun i=>i≤L.length∧∀j,j<i→VO L j) (fun i=>L.length-i) 0 ⟨by omega,by omega⟩
  (BA (by simp[X7,Xm,I]) rfl) ?_
 rintro i ⟨hi,hgood⟩ next
 have w1:=wj i (by omega);have w2:IntKind.i64.wrap ((i:Int)+2)=((i+2:Nat):Int):=by rw[IntKind.wrap_i64];omega
 by_cases hi2:i<L.length
 rotate_left
 ·obtain rfl:i=L.length:=by omega
  refine Xk ?_;simp only[X7,Int.lt_irrefl,Nat.lt_irrefl,↓X4,wF,seval];have ca:=Mi L 1000 h (by omega) (by omega);have cs:=JU (KT L) (by have:=(Vl L 1000 h (by omega) (by omega)).2;unfold rm;omega);refine X1 ca rfl ?_;simp only[↓X4,wF,seval];refine X1 cs rfl ?_;simp only[↓X4,wF,seval];exact fin rfl (by rw[hV,decide_eq_decide];unfold ZV;exact⟨fun h=>⟨by omega,hgood,h⟩,fun h=>h.2.2⟩)
 have at_i:∀j,j<L.length→atF L j=L.getD j v0:=fun j hj=>by unfold atF;rw[Nat.mod_eq_of_lt hj]
 have f3:((i:Int)<L.length)=True:=eq_true (by omega);have f4:(i<L.length)=True:=eq_true hi2;have f5:(i*8+8≤L.length*8)=True:=eq_true (by omega);have v1:=vF L i;have cat:∀j:Nat,j<1000000000→Fn Tryz.prog 153 [Ql L,I j] (vA (atF L j)):=fun j hj=>YH L j hl hn0 hj
 have cs:=Sg (atF L i) (atF L (i+1)) (atF L (i+2)) (by have:=sm i;unfold vs;omega) (by have:=sm (i+1);unfold vs;omega) (by have:=sm (i+2);unfold vs;omega);refine Xk ?_;simp only[X7,w1,w2,f3,f4,f5,v1,Int.toNat_natCast,↓X4,wF,seval];refine X1 (cat (i+1) (by omega)) rfl ?_;simp only[X7,w1,w2,f3,f4,f5,v1,Int.toNat_natCast,↓X4,wF,seval];refine X1 (cat (i+2) (by omega)) rfl ?_;simp only[X7,w1,w2,f3,f4,f5,v1,Int.toNat_natCast,↓X4,wF,seval];have cs':=cs;rw[at_i i hi2]at cs';refine X1 cs' rfl ?_;by_cases hs:JX (atF L i) (atF L (i+1)) (atF L (i+2))=0
 ·have g5:(JX (L.getD i v0) (atF L (i+1)) (atF L (i+2))=0)=True:=eq_true (by rw[←at_i i hi2];exact hs)
  simp only[g5,↓X4,wF,seval];exact fin rfl (by rw[hV,decide_eq_false];exact fun hp=>(hp.2.1 i hi2).1 hs)
 have g5:(JX (L.getD i v0) (atF L (i+1)) (atF L (i+2))=0)=False:=eq_false (by rw[←at_i i hi2];exact hs);simp only[g5,w1,w2,↓X4,wF,seval];refine Xj (fun k:Nat=>⟨6,[],[Ql L,.any,.bool false,I i,I k,.any],[],[]⟩) (fun k=>k≤L.length∧∀j,j<k→¬P2 L i j) (fun k=>L.length-k) 0 ⟨by omega,by omega⟩
  (BA (by simp[X7,Xm,I]) rfl) ?_
 rintro k ⟨hk,hpair⟩ nextk;have u1:=wj k (by omega);by_cases hk3:k<L.length
 rotate_left
 ·obtain rfl:k=L.length:=by omega
  refine Xk ?_;simp only[X7,Int.lt_irrefl,Nat.lt_irrefl,w1,↓X4,wF,seval];refine next (i+1) _ ⟨by omega,fun j hj=>?_⟩ (by omega) (BA (by simp[X7,Xm,I]) rfl)
  by_cases hji:j<i
  ·exact hgood j hji
  ·obtain rfl:j=i:=by omega
   exact⟨hs,fun q hq=>hpair q hq⟩
 have g3:((k:Int)<L.length)=True:=eq_true (by omega);have g4:(k<L.length)=True:=eq_true hk3;have h5:(k*8+8≤L.length*8)=True:=eq_true (by omega);have v2:=vF L k;have f6:((L.length:Int)=0)=False:=eq_false (by omega);have f6':(L.length=0)=False:=eq_false hn0;have r1:IntKind.i64.wrap ((k:Int)-i)=(k:Int)-i:=by rw[IntKind.wrap_i64];omega
 have r2:IntKind.i64.wrap ((k:Int)-i+L.length)=((k+L.length-i:Nat):Int):=by rw[IntKind.wrap_i64];omega
 have r3:((k+L.length-i:Nat):Int).tmod L.length=(((k+L.length-i)%L.length:Nat):Int):=rfl;have r4:IntKind.i64.wrap ((L.length:Int)-1)=((L.length-1:Nat):Int):=by rw[IntKind.wrap_i64];omega
 obtain⟨G,hG⟩:∃G,G=(k+L.length-i)%L.length:=⟨_,rfl⟩
 rw[←hG]at r3;have step:¬P2 L i k→∀j,j<k+1→¬P2 L i j:=fun hb j hj=>by
  by_cases hjk:j<k
  ·exact hpair j hjk
  ·obtain rfl:j=k:=by omega
   exact hb
 by_cases q1:1<G
 rotate_left
 ·have q2:(1<G)=False:=eq_false q1
  have q2':((1:Int)<(G:Int))=False:=eq_false (by omega);refine Xk ?_;simp only[X7,w1,u1,g3,g4,f6,f6',r1,r2,r3,r4,q2,q2',↓X4,wF,seval];exact nextk (k+1) _ ⟨by omega,step fun hb=>q1 (by rw[hG];exact hb.1)⟩ (by omega) (BA (by simp[X7,Xm,I]) rfl)
 have q2:(1<G)=True:=eq_true q1;have q2':((1:Int)<(G:Int))=True:=eq_true (by omega);by_cases q3:G<L.length-1
 rotate_left
 ·have q4:(G<L.length-1)=False:=eq_false q3
  have q4':((G:Int)<((L.length-1:Nat):Int))=False:=eq_false (by omega);refine Xk ?_;simp only[X7,w1,u1,g3,g4,f6,f6',r1,r2,r3,r4,q2,q2',q4,q4',↓X4,wF,seval];exact nextk (k+1) _ ⟨by omega,step fun hb=>q3 (by rw[hG];exact hb.2.1)⟩ (by omega) (BA (by simp[X7,Xm,I]) rfl)
 have q4:(G<L.length-1)=True:=eq_true q3;have q4':((G:Int)<((L.length-1:Nat):Int))=True:=eq_true (by omega);have cm:=Uq (atF L i) (atF L (i+1)) (atF L k) (atF L (k+1)) (by have:=sm i;omega) (by have:=sm (i+1);omega) (by have:=sm k;omega) (by have:=sm (k+1);omega);rw[at_i i hi2,at_i k hk3]at cm;refine Xk ?_;simp only[X7,w1,u1,f3,f4,f5,g3,g4,h5,f6,f6',r1,r2,r3,r4,q2,q2',q4,q4',v1,v2,Int.toNat_natCast,↓X4,wF,seval];refine X1 (cat (i+1) (by omega)) rfl ?_;simp only[X7,w1,u1,f3,f4,f5,g3,g4,h5,f6,f6',r1,r2,r3,r4,q2,q2',q4,q4',v1,v2,Int.toNat_natCast,↓X4,wF,seval];refine X1 (cat (k+1) (by omega)) rfl ?_;simp only[X7,w1,u1,f3,f4,f5,g3,g4,h5,f6,f6',r1,r2,r3,r4,q2,q2',q4,q4',v1,v2,Int.toNat_natCast,↓X4,wF,seval];refine X1 cm rfl ?_;by_cases hmt:Ao (L.getD i v0) (atF L (i+1)) (L.getD k v0) (atF L (k+1))
 ·rw[decide_eq_true hmt]
  simp only[↓X4,wF,seval];exact fin rfl (by rw[hV,decide_eq_false];exact fun hp=>(hp.2.1 i hi2).2 k hk3 ⟨by omega,by omega,by rw[at_i i hi2,at_i k hk3];exact hmt⟩)
 ·rw[decide_eq_false hmt]
  simp only[u1,↓X4,wF,seval];exact nextk (k+1) _ ⟨by omega,step fun hb=>hmt (by have:=hb.2.2;rwa[at_i i hi2,at_i k hk3]at this)⟩ (by omega) (BA (by simp[X7,Xm,I]) rfl)
theorem HM (n m:Int)(hn:BS n)(hm:m≠0):Fn Tryz.prog 21 [I n,I m] (I (ZS n m)):=by
 obtain⟨h1,h2⟩:=hn;refine Fq Tryz.call21 Tryz.func21 5 [] [] [] (by simp[wS]) (Xk ?_);simp(maxSteps:=999999)only[AS.start,↓X4,wF,seval];refine⟨fun h=>⟨hm,C4 rfl (Q1 (Xb _) ?_)⟩,fun h=>⟨hm,C4 rfl (Q1 (Xb _) ?_)⟩⟩
 ·have e1:IntKind.i64.wrap (n+1)=n+1:=by rw[IntKind.wrap_i64];omega
  have e2:IntKind.i64.wrap (-(n+1)) = -(n+1):=by rw[IntKind.wrap_i64];omega
  simp[AS.get,ZS,h,e1,e2,I]
 ·simp[AS.get,ZS,h,I]
theorem QD (l:List Int)(i m:Int)(hl:DL l)(hm:m≠0):Fn Tryz.prog 32 [X8 l,I i,I m] (I (Ab.atF l i m)):=by
 refine Fq Tryz.call32 Tryz.func32 7 [] [] [] (by simp[Xc,Xb]) (Xk ?_);by_cases h0:i<0
 ·have f1:(i<0)=True:=eq_true h0
  simp only[AS.start,Xl,f1,↓X4,wF,seval];exact Xo (v:=I 0) rfl rfl (Xb _) (by rw[show Ab.atF l i m=0 from if_pos (.inl h0)])
 have f1:(i<0)=False:=eq_false h0;by_cases h1:(l.length:Int)≤i
 ·have f2:((l.length:Int)≤i)=True:=eq_true h1
  simp only[AS.start,Xl,f1,f2,↓X4,wF,seval];exact Xo (v:=I 0) rfl rfl (Xb _) (by rw[show Ab.atF l i m=0 from if_pos (.inr h1)])
 have f2:((l.length:Int)≤i)=False:=eq_false h1;have f3:(0≤i)=True:=eq_true (by omega);have f4:(i<(l.length:Int))=True:=eq_true (by omega);have f5:(i.toNat<l.length)=True:=eq_true (by omega);simp only[AS.start,Xl,f1,f2,f3,f4,f5,↓X4,wF,seval];refine X1 (HM _ m (dZ hl i.toNat) hm) rfl ?_;simp only[↓X4,wF,seval];exact Xo (v:=I (ZS (l.getD i.toNat 0) m)) rfl rfl (Xb _) (by rw[show Ab.atF l i m=ZS (l.getD i.toNat 0) m from if_neg (by omega)])
theorem Gs {a:Rat}(h:qb a≤rm):(RQ.of a).sz<4611686018427387904:=Nat.lt_of_le_of_lt (RQ.of_sz a) (by unfold rm at h;omega)
theorem Mp (a b:Rat)(ha:qb a≤rm)(hb:qb b≤rm):Fn Tryz.prog 39 [qA a,qA b] (.bool (decide (a=b))):=by
 have:=jL (RQ.of a) (RQ.of b) (Gs ha) (Gs hb);rwa[decide_eq_decide.2 (show RQ.of a=RQ.of b↔a=b from⟨RQ.of_inj,fun h=>by rw[h]⟩)]at this
theorem O0 (a b:Rat)(ha:qb a≤rm)(hb:qb b≤rm):Fn Tryz.prog 26 [qA a,qA b] (.bool (decide (a=b))):=by
 have:=O7 (RQ.of a) (RQ.of b) (Gs ha) (Gs hb);rwa[decide_eq_decide.2 (show RQ.of a=RQ.of b↔a=b from⟨RQ.of_inj,fun h=>by rw[h]⟩)]at this
theorem Mj (a:Rat)(ha:qb a≤rm):Fn Tryz.prog 86 [qA a] (.bool true):=by
 have:=GF (RQ.of a) (Nat.lt_of_le_of_lt (RQ.of_sz a) (by unfold rm at ha;omega));rwa[decide_eq_true ⟨a,rfl⟩]at this
def qB (t a:V2):V2:=⟨t.x*a.x-t.y*a.y,t.y*a.x+t.x*a.y⟩
def V2.scale (a:V2)(k:Rat):V2:=⟨a.x*k,a.y*k⟩
theorem kG (t a:V2):vb (qB t a)≤2*(vb t+vb a)+1:=by
 have:=Qk t.x a.x;have:=Qk t.y a.y;have:=Qk t.y a.x;have:=Qk t.x a.y;have:=J8 t;have:=J4 t;have:=J8 a;have:=J4 a;have:=Cy (t.x*a.x) (t.y*a.y);have:=ZA (t.y*a.x) (t.x*a.y);unfold qB;show max (qb (t.x*a.x-t.y*a.y)) (qb (t.y*a.x+t.x*a.y))≤_;omega
theorem T4 (a:V2)(k:Rat):vb (a.scale k)≤vb a+qb k:=by
 have:=Qk a.x k;have:=Qk a.y k;have:=J8 a;have:=J4 a;unfold V2.scale;show max (qb (a.x*k)) (qb (a.y*k))≤_;omega
theorem V2.ext' {a b:V2}:a=b↔a.x=b.x∧a.y=b.y:=by
 cases a;cases b;simp
theorem ov (a b:V2)(ha:vb a≤vm)(hb:vb b≤vm):Fn Tryz.prog 66 [vA a,vA b] (.bool (decide (a=b))):=by
 unfold vm at ha hb;have:=J8 a;have:=J8 b;have:=J4 a;have:=J4 b;have c1:=Mp a.x b.x (by unfold rm;omega) (by unfold rm;omega);have c2:=Mp a.y b.y (by unfold rm;omega) (by unfold rm;omega);obtain⟨V,hV⟩:∃V,V=decide (a=b):=⟨_,rfl⟩
 rw[←hV];refine Fq Tryz.call66 Tryz.func66 5 [] [] [] (by simp[wS]) (Xk ?_);simp(maxSteps:=999999)only[AS.start,↓X4,wF,seval];refine X1 c1 rfl ?_;by_cases h:a.x=b.x
 ·rw[decide_eq_true h]
  simp only[↓X4,wF,seval];refine X1 c2 rfl ?_;simp only[↓X4,wF,seval];exact Xo (v:=.bool (decide (a.y=b.y))) rfl rfl (X5 _) (by rw[hV];exact congrArg AV.bool (decide_eq_decide.2 (show a.y=b.y↔a=b from⟨fun e=>V2.ext'.2 ⟨h,e⟩,fun e=>(V2.ext'.1 e).2⟩)))
 ·rw[decide_eq_false h]
  simp only[↓X4,wF,seval];exact Xo (v:=.bool false) rfl rfl (X5 _) (by rw[hV,decide_eq_false (p:=a=b) fun e=>h (by rw[e])])
theorem Wa (a b:V2)(ha:vb a≤vm)(hb:vb b≤vm):Fn Tryz.prog 195 [vA a,vA b] (vA (a.add b)):=by
 unfold vm at ha hb;obtain⟨R,hR⟩:∃R,R=vA (a.add b):=⟨_,rfl⟩
 have sR:Settled R:=hR▸Xt _;have:=J8 a;have:=J8 b;have:=J4 a;have:=J4 b;have c1:=Bt a.x b.x (by unfold rm;omega) (by unfold rm;omega);have c2:=Bt a.y b.y (by unfold rm;omega) (by unfold rm;omega);rw[←hR];refine Fq Tryz.call195 Tryz.func195 5 [] [] [] (by simp[wS]) (Xk ?_);simp(maxSteps:=999999)only[AS.start,↓X4,wF,seval];refine X1 c1 rfl ?_;simp only[↓X4,wF,seval];refine X1 c2 rfl ?_;simp only[↓X4,wF,seval];exact A0 rfl Jm rfl rfl rfl sR (hR.trans rfl)
theorem NW (a:V2)(k:Rat)(ha:vb a≤vm)(hk:qb k≤vm):Fn Tryz.prog 196 [vA a,qA k] (vA (a.scale k)):=by
 unfold vm at ha hk;obtain⟨R,hR⟩:∃R,R=vA (a.scale k):=⟨_,rfl⟩
 have sR:Settled R:=hR▸Xt _;have:=J8 a;have:=J4 a;have c1:=Aq a.x k (by unfold rm;omega) (by unfold rm;omega);have c2:=Aq a.y k (by unfold rm;omega) (by unfold rm;omega);rw[←hR];refine Fq Tryz.call196 Tryz.func196 5 [] [] [] (by simp[wS]) (Xk ?_);simp(maxSteps:=999999)only[AS.start,↓X4,wF,seval];refine X1 c1 rfl ?_;simp only[↓X4,wF,seval];refine X1 c2 rfl ?_;simp only[↓X4,wF,seval];exact A0 rfl Jm rfl rfl rfl sR (hR.trans rfl)
theorem UL (a b:V2)(ha:vb a≤vm)(hb:vb b≤vm):Fn Tryz.prog 72 [vA a,vA b] (.bool (decide (a=b))):=by
 unfold vm at ha hb;have:=J8 a;have:=J8 b;have:=J4 a;have:=J4 b;have c1:=O0 a.x b.x (by unfold rm;omega) (by unfold rm;omega);have c2:=O0 a.y b.y (by unfold rm;omega) (by unfold rm;omega);obtain⟨V,hV⟩:∃V,V=decide (a=b):=⟨_,rfl⟩
 rw[←hV];refine Fq Tryz.call72 Tryz.func72 5 [] [] [] (by simp[wS]) (Xk ?_);simp(maxSteps:=999999)only[AS.start,↓X4,wF,seval];refine X1 c1 rfl ?_;by_cases h:a.x=b.x
 ·rw[decide_eq_true h]
  simp only[↓X4,wF,seval];refine X1 c2 rfl ?_;simp only[↓X4,wF,seval];exact Xo (v:=.bool (decide (a.y=b.y))) rfl rfl (X5 _) (by rw[hV];exact congrArg AV.bool (decide_eq_decide.2 (show a.y=b.y↔a=b from⟨fun e=>V2.ext'.2 ⟨h,e⟩,fun e=>(V2.ext'.1 e).2⟩)))
 ·rw[decide_eq_false h]
  simp only[↓X4,wF,seval];exact Xo (v:=.bool false) rfl rfl (X5 _) (by rw[hV,decide_eq_false (p:=a=b) fun e=>h (by rw[e])])
theorem Je (a b:V2)(ha:vb a≤vm)(hb:vb b≤vm):Fn Tryz.prog 36 [vA a,vA b] (vA (a.add b)):=by
 unfold vm at ha hb;obtain⟨R,hR⟩:∃R,R=vA (a.add b):=⟨_,rfl⟩
 have sR:Settled R:=hR▸Xt _;have:=J8 a;have:=J8 b;have:=J4 a;have:=J4 b;have c1:=K5 a.x b.x (by unfold rm;omega) (by unfold rm;omega);have c2:=K5 a.y b.y (by unfold rm;omega) (by unfold rm;omega);rw[←hR];refine Fq Tryz.call36 Tryz.func36 5 [] [] [] (by simp[wS]) (Xk ?_);simp(maxSteps:=999999)only[AS.start,↓X4,wF,seval];refine X1 c1 rfl ?_;simp only[↓X4,wF,seval];refine X1 c2 rfl ?_;simp only[↓X4,wF,seval];exact A0 rfl Jm rfl rfl rfl sR (hR.trans rfl)
theorem Ap (a:V2)(k:Rat)(ha:vb a≤vm)(hk:qb k≤vm):Fn Tryz.prog 37 [vA a,qA k] (vA (a.scale k)):=by
 unfold vm at ha hk;obtain⟨R,hR⟩:∃R,R=vA (a.scale k):=⟨_,rfl⟩
 have sR:Settled R:=hR▸Xt _;have:=J8 a;have:=J4 a;have c1:=J1 a.x k (by unfold rm;omega) (by unfold rm;omega);have c2:=J1 a.y k (by unfold rm;omega) (by unfold rm;omega);rw[←hR];refine Fq Tryz.call37 Tryz.func37 5 [] [] [] (by simp[wS]) (Xk ?_);simp(maxSteps:=999999)only[AS.start,↓X4,wF,seval];refine X1 c1 rfl ?_;simp only[↓X4,wF,seval];refine X1 c2 rfl ?_;simp only[↓X4,wF,seval];exact A0 rfl Jm rfl rfl rfl sR (hR.trans rfl)
theorem N4 (t a:V2)(ht:vb t≤vm)(ha:vb a≤vm):Fn Tryz.prog 139 [vA t,vA a] (vA (qB t a)):=by
 unfold vm at ht ha;obtain⟨R,hR⟩:∃R,R=vA (qB t a):=⟨_,rfl⟩
 have sR:Settled R:=hR▸Xt _;have:=J8 t;have:=J4 t;have:=J8 a;have:=J4 a;have m1:=Qk t.x a.x;have m2:=Qk t.y a.y;have m3:=Qk t.y a.x;have m4:=Qk t.x a.y;have c1:=J1 t.x a.x (by unfold rm;omega) (by unfold rm;omega);have c2:=J1 t.y a.y (by unfold rm;omega) (by unfold rm;omega);have c4:=C2 (t.x*a.x) (t.y*a.y) (by unfold rm;omega) (by unfold rm;omega);have c5:=J1 t.y a.x (by unfold rm;omega) (by unfold rm;omega);have c6:=J1 t.x a.y (by unfold rm;omega) (by unfold rm;omega);have c7:=K5 (t.y*a.x) (t.x*a.y) (by unfold rm;omega) (by unfold rm;omega);rw[←hR];refine Fq Tryz.call139 Tryz.func139 7 [] [1,20000002,20000003,2,30000002,30000003] [] (by simp[wS]) (Xk ?_);simp(maxSteps:=999999)only[AS.start,↓X4,wF,seval];refine X1 c1 rfl ?_;simp only[↓X4,wF,seval];refine X1 c2 rfl ?_;simp only[↓X4,wF,seval];refine X1 c4 rfl ?_;simp only[↓X4,wF,seval];refine X1 c5 rfl ?_;simp only[↓X4,wF,seval];refine X1 c6 rfl ?_;simp only[↓X4,wF,seval];refine X1 c7 rfl ?_;simp only[↓X4,wF,seval];exact A0 rfl Jm rfl rfl rfl sR (hR.trans rfl)
end
end Go.Ab.N
namespace Go.Ab.N
open Go Go.RowKit Go.Proofs
set_option maxRecDepth 10000
set_option maxHeartbeats 4000000
structure GG where
 p:V2
 q:V2
 n:V2
 force:Rat
 rough:Rat
structure BB where
 c:V2
 light:Rat
 heavy:Rat
 strength:Rat
def Cu (a:Rat):Rat:=if a<0 then -a else a
def QA (n:V2):Rat:=Cu n.x+Cu n.y
structure okP (b:BB)(g:GG)(a0 c0 a1 c1 k:Rat):Prop where
 n0:0≤a0
 n1:0≤a1
 r0:c0≤g.rough*a0
 r1:c1≤g.rough*a1
 s0:-c0≤g.rough*a0
 s1:-c1≤g.rough*a1
 f0:QA g.n*a0≤g.force
 f1:QA g.n*a1≤g.force
 st:QA g.n*a0+QA g.n*a1≤b.strength
 k0:0≤k
 k1:k≤16
 ex:g.n.x*a0 + -g.n.y*c0-g.n.x*a1 - -g.n.y*c1=0
 ey:g.n.y*a0+g.n.x*c0-g.n.y*a1-g.n.x*c1-b.heavy*k=0
 et:Xp (g.p.sub b.c) g.n*a0+Xp (g.p.sub b.c) ⟨-g.n.y,g.n.x⟩*c0-Xp (g.q.sub b.c) g.n*a1-Xp (g.q.sub b.c) ⟨-g.n.y,g.n.x⟩*c1=0
def iA (b:BB)(g:GG)(k:Rat):Prop:=(∃a0 c0 a1 c1,okP b g a0 c0 a1 c1 k)∧∀a0 c0 a1 c1 k',okP b g a0 c0 a1 c1 k'→k'≤k
theorem iB {b:BB}{g:GG}{k k':Rat}(h:iA b g k)(h':iA b g k'):k=k':=by
 obtain⟨⟨a,c,d,e,h1⟩,h2⟩:=h;obtain⟨⟨a',c',d',e',h3⟩,h4⟩:=h';exact Rat.le_antisymm (h4 _ _ _ _ _ h1) (h2 _ _ _ _ _ h3)
end Go.Ab.N
namespace Go.Ab.N
open Go Go.RowKit Go.Proofs
noncomputable section
set_option maxRecDepth 10000
set_option maxHeartbeats 4000000
open Classical
def N2 (m n:V2):Prop:=Xp m n=0∧Q8 m n<0
theorem B0 (a:Rat):a.num.sign<0↔a<0:=GO a
theorem C8 (a:Rat):a.num.sign=0↔a=0:=Wv a
theorem Ph (a:Rat):0<a.num.sign↔0<a:=DG a
theorem Hy (a:Rat):qb (Cu a)=qb a:=by unfold Cu;split;exact Dp a;rfl
theorem Rt (a:Rat):Fn Tryz.prog 213 [qA a] (qA (Cu a)):=by
 have c1:=Qe a;have c2:=KA a;have s1:=B0 a;obtain⟨R,hR⟩:∃R,R=qA (Cu a):=⟨_,rfl⟩
 have sR:Settled R:=hR▸Xa _;rw[←hR];unfold Cu at hR;by_cases h:a<0
 ·rw[if_pos h]at hR
  have f:=s1.2 h;refine Fq Tryz.call213 Tryz.func213 3 [] [] [] (by simp[wS]) (Xk ?_);simp(maxSteps:=999999)only[AS.start,↓X4,wF,seval];refine X1 c1 rfl ?_;simp(disch:=omega)only[f,qA,qC,↓Xd,wG,seval];refine X1 c2 rfl ?_;simp(disch:=omega)only[qA,qC,↓Xd,wG,seval];exact J2 rfl XR rfl rfl rfl sR (hR.trans rfl)
 ·rw[if_neg h]at hR
  have f:¬a.num.sign<0:=fun g=>h (s1.1 g)
  refine Fq Tryz.call213 Tryz.func213 3 [] [] [] (by simp[wS]) (Xk ?_);simp(maxSteps:=999999)only[AS.start,↓X4,wF,seval];refine X1 c1 rfl ?_;simp(disch:=omega)only[f,qA,qC,↓Xd,wG,seval];exact J2 rfl XR rfl rfl rfl sR (hR.trans rfl)
theorem Sr (a:Rat)(ha:qb a≤rm):Fn Tryz.prog 92 [qA a] (qA (Cu a)):=by
 have c1:=JU a ha;have c2:=Jw a ha;have s1:=B0 a;obtain⟨R,hR⟩:∃R,R=qA (Cu a):=⟨_,rfl⟩
 have sR:Settled R:=hR▸Xa _;rw[←hR];unfold Cu at hR;by_cases h:a<0
 ·rw[if_pos h]at hR
  have f:=s1.2 h;refine Fq Tryz.call92 Tryz.func92 3 [] [] [] (by simp[wS]) (Xk ?_);simp(maxSteps:=999999)only[AS.start,↓X4,wF,seval];refine X1 c1 rfl ?_;simp(disch:=omega)only[f,qA,qC,↓Xd,wG,seval];refine X1 c2 rfl ?_;simp(disch:=omega)only[qA,qC,↓Xd,wG,seval];exact J2 rfl XR rfl rfl rfl sR (hR.trans rfl)
 ·rw[if_neg h]at hR
  have f:¬a.num.sign<0:=fun g=>h (s1.1 g)
  refine Fq Tryz.call92 Tryz.func92 3 [] [] [] (by simp[wS]) (Xk ?_);simp(maxSteps:=999999)only[AS.start,↓X4,wF,seval];refine X1 c1 rfl ?_;simp(disch:=omega)only[f,qA,qC,↓Xd,wG,seval];exact J2 rfl XR rfl rfl rfl sR (hR.trans rfl)
theorem LJ (n:V2)(hn:vb n≤rm):Fn Tryz.prog 146 [vA n] (qA (QA n)):=by
 have:=J8 n;have:=J4 n;have c1:=Rt n.x;have c2:=Rt n.y;have c3:=Bt (Cu n.x) (Cu n.y) (by rw[Hy];omega) (by rw[Hy];omega);obtain⟨R,hR⟩:∃R,R=qA (QA n):=⟨_,rfl⟩
 have sR:Settled R:=hR▸Xa _;rw[←hR];refine Fq Tryz.call146 Tryz.func146 3 [] [] [] (by simp[wS]) (Xk ?_);simp(maxSteps:=999999)only[AS.start,↓X4,wF,seval];refine X1 c1 rfl ?_;simp(disch:=omega)only[↓Xd,wG,seval];refine X1 c2 rfl ?_;simp(disch:=omega)only[↓Xd,wG,seval];refine X1 c3 rfl ?_;simp(disch:=omega)only[qA,qC,↓Xd,wG,seval];exact J2 rfl XR rfl rfl rfl sR (hR.trans rfl)
theorem UN (n:V2)(hn:vb n≤rm):Fn Tryz.prog 94 [vA n] (qA (QA n)):=by
 have:=J8 n;have:=J4 n;have c1:=Sr n.x (by omega);have c2:=Sr n.y (by omega);have c3:=K5 (Cu n.x) (Cu n.y) (by rw[Hy];omega) (by rw[Hy];omega);obtain⟨R,hR⟩:∃R,R=qA (QA n):=⟨_,rfl⟩
 have sR:Settled R:=hR▸Xa _;rw[←hR];refine Fq Tryz.call94 Tryz.func94 3 [] [] [] (by simp[wS]) (Xk ?_);simp(maxSteps:=999999)only[AS.start,↓X4,wF,seval];refine X1 c1 rfl ?_;simp(disch:=omega)only[↓Xd,wG,seval];refine X1 c2 rfl ?_;simp(disch:=omega)only[↓Xd,wG,seval];refine X1 c3 rfl ?_;simp(disch:=omega)only[qA,qC,↓Xd,wG,seval];exact J2 rfl XR rfl rfl rfl sR (hR.trans rfl)
theorem Rr (n:V2):Fn Tryz.prog 165 [vA n] (vA n.turned):=by
 have c1:=KA n.y;obtain⟨R,hR⟩:∃R,R=vA n.turned:=⟨_,rfl⟩
 have sR:Settled R:=hR▸Xt _;rw[←hR];refine Fq Tryz.call165 Tryz.func165 3 [] [] [] (by simp[wS]) (Xk ?_);simp(maxSteps:=999999)only[AS.start,↓X4,wF,seval];refine X1 c1 rfl ?_;simp(disch:=omega)only[qA,qC,↓Xd,wG,seval];exact A0 rfl Jm rfl rfl rfl sR (hR.trans rfl)
theorem Ia (n:V2)(hn:vb n≤rm):Fn Tryz.prog 61 [vA n] (vA n.turned):=by
 have:=J4 n;have c1:=Jw n.y (by omega);obtain⟨R,hR⟩:∃R,R=vA n.turned:=⟨_,rfl⟩
 have sR:Settled R:=hR▸Xt _;rw[←hR];refine Fq Tryz.call61 Tryz.func61 3 [] [] [] (by simp[wS]) (Xk ?_);simp(maxSteps:=999999)only[AS.start,↓X4,wF,seval];refine X1 c1 rfl ?_;simp(disch:=omega)only[qA,qC,↓Xd,wG,seval];exact A0 rfl Jm rfl rfl rfl sR (hR.trans rfl)
theorem VP (m n:V2)(hm:vb m≤vm)(hn:vb n≤vm):Fn Tryz.prog 69 [vA m,vA n] (.bool (decide (N2 m n))):=by
 have c1:=AC m n hm hn;have c2:=Dm m n hm hn;have c3:=Qe (Xp m n);have c4:=Qe (Q8 m n);have s3:=C8 (Xp m n);have s4:=B0 (Q8 m n);obtain⟨b,hb⟩:∃b,b=decide (N2 m n):=⟨_,rfl⟩
 rw[←hb];generalize (Xp m n).num.sign=x at *;generalize (Q8 m n).num.sign=y at *;by_cases h:Xp m n=0
 ·have e3:x=0:=s3.2 h
  have e4:b=decide (y<0):=by
   rw[hb];by_cases hy:y<0
   ·rw[decide_eq_true hy];exact decide_eq_true ⟨h,s4.1 hy⟩
   ·rw[decide_eq_false hy];exact decide_eq_false fun g=>hy (s4.2 g.2)
  refine Fq Tryz.call69 Tryz.func69 5 [] [] [] (by simp[wS]) (Xk ?_);simp(maxSteps:=999999)only[AS.start,↓X4,wF,seval];refine X1 c1 rfl ?_;simp(disch:=omega)only[qA,qC,↓Xd,wG,seval];refine X1 c3 rfl ?_;simp(disch:=omega)only[e3,qA,qC,↓Xd,wG,seval];refine X1 c2 rfl ?_;simp(disch:=omega)only[qA,qC,↓Xd,wG,seval];refine X1 c4 rfl ?_;simp(disch:=omega)only[↓Xd,wG,seval];exact Xo rfl rfl (X5 _) (congrArg AV.bool e4.symm)
 ·have e3:¬x=0:=fun g=>h (s3.1 g)
  have e4:b=false:=by rw[hb];exact decide_eq_false fun g=>h g.1
  refine Fq Tryz.call69 Tryz.func69 5 [] [] [] (by simp[wS]) (Xk ?_);simp(maxSteps:=999999)only[AS.start,↓X4,wF,seval];refine X1 c1 rfl ?_;simp(disch:=omega)only[qA,qC,↓Xd,wG,seval];refine X1 c3 rfl ?_;simp(disch:=omega)only[e3,↓Xd,wG,seval];exact Xo rfl rfl (X5 _) (congrArg AV.bool e4.symm)
theorem oF (m n:V2)(hm:vb m≤1000000)(hn:vb n≤1000000):Fn Tryz.prog 74 [vA m,vA n] (.bool (decide (N2 m n))):=by
 have q1:=JT m n;have q2:=KO m n;have c1:=Ky m n (by unfold vm;omega) (by unfold vm;omega);have c2:=K4 m n (by unfold vm;omega) (by unfold vm;omega);have c3:=JU (Xp m n) (by unfold rm;omega);have c4:=JU (Q8 m n) (by unfold rm;omega);have s3:=C8 (Xp m n);have s4:=B0 (Q8 m n);obtain⟨b,hb⟩:∃b,b=decide (N2 m n):=⟨_,rfl⟩
 rw[←hb];generalize (Xp m n).num.sign=x at *;generalize (Q8 m n).num.sign=y at *;by_cases h:Xp m n=0
 ·have e3:x=0:=s3.2 h
  have e4:b=decide (y<0):=by
   rw[hb];by_cases hy:y<0
   ·rw[decide_eq_true hy];exact decide_eq_true ⟨h,s4.1 hy⟩
   ·rw[decide_eq_false hy];exact decide_eq_false fun g=>hy (s4.2 g.2)
  refine Fq Tryz.call74 Tryz.func74 5 [] [] [] (by simp[wS]) (Xk ?_);simp(maxSteps:=999999)only[AS.start,↓X4,wF,seval];refine X1 c1 rfl ?_;simp(disch:=omega)only[qA,qC,↓Xd,wG,seval];refine X1 c3 rfl ?_;simp(disch:=omega)only[e3,qA,qC,↓Xd,wG,seval];refine X1 c2 rfl ?_;simp(disch:=omega)only[qA,qC,↓Xd,wG,seval];refine X1 c4 rfl ?_;simp(disch:=omega)only[↓Xd,wG,seval];exact Xo rfl rfl (X5 _) (congrArg AV.bool e4.symm)
 ·have e3:¬x=0:=fun g=>h (s3.1 g)
  have e4:b=false:=by rw[hb];exact decide_eq_false fun g=>h g.1
  refine Fq Tryz.call74 Tryz.func74 5 [] [] [] (by simp[wS]) (Xk ?_);simp(maxSteps:=999999)only[AS.start,↓X4,wF,seval];refine X1 c1 rfl ?_;simp(disch:=omega)only[qA,qC,↓Xd,wG,seval];refine X1 c3 rfl ?_;simp(disch:=omega)only[e3,↓Xd,wG,seval];exact Xo rfl rfl (X5 _) (congrArg AV.bool e4.symm)
def Xn (f:Nat→Rat):Nat→AV:=fun j=>(qC (f (j/4))).getD (j%4) .any
theorem ZW (f:Nat→Rat)(k j:Nat)(h:j<4):Xn f (k*4+j)=(qC (f k)).getD j .any:=by
 unfold Xn;rw[show(k*4+j)/4=k by omega,show(k*4+j)%4=j by omega]
theorem ZP (f:Nat→Rat)(k:Nat):Xn f (k*4)=(qC (f k)).getD 0 .any:=ZW f k 0 (by omega)
theorem CU (f:Nat→Rat)(k:Nat)(x:Rat):FQ (Xn f) (k*4) (qC x)=Xn (fun i=>if i=k then x else f i):=by
 funext j;rw[Ey];have hl:(qC x).length=4:=rfl;unfold Xn;by_cases h:k*4≤j∧j<k*4+(qC x).length
 ·rw[if_pos h]
  rw[hl]at h;show _=(qC (if j/4=k then x else f (j/4))).getD (j%4) .any;rw[if_pos (show j/4=k by omega),show j%4=j-k*4 by omega]
 ·rw[if_neg h]
  rw[hl]at h;show _=(qC (if j/4=k then x else f (j/4))).getD (j%4) .any;rw[if_neg (show ¬j/4=k by omega)]
theorem KV (m v n:Nat)(f:Nat→Rat):Qa m (.row v n (Xn f)):=fun j _=>X6 (Xe (l:=qC (f (j/4))) (by simp[qC,Xc,X5]) _)
theorem XZ {H:List AO}{a:Nat}{o:AO}(h:H[a]?=some o)(l:List AO):(H ++ l)[a]?=some o:=by
 rw[List.getElem?_append_left (List.getElem?_eq_some_iff.1 h).1];exact h
theorem Bi {H:List AO}{n:Nat}(h:H.length=n)(x:AO)(l:List AO):(H ++ x :: l)[n]?=some x:=by
 rw[←h,List.getElem?_append_right (Nat.le_refl _),Nat.sub_self];rfl
theorem FD {H:List AO}{n:Nat}(h:H.length=n)(x y:AO)(l:List AO):(H ++ x :: y :: l)[n+1]?=some y:=by
 rw[←h,List.getElem?_append_right (by omega),show H.length+1-H.length=1 by omega];rfl
theorem Kv {H:List AO}{a:Nat}(h:a<H.length)(o:AO)(l:List AO):(H ++ l).set a o=H.set a o ++ l:=List.set_append_left _ _ h
theorem CO {H:List AO}{n:Nat}(h:H.length=n)(x y:AO)(l:List AO):(H ++ x :: l).set n y=H ++ y :: l:=by
 rw[List.set_append_right _ _ (by omega),←h,Nat.sub_self];rfl
theorem HX {H:List AO}{n:Nat}(h:H.length=n)(x y z:AO)(l:List AO):(H ++ x :: y :: l).set (n+1) z=H ++ x :: z :: l:=by
 rw[List.set_append_right _ _ (by omega),←h,show H.length+1-H.length=1 by omega];rfl
theorem Zw {H:List AO}{n:Nat}(h:H.length=n)(l:List AO):(H ++ l).length=n+l.length:=by rw[List.length_append,h]
theorem ZI {H:List AO}{n:Nat}(h:H.length=n)(x:AO)(l:List AO):(H ++ x :: l).take (n+1)=H ++ [x]:=by
 rw[←h,List.take_append];simp[List.take_of_length_le]
theorem Ch {H:List AO}{n:Nat}(h:H.length=n)(l:List AO):(H ++ l).take n=H:=by rw[←h];simp
def Ad (L R:Nat→Rat)(c k:Nat):Nat→Rat:=fun i=>if i<k then L i-L c*R i else L i
theorem pC (L R:Nat→Rat)(c:Nat):Ad L R c 0=L:=funext fun i=>if_neg (Nat.not_lt_zero i)
theorem Tc (L R:Nat→Rat)(c k:Nat):Ad L R c k k=L k:=if_neg (Nat.lt_irrefl k)
theorem MD (L R:Nat→Rat)(c k:Nat):(fun i=>if i=k then L k-L c*R k else Ad L R c k i)=Ad L R c (k+1):=funext fun i=>by
 unfold Ad;by_cases h:i=k
 ·rw[if_pos h,if_pos (by omega),h]
 ·rw[if_neg h]
  by_cases h2:i<k
  ·rw[if_pos h2,if_pos (by omega)]
  ·rw[if_neg h2,if_neg (by omega)]
theorem Va (L R:Nat→Rat)(c k:Nat)(h:R k=0):Ad L R c k=Ad L R c (k+1):=by
 rw[←MD];funext i;by_cases e:i=k
 ·rw[if_pos e,e,Tc,h];grind
 ·rw[if_neg e]
theorem Wn {P:Program}{fn:Func}{str hcs:List Nat}{m:Nat}{H:List AO}{s:AS}(hr:fn.results=#[])(hH:s.h.take m=H):RetE (Hj P fn str hcs m (.tup []) H) s :=
 ⟨.tup [],by show ZN P fn s=_;simp[ZN,hr,Jj,Bb],rfl,hH⟩
theorem jF {P:Program}{fn:Func}{str hcs:List Nat}{m:Nat}{H:List AO}{s:AS}(hr:fn.results=#[])(hH:s.h.take m=H):RetOk (Hj P fn str hcs m (.tup []) H) s :=
 ⟨.tup [],by show ZN P fn s=_;simp[ZN,hr,Jj,Bb],rfl,hH⟩
theorem WJ (H:List AO)(a b va vb N:Nat)(L R:Nat→Rat)(c:Nat)(hab:a≠b)(ha:H[a]?=some (.row va (N*4) (Xn L))) (hb:H[b]?=some (.row vb (N*4) (Xn R))) (hN:N<1000000) (hc:c<N) {Q:Nat} (hL:∀k,k<N→qb (L k)≤Q) (hR:∀k,k<N→qb (R k)≤Q) (hQ:Q≤30000000) (hO:∀o∈H,∀m,H.length≤m→Qa m o) :
  HCall Tryz.prog 200 [.osl a va 4 0 N,.osl b vb 4 0 N,I c] H (.tup []) (H.set a (.row va (N*4) (Xn (fun k=>L k-L c*R k)))):=by
 have hlt:a<H.length:=(List.getElem?_eq_some_iff.1 ha).1;have hO2:∀f,∀o∈H.set a (.row va (N*4) (Xn f)),∀m,H.length≤m→Qa m o:=fun f o ho m hm=>by
  rcases List.mem_or_eq_of_mem_set ho with h |h
  ·exact hO o h m hm
  ·rw[h];exact KV _ _ _ _
 have s1:=Qe (L c);have z1:=C8 (L c);obtain⟨n0,hn⟩:∃n0,H.length=n0:=⟨_,rfl⟩
 have a1:=ZW L c;have a2:=ZP L c;have ea:=XZ ha;have eb:=XZ hb;have e0:=Bi hn;have el:=Zw hn;have es:=CO hn;have hOn:∀o∈H.set a (.row va (N*4) (Xn (fun k=>L k-L c*R k))),Qa H.length o:=fun o ho=>hO2 _ o ho _ (Nat.le_refl _)
 refine HCall.introC (fn:=Tryz.f200) Tryz.call200 Tryz.func200 rfl mixed 9 [16,17,18] [6,7005,7006,7007] [] (by kernel_rfl) (Nat.le_of_ble_eq_true rfl) (X6 (Z6 (by simp))) hOn (Xk ?_);by_cases h0:L c=0
 ·have f0:=z1.2 h0
  have hid:H.set a (.row va (N*4) (Xn (fun k=>L k-L c*R k)))=H:=by
   rw[show(fun k=>L k-L c*R k)=L from funext fun k=>by rw[h0];grind];exact List.ext_getElem? fun i=>by
    by_cases e:a=i
    ·rw[←e,List.getElem?_set_self hlt,ha]
    ·rw[List.getElem?_set_ne e]
  rw[hid];simp(disch:=omega)only[AS.start,ha,a1,a2,hn,ea,e0,el,es,qC,List.append_assoc,↓Xd,wG,seval];refine X1 s1 rfl ?_;simp(disch:=omega)only[f0,↓Xd,wG,seval];exact jF rfl (Ch rfl _)
 have f0:¬ (L c).num.sign=0:=fun g=>h0 (z1.1 g)
 simp(disch:=omega)only[AS.start,ha,a1,a2,hn,ea,e0,el,es,qC,List.append_assoc,↓Xd,wG,seval];refine X1 s1 rfl ?_;simp(disch:=omega)only[f0,↓Xd,wG,seval];have hset:∀f,(H.set a (.row va (N*4) (Xn f))).length=n0:=fun f=>by rw[List.length_set];exact hn
 have hga:∀f,(H.set a (.row va (N*4) (Xn f)))[a]?=some (.row va (N*4) (Xn f)):=fun f=>List.getElem?_set_self hlt
 have hgb:∀f,(H.set a (.row va (N*4) (Xn f)))[b]?=some (.row vb (N*4) (Xn R)):=fun f=>by rw[List.getElem?_set_ne hab];exact hb
 have hss:∀f g,(H.set a (.row va (N*4) (Xn f))).set a (.row va (N*4) (Xn g))=H.set a (.row va (N*4) (Xn g)):=fun f g=>List.set_set _
 have h00:H.set a (.row va (N*4) (Xn (Ad L R c 0)))=H:=by
  rw[pC];exact List.ext_getElem? fun i=>by
   by_cases e:a=i
   ·rw[←e,List.getElem?_set_self hlt,ha]
   ·rw[List.getElem?_set_ne e]
 refine Xj (fun k:Nat=>⟨9,[16,17,18],[.osl a va 4 0 N,.osl b vb 4 0 N,I c,.any,.any,.any,.ref n0 0 0,.any,.any],[(16,.osl b vb 4 0 N),(17,I N),(18,I k)],H.set a (.row va (N*4) (Xn (Ad L R c k))) ++ [.row 0 4 (Xf (qC (L c)))]⟩) (fun k=>k≤N) (fun k=>N-k) 0 (by omega)
  (Xi rfl (by simp[Xm,I]) (by simp[Xw,XA,I]) (by rw[h00];rfl)) ?_
 intro k hk next
 by_cases hk2:k<N
 rotate_left
 ·obtain rfl:k=N:=by omega
  refine Run.sub ?_ (KH a (k*4) (Xn (fun k=>L k-L c*R k)) (XZ (hga _) _) (Nat.le_refl _) (fun j hj=>by
   unfold Xn Ad;rw[if_pos (show j/4<k by omega)]))
  refine Xk ?_;simp(disch:=omega)only[↓Xd,wG,seval];exact Wn rfl (by rw[Kv (by rw[List.length_set];exact hlt),hss];exact Ch (by rw[List.length_set]) _)
 have hAt:=hga (Ad L R c k);have hBt:=hgb (Ad L R c k);have hLn:=hset (Ad L R c k);have hSt:=hss (Ad L R c k);have hbt:a<(H.set a (.row va (N*4) (Xn (Ad L R c k)))).length:=by rw[List.length_set];exact hlt
 have hskip:=Va L R c k;have hnext:=MD L R c k;have hkk:=Tc L R c k;have b1:=ZW R k;have b2:=ZP R k;have w1:=ZW (Ad L R c k) k;have w2:=ZP (Ad L R c k) k;have hst:=CU (Ad L R c k) k (L k-L c*R k);rw[hkk]at w1 w2;rw[hnext]at hst;have s2:=Qe (R k);have z2:=C8 (R k);have q1:=hL k hk2;have q2:=hR k hk2;have q3:=hL c hc;have c1:=Aq (L c) (R k) (by unfold rm;omega) (by unfold rm;omega);have q4:=Qk (L c) (R k);have c2:=EX (L k) (L c*R k) (by unfold rm;omega) (by unfold rm;omega);have nx:=next (k+1)
 have bO:∀f,∀o∈H.set a (.row va (N*4) (Xn f)) ++ [.row 0 4 (Xf (qC (L c)))],Qa (n0+1) o:=fun f o ho=>by
  rcases List.mem_append.1 ho with h |h
  ·exact hO2 f o h _ (by omega)
  ·rw[List.mem_singleton.1 h];exact QX (by simp[qC,Xc,X5])
 have bO:=bO (Ad L R c (k+1));have hltb:b<H.length:=(List.getElem?_eq_some_iff.1 hb).1;have ba:Jq (n0+1) (.osl a va 4 0 N)=True:=eq_true (JR (by omega));have bb:Jq (n0+1) (.osl b vb 4 0 N)=True:=eq_true (JR (by omega));have bc:Jq (n0+1) (.ref n0 0 0)=True:=eq_true (QH (by omega));generalize hHk:H.set a (.row va (N*4) (Xn (Ad L R c k)))=Hk at *;have ea':=XZ hAt;have eb':=XZ hBt;have e0':=Bi hLn;have e1':=FD hLn;have el':=Zw hLn;have es0:=CO hLn;have es1:=HX hLn;have esa:=Kv hbt;refine Xk ?_;simp(disch:=omega)only[ea',eb',e0',e1',el',es0,es1,b1,b2,qC,List.append_assoc,↓Xd,wG,seval];refine X1 s2 rfl ?_;by_cases hR0:R k=0
 ·have f2:=z2.2 hR0
  simp(disch:=omega)only[f2,↓Xd,wG,seval];exact nx _ (by omega) (by omega) (XT (m:=n0+1) (by show H.length≤n0+1;omega) rfl (by simp[Xm,I]) (by simp[Xw,XA,I]) (by rw[ZI hLn,←hHk,hskip hR0];rfl) (by simp[XW,ba,bb,bc]) (by simp[XW,bb]) bO)
 ·have f2:¬ (R k).num.sign=0:=fun g=>hR0 (z2.1 g)
  simp(disch:=omega)only[f2,ea',eb',e0',e1',el',es0,es1,w1,w2,qC,List.append_assoc,↓Xd,wG,seval];refine X1 c1 rfl ?_;simp(disch:=omega)only[qC,↓Xd,wG,seval];refine X1 c2 rfl ?_;simp(disch:=omega)only[ea',esa,qC,List.append_assoc,↓Xd,wG,seval];exact nx _ (by omega) (by omega) (XT (m:=n0+1) (by show H.length≤n0+1;omega) rfl (by simp[Xm,I]) (by simp[Xw,XA,I]) (by rw[ZI (by rw[List.length_set];exact hLn),←hst,←hHk,List.set_set];rfl) (by simp[XW,ba,bb,bc]) (by simp[XW,bb]) bO)
end
end Go.Ab.N
namespace Go.Ab.N
set_option maxRecDepth 10000
set_option maxHeartbeats 4000000
def XB (f:Nat→Rat):Nat→Rat
 |0=>0
 |n+1=>XB f n+f n
theorem XH {f g:Nat→Rat}:∀ {n:Nat},(∀i,i<n→f i=g i)→XB f n=XB g n
 |0,_=>rfl
 |n+1,h=>by
  unfold XB;rw[XH fun i hi=>h i (by omega),h n (by omega)]
theorem Kl {f:Nat→Rat}:∀ {n:Nat},(∀i,i<n→f i=0)→XB f n=0
 |0,_=>rfl
 |n+1,h=>by
  unfold XB;rw[Kl fun i hi=>h i (by omega),h n (by omega)];grind
theorem GU (f g:Nat→Rat):∀n,XB (fun i=>f i+g i) n=XB f n+XB g n
 |0=>by unfold XB;grind
 |n+1=>by unfold XB;rw[GU f g n];grind
theorem QS (a:Rat)(f:Nat→Rat):∀n,XB (fun i=>a*f i) n=a*XB f n
 |0=>by unfold XB;grind
 |n+1=>by unfold XB;rw[QS a f n];grind
theorem CZ (f g:Nat→Rat)(n:Nat):XB (fun i=>f i-g i) n=XB f n-XB g n:=by
 have:=GU f (fun i=>(-1)*g i) n;rw[QS]at this;rw[show(fun i=>f i-g i)=fun i=>f i+(-1)*g i from funext fun i=>by grind,this];grind
theorem EZ (f:Nat→Nat→Rat)(m:Nat):∀n,XB (fun i=>XB (fun j=>f i j) m) n=XB (fun j=>XB (fun i=>f i j) n) m
 |0=>by show(0:Rat)=XB (fun j=>0) m;exact(Kl fun _ _=>rfl).symm
 |n+1=>by
  show XB _ n+_=_;rw[EZ f m n,←GU];rfl
theorem ZQ {f:Nat→Rat}{k:Nat}:∀ {n:Nat},k<n→(∀i,i<n→i≠k→f i=0)→XB f n=f k
 |n+1,hk,h=>by
  unfold XB;by_cases e:k=n
  ·subst e;rw[Kl fun i hi=>h i (by omega) (by omega)];grind
  ·rw[ZQ (by omega) fun i hi hn=>h i (by omega) hn,h n (by omega) (by omega)];grind
theorem SU {f:Nat→Rat}:∀ {n:Nat},0<XB f n→∃i,i<n∧0<f i
 |0,h=>absurd h (by unfold XB;decide)
 |n+1,h=>by
  by_cases h1:0<f n
  ·exact⟨n,by omega,h1⟩
  ·obtain⟨i,hi,hp⟩:=SU (f:=f) (n:=n) (by unfold XB at h;grind)
   exact⟨i,by omega,hp⟩
theorem Cs {f:Nat→Rat}:∀ {n:Nat},(∀i,i<n→0≤f i)→0≤XB f n
 |0,_=>Rat.le_refl
 |n+1,h=>by
  unfold XB;have:=Cs (f:=f) (n:=n) fun i hi=>h i (by omega)
  have:=h n (by omega);grind
structure Tb where
 t:Nat→Nat→Rat
 c:Nat→Rat
 b:Nat→Nat
def FL (T:Tb)(r p:Nat):Tb where
 t i k:=if i=r then T.t r k/T.t r p else T.t i k-T.t i p*(T.t r k/T.t r p)
 c k:=T.c k-T.c p*(T.t r k/T.t r p)
 b i:=if i=r then p else T.b i
structure Tb.Ok (m n e:Nat)(T:Tb):Prop where
 bas:∀i,i<m→T.b i<e
 unit:∀i k,i<m→k<m→T.t i (T.b k)=if i=k then 1 else 0
 cost:∀i,i<m→T.c (T.b i)=0
 rhs:∀i,i<m→0≤T.t i n
def Tb.Eqv (m n:Nat)(T U:Tb):Prop:=(∀i k,i<m→k≤n→T.t i k=U.t i k)∧(∀k,k≤n→T.c k=U.c k)∧∀i,i<m→T.b i=U.b i
def iI (m n:Nat)(T:Tb)(p r:Nat):Prop:=r<m∧0<T.t r p∧∀i,i<m→0<T.t i p→T.t r n/T.t r p<T.t i n/T.t i p∨(T.t r n/T.t r p=T.t i n/T.t i p∧T.b r≤T.b i)
def Lx (e:Nat)(T:Tb)(p:Nat):Prop:=p<e∧T.c p<0∧∀j,j<p→0≤T.c j
structure Step (m n e:Nat)(T:Tb)(p r:Nat)(U:Tb):Prop where
 ent:Lx e T p
 lv:iI m n T p r
 piv:Tb.Eqv m n U (FL T r p)
def Tb.ker (m n:Nat)(T:Tb)(x:Nat→Rat):Prop:=∀i,i<m→XB (fun j=>T.t i j*x j) (n+1)=0
def Tb.Sim (m n:Nat)(T U:Tb):Prop:=∀x,(T.ker m n x↔U.ker m n x)∧(T.ker m n x→XB (fun j=>T.c j*x j) (n+1)=XB (fun j=>U.c j*x j) (n+1))
theorem Tb.Sim.refl (m n:Nat)(T:Tb):T.Sim m n T:=fun _=>⟨Iff.rfl,fun _=>rfl⟩
theorem Tb.Sim.trans {m n:Nat}{T U V:Tb}(h:T.Sim m n U)(g:U.Sim m n V):T.Sim m n V:=fun x=>⟨(h x).1.trans (g x).1,fun k=>((h x).2 k).trans ((g x).2 ((h x).1.1 k))⟩
theorem Tb.Sim.symm {m n:Nat}{T U:Tb}(h:T.Sim m n U):U.Sim m n T:=fun x=>⟨(h x).1.symm,fun k=>((h x).2 ((h x).1.2 k)).symm⟩
theorem Tb.Eqv.sim {m n:Nat}{T U:Tb}(h:T.Eqv m n U):T.Sim m n U:=fun x=>by
 have h1:∀i,i<m→XB (fun j=>T.t i j*x j) (n+1)=XB (fun j=>U.t i j*x j) (n+1):=fun i hi=>XH fun j hj=>by rw[h.1 i j hi (by omega)]
 refine⟨⟨fun k i hi=>(h1 i hi).symm.trans (k i hi),fun k i hi=>(h1 i hi).trans (k i hi)⟩,fun _=>XH fun j hj=>by rw[h.2.1 j (by omega)]⟩
theorem P9 (T:Tb)(r p:Nat)(x:Nat→Rat)(N i:Nat):XB (fun j=>(FL T r p).t i j*x j) N=if i=r then(T.t r p)⁻¹*XB (fun j=>T.t r j*x j) N else XB (fun j=>T.t i j*x j) N-T.t i p*((T.t r p)⁻¹*XB (fun j=>T.t r j*x j) N):=by
 by_cases h:i=r
 ·rw[if_pos h,←QS]
  refine XH fun j _=>?_
  unfold FL;simp only[h,if_true];rw[Rat.div_def];grind
 ·rw[if_neg h,←QS,←QS,←CZ]
  refine XH fun j _=>?_
  unfold FL;simp only[h,if_false];rw[Rat.div_def];grind
theorem jm (T:Tb)(r p:Nat)(x:Nat→Rat)(N:Nat):XB (fun j=>(FL T r p).c j*x j) N=XB (fun j=>T.c j*x j) N-T.c p*((T.t r p)⁻¹*XB (fun j=>T.t r j*x j) N):=by
 rw[←QS,←QS,←CZ];refine XH fun j _=>?_
 unfold FL;simp only;rw[Rat.div_def];grind
theorem oo {T:Tb}{m n r p:Nat}(hr:r<m)(hd:T.t r p≠0):T.Sim m n (FL T r p):=fun x=>by
 have h1:T.ker m n x↔(FL T r p).ker m n x:=by
  constructor
  ·intro k i hi
   rw[P9]
   split
   ·rw[k r hr];grind
   ·rw[k r hr,k i hi];grind
  ·intro k
   have kr:XB (fun j=>T.t r j*x j) (n+1)=0:=by
    have:=k r hr;rw[P9,if_pos rfl]at this;rcases Rat.mul_eq_zero.1 this with h |h
    ·have hi:=Rat.mul_inv_cancel _ hd
     rw[h,Rat.mul_zero]at hi;exact absurd hi (by decide)
    ·exact h
   intro i hi;by_cases e:i=r
   ·rw[e];exact kr
   ·have:=k i hi
    rw[P9,if_neg e,kr]at this;grind
 refine⟨h1,fun k=>?_⟩;rw[jm,k r hr];grind
theorem Step.sim {m n e p r:Nat}{T U:Tb}(h:Step m n e T p r U):T.Sim m n U :=
 (oo h.lv.1 (by have:=h.lv.2.1;grind)).trans h.piv.sim.symm
def FA (m:Nat)(T:Tb)(p:Nat)(j:Nat):Rat:=(if j=p then 1 else 0)-XB (fun i=>if T.b i=j then T.t i p else 0) m
theorem Gb {m n p:Nat}(T:Tb)(f:Nat→Rat)(hp:p≤n)(hb:∀i,i<m→T.b i≤n):XB (fun j=>f j*FA m T p j) (n+1)=f p-XB (fun i=>f (T.b i)*T.t i p) m:=by
 have e:∀j,f j*FA m T p j=f j*(if j=p then 1 else 0)-XB (fun i=>f j*(if T.b i=j then T.t i p else 0)) m:=fun j=>by
  rw[QS];unfold FA;grind
 rw[XH fun j _=>e j,CZ,EZ];congr 1
 ·rw[ZQ (k:=p) (by omega) fun i _ hn=>by rw[if_neg hn];grind,if_pos rfl];grind
 ·refine XH fun i hi=>?_
  rw[ZQ (k:=T.b i) (by have:=hb i hi;omega) fun j _ hn=>by rw[if_neg (Ne.symm hn)];grind,if_pos rfl]
theorem Tb.Ok.dir_ker {m n e p:Nat}{T:Tb}(h:T.Ok m n e)(he:e≤n)(hp:p≤n):T.ker m n (FA m T p):=fun i hi=>by
 rw[Gb T (T.t i) hp fun k hk=>by have:=h.bas k hk;omega];rw[ZQ (k:=i) hi fun k hk hn=>by rw[h.unit i k hi hk,if_neg (Ne.symm hn)];grind,h.unit i i hi hi,if_pos rfl];grind
theorem Tb.Ok.dir_cost {m n e p:Nat}{T:Tb}(h:T.Ok m n e)(he:e≤n)(hp:p≤n):XB (fun j=>T.c j*FA m T p j) (n+1)=T.c p:=by
 rw[Gb T T.c hp fun k hk=>by have:=h.bas k hk;omega];rw[Kl fun i hi=>by rw[h.cost i hi];grind];grind
theorem G7 {m n e p:Nat}{T U:Tb}(h:T.Sim m n U)(hU:U.Ok m n e)(he:e≤n)(hp:p≤n):T.c p-XB (fun i=>T.c (U.b i)*U.t i p) m=U.c p:=by
 rw[←hU.dir_cost he hp,←Gb U T.c hp fun k hk=>by have:=hU.bas k hk;omega];exact((h _).2 ((h _).1.2 (hU.dir_ker he hp)))
theorem t8 {m n e p i:Nat}{T U:Tb}(h:T.Sim m n U)(hU:U.Ok m n e)(he:e≤n)(hp:p≤n)(hi:i<m):T.t i p=XB (fun k=>T.t i (U.b k)*U.t k p) m:=by
 have:=(h _).1.2 (hU.dir_ker he hp) i hi;rw[Gb U (T.t i) hp fun k hk=>by have:=hU.bas k hk;omega]at this;grind
theorem OX {m n e:Nat}{T U:Tb}(h:T.Sim m n U)(hT:T.Ok m n e)(hU:U.Ok m n e)(he:e≤n)(hb:∀i,i<m→T.b i=U.b i):T.Eqv m n U:=by
 refine⟨fun i k hi hk=>?_,fun k hk=>?_,hb⟩
 ·rw[t8 h hU he hk hi,ZQ (k:=i) hi fun j hj hn=>by rw[←hb j hj,hT.unit i j hi hj,if_neg (Ne.symm hn)];grind,←hb i hi,hT.unit i i hi hi,if_pos rfl];grind
 ·have:=G7 h hU he hk
  rw[Kl fun i hi=>by rw[←hb i hi,hT.cost i hi];grind]at this;grind
theorem Step.ok {m n e p r:Nat}{T U:Tb}(h:Step m n e T p r U)(hT:T.Ok m n e)(he:e≤n):U.Ok m n e:=by
 obtain⟨⟨e1,e2,e3⟩,⟨l1,l2,l3⟩,v1,v2,v3⟩:=h;have hd:T.t r p≠0:=by grind
 have hb:∀i,i<m→U.b i=if i=r then p else T.b i:=v3
 have ht:∀i k,i<m→k≤n→U.t i k=if i=r then T.t r k/T.t r p else T.t i k-T.t i p*(T.t r k/T.t r p):=v1
 have hc:∀k,k≤n→U.c k=T.c k-T.c p*(T.t r k/T.t r p):=v2;have dd:T.t r p/T.t r p=1:=by rw[Rat.div_def,Rat.mul_inv_cancel _ hd]
 have hU:∀i,i<m→U.b i<e:=fun i hi=>by
  rw[hb i hi];split
  ·exact e1
  ·exact hT.bas i hi
 refine⟨hU,fun i k hi hk=>?_,fun i hi=>?_,fun i hi=>?_⟩
 ·rw[ht i _ hi (by have:=hU k hk;omega),hb k hk]
  by_cases k1:k=r
  ·rw[if_pos k1,dd]
   by_cases i1:i=r
   ·rw[if_pos i1,if_pos (i1.trans k1.symm)]
   ·rw[if_neg i1,if_neg (fun h=>i1 (h.trans k1))];grind
  ·rw[if_neg k1,hT.unit r k l1 hk,if_neg (Ne.symm k1),Rat.div_def,Rat.zero_mul]
   by_cases i1:i=r
   ·rw[if_pos i1,if_neg (fun h=>k1 (h.symm.trans i1))]
   ·rw[if_neg i1,hT.unit i k hi hk];grind
 ·rw[hc _ (by have:=hU i hi;omega),hb i hi]
  by_cases i1:i=r
  ·rw[if_pos i1,dd];grind
  ·rw[if_neg i1,hT.cost i hi,hT.unit r i l1 hi,if_neg (Ne.symm i1),Rat.div_def,Rat.zero_mul];grind
 ·rw[ht i n hi (Nat.le_refl _)]
  have hq:0≤T.t r n/T.t r p:=by rw[Rat.div_def];exact Rat.mul_nonneg (hT.rhs r l1) (Rat.le_of_lt (Rat.inv_pos.2 l2))
  by_cases i1:i=r
  ·rw[if_pos i1];exact hq
  ·rw[if_neg i1]
   by_cases hp:0<T.t i p
   ·have hl:T.t r n/T.t r p≤T.t i n/T.t i p:=by
     rcases l3 i hi hp with h |h
     ·exact Rat.le_of_lt h
     ·rw[h.1];exact Rat.le_refl
    have:T.t r n/T.t r p*T.t i p≤T.t i n:=by
     have:=Rat.mul_le_mul_of_nonneg_right hl (Rat.le_of_lt hp);rwa[Rat.div_mul_cancel (by grind)]at this
    grind
   ·have h1:=hT.rhs i hi
    have h2:T.t i p*(T.t r n/T.t r p)≤0:=by
     have:=Rat.mul_nonneg (a:=-T.t i p) (by grind) hq;grind
    grind
end Go.Ab.N
