/- Contracts of functions, for every argument that fits. -/
import Derived.Test.YtcmfnmceomhgcaaGreatC5
import Derived.Test.YtcmfnmceomhgcaaGreatAb4
set_option linter.unusedSimpArgs false
set_option linter.unusedVariables false
open Nat renaming reducePow → Y1, reduceLT → Y2, reduceLeDiff → Y3, reduceEqDiff → Y4, reduceAdd → Y5, reduceMul → Y6, reduceSub → Y7, reduceBEq → Y8, reduceDiv → Y9, reduceMod → YA
namespace Go.Ab.N
open Go Go.RowKit Go.Proofs
noncomputable section
set_option maxRecDepth 10000
set_option maxHeartbeats 2000000
open Classical
def V2.turned (a:V2):V2:=⟨-a.y,a.x⟩
theorem CV (a:V2):vb a.turned=vb a:=by
 unfold vb V2.turned
 simp only [Is]
 omega
theorem O3 (a:V2) (ha:vb a≤rm):Fn Tryz.prog 215 [vA a] (vA a.turned):=by
 have:=J3 a
 have c:=BU a.y (by omega)
 obtain ⟨R,hR⟩:∃ R,R=vA a.turned:=⟨_,rfl⟩
 have sR:Settled R:=hR▸Xu _
 rw [← hR]
 refine Fq Tryz.call215 Tryz.func215 3 [] [] [] (by simp [wS]) (Xm ?_); simp (maxSteps:=999999) only [AS.start,↓X4,wF,seval]
 refine X2 c rfl ?_
 simp only [↓X4,wF,seval]
 exact Zx rfl J5 rfl rfl rfl sR (hR.trans rfl)
theorem Yx (L:List V2) (i:Nat) (hn:L.length<1000000) (h0:L.length≠0) (hi:i<1000000000):Fn Tryz.prog 153 [Qh L,I i] (vA (L.getD (i % L.length) v0)):=by
 obtain ⟨R,hR⟩:∃ R,R=vA (L.getD (i % L.length) v0):=⟨_,rfl⟩
 have sR:Settled R:=hR▸Xu _
 have hm:(i:Int).tmod L.length=((i % L.length:Nat):Int):=rfl
 have hml:i % L.length<L.length:=Nat.mod_lt _ (by omega)
 have f4:(i % L.length<L.length)=True:=eq_true hml
 have f5:(i % L.length*8+8≤L.length*8)=True:=eq_true (by omega)
 have f6:((L.length:Int)=0)=False:=eq_false (by omega)
 have f6':(L.length=0)=False:=eq_false h0
 have v1:=vF L (i % L.length)
 rw [← hR]
 refine Fq Tryz.call153 Tryz.func153 5 [] [] [] (by simp [Xq,Xa]) (Xm ?_)
 simp only [AS.start,X7,f4,f5,f6,f6',hm,v1,Int.toNat_natCast,↓X4,wF,seval]
 exact Zx rfl J5 rfl rfl rfl sR (hR.trans rfl)
theorem Br (L:List V2) (i:Nat) (hn:L.length<1000000) (hi:i<L.length):Fn Tryz.prog 58 [Qh L,I i] (vA (L.getD ((i+1) % L.length) v0)):=by
 obtain ⟨R,hR⟩:∃ R,R=vA (L.getD ((i+1) % L.length) v0):=⟨_,rfl⟩
 have sR:Settled R:=hR▸Xu _
 have w1:=wj i (by omega)
 rw [← hR]
 refine Fq Tryz.call58 Tryz.func58 5 [] [] [] (by simp [Xq,Xa]) (Xm ?_)
 by_cases h:i+1<L.length
 ·have e:(i+1) % L.length=i+1:=Nat.mod_eq_of_lt h
  have f1:(((i+1:Nat):Int)<L.length)=True:=eq_true (by omega)
  have f1':(i+1<L.length)=True:=eq_true h
  have f2:((i+1)*8+8≤L.length*8)=True:=eq_true (by omega)
  have v1:=vF L (i+1)
  rw [e] at hR
  simp only [AS.start,X7,w1,f1,f1',f2,v1,Int.toNat_natCast,↓X4,wF,seval]
  exact Zx rfl J5 rfl rfl rfl sR (hR.trans rfl)
 ·have hl:i+1=L.length:=by omega
  have e:(i+1) % L.length=0:=by rw [hl,Nat.mod_self]
  have f1:(((i+1:Nat):Int)<L.length)=False:=eq_false (by omega)
  have f1':(i+1<L.length)=False:=eq_false h
  have f2:(0<L.length)=True:=eq_true (by omega)
  have f2':((0:Int)<L.length)=True:=eq_true (by omega)
  have f3:(8≤L.length*8)=True:=eq_true (by omega)
  have v1:=vF L 0
  rw [Nat.zero_mul] at v1
  simp only [Nat.zero_add] at v1
  rw [e] at hR
  simp only [AS.start,X7,w1,f1,f1',f2,f2',f3,v1,Int.toNat_zero,↓X4,wF,seval]
  exact Zx rfl J5 rfl rfl rfl sR (hR.trans rfl)
def be (a b:V2):Rat:=(a.x - b.x)*(a.y+b.y)
def Av (L:List V2):Nat→Rat
 | 0=>0
 | i+1=>Av L i+be (L.getD i v0) (L.getD ((i+1) % L.length) v0)
def Wy (L:List V2):Rat:=Av L L.length*Rat.divInt 1 2
theorem oG (a b:V2):qb (be a b)≤2*(vb a+vb b)+2:=by
 have:=Jc a; have:=Jc b; have:=J3 a; have:=J3 b
 have m1:=Dl a.x b.x; have m2:=Kc a.y b.y
 have m3:=XT (a.x - b.x) (a.y+b.y)
 unfold be; omega
theorem SS (L:List V2) (k:Nat) (h:QT L k):∀ i,qb (Av L i)≤(4*k+4)*i+1
 | 0=>by have:=Dm; simp only [Av]; omega
 | i+1=>by
  have ih:=SS L k h i
  have h1:=oG (L.getD i v0) (L.getD ((i+1) % L.length) v0)
  have h2:=h i
  have h3:=h ((i+1) % L.length)
  have h4:=Kc (Av L i) (be (L.getD i v0) (L.getD ((i+1) % L.length) v0))
  have e:(4*k+4)*(i+1)=(4*k+4)*i+(4*k+4):=Nat.mul_succ _ _
  simp only [Av]
  omega
theorem Mx (L:List V2):∀ i,i<L.length→Av L i=At L i+(L.getD 0 v0).x*(L.getD 0 v0).y - (L.getD i v0).x*(L.getD i v0).y
 | 0,_=>by simp only [Av,At]; grind
 | i+1,h=>by
  have ih:=Mx L i (by omega)
  have e:(i+1) % L.length=i+1:=Nat.mod_eq_of_lt h
  simp only [Av,At,e,ih,be,Xn]
  grind
theorem UU (L:List V2):Wy L=KU L:=by
 unfold Wy KU
 congr 1
 cases hn:L.length with
 | zero=>rfl
 | succ n =>
  have ih:=Mx L n (by omega)
  have e:(n+1) % L.length=0:=by rw [hn,Nat.mod_self]
  simp only [Av,At,e,ih,be,Xn]
  grind
theorem Mb (L:List V2) (k:Nat) (h:QT L k) (hk:k≤1000) (hl:L.length≤1000):Fn Tryz.prog 155 [Qh L] (qA (KU L)):=by
 rw [← UU]
 obtain ⟨R,hR⟩:∃ R,R=qA (Wy L):=⟨_,rfl⟩
 have sR:Settled R:=hR▸Xc _
 have bv:Ju 2 (Qh L)=True:=eq_true (X6 (Xq L))
 have bT:∀ i,Qc 2 (.row 0 4 (Xh (qC (Av L i))))=True:=fun i=>eq_true (QM (by simp [qC,Xb,X5]))
 rw [← hR]
 refine Fq Tryz.call155 Tryz.func155 6 [] [6,7000,70000005,7,80000003] [] (by simp [Xq]) (Xm ?_)
 simp only [AS.start,X7,↓X4,wF,seval]
 refine Xl (fun i:Nat=>⟨6,[],[Qh L,.any,.ref 0 0 0,.ref 1 0 0,I i,.any],[],[KQ,.row 0 4 (Xh (qC (Av L i)))]⟩) (fun i=>i≤L.length) (fun i=>L.length - i) 0 (by omega)
  ?_ ?_
 ·refine Sub.trans (QJ 1 (Xh (qC 0)) rfl fun j hj=>?_) (Xk rfl (by simp [Xo,X7,I]) (by simp [Xw,XA]) (by simp [KQ,Av]))
  match j,hj with
  | 0,_=>exact XP _ _
  | 1,_=>exact BE (Zm (by rw [Rat.zero_num]; simp [Qj]))
  | 2,_=>exact XP _ _
  | 3,_=>exact BE (Zm (M6 rfl))
  | j+4,h=>omega
 intro i hi next
 have w1:=wj i (by omega)
 have hq:=SS L k h i
 have hq2:(4*k+4)*i≤4004*1000:=Nat.mul_le_mul (by omega) (by omega)
 by_cases hi2:i<L.length
 rotate_left
 ·obtain rfl:i=L.length:=by omega
  have c1:=XB 1 2 ⟨by omega,by omega⟩ ⟨by omega,by omega⟩
  have c2:=QL (Av L L.length) (Rat.divInt 1 2) (by unfold rm; omega) (by have:=(KH 1 2 3 (by omega) (Zr ⟨by omega,by omega⟩) (Zr ⟨by omega,by omega⟩):qb (Rat.divInt 1 2)≤3); unfold rm; omega)
  rw [show Av L L.length*Rat.divInt 1 2=Wy L from rfl,← hR] at c2
  refine Xm ?_
  simp only [KQ,X7,Int.lt_irrefl,Nat.lt_irrefl,↓X4,wF,seval]
  refine X2 c1 rfl ?_
  simp only [↓X4,wF,seval]
  refine X2 c2 rfl ?_
  simp only [hR,↓X4,wF,seval]
  exact Jf rfl XS rfl rfl rfl sR (hR.trans rfl)
 have f1:((i:Int)<L.length)=True:=eq_true (by omega)
 have f2:(i<L.length)=True:=eq_true hi2
 have f3:(i*8+8≤L.length*8)=True:=eq_true (by omega)
 have f4:(i*8+4≤L.length*8)=True:=eq_true (by omega)
 have f5:(i*8+4+4≤L.length*8)=True:=eq_true (by omega)
 have v1:=vF L i
 have cn:=Br L i (by omega) hi2
 obtain ⟨b,hb⟩:∃ b,b=L.getD ((i+1) % L.length) v0:=⟨_,rfl⟩
 have h1:=h i; have h2:=h ((i+1) % L.length)
 rw [← hb] at cn h2
 have:=Jc (L.getD i v0); have:=J3 (L.getD i v0); have:=Jc b; have:=J3 b
 have m1:=Dl (L.getD i v0).x b.x; have m2:=Kc (L.getD i v0).y b.y
 have m3:=XT ((L.getD i v0).x - b.x) ((L.getD i v0).y+b.y)
 have c1:=BV (L.getD i v0).x b.x (by unfold rm; omega) (by unfold rm; omega)
 have c2:=JZ (L.getD i v0).y b.y (by unfold rm; omega) (by unfold rm; omega)
 have c3:=QL ((L.getD i v0).x - b.x) ((L.getD i v0).y+b.y) (by unfold rm; omega) (by unfold rm; omega)
 have c4:=JZ (Av L i) (((L.getD i v0).x - b.x)*((L.getD i v0).y+b.y)) (by unfold rm; omega) (by unfold rm; omega)
 have e:Av L i+((L.getD i v0).x - b.x)*((L.getD i v0).y+b.y)=Av L (i+1):=by rw [hb]; rfl
 rw [e] at c4
 refine Xm ?_
 simp only [KQ,X7,w1,f1,f2,f3,f4,f5,v1,Int.toNat_natCast,↓X4,wF,seval]
 refine X2 cn rfl ?_
 simp only [KQ,X7,w1,f1,f2,f3,f4,f5,v1,Int.toNat_natCast,↓X4,wF,seval]
 refine X2 c1 rfl ?_
 simp only [KQ,X7,w1,f1,f2,f3,f4,f5,v1,Int.toNat_natCast,↓X4,wF,seval]
 refine X2 c2 rfl ?_
 simp only [KQ,X7,w1,f1,f2,f3,f4,f5,v1,Int.toNat_natCast,↓X4,wF,seval]
 refine X2 c3 rfl ?_
 simp only [KQ,X7,w1,f1,f2,f3,f4,f5,v1,Int.toNat_natCast,↓X4,wF,seval]
 refine X2 c4 rfl ?_
 simp only [KQ,X7,w1,f1,f2,f3,f4,f5,v1,Int.toNat_natCast,↓X4,wF,seval]
 refine next (i+1) _ (by omega) (by omega) (XI (m:=2) (Nat.zero_le _) rfl (by simp [X7,Xo,I]) (by simp [Xw]) (by simp [KQ,qC,Xj]) (by simp [XM,bv]) (by simp) (by simp [KQ,XM,bT]))
def HP (p q r s:Rat):Bool:=decide (p<r) && decide (p<s) && decide (q<r) && decide (q<s)
def Kz (n a b c d:V2):Bool:=HP (Q8 n a) (Q8 n b) (Q8 n c) (Q8 n d) || HP (Q8 n c) (Q8 n d) (Q8 n a) (Q8 n b)
theorem Wl {p q r s fa fb fc fd:Rat} (h1:p*fd - q*fc=s*fa - r*fb) (h2:p - q=s - r) (hp:0<p) (hq:q<0) (hs:0<s) (hr:r<0) (k1:fa<fc) (k2:fa<fd) (k3:fb<fc) (k4:fb<fd):False:=by
 have pos:∀ x,x<fc→x<fd→0<p*(fd - x)+(-q)*(fc - x):=fun x hx1 hx2=>by
  have:=Rat.mul_pos hp (show 0<fd - x by grind)
  have:=Rat.mul_pos (show 0 < -q by grind) (show 0<fc - x by grind)
  grind
 rcases Rat.le_total (a:=fa) (b:=fb) with h | h
 ·have h3:=pos fb k3 k4
  have h4:=Rat.mul_nonneg (Rat.le_of_lt hs) (show 0≤fb - fa by grind)
  have e1:p*(fd - fb) + -q*(fc - fb)=(p*fd - q*fc) - (p - q)*fb:=by grind
  have e2:(s*fa - r*fb) - (s - r)*fb = -(s*(fb - fa)):=by grind
  rw [e1,h1,h2,e2] at h3
  generalize s*(fb - fa)=z at h3 h4
  grind
 ·have h3:=pos fa k1 k2
  have h4:=Rat.mul_nonneg (show 0≤-r by grind) (show 0≤fa - fb by grind)
  have e1:p*(fd - fa) + -q*(fc - fa)=(p*fd - q*fc) - (p - q)*fa:=by grind
  have e2:(s*fa - r*fb) - (s - r)*fa = -(-r*(fa - fb)):=by grind
  rw [e1,h1,h2,e2] at h3
  generalize -r*(fa - fb)=z at h3 h4
  grind
theorem AQ (x:Rat):0≤x*x:=by
 rcases Rat.le_total (a:=0) (b:=x) with h | h
 ·exact Rat.mul_nonneg h h
 ·have:=Rat.mul_nonneg (show 0≤-x by grind) (show 0≤-x by grind)
  grind
theorem UM (n a b c d:V2) (k1:Q8 n a<Q8 n c) (k2:Q8 n a<Q8 n d) (k3:Q8 n b<Q8 n c) (k4:Q8 n b<Q8 n d):Bs a b c d=false:=by
 have h1:Xn (b.sub a) (c.sub a)*Q8 n d - Xn (b.sub a) (d.sub a)*Q8 n c=Xn (d.sub c) (b.sub c)*Q8 n a - Xn (d.sub c) (a.sub c)*Q8 n b:=by
  unfold Xn Q8 V2.sub; grind
 have h2:Xn (b.sub a) (c.sub a) - Xn (b.sub a) (d.sub a)=Xn (d.sub c) (b.sub c) - Xn (d.sub c) (a.sub c):=by
  unfold Xn V2.sub; grind
 rw [← Bool.not_eq_true]
 intro h
 unfold Bs JR at h
 simp only [Bool.and_eq_true,decide_eq_true_eq] at h
 generalize Xn (b.sub a) (c.sub a)=p at h1 h2 h
 generalize Xn (b.sub a) (d.sub a)=q at h1 h2 h
 generalize Xn (d.sub c) (a.sub c)=r at h1 h2 h
 generalize Xn (d.sub c) (b.sub c)=s at h1 h2 h
 have sp:∀ x y:Rat,x.num.sign*y.num.sign<0→(0<x∧y<0)∨(x<0∧0<y):=fun x y h=>by
  rw [← DA,← DA,← GE,← GE]
  rcases Int.lt_trichotomy x.num.sign 0 with hx | hx | hx
  ·rcases Int.lt_trichotomy y.num.sign 0 with hy | hy | hy
   ·have:=Int.mul_pos_of_neg_of_neg hx hy; omega
   ·rw [hy] at h; omega
   ·exact .inr ⟨hx,hy⟩
  ·rw [hx] at h; omega
  ·rcases Int.lt_trichotomy y.num.sign 0 with hy | hy | hy
   ·exact .inl ⟨hx,hy⟩
   ·rw [hy] at h; omega
   ·have:=Int.mul_pos hx hy; omega
 rcases sp p q h.1 with ⟨hp,hq⟩ | ⟨hp,hq⟩
 ·rcases sp r s h.2 with ⟨hr,hs⟩ | ⟨hr,hs⟩
  ·grind
  ·exact Wl h1 h2 hp hq hs hr k1 k2 k3 k4
 ·rcases sp r s h.2 with ⟨hr,hs⟩ | ⟨hr,hs⟩
  ·exact Wl (p:=-p) (q:=-q) (r:=-r) (s:=-s) (by grind) (by grind) (by grind) (by grind) (by grind) (by grind) k1 k2 k3 k4
  ·grind
theorem UL (n a b c:V2) (k1:Q8 n a<Q8 n c) (k2:Q8 n b<Q8 n c):NE a b c=false:=by
 have hid:Q8 (a.sub c) (b.sub c)*Q8 n (a.sub c) - Q8 (a.sub c) (a.sub c)*Q8 n (b.sub c)=Xn (b.sub a) (c.sub a)*(n.x*(a.sub c).y - n.y*(a.sub c).x):=by
  unfold Q8 Xn V2.sub; grind
 have ha:Q8 n (a.sub c)<0:=by
  have:Q8 n (a.sub c)=Q8 n a - Q8 n c:=by unfold Q8 V2.sub; grind
  grind
 have hb:Q8 n (b.sub c)<0:=by
  have:Q8 n (b.sub c)=Q8 n b - Q8 n c:=by unfold Q8 V2.sub; grind
  grind
 have hu:0<Q8 (a.sub c) (a.sub c):=by
  have hx:=AQ (a.sub c).x
  have hy:=AQ (a.sub c).y
  have hne:¬ Q8 (a.sub c) (a.sub c)=0:=fun h=>by
   unfold Q8 at h
   have h1:(a.sub c).x*(a.sub c).x=0:=by grind
   have h2:(a.sub c).y*(a.sub c).y=0:=by grind
   have h3:(a.sub c).x=0:=by rcases Rat.mul_eq_zero.1 h1 with h | h <;> exact h
   have h4:(a.sub c).y=0:=by rcases Rat.mul_eq_zero.1 h2 with h | h <;> exact h
   unfold Q8 at ha
   rw [h3,h4] at ha
   grind
  unfold Q8 at hne ⊢
  grind
 rw [← Bool.not_eq_true]
 intro h
 unfold NE JR at h
 simp only [Bool.and_eq_true,decide_eq_true_eq,Wo] at h
 obtain ⟨h1,h2⟩:=h
 rw [h1] at hid
 have h2':Q8 (a.sub c) (b.sub c)≤0:=by
  rw [← Rat.not_lt,← DA]; omega
 have m1:=Rat.mul_nonneg (show 0≤-Q8 (a.sub c) (b.sub c) by grind) (show 0≤-Q8 n (a.sub c) by grind)
 have m2:=Rat.mul_pos hu (show 0 < -Q8 n (b.sub c) by grind)
 grind
theorem Wm (n a b c:V2) (k1:Q8 n c<Q8 n a) (k2:Q8 n c<Q8 n b):NE a b c=false :=
 UL ⟨-n.x,-n.y⟩ a b c (by unfold Q8 at *; grind) (by unfold Q8 at *; grind)
theorem O2 (n a b c d:V2) (k1:Q8 n a<Q8 n c) (k2:Q8 n a<Q8 n d) (k3:Q8 n b<Q8 n c) (k4:Q8 n b<Q8 n d):Zu a b c d=false:=by
 unfold Zu
 rw [UM n a b c d k1 k2 k3 k4,UL n a b c k1 k3,UL n a b d k2 k4,Wm n c d a k1 k2,Wm n c d b k3 k4]
 rfl
theorem MM (n a b c d:V2) (h:Kz n a b c d=true):Zu a b c d=false:=by
 unfold Kz HP at h
 simp only [Bool.or_eq_true,Bool.and_eq_true,decide_eq_true_eq] at h
 rcases h with ⟨⟨⟨h1,h2⟩,h3⟩,h4⟩ | ⟨⟨⟨h1,h2⟩,h3⟩,h4⟩
 ·exact O2 n a b c d h1 h2 h3 h4
 ·exact O2 ⟨-n.x,-n.y⟩ a b c d (by unfold Q8 at *; grind) (by unfold Q8 at *; grind) (by unfold Q8 at *; grind) (by unfold Q8 at *; grind)
def DO (a b c d:V2):Nat→V2
 | 0=>(b.sub a).turned
 | 1=>(d.sub c).turned
 | 2=>b.sub a
 | 3=>d.sub c
 | _=>c.sub a
def An (a b c d:V2):Prop:=∀ i,i<5→Kz (DO a b c d i) a b c d=false
theorem aC (a b c d:V2) (h:¬ An a b c d):Zu a b c d=false:=by
 unfold An at h
 simp only [Classical.not_forall] at h
 obtain ⟨i,_,h⟩:=h
 exact MM _ a b c d (by simpa using h)
def OT (L:List V2) (i k:Nat):Prop:=1<(k+L.length - i) % L.length∧(k+L.length - i) % L.length<L.length - 1∧An (atF L i) (atF L (i+1)) (atF L k) (atF L (k+1))
def VH (L:List V2) (i:Nat):Prop:=¬ Vi L i∧∀ k,k<L.length→¬ OT L i k
def ZR (L:List V2):Prop:=(3≤L.length∧L.length≤12)∧(∀ i,i<L.length→VH L i)∧0<(KU L).num.sign
theorem jg (L:List V2) (h:ZR L):Bm L:=by
 obtain ⟨h1,h2,h3⟩:=h
 refine ⟨h1,fun i hi=>⟨(h2 i hi).1,fun k hk1 hk2 hb=>?_⟩,h3⟩
 have hg:=(h2 i hi).2 k hk2
 have e:(k+L.length - i) % L.length=k - i:=by
  rw [show k+L.length - i=(k - i)+L.length by omega,Nat.add_mod_right,Nat.mod_eq_of_lt (by omega)]
 have hne:k - i<L.length - 1:=by
  rcases Nat.lt_or_ge (k - i) (L.length - 1) with h | h
  ·exact h
  ·exfalso
   have h1:k=L.length - 1:=by omega
   have h2:i=0:=by omega
   have:(k+1) % L.length=0:=by rw [show k+1=L.length by omega,Nat.mod_self]
   exact hb.1 (by omega)
 have hm:¬ An (atF L i) (atF L (i+1)) (atF L k) (atF L (k+1)):=fun hm=>hg ⟨by omega,by omega,hm⟩
 have:=aC _ _ _ _ hm
 rw [hb.2] at this
 exact absurd this (by decide)
theorem TJ (n a b c d:V2) (hn:vb n≤vs) (ha:vb a≤vs) (hb:vb b≤vs) (hc:vb c≤vs) (hd:vb d≤vs):Fn Tryz.prog 216 [vA n,vA a,vA b,vA c,vA d] (.bool (Kz n a b c d)):=by
 unfold vs at hn ha hb hc hd
 have e1:=JY n a (by unfold vm; omega) (by unfold vm; omega)
 have e2:=JY n b (by unfold vm; omega) (by unfold vm; omega)
 have e3:=JY n c (by unfold vm; omega) (by unfold vm; omega)
 have e4:=JY n d (by unfold vm; omega) (by unfold vm; omega)
 have q1:=KO n a; have q2:=KO n b; have q3:=KO n c; have q4:=KO n d
 obtain ⟨V,hV⟩:∃ V,V=Kz n a b c d:=⟨_,rfl⟩
 rw [← hV]
 unfold Kz at hV
 generalize Q8 n a=p at *
 generalize Q8 n b=q at *
 generalize Q8 n c=r at *
 generalize Q8 n d=s at *
 have k1:=Z2 p r (by unfold rm; omega) (by unfold rm; omega)
 have k2:=Z2 p s (by unfold rm; omega) (by unfold rm; omega)
 have k3:=Z2 q r (by unfold rm; omega) (by unfold rm; omega)
 have k4:=Z2 q s (by unfold rm; omega) (by unfold rm; omega)
 obtain ⟨LE,hLE⟩:∃ LE,LE=HP p q r s:=⟨_,rfl⟩
 obtain ⟨MO,hMO⟩:∃ MO,MO=HP r s p q:=⟨_,rfl⟩
 rw [← hLE,← hMO] at hV
 have hl:LE=(decide (Be p r<0) && decide (Be p s<0) && decide (Be q r<0) && decide (Be q s<0)):=by
  rw [hLE]; unfold HP
  rw [decide_eq_decide.2 (B0 p r),decide_eq_decide.2 (B0 p s),decide_eq_decide.2 (B0 q r),decide_eq_decide.2 (B0 q s)]
 have hm:MO=(decide (0<Be p r) && decide (0<Be p s) && decide (0<Be q r) && decide (0<Be q s)):=by
  rw [hMO]; unfold HP
  rw [decide_eq_decide.2 (Zg p r),decide_eq_decide.2 (Zg p s),decide_eq_decide.2 (Zg q r),decide_eq_decide.2 (Zg q s)]
  cases decide (r<p) <;> cases decide (r<q) <;> cases decide (s<p) <;> cases decide (s<q) <;> rfl
 have five:∀ (A B C D:Prop) [Decidable A] [Decidable B] [Decidable C] [Decidable D] (X:Bool),X=(decide A && decide B && decide C && decide D)→(X=false∧A=False∧True∧True∧True)∨(X=false∧A=True∧B=False∧True∧True)∨(X=false∧A=True∧B=True∧C=False∧True)∨(X=false∧A=True∧B=True∧C=True∧D=False)∨(X=true∧A=True∧B=True∧C=True∧D=True):=by
  intro A B C D _ _ _ _ X h
  by_cases hA:A
  rotate_left
  ·exact .inl ⟨by rw [h,decide_eq_false hA]; rfl,eq_false hA,trivial,trivial,trivial⟩
  by_cases hB:B
  rotate_left
  ·exact .inr (.inl ⟨by rw [h,decide_eq_true hA,decide_eq_false hB]; rfl,eq_true hA,eq_false hB,trivial,trivial⟩)
  by_cases hC:C
  rotate_left
  ·exact .inr (.inr (.inl ⟨by rw [h,decide_eq_true hA,decide_eq_true hB,decide_eq_false hC]; rfl,eq_true hA,eq_true hB,eq_false hC,trivial⟩))
  by_cases hD:D
  rotate_left
  ·exact .inr (.inr (.inr (.inl ⟨by rw [h,decide_eq_true hA,decide_eq_true hB,decide_eq_true hC,decide_eq_false hD]; rfl,eq_true hA,eq_true hB,eq_true hC,eq_false hD⟩)))
  ·exact .inr (.inr (.inr (.inr ⟨by rw [h,decide_eq_true hA,decide_eq_true hB,decide_eq_true hC,decide_eq_true hD]; rfl,eq_true hA,eq_true hB,eq_true hC,eq_true hD⟩)))
 have cl:=five _ _ _ _ _ hl
 have cm:=five _ _ _ _ _ hm
 clear five hl hm hLE hMO q1 q2 q3 q4 hn ha hb hc hd
 have fin:∀ {s:AS} {v:Bool},s.get 10=.bool v→v=(LE || MO)→RetOk (Jq Tryz.prog Tryz.f216 [] [] (.bool V)) s:=fun h e=>Xp rfl h (X5 _) (by rw [e,hV])
 refine Fq Tryz.call216 Tryz.func216 17 [] [] [] (by simp [Xu]) (Xm ?_)
 simp only [AS.start,↓X4,wF,seval]
 refine X2 e1 rfl ?_
 simp only [↓X4,wF,seval]
 refine X2 e2 rfl ?_
 simp only [↓X4,wF,seval]
 refine X2 e3 rfl ?_
 simp only [↓X4,wF,seval]
 refine X2 e4 rfl ?_
 simp only [↓X4,wF,seval]
 rcases cl with ⟨hX,l1,l2,l3,l4⟩ | ⟨hX,l1,l2,l3,l4⟩ | ⟨hX,l1,l2,l3,l4⟩ | ⟨hX,l1,l2,l3,l4⟩ | ⟨hX,l1,l2,l3,l4⟩
 all_goals
  refine X2 k1 rfl ?_
  simp only [l1,l2,l3,l4,↓X4,wF,seval]
  try (refine X2 k2 rfl ?_; simp only [l1,l2,l3,l4,↓X4,wF,seval])
  try (refine X2 k3 rfl ?_; simp only [l1,l2,l3,l4,↓X4,wF,seval])
  try (refine X2 k4 rfl ?_; simp only [l1,l2,l3,l4,↓X4,wF,seval])
  rcases cm with ⟨hY,m1,m2,m3,m4⟩ | ⟨hY,m1,m2,m3,m4⟩ | ⟨hY,m1,m2,m3,m4⟩ | ⟨hY,m1,m2,m3,m4⟩ | ⟨hY,m1,m2,m3,m4⟩
  all_goals
   refine X2 k1 rfl ?_
   simp only [l1,l2,l3,l4,m1,m2,m3,m4,↓X4,wF,seval]
   try (refine X2 k2 rfl ?_; simp only [l1,l2,l3,l4,m1,m2,m3,m4,↓X4,wF,seval])
   try (refine X2 k3 rfl ?_; simp only [l1,l2,l3,l4,m1,m2,m3,m4,↓X4,wF,seval])
   try (refine X2 k4 rfl ?_; simp only [l1,l2,l3,l4,m1,m2,m3,m4,↓X4,wF,seval])
   exact fin rfl (by rw [hX,hY]; rfl)
end
end Go.Ab.N
namespace Go.Ab.N
open Go Go.RowKit Go.Proofs
noncomputable section
set_option maxRecDepth 10000
set_option maxHeartbeats 4000000
open Classical
theorem Uk (a b c d:V2) (ha:vb a≤10000) (hb:vb b≤10000) (hc:vb c≤10000) (hd:vb d≤10000):Fn Tryz.prog 154 [vA a,vA b,vA c,vA d] (.bool (decide (An a b c d))):=by
 have m1:=QZ b a; have m2:=QZ d c; have m3:=QZ c a
 have u1:=CV (b.sub a); have u2:=CV (d.sub c)
 have c1:=Ja b a (by unfold rm; omega) (by unfold rm; omega)
 have c2:=Ja d c (by unfold rm; omega) (by unfold rm; omega)
 have c5:=Ja c a (by unfold rm; omega) (by unfold rm; omega)
 have c3:=O3 (b.sub a) (by unfold rm; omega)
 have c4:=O3 (d.sub c) (by unfold rm; omega)
 have hA:∀ i,i<5→vb (DO a b c d i)≤vs:=fun i hi=>by
  unfold vs
  match i,hi with
  | 0,_=>show vb (b.sub a).turned≤_; omega
  | 1,_=>show vb (d.sub c).turned≤_; omega
  | 2,_=>show vb (b.sub a)≤_; omega
  | 3,_=>show vb (d.sub c)≤_; omega
  | 4,_=>show vb (c.sub a)≤_; omega
  | i+5,h=>omega
 have kb:∀ i,i<5→Fn Tryz.prog 216 [vA (DO a b c d i),vA a,vA b,vA c,vA d] (.bool (Kz (DO a b c d i) a b c d)):=fun i hi=>TJ _ a b c d (hA i hi) (by unfold vs; omega) (by unfold vs; omega) (by unfold vs; omega) (by unfold vs; omega)
 obtain ⟨V,hV⟩:∃ V,V=decide (An a b c d):=⟨_,rfl⟩
 rw [← hV]
 unfold An at hV
 replace c1:Fn Tryz.prog 97 [vA b,vA a] (vA (DO a b c d 2)):=c1
 replace c2:Fn Tryz.prog 97 [vA d,vA c] (vA (DO a b c d 3)):=c2
 replace c3:Fn Tryz.prog 215 [vA (DO a b c d 2)] (vA (DO a b c d 0)):=c3
 replace c4:Fn Tryz.prog 215 [vA (DO a b c d 3)] (vA (DO a b c d 1)):=c4
 replace c5:Fn Tryz.prog 97 [vA c,vA a] (vA (DO a b c d 4)):=c5
 clear m1 m2 m3 u1 u2 hA ha hb hc hd
 generalize hF:(fun i=>Kz (DO a b c d i) a b c d)=F at *
 have hF':∀ i,Kz (DO a b c d i) a b c d=F i:=fun i=>by rw [← hF]
 simp only [hF'] at kb hV
 clear hF hF'
 generalize DO a b c d=A at *
 have fin:∀ {s:AS} {v:Bool},s.get 8=.bool v→v=V→RetOk (Jq Tryz.prog Tryz.f154 [] [] (.bool V)) s:=fun h e=>Xp rfl h (X5 _) (by rw [e])
 have hvc:∀ a:V2,∀ x∈vC a,Settled x:=fun a=>by simp [vC,Xb,X5]
 have brow:∀ a:V2,Qc 4 (.row 0 8 (Xh (vC a)))=True:=fun a=>eq_true (QM (hvc a))
 have bel:Ju 4 (.sl 5 40 (Xh (vC (A 0) ++ (vC (A 1) ++ (vC (A 2) ++ (vC (A 3) ++ vC (A 4)))))) true)=True:=eq_true (X6 (QF fun j hj=>Xf (fun x hx=>by
  simp only [List.mem_append] at hx
  rcases hx with h | h | h | h | h <;> exact hvc _ _ h) j))
 refine Fq Tryz.call154 Tryz.func154 13 [] [] [] (by simp [wS]) (Xm ?_); simp (maxSteps:=999999) only [AS.start,↓X4,wA,↓reduceIte,reduceIte,reduceCtorEq,Y1,Y2,Y3,Y4,Y5,Y6,Y7,Y8,Y9,YA,wE]
 refine X2 c1 rfl ?_
 simp only [↓X4,wA,↓reduceIte,reduceIte,reduceCtorEq,Y1,Y2,Y3,Y4,Y5,Y6,Y7,Y8,Y9,YA,wE]
 refine X2 c2 rfl ?_
 simp only [↓X4,wA,↓reduceIte,reduceIte,reduceCtorEq,Y1,Y2,Y3,Y4,Y5,Y6,Y7,Y8,Y9,YA,wE]
 refine X2 c3 rfl ?_
 simp only [↓X4,wA,↓reduceIte,reduceIte,reduceCtorEq,Y1,Y2,Y3,Y4,Y5,Y6,Y7,Y8,Y9,YA,wE]
 refine X2 c4 rfl ?_
 simp only [↓X4,wA,↓reduceIte,reduceIte,reduceCtorEq,Y1,Y2,Y3,Y4,Y5,Y6,Y7,Y8,Y9,YA,wE]
 refine X2 c5 rfl ?_
 simp only [↓X4,wA,↓reduceIte,reduceIte,reduceCtorEq,Y1,Y2,Y3,Y4,Y5,Y6,Y7,Y8,Y9,YA,wE]
 refine Xl (fun i:Nat=>⟨13,[],[.any,.any,.any,.any,.ref 0 0 0,.ref 1 0 0,.ref 2 0 0,.ref 3 0 0,.bool false,.any,.any,.sl 5 40 (Xh (vC (A 0) ++ (vC (A 1) ++ (vC (A 2) ++ (vC (A 3) ++ vC (A 4)))))) true,I i],[],[.row 0 8 (Xh (vC a)),.row 0 8 (Xh (vC b)),.row 0 8 (Xh (vC c)),.row 0 8 (Xh (vC d))]⟩) (fun i=>i≤5∧∀ j,j<i→F j=false) (fun i=>5 - i) 0 ⟨by omega,by omega⟩
  (sS (m:=4) (by simp [vC,Xj,Xo,I]) (by simp [vC,Xj]) (by simp [XM,bel]) (by simp [brow])) ?_
 rintro i ⟨hi,hok⟩ next
 have w0:IntKind.i64.wrap (0+1)=1:=by decide
 have w1:IntKind.i64.wrap (1+1)=2:=by decide
 have w2:IntKind.i64.wrap (2+1)=3:=by decide
 have w3:IntKind.i64.wrap (3+1)=4:=by decide
 have w4:IntKind.i64.wrap (4+1)=5:=by decide
 have e0:((0:Nat):Int)=0:=rfl
 have e1:((1:Nat):Int)=1:=rfl
 have e2:((2:Nat):Int)=2:=rfl
 have e3:((3:Nat):Int)=3:=rfl
 have e4:((4:Nat):Int)=4:=rfl
 have e5:((5:Nat):Int)=5:=rfl
 have t1:(1:Int).toNat=1:=rfl
 have t2:(2:Int).toNat=2:=rfl
 have t3:(3:Int).toNat=3:=rfl
 have t4:(4:Int).toNat=4:=rfl
 by_cases hi5:i<5
 ·have k:=kb i hi5
  have hcase:i=0∨i=1∨i=2∨i=3∨i=4:=by omega
  by_cases hv:F i=true
  ·rw [hv] at k
   have hb:false=V:=by
    rw [hV,decide_eq_false]
    intro h
    rw [h i hi5] at hv; cases hv
   rcases hcase with rfl | rfl | rfl | rfl | rfl
   all_goals
    refine Xm ?_
    simp only [vC,List.cons_append,List.nil_append,e0,e1,e2,e3,e4,e5,t1,t2,t3,t4,w0,w1,w2,w3,w4,Int.reduceLT,Int.reduceLE,Int.toNat_zero,↓X4,wA,↓reduceIte,reduceIte,reduceCtorEq,Y1,Y2,Y3,Y4,Y5,Y6,Y7,Y8,Y9,YA,wE]
    refine X2 k rfl ?_
    simp only [↓X4,wA,↓reduceIte,reduceIte,reduceCtorEq,Y1,Y2,Y3,Y4,Y5,Y6,Y7,Y8,Y9,YA,wE]
    exact fin rfl hb
  rw [Bool.not_eq_true] at hv
  rw [hv] at k
  have nx:=next (i+1)
  rcases hcase with rfl | rfl | rfl | rfl | rfl
  all_goals
   refine Xm ?_
   simp only [vC,List.cons_append,List.nil_append,e0,e1,e2,e3,e4,e5,t1,t2,t3,t4,w0,w1,w2,w3,w4,Int.reduceLT,Int.reduceLE,Int.toNat_zero,↓X4,wA,↓reduceIte,reduceIte,reduceCtorEq,Y1,Y2,Y3,Y4,Y5,Y6,Y7,Y8,Y9,YA,wE]
   refine X2 k rfl ?_
   simp only [w0,w1,w2,w3,w4,↓X4,wA,↓reduceIte,reduceIte,reduceCtorEq,Y1,Y2,Y3,Y4,Y5,Y6,Y7,Y8,Y9,YA,wE]
   refine nx _ ⟨by omega,fun j hj=>?_⟩ (by omega) (C7 (by simp [vC,Xj,Xo,I]) (by simp [vC,Xj]))
   rcases Nat.lt_succ_iff_lt_or_eq.1 hj with h | h
   ·exact hok j h
   ·rw [h]; exact hv
 obtain rfl:i=5:=by omega
 refine Xm ?_
 simp only [e5,Int.lt_irrefl,↓X4,wA,↓reduceIte,reduceIte,reduceCtorEq,Y1,Y2,Y3,Y4,Y5,Y6,Y7,Y8,Y9,YA,wE]
 exact fin rfl (by rw [hV,decide_eq_true hok])
theorem OX (L:List V2) (k:Nat) (h:QT L k) (hk:k≤100000) (hl:L.length<1000000):Fn Tryz.prog 85 [Qh L] (.bool true):=by
 have rv:∀ r:Rat,qb r≤100000→Fn Tryz.prog 86 [qA r] (.bool true):=fun r hr=>by
  have h1:=RQ.of_sz r
  have:=Gu (RQ.of r) (by omega)
  rwa [decide_eq_true ⟨r,rfl⟩] at this
 refine Fq Tryz.call85 Tryz.func85 4 [] [] [] (by simp [Xq]) (Xm ?_)
 simp only [AS.start,X7,↓X4,wA,↓reduceIte,reduceIte,reduceCtorEq,Y1,Y2,Y3,Y4,Y5,Y6,Y7,Y8,Y9,YA,wE]
 refine Xl (fun i:Nat=>⟨4,[],[Qh L,.any,.bool false,I i],[],[]⟩) (fun i=>i≤L.length) (fun i=>L.length - i) 0 (by omega)
  (C7 (by simp [X7,Xo,I]) rfl) ?_
 intro i hi next
 have w1:=wj i (by omega)
 by_cases hi2:i<L.length
 ·have f3:((i:Int)<L.length)=True:=eq_true (by omega)
  have f4:(i<L.length)=True:=eq_true hi2
  have f5:(i*8+8≤L.length*8)=True:=eq_true (by omega)
  have f6:(i*8+4≤L.length*8)=True:=eq_true (by omega)
  have f7:(i*8+4+4≤L.length*8)=True:=eq_true (by omega)
  have v1:=vF L i
  have hx:=Jc (L.getD i v0); have hy:=J3 (L.getD i v0); have hb:=h i
  refine Xm ?_
  simp only [X7,w1,f3,f4,f5,f6,f7,v1,Int.toNat_natCast,↓X4,wA,↓reduceIte,reduceIte,reduceCtorEq,Y1,Y2,Y3,Y4,Y5,Y6,Y7,Y8,Y9,YA,wE]
  refine X2 (rv (L.getD i v0).x (by omega)) rfl ?_
  simp only [X7,w1,f3,f4,f5,f6,f7,v1,Int.toNat_natCast,↓X4,wA,↓reduceIte,reduceIte,reduceCtorEq,Y1,Y2,Y3,Y4,Y5,Y6,Y7,Y8,Y9,YA,wE]
  refine X2 (rv (L.getD i v0).y (by omega)) rfl ?_
  simp only [w1,↓X4,wA,↓reduceIte,reduceIte,reduceCtorEq,Y1,Y2,Y3,Y4,Y5,Y6,Y7,Y8,Y9,YA,wE]
  exact next (i+1) _ (by omega) (by omega) (C7 (by simp [X7,Xo,I]) rfl)
 obtain rfl:i=L.length:=by omega
 refine Xm ?_
 simp only [X7,Int.lt_irrefl,Nat.lt_irrefl,↓X4,wA,↓reduceIte,reduceIte,reduceCtorEq,Y1,Y2,Y3,Y4,Y5,Y6,Y7,Y8,Y9,YA,wE]
 exact Xp rfl rfl (X5 _) rfl
theorem Gt (L:List V2) (h:QT L 1000) (hl:L.length<1000000):Fn Tryz.prog 71 [Qh L] (.bool (decide (ZR L))):=by
 obtain ⟨V,hV⟩:∃ V,V=decide (ZR L):=⟨_,rfl⟩
 have cn:=OX L 1000 h (by omega) hl
 rw [← hV]
 have fin:∀ {s:AS} {v:Bool},s.get 2=.bool v→v=V→RetOk (Jq Tryz.prog Tryz.f71 [] [] (.bool V)) s:=fun h e=>Xp rfl h (X5 _) (by rw [e])
 have sm:∀ i,vb (atF L i)≤1000:=fun i=>h (i % L.length)
 refine Fq Tryz.call71 Tryz.func71 6 [] [] [] (by simp [Xq]) (Xm ?_)
 by_cases hlo:(L.length:Int)<3
 ·have f1:((L.length:Int)<3)=True:=eq_true hlo
  have f1':(L.length<3)=True:=eq_true (by omega)
  simp only [AS.start,X7,f1,f1',↓X4,wF,seval]
  exact fin rfl (by rw [hV,decide_eq_false]; unfold ZR; omega)
 have f1:((L.length:Int)<3)=False:=eq_false hlo
 have f1':(L.length<3)=False:=eq_false (by omega)
 by_cases hhi:(12:Int)<L.length
 ·have f2:((12:Int)<L.length)=True:=eq_true hhi
  have f2':(12<L.length)=True:=eq_true (by omega)
  simp only [AS.start,X7,f1,f1',f2,f2',↓X4,wF,seval]
  exact fin rfl (by rw [hV,decide_eq_false]; unfold ZR; omega)
 have f2:((12:Int)<L.length)=False:=eq_false hhi
 have f2':(12<L.length)=False:=eq_false (by omega)
 simp only [AS.start,X7,f1,f1',f2,f2',↓X4,wF,seval]
 refine X2 cn rfl ?_
 simp only [f1,f1',f2,f2',↓X4,wF,seval]
 have hn0:L.length≠0:=by omega
 refine Xl (fun i:Nat=>⟨6,[],[Qh L,.any,.bool false,I i,.any,.any],[],[]⟩) (fun i=>i≤L.length∧∀ j,j<i→VH L j) (fun i=>L.length - i) 0 ⟨by omega,by omega⟩
  (C7 (by simp [X7,Xo,I]) rfl) ?_
 rintro i ⟨hi,hgood⟩ next
 have w1:=wj i (by omega)
 have w2:IntKind.i64.wrap ((i:Int)+2)=((i+2:Nat):Int):=by rw [IntKind.wrap_i64]; omega
 by_cases hi2:i<L.length
 rotate_left
 ·obtain rfl:i=L.length:=by omega
  refine Xm ?_
  simp only [X7,Int.lt_irrefl,Nat.lt_irrefl,↓X4,wF,seval]
  have ca:=Mb L 1000 h (by omega) (by omega)
  have cs:=Kk (KU L) (by have:=(Vb L 1000 h (by omega) (by omega)).2; unfold rm; omega)
  refine X2 ca rfl ?_
  simp only [↓X4,wF,seval]
  refine X2 cs rfl ?_
  simp only [↓X4,wF,seval]
  exact fin rfl (by rw [hV,decide_eq_decide]; unfold ZR; exact ⟨fun h=>⟨by omega,hgood,h⟩,fun h=>h.2.2⟩)
 have at_i:∀ j,j<L.length→atF L j=L.getD j v0:=fun j hj=>by unfold atF; rw [Nat.mod_eq_of_lt hj]
 have f3:((i:Int)<L.length)=True:=eq_true (by omega)
 have f4:(i<L.length)=True:=eq_true hi2
 have f5:(i*8+8≤L.length*8)=True:=eq_true (by omega)
 have v1:=vF L i
 have cat:∀ j:Nat,j<1000000000→Fn Tryz.prog 153 [Qh L,I j] (vA (atF L j)):=fun j hj=>Yx L j hl hn0 hj
 have cs:=Sb (atF L i) (atF L (i+1)) (atF L (i+2)) (by have:=sm i; unfold vs; omega) (by have:=sm (i+1); unfold vs; omega) (by have:=sm (i+2); unfold vs; omega)
 refine Xm ?_
 simp only [X7,w1,w2,f3,f4,f5,v1,Int.toNat_natCast,↓X4,wF,seval]
 refine X2 (cat (i+1) (by omega)) rfl ?_
 simp only [X7,w1,w2,f3,f4,f5,v1,Int.toNat_natCast,↓X4,wF,seval]
 refine X2 (cat (i+2) (by omega)) rfl ?_
 simp only [X7,w1,w2,f3,f4,f5,v1,Int.toNat_natCast,↓X4,wF,seval]
 have cs':=cs
 rw [at_i i hi2] at cs'
 refine X2 cs' rfl ?_
 by_cases hs:JR (atF L i) (atF L (i+1)) (atF L (i+2))=0
 ·have g5:(JR (L.getD i v0) (atF L (i+1)) (atF L (i+2))=0)=True:=eq_true (by rw [← at_i i hi2]; exact hs)
  simp only [g5,↓X4,wF,seval]
  exact fin rfl (by rw [hV,decide_eq_false]; exact fun hp=>(hp.2.1 i hi2).1 hs)
 have g5:(JR (L.getD i v0) (atF L (i+1)) (atF L (i+2))=0)=False:=eq_false (by rw [← at_i i hi2]; exact hs)
 simp only [g5,w1,w2,↓X4,wF,seval]
 refine Xl (fun k:Nat=>⟨6,[],[Qh L,.any,.bool false,I i,I k,.any],[],[]⟩) (fun k=>k≤L.length∧∀ j,j<k→¬ OT L i j) (fun k=>L.length - k) 0 ⟨by omega,by omega⟩
  (C7 (by simp [X7,Xo,I]) rfl) ?_
 rintro k ⟨hk,hpair⟩ nextk
 have u1:=wj k (by omega)
 by_cases hk3:k<L.length
 rotate_left
 ·obtain rfl:k=L.length:=by omega
  refine Xm ?_
  simp only [X7,Int.lt_irrefl,Nat.lt_irrefl,w1,↓X4,wF,seval]
  refine next (i+1) _ ⟨by omega,fun j hj=>?_⟩ (by omega) (C7 (by simp [X7,Xo,I]) rfl)
  by_cases hji:j<i
  ·exact hgood j hji
  ·obtain rfl:j=i:=by omega
   exact ⟨hs,fun q hq=>hpair q hq⟩
 have g3:((k:Int)<L.length)=True:=eq_true (by omega)
 have g4:(k<L.length)=True:=eq_true hk3
 have h5:(k*8+8≤L.length*8)=True:=eq_true (by omega)
 have v2:=vF L k
 have f6:((L.length:Int)=0)=False:=eq_false (by omega)
 have f6':(L.length=0)=False:=eq_false hn0
 have r1:IntKind.i64.wrap ((k:Int) - i)=(k:Int) - i:=by rw [IntKind.wrap_i64]; omega
 have r2:IntKind.i64.wrap ((k:Int) - i+L.length)=((k+L.length - i:Nat):Int):=by rw [IntKind.wrap_i64]; omega
 have r3:((k+L.length - i:Nat):Int).tmod L.length=(((k+L.length - i) % L.length:Nat):Int):=rfl
 have r4:IntKind.i64.wrap ((L.length:Int) - 1)=((L.length - 1:Nat):Int):=by rw [IntKind.wrap_i64]; omega
 obtain ⟨G,hG⟩:∃ G,G=(k+L.length - i) % L.length:=⟨_,rfl⟩
 rw [← hG] at r3
 have step:¬ OT L i k→∀ j,j<k+1→¬ OT L i j:=fun hb j hj=>by
  by_cases hjk:j<k
  ·exact hpair j hjk
  ·obtain rfl:j=k:=by omega
   exact hb
 by_cases q1:1<G
 rotate_left
 ·have q2:(1<G)=False:=eq_false q1
  have q2':((1:Int)<(G:Int))=False:=eq_false (by omega)
  refine Xm ?_
  simp only [X7,w1,u1,g3,g4,f6,f6',r1,r2,r3,r4,q2,q2',↓X4,wF,seval]
  exact nextk (k+1) _ ⟨by omega,step fun hb=>q1 (by rw [hG]; exact hb.1)⟩ (by omega) (C7 (by simp [X7,Xo,I]) rfl)
 have q2:(1<G)=True:=eq_true q1
 have q2':((1:Int)<(G:Int))=True:=eq_true (by omega)
 by_cases q3:G<L.length - 1
 rotate_left
 ·have q4:(G<L.length - 1)=False:=eq_false q3
  have q4':((G:Int)<((L.length - 1:Nat):Int))=False:=eq_false (by omega)
  refine Xm ?_
  simp only [X7,w1,u1,g3,g4,f6,f6',r1,r2,r3,r4,q2,q2',q4,q4',↓X4,wF,seval]
  exact nextk (k+1) _ ⟨by omega,step fun hb=>q3 (by rw [hG]; exact hb.2.1)⟩ (by omega) (C7 (by simp [X7,Xo,I]) rfl)
 have q4:(G<L.length - 1)=True:=eq_true q3
 have q4':((G:Int)<((L.length - 1:Nat):Int))=True:=eq_true (by omega)
 have cm:=Uk (atF L i) (atF L (i+1)) (atF L k) (atF L (k+1)) (by have:=sm i; omega) (by have:=sm (i+1); omega) (by have:=sm k; omega) (by have:=sm (k+1); omega)
 rw [at_i i hi2,at_i k hk3] at cm
 refine Xm ?_
 simp only [X7,w1,u1,f3,f4,f5,g3,g4,h5,f6,f6',r1,r2,r3,r4,q2,q2',q4,q4',v1,v2,Int.toNat_natCast,↓X4,wF,seval]
 refine X2 (cat (i+1) (by omega)) rfl ?_
 simp only [X7,w1,u1,f3,f4,f5,g3,g4,h5,f6,f6',r1,r2,r3,r4,q2,q2',q4,q4',v1,v2,Int.toNat_natCast,↓X4,wF,seval]
 refine X2 (cat (k+1) (by omega)) rfl ?_
 simp only [X7,w1,u1,f3,f4,f5,g3,g4,h5,f6,f6',r1,r2,r3,r4,q2,q2',q4,q4',v1,v2,Int.toNat_natCast,↓X4,wF,seval]
 refine X2 cm rfl ?_
 by_cases hmt:An (L.getD i v0) (atF L (i+1)) (L.getD k v0) (atF L (k+1))
 ·rw [decide_eq_true hmt]
  simp only [↓X4,wF,seval]
  exact fin rfl (by rw [hV,decide_eq_false]; exact fun hp=>(hp.2.1 i hi2).2 k hk3 ⟨by omega,by omega,by rw [at_i i hi2,at_i k hk3]; exact hmt⟩)
 ·rw [decide_eq_false hmt]
  simp only [u1,↓X4,wF,seval]
  exact nextk (k+1) _ ⟨by omega,step fun hb=>hmt (by have:=hb.2.2; rwa [at_i i hi2,at_i k hk3] at this)⟩ (by omega) (C7 (by simp [X7,Xo,I]) rfl)
theorem Ji (n m:Int) (hn:Ze n) (hm:m≠0):Fn Tryz.prog 21 [I n,I m] (I (QR n m)):=by
 obtain ⟨h1,h2⟩:=hn
 refine Fq Tryz.call21 Tryz.func21 5 [] [] [] (by simp [wS]) (Xm ?_); simp (maxSteps:=999999) only [AS.start,↓X4,wF,seval]
 refine ⟨fun h=>⟨hm,BX rfl (Q6 (Xa _) ?_)⟩,fun h=>⟨hm,BX rfl (Q6 (Xa _) ?_)⟩⟩
 ·have e1:IntKind.i64.wrap (n+1)=n+1:=by rw [IntKind.wrap_i64]; omega
  have e2:IntKind.i64.wrap (-(n+1)) = -(n+1):=by rw [IntKind.wrap_i64]; omega
  simp [AS.get,QR,h,e1,e2,I]
 ·simp [AS.get,QR,h,I]
theorem Qd (l:List Int) (i m:Int) (hl:ZC l) (hm:m≠0):Fn Tryz.prog 32 [X8 l,I i,I m] (I (Ab.atF l i m)):=by
 refine Fq Tryz.call32 Tryz.func32 7 [] [] [] (by simp [Xb,Xa]) (Xm ?_)
 by_cases h0:i<0
 ·have f1:(i<0)=True:=eq_true h0
  simp only [AS.start,Xj,f1,↓X4,wF,seval]
  exact Xp (v:=I 0) rfl rfl (Xa _) (by rw [show Ab.atF l i m=0 from if_pos (.inl h0)])
 have f1:(i<0)=False:=eq_false h0
 by_cases h1:(l.length:Int)≤i
 ·have f2:((l.length:Int)≤i)=True:=eq_true h1
  simp only [AS.start,Xj,f1,f2,↓X4,wF,seval]
  exact Xp (v:=I 0) rfl rfl (Xa _) (by rw [show Ab.atF l i m=0 from if_pos (.inr h1)])
 have f2:((l.length:Int)≤i)=False:=eq_false h1
 have f3:(0≤i)=True:=eq_true (by omega)
 have f4:(i<(l.length:Int))=True:=eq_true (by omega)
 have f5:(i.toNat<l.length)=True:=eq_true (by omega)
 simp only [AS.start,Xj,f1,f2,f3,f4,f5,↓X4,wF,seval]
 refine X2 (Ji _ m (dJ hl i.toNat) hm) rfl ?_
 simp only [↓X4,wF,seval]
 exact Xp (v:=I (QR (l.getD i.toNat 0) m)) rfl rfl (Xa _) (by rw [show Ab.atF l i m=QR (l.getD i.toNat 0) m from if_neg (by omega)])
def LR (n:Int):Rat:=Rat.divInt ((QR n 100).tmod 25 - 12) (1+(QR n 100).tdiv 25)
theorem BC (n:Int) (hn:Ze n):Fn Tryz.prog 31 [I n] (qA (LR n)):=by
 obtain ⟨k,hk⟩:∃ k,k=QR n 100:=⟨_,rfl⟩
 have hb:=Qp n 100 (by omega)
 have c1:=Ji n 100 hn (by omega)
 rw [← hk] at hb c1
 have b1:k.tmod 25=k % 25:=Int.tmod_eq_emod_of_nonneg hb.1
 have b2:k.tdiv 25=k / 25:=Int.tdiv_eq_ediv_of_nonneg hb.1
 have c2:=XB (k.tmod 25 - 12) (1+k.tdiv 25) ⟨by omega,by omega⟩ ⟨by omega,by omega⟩
 have w1:IntKind.i64.wrap (k.tmod 25 - 12)=k.tmod 25 - 12:=by rw [IntKind.wrap_i64]; omega
 have w2:IntKind.i64.wrap (k.tdiv 25)=k.tdiv 25:=by rw [IntKind.wrap_i64]; omega
 have w3:IntKind.i64.wrap (1+k.tdiv 25)=1+k.tdiv 25:=by rw [IntKind.wrap_i64]; omega
 obtain ⟨R,hR⟩:∃ R,R=qA (LR n):=⟨_,rfl⟩
 have sR:Settled R:=hR▸Xc _
 rw [show Rat.divInt (k.tmod 25 - 12) (1+k.tdiv 25)=LR n by rw [hk]; rfl,← hR] at c2
 rw [← hR]
 refine Fq Tryz.call31 Tryz.func31 4 [] [] [] (by simp [wS]) (Xm ?_); simp (maxSteps:=999999) only [AS.start,↓X4,wF,seval]
 refine X2 c1 rfl ?_
 simp only [w1,w2,w3,Int.reduceEq,↓X4,wF,seval]
 refine X2 c2 rfl ?_
 simp only [hR,↓X4,wF,seval]
 exact Jf rfl XS rfl rfl rfl sR (hR.trans rfl)
theorem Gh {a:Rat} (h:qb a≤rm):(RQ.of a).sz<4611686018427387904:=Nat.lt_of_le_of_lt (RQ.of_sz a) (by unfold rm at h; omega)
theorem P7 (a b:Rat) (ha:qb a≤rm) (hb:qb b≤rm):Fn Tryz.prog 39 [qA a,qA b] (.bool (decide (a=b))):=by
 have:=jr (RQ.of a) (RQ.of b) (Gh ha) (Gh hb)
 rwa [decide_eq_decide.2 (show RQ.of a=RQ.of b↔a=b from ⟨RQ.of_inj,fun h=>by rw [h]⟩)] at this
theorem NU (a b:Rat) (ha:qb a≤rm) (hb:qb b≤rm):Fn Tryz.prog 26 [qA a,qA b] (.bool (decide (a=b))):=by
 have:=O1 (RQ.of a) (RQ.of b) (Gh ha) (Gh hb)
 rwa [decide_eq_decide.2 (show RQ.of a=RQ.of b↔a=b from ⟨RQ.of_inj,fun h=>by rw [h]⟩)] at this
theorem Mc (a:Rat) (ha:qb a≤rm):Fn Tryz.prog 86 [qA a] (.bool true):=by
 have:=Gu (RQ.of a) (Nat.lt_of_le_of_lt (RQ.of_sz a) (by unfold rm at ha; omega))
 rwa [decide_eq_true ⟨a,rfl⟩] at this
def qj (t a:V2):V2:=⟨t.x*a.x - t.y*a.y,t.y*a.x+t.x*a.y⟩
def V2.scale (a:V2) (k:Rat):V2:=⟨a.x*k,a.y*k⟩
theorem ka (t a:V2):vb (qj t a)≤2*(vb t+vb a)+1:=by
 have:=XT t.x a.x; have:=XT t.y a.y; have:=XT t.y a.x; have:=XT t.x a.y
 have:=Jc t; have:=J3 t; have:=Jc a; have:=J3 a
 have:=Dl (t.x*a.x) (t.y*a.y); have:=Kc (t.y*a.x) (t.x*a.y)
 unfold qj
 show max (qb (t.x*a.x - t.y*a.y)) (qb (t.y*a.x+t.x*a.y))≤_
 omega
theorem SV (a:V2) (k:Rat):vb (a.scale k)≤vb a+qb k:=by
 have:=XT a.x k; have:=XT a.y k; have:=Jc a; have:=J3 a
 unfold V2.scale
 show max (qb (a.x*k)) (qb (a.y*k))≤_
 omega
theorem V2.ext' {a b:V2}:a=b↔a.x=b.x∧a.y=b.y:=by
 cases a; cases b
 simp
theorem nY (a b:V2) (ha:vb a≤vm) (hb:vb b≤vm):Fn Tryz.prog 66 [vA a,vA b] (.bool (decide (a=b))):=by
 unfold vm at ha hb
 have:=Jc a; have:=Jc b; have:=J3 a; have:=J3 b
 have c1:=P7 a.x b.x (by unfold rm; omega) (by unfold rm; omega)
 have c2:=P7 a.y b.y (by unfold rm; omega) (by unfold rm; omega)
 obtain ⟨V,hV⟩:∃ V,V=decide (a=b):=⟨_,rfl⟩
 rw [← hV]
 refine Fq Tryz.call66 Tryz.func66 5 [] [] [] (by simp [wS]) (Xm ?_); simp (maxSteps:=999999) only [AS.start,↓X4,wF,seval]
 refine X2 c1 rfl ?_
 by_cases h:a.x=b.x
 ·rw [decide_eq_true h]
  simp only [↓X4,wF,seval]
  refine X2 c2 rfl ?_
  simp only [↓X4,wF,seval]
  exact Xp (v:=.bool (decide (a.y=b.y))) rfl rfl (X5 _) (by rw [hV]; exact congrArg AV.bool (decide_eq_decide.2 (show a.y=b.y↔a=b from ⟨fun e=>V2.ext'.2 ⟨h,e⟩,fun e=>(V2.ext'.1 e).2⟩)))
 ·rw [decide_eq_false h]
  simp only [↓X4,wF,seval]
  exact Xp (v:=.bool false) rfl rfl (X5 _) (by rw [hV,decide_eq_false (p:=a=b) fun e=>h (by rw [e])])
theorem W2 (a b:V2) (ha:vb a≤vm) (hb:vb b≤vm):Fn Tryz.prog 195 [vA a,vA b] (vA (a.add b)):=by
 unfold vm at ha hb
 obtain ⟨R,hR⟩:∃ R,R=vA (a.add b):=⟨_,rfl⟩
 have sR:Settled R:=hR▸Xu _
 have:=Jc a; have:=Jc b; have:=J3 a; have:=J3 b
 have c1:=ZQ a.x b.x (by unfold rm; omega) (by unfold rm; omega)
 have c2:=ZQ a.y b.y (by unfold rm; omega) (by unfold rm; omega)
 rw [← hR]
 refine Fq Tryz.call195 Tryz.func195 5 [] [] [] (by simp [wS]) (Xm ?_); simp (maxSteps:=999999) only [AS.start,↓X4,wF,seval]
 refine X2 c1 rfl ?_
 simp only [↓X4,wF,seval]
 refine X2 c2 rfl ?_
 simp only [↓X4,wF,seval]
 exact Zx rfl J5 rfl rfl rfl sR (hR.trans rfl)
theorem NQ (a:V2) (k:Rat) (ha:vb a≤vm) (hk:qb k≤vm):Fn Tryz.prog 196 [vA a,qA k] (vA (a.scale k)):=by
 unfold vm at ha hk
 obtain ⟨R,hR⟩:∃ R,R=vA (a.scale k):=⟨_,rfl⟩
 have sR:Settled R:=hR▸Xu _
 have:=Jc a; have:=J3 a
 have c1:=K8 a.x k (by unfold rm; omega) (by unfold rm; omega)
 have c2:=K8 a.y k (by unfold rm; omega) (by unfold rm; omega)
 rw [← hR]
 refine Fq Tryz.call196 Tryz.func196 5 [] [] [] (by simp [wS]) (Xm ?_); simp (maxSteps:=999999) only [AS.start,↓X4,wF,seval]
 refine X2 c1 rfl ?_
 simp only [↓X4,wF,seval]
 refine X2 c2 rfl ?_
 simp only [↓X4,wF,seval]
 exact Zx rfl J5 rfl rfl rfl sR (hR.trans rfl)
theorem UC (a b:V2) (ha:vb a≤vm) (hb:vb b≤vm):Fn Tryz.prog 72 [vA a,vA b] (.bool (decide (a=b))):=by
 unfold vm at ha hb
 have:=Jc a; have:=Jc b; have:=J3 a; have:=J3 b
 have c1:=NU a.x b.x (by unfold rm; omega) (by unfold rm; omega)
 have c2:=NU a.y b.y (by unfold rm; omega) (by unfold rm; omega)
 obtain ⟨V,hV⟩:∃ V,V=decide (a=b):=⟨_,rfl⟩
 rw [← hV]
 refine Fq Tryz.call72 Tryz.func72 5 [] [] [] (by simp [wS]) (Xm ?_); simp (maxSteps:=999999) only [AS.start,↓X4,wF,seval]
 refine X2 c1 rfl ?_
 by_cases h:a.x=b.x
 ·rw [decide_eq_true h]
  simp only [↓X4,wF,seval]
  refine X2 c2 rfl ?_
  simp only [↓X4,wF,seval]
  exact Xp (v:=.bool (decide (a.y=b.y))) rfl rfl (X5 _) (by rw [hV]; exact congrArg AV.bool (decide_eq_decide.2 (show a.y=b.y↔a=b from ⟨fun e=>V2.ext'.2 ⟨h,e⟩,fun e=>(V2.ext'.1 e).2⟩)))
 ·rw [decide_eq_false h]
  simp only [↓X4,wF,seval]
  exact Xp (v:=.bool false) rfl rfl (X5 _) (by rw [hV,decide_eq_false (p:=a=b) fun e=>h (by rw [e])])
theorem QE (a b:V2) (ha:vb a≤vm) (hb:vb b≤vm):Fn Tryz.prog 36 [vA a,vA b] (vA (a.add b)):=by
 unfold vm at ha hb
 obtain ⟨R,hR⟩:∃ R,R=vA (a.add b):=⟨_,rfl⟩
 have sR:Settled R:=hR▸Xu _
 have:=Jc a; have:=Jc b; have:=J3 a; have:=J3 b
 have c1:=JZ a.x b.x (by unfold rm; omega) (by unfold rm; omega)
 have c2:=JZ a.y b.y (by unfold rm; omega) (by unfold rm; omega)
 rw [← hR]
 refine Fq Tryz.call36 Tryz.func36 5 [] [] [] (by simp [wS]) (Xm ?_); simp (maxSteps:=999999) only [AS.start,↓X4,wF,seval]
 refine X2 c1 rfl ?_
 simp only [↓X4,wF,seval]
 refine X2 c2 rfl ?_
 simp only [↓X4,wF,seval]
 exact Zx rfl J5 rfl rfl rfl sR (hR.trans rfl)
theorem Zi (a:V2) (k:Rat) (ha:vb a≤vm) (hk:qb k≤vm):Fn Tryz.prog 37 [vA a,qA k] (vA (a.scale k)):=by
 unfold vm at ha hk
 obtain ⟨R,hR⟩:∃ R,R=vA (a.scale k):=⟨_,rfl⟩
 have sR:Settled R:=hR▸Xu _
 have:=Jc a; have:=J3 a
 have c1:=QL a.x k (by unfold rm; omega) (by unfold rm; omega)
 have c2:=QL a.y k (by unfold rm; omega) (by unfold rm; omega)
 rw [← hR]
 refine Fq Tryz.call37 Tryz.func37 5 [] [] [] (by simp [wS]) (Xm ?_); simp (maxSteps:=999999) only [AS.start,↓X4,wF,seval]
 refine X2 c1 rfl ?_
 simp only [↓X4,wF,seval]
 refine X2 c2 rfl ?_
 simp only [↓X4,wF,seval]
 exact Zx rfl J5 rfl rfl rfl sR (hR.trans rfl)
theorem MX (t a:V2) (ht:vb t≤vm) (ha:vb a≤vm):Fn Tryz.prog 139 [vA t,vA a] (vA (qj t a)):=by
 unfold vm at ht ha
 obtain ⟨R,hR⟩:∃ R,R=vA (qj t a):=⟨_,rfl⟩
 have sR:Settled R:=hR▸Xu _
 have:=Jc t; have:=J3 t; have:=Jc a; have:=J3 a
 have m1:=XT t.x a.x; have m2:=XT t.y a.y; have m3:=XT t.y a.x; have m4:=XT t.x a.y
 have c1:=QL t.x a.x (by unfold rm; omega) (by unfold rm; omega)
 have c2:=QL t.y a.y (by unfold rm; omega) (by unfold rm; omega)
 have c4:=BV (t.x*a.x) (t.y*a.y) (by unfold rm; omega) (by unfold rm; omega)
 have c5:=QL t.y a.x (by unfold rm; omega) (by unfold rm; omega)
 have c6:=QL t.x a.y (by unfold rm; omega) (by unfold rm; omega)
 have c7:=JZ (t.y*a.x) (t.x*a.y) (by unfold rm; omega) (by unfold rm; omega)
 rw [← hR]
 refine Fq Tryz.call139 Tryz.func139 7 [] [1,20000002,20000003,2,30000002,30000003] [] (by simp [wS]) (Xm ?_); simp (maxSteps:=999999) only [AS.start,↓X4,wF,seval]
 refine X2 c1 rfl ?_
 simp only [↓X4,wF,seval]
 refine X2 c2 rfl ?_
 simp only [↓X4,wF,seval]
 refine X2 c4 rfl ?_
 simp only [↓X4,wF,seval]
 refine X2 c5 rfl ?_
 simp only [↓X4,wF,seval]
 refine X2 c6 rfl ?_
 simp only [↓X4,wF,seval]
 refine X2 c7 rfl ?_
 simp only [↓X4,wF,seval]
 exact Zx rfl J5 rfl rfl rfl sR (hR.trans rfl)
end
end Go.Ab.N
namespace Go.Ab.N
open Go Go.RowKit Go.Proofs
set_option maxRecDepth 10000
set_option maxHeartbeats 4000000
structure GG where
 p:V2
 q:V2
 n:V2
 force:Rat
 rough:Rat
structure BB where
 c:V2
 light:Rat
 heavy:Rat
 strength:Rat
def C9 (a:Rat):Rat:=if a<0 then -a else a
def QS (n:V2):Rat:=C9 n.x+C9 n.y
theorem Pt {f:Rat} (hf:0<f) (a:Rat):C9 (a*f)=C9 a*f:=by
 unfold C9
 by_cases h:a<0
 ·have:=Rat.mul_pos (a:=-a) (by grind) hf
  rw [if_pos h,if_pos (by grind)]; grind
 ·have:=Rat.mul_nonneg (a:=a) (by grind) (Rat.le_of_lt hf)
  rw [if_neg h,if_neg (by grind)]
theorem Pu (a:Rat):C9 (-a)=C9 a:=by
 unfold C9
 by_cases h:a<0
 ·rw [if_pos h,if_neg (by grind)]
 ·by_cases h2:a=0
  ·subst h2; rfl
  ·rw [if_neg h,if_pos (by grind)]; grind
structure okP (b:BB) (g:GG) (a0 c0 a1 c1 k:Rat):Prop where
 n0:0≤a0
 n1:0≤a1
 r0:c0≤g.rough*a0
 r1:c1≤g.rough*a1
 s0:-c0≤g.rough*a0
 s1:-c1≤g.rough*a1
 f0:QS g.n*a0≤g.force
 f1:QS g.n*a1≤g.force
 st:QS g.n*a0+QS g.n*a1≤b.strength
 k0:0≤k
 k1:k≤16
 ex:g.n.x*a0 + -g.n.y*c0 - g.n.x*a1 - -g.n.y*c1=0
 ey:g.n.y*a0+g.n.x*c0 - g.n.y*a1 - g.n.x*c1 - b.heavy*k=0
 et:Xn (g.p.sub b.c) g.n*a0+Xn (g.p.sub b.c) ⟨-g.n.y,g.n.x⟩*c0 - Xn (g.q.sub b.c) g.n*a1 - Xn (g.q.sub b.c) ⟨-g.n.y,g.n.x⟩*c1=0
def Ns (b:BB) (g:GG) (k:Rat):Prop:=(∃ a0 c0 a1 c1,okP b g a0 c0 a1 c1 k)∧∀ a0 c0 a1 c1 k',okP b g a0 c0 a1 c1 k'→k'≤k
theorem ii {b:BB} {g:GG} {k k':Rat} (h:Ns b g k) (h':Ns b g k'):k=k':=by
 obtain ⟨⟨a,c,d,e,h1⟩,h2⟩:=h
 obtain ⟨⟨a',c',d',e',h3⟩,h4⟩:=h'
 exact Rat.le_antisymm (h4 _ _ _ _ _ h1) (h2 _ _ _ _ _ h3)
theorem Hl {b:BB} {g:GG} {a0 c0 a1 c1 k t:Rat} (h:okP b g a0 c0 a1 c1 k) (ht:0≤t) (h1:t≤1) (hf:0≤g.force) (hs:0≤b.strength):okP b g (a0*t) (c0*t) (a1*t) (c1*t) (k*t):=by
  have m:=fun {x y:Rat} (hxy:x≤y)=>Rat.mul_le_mul_of_nonneg_right hxy ht
  have hle:=fun {x:Rat} (hx:0≤x)=>Rat.mul_le_mul_of_nonneg_right h1 hx
  have u1:=m h.n0; have u2:=m h.n1; have u3:=m h.r0; have u4:=m h.r1; have u5:=m h.s0; have u6:=m h.s1
  have u7:=m h.f0; have u8:=m h.f1; have u9:=m h.st; have v1:=m h.k0; have v2:=hle h.k0
  have w1:=hle hf; have w2:=hle hs
  have e1:=congrArg (·*t) h.ex; have e2:=congrArg (·*t) h.ey; have e3:=congrArg (·*t) h.et
  have k16:=h.k1
  refine ⟨by grind,by grind,by grind,by grind,by grind,by grind,by grind,by grind,by grind,by grind,by grind,by grind,by grind,?_⟩
  generalize Xn (g.p.sub b.c) g.n=A at *
  generalize Xn (g.q.sub b.c) g.n=B at *
  generalize Xn (g.p.sub b.c) ⟨-g.n.y,g.n.x⟩=C at *
  generalize Xn (g.q.sub b.c) ⟨-g.n.y,g.n.x⟩=D at *
  grind
theorem I3 (p c v:V2):(p.add v).sub (c.add v)=p.sub c:=by
 unfold V2.sub V2.add; rw [V2.ext']; exact ⟨by simp only; grind,by simp only; grind⟩
theorem ND {b:BB} {g:GG} (v:V2) {a0 c0 a1 c1 k:Rat}:okP { b with c:=b.c.add v } { g with p:=g.p.add v,q:=g.q.add v } a0 c0 a1 c1 k↔okP b g a0 c0 a1 c1 k:=by
 constructor
 ·intro h
  refine ⟨h.n0,h.n1,h.r0,h.r1,h.s0,h.s1,h.f0,h.f1,h.st,h.k0,h.k1,h.ex,h.ey,?_⟩
  have:=h.et
  simp only [I3] at this
  exact this
 ·intro h
  refine ⟨h.n0,h.n1,h.r0,h.r1,h.s0,h.s1,h.f0,h.f1,h.st,h.k0,h.k1,h.ex,h.ey,?_⟩
  have:=h.et
  simp only [I3]
  exact this
theorem YT {b:BB} {g:GG} (v:V2) {k:Rat} (h:Ns b g k):Ns { b with c:=b.c.add v } { g with p:=g.p.add v,q:=g.q.add v } k:=by
 obtain ⟨⟨a,c,d,e,h1⟩,h2⟩:=h
 exact ⟨⟨a,c,d,e,(ND v).2 h1⟩,fun a c d e k' h=>h2 a c d e k' ((ND v).1 h)⟩
theorem LS {b:BB} {g:GG} {a0 c0 a1 c1 k:Rat} (h:okP b g a0 c0 a1 c1 k):okP b { g with p:=g.q,q:=g.p,n:=⟨-g.n.x,-g.n.y⟩ } a1 c1 a0 c0 k:=by
 have hl:QS ⟨-g.n.x,-g.n.y⟩=QS g.n:=by unfold QS; rw [Pu,Pu]
 obtain ⟨h1,h2,h3,h4,h5,h6,h7,h8,h9,k0,k1,ex,ey,et⟩:=h
 refine ⟨h2,h1,h4,h3,h6,h5,by rw [hl]; exact h8,by rw [hl]; exact h7,by rw [hl]; grind,k0,k1,?_,?_,?_⟩
 ·simp only; grind
 ·simp only; grind
 ·simp only
  unfold Xn V2.sub at *
  simp only at *
  grind
theorem Ub {b:BB} {g:GG} {k:Rat} (h:Ns b g k):Ns b { g with p:=g.q,q:=g.p,n:=⟨-g.n.x,-g.n.y⟩ } k:=by
 obtain ⟨⟨a,c,d,e,h1⟩,h2⟩:=h
 refine ⟨⟨d,e,a,c,LS h1⟩,fun a c d e k' h=>h2 d e a c k' ?_⟩
 have:=LS h
 simp only [Rat.neg_neg] at this
 exact this
theorem RI {b:BB} {g:GG} {f:Rat} (hf:0<f) {a0 c0 a1 c1 k:Rat}:okP b { g with n:=g.n.scale f } a0 c0 a1 c1 k↔okP b g (a0*f) (c0*f) (a1*f) (c1*f) k:=by
 have hl:QS (g.n.scale f)=QS g.n*f:=by unfold QS V2.scale; simp only; rw [Pt hf,Pt hf]; grind
 have hp:∀ x y:Rat,x≤y↔x*f≤y*f:=fun x y=>⟨fun h=>Rat.mul_le_mul_of_nonneg_right h (Rat.le_of_lt hf),fun h=>by
  apply Classical.byContradiction
  intro g
  have:=Rat.mul_pos (a:=x - y) (by grind) hf
  grind⟩
 constructor
 ·rintro ⟨h1,h2,h3,h4,h5,h6,h7,h8,h9,k0,k1,ex,ey,et⟩
  rw [hp] at h1 h2 h3 h4 h5 h6
  rw [hl] at h7 h8 h9
  unfold V2.scale at ex ey et
  unfold Xn V2.sub at et
  simp only at ex ey et h3 h4 h5 h6 h7 h8 h9
  refine ⟨by grind,by grind,by grind,by grind,by grind,by grind,by grind,by grind,by grind,k0,k1,by grind,by grind,?_⟩
  unfold Xn V2.sub; simp only; grind
 ·rintro ⟨h1,h2,h3,h4,h5,h6,h7,h8,h9,k0,k1,ex,ey,et⟩
  unfold Xn V2.sub at et
  simp only at et
  refine ⟨(hp _ _).2 (by grind),(hp _ _).2 (by grind),(hp _ _).2 (by (try simp only); grind),(hp _ _).2 (by (try simp only); grind),(hp _ _).2 (by (try simp only); grind),(hp _ _).2 (by (try simp only); grind),by rw [hl]; (try simp only); grind,by rw [hl]; (try simp only); grind,by rw [hl]; (try simp only); grind,k0,k1,?_,?_,?_⟩
  ·unfold V2.scale; simp only; grind
  ·unfold V2.scale; simp only; grind
  ·unfold Xn V2.sub V2.scale; simp only; grind
theorem ig {b:BB} {g:GG} {f:Rat} (hf:0<f) {k:Rat} (h:Ns b g k):Ns b { g with n:=g.n.scale f } k:=by
 obtain ⟨⟨a,c,d,e,h1⟩,h2⟩:=h
 have hi:∀ x:Rat,x*f⁻¹*f=x:=fun x=>by
  have:=Rat.mul_inv_cancel f (by grind)
  grind
 exact ⟨⟨a*f⁻¹,c*f⁻¹,d*f⁻¹,e*f⁻¹,(RI hf).2 (by rw [hi,hi,hi,hi]; exact h1)⟩,fun a c d e k' h=>h2 _ _ _ _ k' ((RI hf).1 h)⟩
theorem iP {b b':BB} {g g':GG} {a0 c0 a1 c1 k:Rat} (h:okP b g a0 c0 a1 c1 k) (hc:b'.c=b.c) (hh:b'.heavy=b.heavy) (hs:b.strength≤b'.strength) (hp:g'.p=g.p) (hq:g'.q=g.q) (hn:g'.n=g.n) (hf:g.force≤g'.force) (hr:g.rough≤g'.rough):okP b' g' a0 c0 a1 c1 k:=by
 have m0:=Rat.mul_le_mul_of_nonneg_right hr h.n0
 have m1:=Rat.mul_le_mul_of_nonneg_right hr h.n1
 obtain ⟨h1,h2,h3,h4,h5,h6,h7,h8,h9,k0,k1,ex,ey,et⟩:=h
 exact ⟨h1,h2,by grind,by grind,by grind,by grind,by rw [hn]; grind,by rw [hn]; grind,by rw [hn]; grind,k0,k1,by rw [hn]; exact ex,by rw [hn,hh]; exact ey,by rw [hp,hq,hn,hc]; exact et⟩
theorem LJ {b b':BB} {g g':GG} {k k':Rat} (h:Ns b g k) (h':Ns b' g' k') (hc:b'.c=b.c) (hh:b'.heavy=b.heavy) (hs:b.strength≤b'.strength) (hp:g'.p=g.p) (hq:g'.q=g.q) (hn:g'.n=g.n) (hf:g.force≤g'.force) (hr:g.rough≤g'.rough):k≤k':=by
 obtain ⟨⟨a,c,d,e,h1⟩,_⟩:=h
 exact h'.2 _ _ _ _ _ (iP h1 hc hh hs hp hq hn hf hr)
theorem YS {b b':BB} {g:GG} {k k' m:Rat} (h:Ns b g k) (h':Ns b' g k') (hf:0≤g.force) (hs:0≤b.strength) (hm:1≤m) (hc:b'.c=b.c) (hst:b'.strength=b.strength) (hh:b'.heavy*m=b.heavy):k'=if 16<k*m then 16 else k*m:=by
 have conv:∀ {a0 c0 a1 c1 x:Rat},okP b g a0 c0 a1 c1 x→x*m≤16→okP b' g a0 c0 a1 c1 (x*m):=fun {a0 c0 a1 c1 x} h hx=>by
  obtain ⟨h1,h2,h3,h4,h5,h6,h7,h8,h9,k0,k1,ex,ey,et⟩:=h
  have:=Rat.mul_nonneg k0 (show 0≤m by grind)
  exact ⟨h1,h2,h3,h4,h5,h6,h7,h8,by rw [hst]; exact h9,this,hx,ex,by grind,by rw [hc]; exact et⟩
 have up:k'≤k*m:=by
  obtain ⟨⟨a,c,d,e,h1,h2,h3,h4,h5,h6,h7,h8,h9,k0,k1,ex,ey,et⟩,_⟩:=h'
  have hi:m*m⁻¹=1:=Rat.mul_inv_cancel m (by grind)
  have hip:0<m⁻¹:=Rat.inv_pos.2 (by grind)
  have hle:k'*m⁻¹≤k':=by
   have h1:m⁻¹≤1:=by
    have:=Rat.mul_le_mul_of_nonneg_right hm (Rat.le_of_lt hip)
    grind
   have:=Rat.mul_le_mul_of_nonneg_right h1 k0
   grind
  have:=h.2 a c d e (k'*m⁻¹) ⟨h1,h2,h3,h4,h5,h6,h7,h8,by rw [← hst]; exact h9,Rat.mul_nonneg k0 (Rat.le_of_lt hip),by grind,ex,by grind,by rw [← hc]; exact et⟩
  have:=Rat.mul_le_mul_of_nonneg_right this (show 0≤m by grind)
  rw [Rat.mul_assoc,Rat.mul_comm m⁻¹ m,hi,Rat.mul_one] at this
  exact this
 obtain ⟨⟨a,c,d,e,h1⟩,h2⟩:=h
 have k16:k'≤16:=by obtain ⟨⟨_,_,_,_,h⟩,_⟩:=h'; exact h.k1
 by_cases hx:16<k*m
 ·rw [if_pos hx]
  refine Rat.le_antisymm k16 ?_
  have hkm:(k*m)⁻¹*(k*m)=1:=by rw [Rat.mul_comm]; exact Rat.mul_inv_cancel _ (by grind)
  have hip:0<(k*m)⁻¹:=Rat.inv_pos.2 (by grind)
  have ht:16*(k*m)⁻¹≤1:=by
   have:=Rat.mul_le_mul_of_nonneg_right (Rat.le_of_lt hx) (Rat.le_of_lt hip)
   grind
  have h3:=Hl h1 (t:=16*(k*m)⁻¹) (by grind) ht hf hs
  have e16:k*(16*(k*m)⁻¹)*m=16:=by grind
  have h4:=conv h3 (by rw [e16]; exact Rat.le_refl)
  rw [e16] at h4
  exact h'.2 _ _ _ _ _ h4
 ·rw [if_neg hx]
  exact Rat.le_antisymm up (h'.2 _ _ _ _ _ (conv h1 (by grind)))
end Go.Ab.N
namespace Go.Ab.N
open Go Go.RowKit Go.Proofs
noncomputable section
set_option maxRecDepth 10000
set_option maxHeartbeats 4000000
open Classical
def V2.opp (a:V2):V2:=⟨-a.x,-a.y⟩
def MW (m n:V2):Prop:=Xn m n=0∧Q8 m n<0
theorem Bv (a:Rat):a.num.sign<0↔a<0:=GE a
theorem C1 (a:Rat):a.num.sign=0↔a=0:=Wo a
theorem Pa (a:Rat):0<a.num.sign↔0<a:=DA a
theorem P2 (a:Rat):qb (C9 a)=qb a:=by unfold C9; split; exact Dk a; rfl
theorem tz (a:V2):vb a.opp=vb a:=by unfold vb V2.opp; rw [Dk,Dk]
theorem Rq (a:Rat):Fn Tryz.prog 213 [qA a] (qA (C9 a)):=by
 have c1:=Qk a
 have c2:=Kv a
 have s1:=Bv a
 obtain ⟨R,hR⟩:∃ R,R=qA (C9 a):=⟨_,rfl⟩
 have sR:Settled R:=hR▸Xc _
 rw [← hR]
 unfold C9 at hR
 by_cases h:a<0
 ·rw [if_pos h] at hR
  have f:=s1.2 h
  refine Fq Tryz.call213 Tryz.func213 3 [] [] [] (by simp [wS]) (Xm ?_); simp (maxSteps:=999999) only [AS.start,↓X4,wF,seval]
  refine X2 c1 rfl ?_
  simp (disch:=omega) only [f,qA,qC,↓Xd,wG,seval]
  refine X2 c2 rfl ?_
  simp (disch:=omega) only [qA,qC,↓Xd,wG,seval]
  exact Jf rfl XS rfl rfl rfl sR (hR.trans rfl)
 ·rw [if_neg h] at hR
  have f:¬ a.num.sign<0:=fun g=>h (s1.1 g)
  refine Fq Tryz.call213 Tryz.func213 3 [] [] [] (by simp [wS]) (Xm ?_); simp (maxSteps:=999999) only [AS.start,↓X4,wF,seval]
  refine X2 c1 rfl ?_
  simp (disch:=omega) only [f,qA,qC,↓Xd,wG,seval]
  exact Jf rfl XS rfl rfl rfl sR (hR.trans rfl)
theorem Lv (n:V2) (hn:vb n≤rm):Fn Tryz.prog 146 [vA n] (qA (QS n)):=by
 have:=Jc n; have:=J3 n
 have c1:=Rq n.x
 have c2:=Rq n.y
 have c3:=ZQ (C9 n.x) (C9 n.y) (by rw [P2]; omega) (by rw [P2]; omega)
 obtain ⟨R,hR⟩:∃ R,R=qA (QS n):=⟨_,rfl⟩
 have sR:Settled R:=hR▸Xc _
 rw [← hR]
 refine Fq Tryz.call146 Tryz.func146 3 [] [] [] (by simp [wS]) (Xm ?_); simp (maxSteps:=999999) only [AS.start,↓X4,wF,seval]
 refine X2 c1 rfl ?_
 simp (disch:=omega) only [↓Xd,wG,seval]
 refine X2 c2 rfl ?_
 simp (disch:=omega) only [↓Xd,wG,seval]
 refine X2 c3 rfl ?_
 simp (disch:=omega) only [qA,qC,↓Xd,wG,seval]
 exact Jf rfl XS rfl rfl rfl sR (hR.trans rfl)
theorem Ro (n:V2):Fn Tryz.prog 165 [vA n] (vA n.turned):=by
 have c1:=Kv n.y
 obtain ⟨R,hR⟩:∃ R,R=vA n.turned:=⟨_,rfl⟩
 have sR:Settled R:=hR▸Xu _
 rw [← hR]
 refine Fq Tryz.call165 Tryz.func165 3 [] [] [] (by simp [wS]) (Xm ?_); simp (maxSteps:=999999) only [AS.start,↓X4,wF,seval]
 refine X2 c1 rfl ?_
 simp (disch:=omega) only [qA,qC,↓Xd,wG,seval]
 exact Zx rfl J5 rfl rfl rfl sR (hR.trans rfl)
theorem Sn (n:V2) (hn:vb n≤rm):Fn Tryz.prog 61 [vA n] (vA n.turned):=by
 have:=J3 n
 have c1:=BU n.y (by omega)
 obtain ⟨R,hR⟩:∃ R,R=vA n.turned:=⟨_,rfl⟩
 have sR:Settled R:=hR▸Xu _
 rw [← hR]
 refine Fq Tryz.call61 Tryz.func61 3 [] [] [] (by simp [wS]) (Xm ?_); simp (maxSteps:=999999) only [AS.start,↓X4,wF,seval]
 refine X2 c1 rfl ?_
 simp (disch:=omega) only [qA,qC,↓Xd,wG,seval]
 exact Zx rfl J5 rfl rfl rfl sR (hR.trans rfl)
theorem S9 (n:V2) (hn:vb n≤rm):Fn Tryz.prog 38 [vA n] (vA n.opp):=by
 have:=Jc n; have:=J3 n
 have c1:=BU n.x (by omega)
 have c2:=BU n.y (by omega)
 obtain ⟨R,hR⟩:∃ R,R=vA n.opp:=⟨_,rfl⟩
 have sR:Settled R:=hR▸Xu _
 rw [← hR]
 refine Fq Tryz.call38 Tryz.func38 3 [] [] [] (by simp [wS]) (Xm ?_); simp (maxSteps:=999999) only [AS.start,↓X4,wF,seval]
 refine X2 c1 rfl ?_
 simp (disch:=omega) only [qA,qC,↓Xd,wG,seval]
 refine X2 c2 rfl ?_
 simp (disch:=omega) only [qA,qC,↓Xd,wG,seval]
 exact Zx rfl J5 rfl rfl rfl sR (hR.trans rfl)
theorem VI (m n:V2) (hm:vb m≤vm) (hn:vb n≤vm):Fn Tryz.prog 69 [vA m,vA n] (.bool (decide (MW m n))):=by
 have c1:=AD m n hm hn
 have c2:=Di m n hm hn
 have c3:=Qk (Xn m n)
 have c4:=Qk (Q8 m n)
 have s3:=C1 (Xn m n)
 have s4:=Bv (Q8 m n)
 obtain ⟨b,hb⟩:∃ b,b=decide (MW m n):=⟨_,rfl⟩
 rw [← hb]
 generalize (Xn m n).num.sign=x at *
 generalize (Q8 m n).num.sign=y at *
 by_cases h:Xn m n=0
 ·have e3:x=0:=s3.2 h
  have e4:b=decide (y<0):=by
   rw [hb]
   by_cases hy:y<0
   ·rw [decide_eq_true hy]; exact decide_eq_true ⟨h,s4.1 hy⟩
   ·rw [decide_eq_false hy]; exact decide_eq_false fun g=>hy (s4.2 g.2)
  refine Fq Tryz.call69 Tryz.func69 5 [] [] [] (by simp [wS]) (Xm ?_); simp (maxSteps:=999999) only [AS.start,↓X4,wF,seval]
  refine X2 c1 rfl ?_
  simp (disch:=omega) only [qA,qC,↓Xd,wG,seval]
  refine X2 c3 rfl ?_
  simp (disch:=omega) only [e3,qA,qC,↓Xd,wG,seval]
  refine X2 c2 rfl ?_
  simp (disch:=omega) only [qA,qC,↓Xd,wG,seval]
  refine X2 c4 rfl ?_
  simp (disch:=omega) only [↓Xd,wG,seval]
  exact Xp rfl rfl (X5 _) (congrArg AV.bool e4.symm)
 ·have e3:¬ x=0:=fun g=>h (s3.1 g)
  have e4:b=false:=by rw [hb]; exact decide_eq_false fun g=>h g.1
  refine Fq Tryz.call69 Tryz.func69 5 [] [] [] (by simp [wS]) (Xm ?_); simp (maxSteps:=999999) only [AS.start,↓X4,wF,seval]
  refine X2 c1 rfl ?_
  simp (disch:=omega) only [qA,qC,↓Xd,wG,seval]
  refine X2 c3 rfl ?_
  simp (disch:=omega) only [e3,↓Xd,wG,seval]
  exact Xp rfl rfl (X5 _) (congrArg AV.bool e4.symm)
theorem og (m n:V2) (hm:vb m≤1000000) (hn:vb n≤1000000):Fn Tryz.prog 74 [vA m,vA n] (.bool (decide (MW m n))):=by
 have q1:=ZK m n
 have q2:=KO m n
 have c1:=Dp m n (by unfold vm; omega) (by unfold vm; omega)
 have c2:=JY m n (by unfold vm; omega) (by unfold vm; omega)
 have c3:=Kk (Xn m n) (by unfold rm; omega)
 have c4:=Kk (Q8 m n) (by unfold rm; omega)
 have s3:=C1 (Xn m n)
 have s4:=Bv (Q8 m n)
 obtain ⟨b,hb⟩:∃ b,b=decide (MW m n):=⟨_,rfl⟩
 rw [← hb]
 generalize (Xn m n).num.sign=x at *
 generalize (Q8 m n).num.sign=y at *
 by_cases h:Xn m n=0
 ·have e3:x=0:=s3.2 h
  have e4:b=decide (y<0):=by
   rw [hb]
   by_cases hy:y<0
   ·rw [decide_eq_true hy]; exact decide_eq_true ⟨h,s4.1 hy⟩
   ·rw [decide_eq_false hy]; exact decide_eq_false fun g=>hy (s4.2 g.2)
  refine Fq Tryz.call74 Tryz.func74 5 [] [] [] (by simp [wS]) (Xm ?_); simp (maxSteps:=999999) only [AS.start,↓X4,wF,seval]
  refine X2 c1 rfl ?_
  simp (disch:=omega) only [qA,qC,↓Xd,wG,seval]
  refine X2 c3 rfl ?_
  simp (disch:=omega) only [e3,qA,qC,↓Xd,wG,seval]
  refine X2 c2 rfl ?_
  simp (disch:=omega) only [qA,qC,↓Xd,wG,seval]
  refine X2 c4 rfl ?_
  simp (disch:=omega) only [↓Xd,wG,seval]
  exact Xp rfl rfl (X5 _) (congrArg AV.bool e4.symm)
 ·have e3:¬ x=0:=fun g=>h (s3.1 g)
  have e4:b=false:=by rw [hb]; exact decide_eq_false fun g=>h g.1
  refine Fq Tryz.call74 Tryz.func74 5 [] [] [] (by simp [wS]) (Xm ?_); simp (maxSteps:=999999) only [AS.start,↓X4,wF,seval]
  refine X2 c1 rfl ?_
  simp (disch:=omega) only [qA,qC,↓Xd,wG,seval]
  refine X2 c3 rfl ?_
  simp (disch:=omega) only [e3,↓Xd,wG,seval]
  exact Xp rfl rfl (X5 _) (congrArg AV.bool e4.symm)
def Xr (f:Nat→Rat):Nat→AV:=fun j=>(qC (f (j / 4))).getD (j % 4) .any
theorem ZS (f:Nat→Rat) (k j:Nat) (h:j<4):Xr f (k*4+j)=(qC (f k)).getD j .any:=by
 unfold Xr
 rw [show (k*4+j) / 4=k by omega,show (k*4+j) % 4=j by omega]
theorem ZO (f:Nat→Rat) (k:Nat):Xr f (k*4)=(qC (f k)).getD 0 .any:=ZS f k 0 (by omega)
theorem Eg (f:Nat→Rat) (k:Nat) (x:Rat):FK (Xr f) (k*4) (qC x)=Xr (fun i=>if i=k then x else f i):=by
 funext j
 rw [Et]
 have hl:(qC x).length=4:=rfl
 unfold Xr
 by_cases h:k*4≤j∧j<k*4+(qC x).length
 ·rw [if_pos h]
  rw [hl] at h
  show _=(qC (if j / 4=k then x else f (j / 4))).getD (j % 4) .any
  rw [if_pos (show j / 4=k by omega),show j % 4=j - k*4 by omega]
 ·rw [if_neg h]
  rw [hl] at h
  show _=(qC (if j / 4=k then x else f (j / 4))).getD (j % 4) .any
  rw [if_neg (show ¬ j / 4=k by omega)]
theorem ZE (m v n:Nat) (f:Nat→Rat):Qc m (.row v n (Xr f)):=fun j _=>X6 (Xf (l:=qC (f (j / 4))) (by simp [qC,Xb,X5]) _)
theorem XY {H:List AO} {a:Nat} {o:AO} (h:H[a]?=some o) (l:List AO):(H ++ l)[a]?=some o:=by
 rw [List.getElem?_append_left (List.getElem?_eq_some_iff.1 h).1]; exact h
theorem Bk {H:List AO} {n:Nat} (h:H.length=n) (x:AO) (l:List AO):(H ++ x :: l)[n]?=some x:=by
 rw [← h,List.getElem?_append_right (Nat.le_refl _),Nat.sub_self]; rfl
theorem Fx {H:List AO} {n:Nat} (h:H.length=n) (x y:AO) (l:List AO):(H ++ x :: y :: l)[n+1]?=some y:=by
 rw [← h,List.getElem?_append_right (by omega),show H.length+1 - H.length=1 by omega]; rfl
theorem Ks {H:List AO} {a:Nat} (h:a<H.length) (o:AO) (l:List AO):(H ++ l).set a o=H.set a o ++ l:=List.set_append_left _ _ h
theorem CK {H:List AO} {n:Nat} (h:H.length=n) (x y:AO) (l:List AO):(H ++ x :: l).set n y=H ++ y :: l:=by
 rw [List.set_append_right _ _ (by omega),← h,Nat.sub_self]; rfl
theorem HL {H:List AO} {n:Nat} (h:H.length=n) (x y z:AO) (l:List AO):(H ++ x :: y :: l).set (n+1) z=H ++ x :: z :: l:=by
 rw [List.set_append_right _ _ (by omega),← h,show H.length+1 - H.length=1 by omega]; rfl
theorem Zt {H:List AO} {n:Nat} (h:H.length=n) (l:List AO):(H ++ l).length=n+l.length:=by rw [List.length_append,h]
theorem ZG {H:List AO} {n:Nat} (h:H.length=n) (x:AO) (l:List AO):(H ++ x :: l).take (n+1)=H ++ [x]:=by
 rw [← h,List.take_append]; simp [List.take_of_length_le]
theorem Ce {H:List AO} {n:Nat} (h:H.length=n) (l:List AO):(H ++ l).take n=H:=by rw [← h]; simp
def Ad (L R:Nat→Rat) (c k:Nat):Nat→Rat:=fun i=>if i<k then L i - L c*R i else L i
theorem p8 (L R:Nat→Rat) (c:Nat):Ad L R c 0=L:=funext fun i=>if_neg (Nat.not_lt_zero i)
theorem T5 (L R:Nat→Rat) (c k:Nat):Ad L R c k k=L k:=if_neg (Nat.lt_irrefl k)
theorem My (L R:Nat→Rat) (c k:Nat):(fun i=>if i=k then L k - L c*R k else Ad L R c k i)=Ad L R c (k+1):=funext fun i=>by
 unfold Ad
 by_cases h:i=k
 ·rw [if_pos h,if_pos (by omega),h]
 ·rw [if_neg h]
  by_cases h2:i<k
  ·rw [if_pos h2,if_pos (by omega)]
  ·rw [if_neg h2,if_neg (by omega)]
theorem V0 (L R:Nat→Rat) (c k:Nat) (h:R k=0):Ad L R c k=Ad L R c (k+1):=by
 rw [← My]
 funext i
 by_cases e:i=k
 ·rw [if_pos e,e,T5,h]; grind
 ·rw [if_neg e]
theorem Wg {P:Program} {fn:Func} {str hcs:List Nat} {m:Nat} {H:List AO} {s:AS} (hr:fn.results=#[]) (hH:s.h.take m=H):RetE (H9 P fn str hcs m (.tup []) H) s :=
 ⟨.tup [],by show ZM P fn s=_; simp [ZM,hr,Je,Bb],rfl,hH⟩
theorem jm {P:Program} {fn:Func} {str hcs:List Nat} {m:Nat} {H:List AO} {s:AS} (hr:fn.results=#[]) (hH:s.h.take m=H):RetOk (H9 P fn str hcs m (.tup []) H) s :=
 ⟨.tup [],by show ZM P fn s=_; simp [ZM,hr,Je,Bb],rfl,hH⟩
theorem WC (H:List AO) (a b va vb N:Nat) (L R:Nat→Rat) (c:Nat) (hab:a≠b) (ha:H[a]?=some (.row va (N*4) (Xr L))) (hb:H[b]?=some (.row vb (N*4) (Xr R))) (hN:N<1000000) (hc:c<N) {Q:Nat} (hL:∀ k,k<N→qb (L k)≤Q) (hR:∀ k,k<N→qb (R k)≤Q) (hQ:Q≤30000000) (hO:∀ o∈H,∀ m,H.length≤m→Qc m o) :
  HCall Tryz.prog 200 [.osl a va 4 0 N,.osl b vb 4 0 N,I c] H (.tup []) (H.set a (.row va (N*4) (Xr (fun k=>L k - L c*R k)))):=by
 have hlt:a<H.length:=(List.getElem?_eq_some_iff.1 ha).1
 have hO2:∀ f,∀ o∈H.set a (.row va (N*4) (Xr f)),∀ m,H.length≤m→Qc m o:=fun f o ho m hm=>by
  rcases List.mem_or_eq_of_mem_set ho with h | h
  ·exact hO o h m hm
  ·rw [h]; exact ZE _ _ _ _
 have s1:=Qk (L c)
 have z1:=C1 (L c)
 obtain ⟨n0,hn⟩:∃ n0,H.length=n0:=⟨_,rfl⟩
 have a1:=ZS L c
 have a2:=ZO L c
 have ea:=XY ha
 have eb:=XY hb
 have e0:=Bk hn
 have el:=Zt hn
 have es:=CK hn
 have hOn:∀ o∈H.set a (.row va (N*4) (Xr (fun k=>L k - L c*R k))),Qc H.length o:=fun o ho=>hO2 _ o ho _ (Nat.le_refl _)
 refine HCall.introC (fn:=Tryz.f200) Tryz.call200 Tryz.func200 rfl mixed 9 [16,17,18] [6,7005,7006,7007] [] (by kernel_rfl) (Nat.le_of_ble_eq_true rfl) (X6 (Ac (by simp))) hOn (Xm ?_)
 by_cases h0:L c=0
 ·have f0:=z1.2 h0
  have hid:H.set a (.row va (N*4) (Xr (fun k=>L k - L c*R k)))=H:=by
   rw [show (fun k=>L k - L c*R k)=L from funext fun k=>by rw [h0]; grind]
   exact List.ext_getElem? fun i=>by
    by_cases e:a=i
    ·rw [← e,List.getElem?_set_self hlt,ha]
    ·rw [List.getElem?_set_ne e]
  rw [hid]
  simp (disch:=omega) only [AS.start,ha,a1,a2,hn,ea,e0,el,es,qC,List.append_assoc,↓Xd,wG,seval]
  refine X2 s1 rfl ?_
  simp (disch:=omega) only [f0,↓Xd,wG,seval]
  exact jm rfl (Ce rfl _)
 have f0:¬ (L c).num.sign=0:=fun g=>h0 (z1.1 g)
 simp (disch:=omega) only [AS.start,ha,a1,a2,hn,ea,e0,el,es,qC,List.append_assoc,↓Xd,wG,seval]
 refine X2 s1 rfl ?_
 simp (disch:=omega) only [f0,↓Xd,wG,seval]
 have hset:∀ f,(H.set a (.row va (N*4) (Xr f))).length=n0:=fun f=>by rw [List.length_set]; exact hn
 have hga:∀ f,(H.set a (.row va (N*4) (Xr f)))[a]?=some (.row va (N*4) (Xr f)):=fun f=>List.getElem?_set_self hlt
 have hgb:∀ f,(H.set a (.row va (N*4) (Xr f)))[b]?=some (.row vb (N*4) (Xr R)):=fun f=>by rw [List.getElem?_set_ne hab]; exact hb
 have hss:∀ f g,(H.set a (.row va (N*4) (Xr f))).set a (.row va (N*4) (Xr g))=H.set a (.row va (N*4) (Xr g)):=fun f g=>List.set_set _
 have h00:H.set a (.row va (N*4) (Xr (Ad L R c 0)))=H:=by
  rw [p8]
  exact List.ext_getElem? fun i=>by
   by_cases e:a=i
   ·rw [← e,List.getElem?_set_self hlt,ha]
   ·rw [List.getElem?_set_ne e]
 refine Xl (fun k:Nat=>⟨9,[16,17,18],[.osl a va 4 0 N,.osl b vb 4 0 N,I c,.any,.any,.any,.ref n0 0 0,.any,.any],[(16,.osl b vb 4 0 N),(17,I N),(18,I k)],H.set a (.row va (N*4) (Xr (Ad L R c k))) ++ [.row 0 4 (Xh (qC (L c)))]⟩) (fun k=>k≤N) (fun k=>N - k) 0 (by omega)
  (Xk rfl (by simp [Xo,I]) (by simp [Xw,XA,I]) (by rw [h00]; rfl)) ?_
 intro k hk next
 by_cases hk2:k<N
 rotate_left
 ·obtain rfl:k=N:=by omega
  refine Run.sub ?_ (KC a (k*4) (Xr (fun k=>L k - L c*R k)) (XY (hga _) _) (Nat.le_refl _) (fun j hj=>by
   unfold Xr Ad
   rw [if_pos (show j / 4<k by omega)]))
  refine Xm ?_
  simp (disch:=omega) only [↓Xd,wG,seval]
  exact Wg rfl (by rw [Ks (by rw [List.length_set]; exact hlt),hss]; exact Ce (by rw [List.length_set]) _)
 have hAt:=hga (Ad L R c k)
 have hBt:=hgb (Ad L R c k)
 have hLn:=hset (Ad L R c k)
 have hSt:=hss (Ad L R c k)
 have hbt:a<(H.set a (.row va (N*4) (Xr (Ad L R c k)))).length:=by rw [List.length_set]; exact hlt
 have hskip:=V0 L R c k
 have hnext:=My L R c k
 have hkk:=T5 L R c k
 have b1:=ZS R k
 have b2:=ZO R k
 have w1:=ZS (Ad L R c k) k
 have w2:=ZO (Ad L R c k) k
 have hst:=Eg (Ad L R c k) k (L k - L c*R k)
 rw [hkk] at w1 w2
 rw [hnext] at hst
 have s2:=Qk (R k)
 have z2:=C1 (R k)
 have q1:=hL k hk2; have q2:=hR k hk2; have q3:=hL c hc
 have c1:=K8 (L c) (R k) (by unfold rm; omega) (by unfold rm; omega)
 have q4:=XT (L c) (R k)
 have c2:=ER (L k) (L c*R k) (by unfold rm; omega) (by unfold rm; omega)
 have nx:=next (k+1)
 have bO:∀ f,∀ o∈H.set a (.row va (N*4) (Xr f)) ++ [.row 0 4 (Xh (qC (L c)))],Qc (n0+1) o:=fun f o ho=>by
  rcases List.mem_append.1 ho with h | h
  ·exact hO2 f o h _ (by omega)
  ·rw [List.mem_singleton.1 h]; exact QM (by simp [qC,Xb,X5])
 have bO:=bO (Ad L R c (k+1))
 have hltb:b<H.length:=(List.getElem?_eq_some_iff.1 hb).1
 have ba:Ju (n0+1) (.osl a va 4 0 N)=True:=eq_true (JM (by omega))
 have bb:Ju (n0+1) (.osl b vb 4 0 N)=True:=eq_true (JM (by omega))
 have bc:Ju (n0+1) (.ref n0 0 0)=True:=eq_true (QH (by omega))
 generalize hHk:H.set a (.row va (N*4) (Xr (Ad L R c k)))=Hk at *
 have ea':=XY hAt
 have eb':=XY hBt
 have e0':=Bk hLn
 have e1':=Fx hLn
 have el':=Zt hLn
 have es0:=CK hLn
 have es1:=HL hLn
 have esa:=Ks hbt
 refine Xm ?_
 simp (disch:=omega) only [ea',eb',e0',e1',el',es0,es1,b1,b2,qC,List.append_assoc,↓Xd,wG,seval]
 refine X2 s2 rfl ?_
 by_cases hR0:R k=0
 ·have f2:=z2.2 hR0
  simp (disch:=omega) only [f2,↓Xd,wG,seval]
  exact nx _ (by omega) (by omega) (XI (m:=n0+1) (by show H.length≤n0+1; omega) rfl (by simp [Xo,I]) (by simp [Xw,XA,I]) (by rw [ZG hLn,← hHk,hskip hR0]; rfl) (by simp [XM,ba,bb,bc]) (by simp [XM,bb]) bO)
 ·have f2:¬ (R k).num.sign=0:=fun g=>hR0 (z2.1 g)
  simp (disch:=omega) only [f2,ea',eb',e0',e1',el',es0,es1,w1,w2,qC,List.append_assoc,↓Xd,wG,seval]
  refine X2 c1 rfl ?_
  simp (disch:=omega) only [qC,↓Xd,wG,seval]
  refine X2 c2 rfl ?_
  simp (disch:=omega) only [ea',esa,qC,List.append_assoc,↓Xd,wG,seval]
  exact nx _ (by omega) (by omega) (XI (m:=n0+1) (by show H.length≤n0+1; omega) rfl (by simp [Xo,I]) (by simp [Xw,XA,I]) (by rw [ZG (by rw [List.length_set]; exact hLn),← hst,← hHk,List.set_set]; rfl) (by simp [XM,ba,bb,bc]) (by simp [XM,bb]) bO)
end
end Go.Ab.N
namespace Go.Ab.N
set_option maxRecDepth 10000
set_option maxHeartbeats 4000000
def XH (f:Nat→Rat):Nat→Rat
 | 0=>0
 | n+1=>XH f n+f n
theorem XF {f g:Nat→Rat}:∀ {n:Nat},(∀ i,i<n→f i=g i)→XH f n=XH g n
 | 0,_=>rfl
 | n+1,h=>by
  unfold XH
  rw [XF fun i hi=>h i (by omega),h n (by omega)]
theorem KI {f:Nat→Rat}:∀ {n:Nat},(∀ i,i<n→f i=0)→XH f n=0
 | 0,_=>rfl
 | n+1,h=>by
  unfold XH
  rw [KI fun i hi=>h i (by omega),h n (by omega)]; grind
theorem Mt (f g:Nat→Rat):∀ n,XH (fun i=>f i+g i) n=XH f n+XH g n
 | 0=>by unfold XH; grind
 | n+1=>by unfold XH; rw [Mt f g n]; grind
theorem J6 (a:Rat) (f:Nat→Rat):∀ n,XH (fun i=>a*f i) n=a*XH f n
 | 0=>by unfold XH; grind
 | n+1=>by unfold XH; rw [J6 a f n]; grind
theorem CU (f g:Nat→Rat) (n:Nat):XH (fun i=>f i - g i) n=XH f n - XH g n:=by
 have:=Mt f (fun i=>(-1)*g i) n
 rw [J6] at this
 rw [show (fun i=>f i - g i)=fun i=>f i+(-1)*g i from funext fun i=>by grind,this]; grind
theorem ET (f:Nat→Nat→Rat) (m:Nat):∀ n,XH (fun i=>XH (fun j=>f i j) m) n=XH (fun j=>XH (fun i=>f i j) n) m
 | 0=>by show (0:Rat)=XH (fun j=>0) m; exact (KI fun _ _=>rfl).symm
 | n+1=>by
  show XH _ n+_=_
  rw [ET f m n,← Mt]
  rfl
theorem Aq {f:Nat→Rat} {k:Nat}:∀ {n:Nat},k<n→(∀ i,i<n→i≠k→f i=0)→XH f n=f k
 | n+1,hk,h=>by
  unfold XH
  by_cases e:k=n
  ·subst e; rw [KI fun i hi=>h i (by omega) (by omega)]; grind
  ·rw [Aq (by omega) fun i hi hn=>h i (by omega) hn,h n (by omega) (by omega)]; grind
theorem SN {f:Nat→Rat}:∀ {n:Nat},0<XH f n→∃ i,i<n∧0<f i
 | 0,h=>absurd h (by unfold XH; decide)
 | n+1,h=>by
  by_cases h1:0<f n
  ·exact ⟨n,by omega,h1⟩
  ·obtain ⟨i,hi,hp⟩:=SN (f:=f) (n:=n) (by unfold XH at h; grind)
   exact ⟨i,by omega,hp⟩
theorem Cr {f:Nat→Rat}:∀ {n:Nat},(∀ i,i<n→0≤f i)→0≤XH f n
 | 0,_=>Rat.le_refl
 | n+1,h=>by
  unfold XH
  have:=Cr (f:=f) (n:=n) fun i hi=>h i (by omega)
  have:=h n (by omega)
  grind
structure Tb where
 t:Nat→Nat→Rat
 c:Nat→Rat
 b:Nat→Nat
def FD (T:Tb) (r p:Nat):Tb where
 t i k:=if i=r then T.t r k / T.t r p else T.t i k - T.t i p*(T.t r k / T.t r p)
 c k:=T.c k - T.c p*(T.t r k / T.t r p)
 b i:=if i=r then p else T.b i
structure Tb.Ok (m n e:Nat) (T:Tb):Prop where
 bas:∀ i,i<m→T.b i<e
 unit:∀ i k,i<m→k<m→T.t i (T.b k)=if i=k then 1 else 0
 cost:∀ i,i<m→T.c (T.b i)=0
 rhs:∀ i,i<m→0≤T.t i n
def Tb.Eqv (m n:Nat) (T U:Tb):Prop:=(∀ i k,i<m→k≤n→T.t i k=U.t i k)∧(∀ k,k≤n→T.c k=U.c k)∧∀ i,i<m→T.b i=U.b i
def ip (m n:Nat) (T:Tb) (p r:Nat):Prop:=r<m∧0<T.t r p∧∀ i,i<m→0<T.t i p→T.t r n / T.t r p<T.t i n / T.t i p∨(T.t r n / T.t r p=T.t i n / T.t i p∧T.b r≤T.b i)
def Li (e:Nat) (T:Tb) (p:Nat):Prop:=p<e∧T.c p<0∧∀ j,j<p→0≤T.c j
structure Step (m n e:Nat) (T:Tb) (p r:Nat) (U:Tb):Prop where
 ent:Li e T p
 lv:ip m n T p r
 piv:Tb.Eqv m n U (FD T r p)
def Tb.ker (m n:Nat) (T:Tb) (x:Nat→Rat):Prop:=∀ i,i<m→XH (fun j=>T.t i j*x j) (n+1)=0
def Tb.Sim (m n:Nat) (T U:Tb):Prop:=∀ x,(T.ker m n x↔U.ker m n x)∧(T.ker m n x→XH (fun j=>T.c j*x j) (n+1)=XH (fun j=>U.c j*x j) (n+1))
theorem Tb.Sim.refl (m n:Nat) (T:Tb):T.Sim m n T:=fun _=>⟨Iff.rfl,fun _=>rfl⟩
theorem Tb.Sim.trans {m n:Nat} {T U V:Tb} (h:T.Sim m n U) (g:U.Sim m n V):T.Sim m n V:=fun x=>⟨(h x).1.trans (g x).1,fun k=>((h x).2 k).trans ((g x).2 ((h x).1.1 k))⟩
theorem Tb.Sim.symm {m n:Nat} {T U:Tb} (h:T.Sim m n U):U.Sim m n T:=fun x=>⟨(h x).1.symm,fun k=>((h x).2 ((h x).1.2 k)).symm⟩
theorem Tb.Eqv.sim {m n:Nat} {T U:Tb} (h:T.Eqv m n U):T.Sim m n U:=fun x=>by
 have h1:∀ i,i<m→XH (fun j=>T.t i j*x j) (n+1)=XH (fun j=>U.t i j*x j) (n+1):=fun i hi=>XF fun j hj=>by rw [h.1 i j hi (by omega)]
 refine ⟨⟨fun k i hi=>(h1 i hi).symm.trans (k i hi),fun k i hi=>(h1 i hi).trans (k i hi)⟩,fun _=>XF fun j hj=>by rw [h.2.1 j (by omega)]⟩
theorem OZ (T:Tb) (r p:Nat) (x:Nat→Rat) (N i:Nat):XH (fun j=>(FD T r p).t i j*x j) N=if i=r then (T.t r p)⁻¹*XH (fun j=>T.t r j*x j) N else XH (fun j=>T.t i j*x j) N - T.t i p*((T.t r p)⁻¹*XH (fun j=>T.t r j*x j) N):=by
 by_cases h:i=r
 ·rw [if_pos h,← J6]
  refine XF fun j _=>?_
  unfold FD
  simp only [h,if_true]
  rw [Rat.div_def]; grind
 ·rw [if_neg h,← J6,← J6,← CU]
  refine XF fun j _=>?_
  unfold FD
  simp only [h,if_false]
  rw [Rat.div_def]; grind
theorem iX (T:Tb) (r p:Nat) (x:Nat→Rat) (N:Nat):XH (fun j=>(FD T r p).c j*x j) N=XH (fun j=>T.c j*x j) N - T.c p*((T.t r p)⁻¹*XH (fun j=>T.t r j*x j) N):=by
 rw [← J6,← J6,← CU]
 refine XF fun j _=>?_
 unfold FD
 simp only
 rw [Rat.div_def]; grind
theorem nT {T:Tb} {m n r p:Nat} (hr:r<m) (hd:T.t r p≠0):T.Sim m n (FD T r p):=fun x=>by
 have h1:T.ker m n x↔(FD T r p).ker m n x:=by
  constructor
  ·intro k i hi
   rw [OZ]
   split
   ·rw [k r hr]; grind
   ·rw [k r hr,k i hi]; grind
  ·intro k
   have kr:XH (fun j=>T.t r j*x j) (n+1)=0:=by
    have:=k r hr
    rw [OZ,if_pos rfl] at this
    rcases Rat.mul_eq_zero.1 this with h | h
    ·have hi:=Rat.mul_inv_cancel _ hd
     rw [h,Rat.mul_zero] at hi
     exact absurd hi (by decide)
    ·exact h
   intro i hi
   by_cases e:i=r
   ·rw [e]; exact kr
   ·have:=k i hi
    rw [OZ,if_neg e,kr] at this
    grind
 refine ⟨h1,fun k=>?_⟩
 rw [iX,k r hr]; grind
theorem Step.sim {m n e p r:Nat} {T U:Tb} (h:Step m n e T p r U):T.Sim m n U :=
 (nT h.lv.1 (by have:=h.lv.2.1; grind)).trans h.piv.sim.symm
def Ft (m:Nat) (T:Tb) (p:Nat) (j:Nat):Rat:=(if j=p then 1 else 0) - XH (fun i=>if T.b i=j then T.t i p else 0) m
theorem G2 {m n p:Nat} (T:Tb) (f:Nat→Rat) (hp:p≤n) (hb:∀ i,i<m→T.b i≤n):XH (fun j=>f j*Ft m T p j) (n+1)=f p - XH (fun i=>f (T.b i)*T.t i p) m:=by
 have e:∀ j,f j*Ft m T p j=f j*(if j=p then 1 else 0) - XH (fun i=>f j*(if T.b i=j then T.t i p else 0)) m:=fun j=>by
  rw [J6]; unfold Ft; grind
 rw [XF fun j _=>e j,CU,ET]
 congr 1
 ·rw [Aq (k:=p) (by omega) fun i _ hn=>by rw [if_neg hn]; grind,if_pos rfl]; grind
 ·refine XF fun i hi=>?_
  rw [Aq (k:=T.b i) (by have:=hb i hi; omega) fun j _ hn=>by rw [if_neg (Ne.symm hn)]; grind,if_pos rfl]
theorem Tb.Ok.dir_ker {m n e p:Nat} {T:Tb} (h:T.Ok m n e) (he:e≤n) (hp:p≤n):T.ker m n (Ft m T p):=fun i hi=>by
 rw [G2 T (T.t i) hp fun k hk=>by have:=h.bas k hk; omega]
 rw [Aq (k:=i) hi fun k hk hn=>by rw [h.unit i k hi hk,if_neg (Ne.symm hn)]; grind,h.unit i i hi hi,if_pos rfl]
 grind
theorem Tb.Ok.dir_cost {m n e p:Nat} {T:Tb} (h:T.Ok m n e) (he:e≤n) (hp:p≤n):XH (fun j=>T.c j*Ft m T p j) (n+1)=T.c p:=by
 rw [G2 T T.c hp fun k hk=>by have:=h.bas k hk; omega]
 rw [KI fun i hi=>by rw [h.cost i hi]; grind]
 grind
theorem Ij {m n e p:Nat} {T U:Tb} (h:T.Sim m n U) (hU:U.Ok m n e) (he:e≤n) (hp:p≤n):T.c p - XH (fun i=>T.c (U.b i)*U.t i p) m=U.c p:=by
 rw [← hU.dir_cost he hp,← G2 U T.c hp fun k hk=>by have:=hU.bas k hk; omega]
 exact ((h _).2 ((h _).1.2 (hU.dir_ker he hp)))
theorem sN {m n e p i:Nat} {T U:Tb} (h:T.Sim m n U) (hU:U.Ok m n e) (he:e≤n) (hp:p≤n) (hi:i<m):T.t i p=XH (fun k=>T.t i (U.b k)*U.t k p) m:=by
 have:=(h _).1.2 (hU.dir_ker he hp) i hi
 rw [G2 U (T.t i) hp fun k hk=>by have:=hU.bas k hk; omega] at this
 grind
theorem OO {m n e:Nat} {T U:Tb} (h:T.Sim m n U) (hT:T.Ok m n e) (hU:U.Ok m n e) (he:e≤n) (hb:∀ i,i<m→T.b i=U.b i):T.Eqv m n U:=by
 refine ⟨fun i k hi hk=>?_,fun k hk=>?_,hb⟩
 ·rw [sN h hU he hk hi,Aq (k:=i) hi fun j hj hn=>by rw [← hb j hj,hT.unit i j hi hj,if_neg (Ne.symm hn)]; grind,← hb i hi,hT.unit i i hi hi,if_pos rfl]; grind
 ·have:=Ij h hU he hk
  rw [KI fun i hi=>by rw [← hb i hi,hT.cost i hi]; grind] at this
  grind
theorem Step.ok {m n e p r:Nat} {T U:Tb} (h:Step m n e T p r U) (hT:T.Ok m n e) (he:e≤n):U.Ok m n e:=by
 obtain ⟨⟨e1,e2,e3⟩,⟨l1,l2,l3⟩,v1,v2,v3⟩:=h
 have hd:T.t r p≠0:=by grind
 have hb:∀ i,i<m→U.b i=if i=r then p else T.b i:=v3
 have ht:∀ i k,i<m→k≤n→U.t i k=if i=r then T.t r k / T.t r p else T.t i k - T.t i p*(T.t r k / T.t r p):=v1
 have hc:∀ k,k≤n→U.c k=T.c k - T.c p*(T.t r k / T.t r p):=v2
 have dd:T.t r p / T.t r p=1:=by rw [Rat.div_def,Rat.mul_inv_cancel _ hd]
 have hU:∀ i,i<m→U.b i<e:=fun i hi=>by
  rw [hb i hi]; split
  ·exact e1
  ·exact hT.bas i hi
 refine ⟨hU,fun i k hi hk=>?_,fun i hi=>?_,fun i hi=>?_⟩
 ·rw [ht i _ hi (by have:=hU k hk; omega),hb k hk]
  by_cases k1:k=r
  ·rw [if_pos k1,dd]
   by_cases i1:i=r
   ·rw [if_pos i1,if_pos (i1.trans k1.symm)]
   ·rw [if_neg i1,if_neg (fun h=>i1 (h.trans k1))]; grind
  ·rw [if_neg k1,hT.unit r k l1 hk,if_neg (Ne.symm k1),Rat.div_def,Rat.zero_mul]
   by_cases i1:i=r
   ·rw [if_pos i1,if_neg (fun h=>k1 (h.symm.trans i1))]
   ·rw [if_neg i1,hT.unit i k hi hk]; grind
 ·rw [hc _ (by have:=hU i hi; omega),hb i hi]
  by_cases i1:i=r
  ·rw [if_pos i1,dd]; grind
  ·rw [if_neg i1,hT.cost i hi,hT.unit r i l1 hi,if_neg (Ne.symm i1),Rat.div_def,Rat.zero_mul]; grind
 ·rw [ht i n hi (Nat.le_refl _)]
  have hq:0≤T.t r n / T.t r p:=by rw [Rat.div_def]; exact Rat.mul_nonneg (hT.rhs r l1) (Rat.le_of_lt (Rat.inv_pos.2 l2))
  by_cases i1:i=r
  ·rw [if_pos i1]; exact hq
  ·rw [if_neg i1]
   by_cases hp:0<T.t i p
   ·have hl:T.t r n / T.t r p≤T.t i n / T.t i p:=by
     rcases l3 i hi hp with h | h
     ·exact Rat.le_of_lt h
     ·rw [h.1]; exact Rat.le_refl
    have:T.t r n / T.t r p*T.t i p≤T.t i n:=by
     have:=Rat.mul_le_mul_of_nonneg_right hl (Rat.le_of_lt hp)
     rwa [Rat.div_mul_cancel (by grind)] at this
    grind
   ·have h1:=hT.rhs i hi
    have h2:T.t i p*(T.t r n / T.t r p)≤0:=by
     have:=Rat.mul_nonneg (a:=-T.t i p) (by grind) hq
     grind
    grind
end Go.Ab.N
