/- Contracts of functions of these chapters, for every argument that fits, and what they need. -/
import Derived.Test.YtefjhgcndhepeaaGreatC6
set_option linter.unusedSimpArgs false
set_option linter.unusedVariables false
open Nat renaming reducePow → Y1, reduceLT → Y2, reduceLeDiff → Y3, reduceEqDiff → Y4, reduceAdd → Y5, reduceMul → Y6, reduceSub → Y7, reduceBEq → Y8, reduceDiv → Y9, reduceMod → YA
namespace Go.Ab.N
open Go Go.RowKit Go.Proofs
noncomputable section
set_option maxRecDepth 10000
set_option maxHeartbeats 2000000
open Classical
def H7 (p q r s:Rat):Bool:=decide (p<r) && decide (p<s) && decide (q<r) && decide (q<s)
def K8 (n a b c d:V2):Bool:=H7 (Qa n a) (Qa n b) (Qa n c) (Qa n d) || H7 (Qa n c) (Qa n d) (Qa n a) (Qa n b)
theorem Vt {p q r s fa fb fc fd:Rat} (h1:p*fd - q*fc=s*fa - r*fb) (h2:p - q=s - r) (hp:0<p) (hq:q<0) (hs:0<s) (hr:r<0) (k1:fa<fc) (k2:fa<fd) (k3:fb<fc) (k4:fb<fd):False:=by
 have pos:∀ x,x<fc→x<fd→0<p*(fd - x)+(-q)*(fc - x):=fun x hx1 hx2=>by
  have:=Rat.mul_pos hp (show 0<fd - x by grind)
  have:=Rat.mul_pos (show 0 < -q by grind) (show 0<fc - x by grind)
  grind
 rcases Rat.le_total (a:=fa) (b:=fb) with h | h
 ·have h3:=pos fb k3 k4
  have h4:=Rat.mul_nonneg (Rat.le_of_lt hs) (show 0≤fb - fa by grind)
  have e1:p*(fd - fb) + -q*(fc - fb)=(p*fd - q*fc) - (p - q)*fb:=by grind
  have e2:(s*fa - r*fb) - (s - r)*fb = -(s*(fb - fa)):=by grind
  rw [e1,h1,h2,e2] at h3
  generalize s*(fb - fa)=z at h3 h4
  grind
 ·have h3:=pos fa k1 k2
  have h4:=Rat.mul_nonneg (show 0≤-r by grind) (show 0≤fa - fb by grind)
  have e1:p*(fd - fa) + -q*(fc - fa)=(p*fd - q*fc) - (p - q)*fa:=by grind
  have e2:(s*fa - r*fb) - (s - r)*fa = -(-r*(fa - fb)):=by grind
  rw [e1,h1,h2,e2] at h3
  generalize -r*(fa - fb)=z at h3 h4
  grind
theorem Nl (x:Rat):0≤x*x:=by
 rcases Rat.le_total (a:=0) (b:=x) with h | h
 ·exact Rat.mul_nonneg h h
 ·have:=Rat.mul_nonneg (show 0≤-x by grind) (show 0≤-x by grind)
  grind
theorem U8 (n a b c d:V2) (k1:Qa n a<Qa n c) (k2:Qa n a<Qa n d) (k3:Qa n b<Qa n c) (k4:Qa n b<Qa n d):HW a b c d=false:=by
 have h1:Qs (b.sub a) (c.sub a)*Qa n d - Qs (b.sub a) (d.sub a)*Qa n c=Qs (d.sub c) (b.sub c)*Qa n a - Qs (d.sub c) (a.sub c)*Qa n b:=by
  unfold Qs Qa V2.sub; grind
 have h2:Qs (b.sub a) (c.sub a) - Qs (b.sub a) (d.sub a)=Qs (d.sub c) (b.sub c) - Qs (d.sub c) (a.sub c):=by
  unfold Qs V2.sub; grind
 rw [← Bool.not_eq_true]
 intro h
 unfold HW Jd at h
 simp only [Bool.and_eq_true,decide_eq_true_eq] at h
 generalize Qs (b.sub a) (c.sub a)=p at h1 h2 h
 generalize Qs (b.sub a) (d.sub a)=q at h1 h2 h
 generalize Qs (d.sub c) (a.sub c)=r at h1 h2 h
 generalize Qs (d.sub c) (b.sub c)=s at h1 h2 h
 have sp:∀ x y:Rat,x.num.sign*y.num.sign<0→(0<x∧y<0)∨(x<0∧0<y):=fun x y h=>by
  rw [← Eg,← Eg,← KY,← KY]
  rcases Int.lt_trichotomy x.num.sign 0 with hx | hx | hx
  ·rcases Int.lt_trichotomy y.num.sign 0 with hy | hy | hy
   ·have:=Int.mul_pos_of_neg_of_neg hx hy; omega
   ·rw [hy] at h; omega
   ·exact .inr ⟨hx,hy⟩
  ·rw [hx] at h; omega
  ·rcases Int.lt_trichotomy y.num.sign 0 with hy | hy | hy
   ·exact .inl ⟨hx,hy⟩
   ·rw [hy] at h; omega
   ·have:=Int.mul_pos hx hy; omega
 rcases sp p q h.1 with ⟨hp,hq⟩ | ⟨hp,hq⟩
 ·rcases sp r s h.2 with ⟨hr,hs⟩ | ⟨hr,hs⟩
  ·grind
  ·exact Vt h1 h2 hp hq hs hr k1 k2 k3 k4
 ·rcases sp r s h.2 with ⟨hr,hs⟩ | ⟨hr,hs⟩
  ·exact Vt (p:=-p) (q:=-q) (r:=-r) (s:=-s) (by grind) (by grind) (by grind) (by grind) (by grind) (by grind) k1 k2 k3 k4
  ·grind
theorem U7 (n a b c:V2) (k1:Qa n a<Qa n c) (k2:Qa n b<Qa n c):V9 a b c=false:=by
 have hid:Qa (a.sub c) (b.sub c)*Qa n (a.sub c) - Qa (a.sub c) (a.sub c)*Qa n (b.sub c)=Qs (b.sub a) (c.sub a)*(n.x*(a.sub c).y - n.y*(a.sub c).x):=by
  unfold Qa Qs V2.sub; grind
 have ha:Qa n (a.sub c)<0:=by
  have:Qa n (a.sub c)=Qa n a - Qa n c:=by unfold Qa V2.sub; grind
  grind
 have hb:Qa n (b.sub c)<0:=by
  have:Qa n (b.sub c)=Qa n b - Qa n c:=by unfold Qa V2.sub; grind
  grind
 have hu:0<Qa (a.sub c) (a.sub c):=by
  have hx:=Nl (a.sub c).x
  have hy:=Nl (a.sub c).y
  have hne:¬ Qa (a.sub c) (a.sub c)=0:=fun h=>by
   unfold Qa at h
   have h1:(a.sub c).x*(a.sub c).x=0:=by grind
   have h2:(a.sub c).y*(a.sub c).y=0:=by grind
   have h3:(a.sub c).x=0:=by rcases Rat.mul_eq_zero.1 h1 with h | h <;> exact h
   have h4:(a.sub c).y=0:=by rcases Rat.mul_eq_zero.1 h2 with h | h <;> exact h
   unfold Qa at ha
   rw [h3,h4] at ha
   grind
  unfold Qa at hne ⊢
  grind
 rw [← Bool.not_eq_true]
 intro h
 unfold V9 Jd at h
 simp only [Bool.and_eq_true,decide_eq_true_eq,AA] at h
 obtain ⟨h1,h2⟩:=h
 rw [h1] at hid
 have h2':Qa (a.sub c) (b.sub c)≤0:=by
  rw [← Rat.not_lt,← Eg]; omega
 have m1:=Rat.mul_nonneg (show 0≤-Qa (a.sub c) (b.sub c) by grind) (show 0≤-Qa n (a.sub c) by grind)
 have m2:=Rat.mul_pos hu (show 0 < -Qa n (b.sub c) by grind)
 grind
theorem Vu (n a b c:V2) (k1:Qa n c<Qa n a) (k2:Qa n c<Qa n b):V9 a b c=false :=
 U7 ⟨-n.x,-n.y⟩ a b c (by unfold Qa at *; grind) (by unfold Qa at *; grind)
theorem Nj (n a b c d:V2) (k1:Qa n a<Qa n c) (k2:Qa n a<Qa n d) (k3:Qa n b<Qa n c) (k4:Qa n b<Qa n d):CG a b c d=false:=by
 unfold CG
 rw [U8 n a b c d k1 k2 k3 k4,U7 n a b c k1 k3,U7 n a b d k2 k4,Vu n c d a k1 k2,Vu n c d b k3 k4]
 rfl
theorem Ma (n a b c d:V2) (h:K8 n a b c d=true):CG a b c d=false:=by
 unfold K8 H7 at h
 simp only [Bool.or_eq_true,Bool.and_eq_true,decide_eq_true_eq] at h
 rcases h with ⟨⟨⟨h1,h2⟩,h3⟩,h4⟩ | ⟨⟨⟨h1,h2⟩,h3⟩,h4⟩
 ·exact Nj n a b c d h1 h2 h3 h4
 ·exact Nj ⟨-n.x,-n.y⟩ a b c d (by unfold Qa at *; grind) (by unfold Qa at *; grind) (by unfold Qa at *; grind) (by unfold Qa at *; grind)
def D7 (a b c d:V2):Nat→V2
 | 0=>(b.sub a).turned
 | 1=>(d.sub c).turned
 | 2=>b.sub a
 | 3=>d.sub c
 | _=>c.sub a
def AM (a b c d:V2):Prop:=∀ i,i<5→K8 (D7 a b c d i) a b c d=false
theorem YG (a b c d:V2) (h:¬ AM a b c d):CG a b c d=false:=by
 unfold AM at h
 simp only [Classical.not_forall] at h
 obtain ⟨i,_,h⟩:=h
 exact Ma _ a b c d (by simpa using h)
def O1 (L:List V2) (i k:Nat):Prop:=1<(k+L.length - i) % L.length∧(k+L.length - i) % L.length<L.length - 1∧AM (atF L i) (atF L (i+1)) (atF L k) (atF L (k+1))
def UY (L:List V2) (i:Nat):Prop:=¬ Cw L i∧∀ k,k<L.length→¬ O1 L i k
def XN (L:List V2):Prop:=(3≤L.length∧L.length≤12)∧(∀ i,i<L.length→UY L i)∧0<(Zb L).num.sign
theorem Kd (L:List V2) (h:XN L):Am L:=by
 obtain ⟨h1,h2,h3⟩:=h
 refine ⟨h1,fun i hi=>⟨(h2 i hi).1,fun k hk1 hk2 hb=>?_⟩,h3⟩
 have hg:=(h2 i hi).2 k hk2
 have e:(k+L.length - i) % L.length=k - i:=by
  rw [show k+L.length - i=(k - i)+L.length by omega,Nat.add_mod_right,Nat.mod_eq_of_lt (by omega)]
 have hne:k - i<L.length - 1:=by
  rcases Nat.lt_or_ge (k - i) (L.length - 1) with h | h
  ·exact h
  ·exfalso
   have h1:k=L.length - 1:=by omega
   have h2:i=0:=by omega
   have:(k+1) % L.length=0:=by rw [show k+1=L.length by omega,Nat.mod_self]
   exact hb.1 (by omega)
 have hm:¬ AM (atF L i) (atF L (i+1)) (atF L k) (atF L (k+1)):=fun hm=>hg ⟨by omega,by omega,hm⟩
 have:=YG _ _ _ _ hm
 rw [hb.2] at this
 exact absurd this (by decide)
end
end Go.Ab.N
namespace Go.Ab.N
open Go Go.RowKit Go.Proofs
noncomputable section
set_option maxRecDepth 10000
set_option maxHeartbeats 4000000
open Classical
theorem Dp {a q:Rat} (h:0≤q):a≤a+q:=by grind
theorem RG {R:List (Int×Int)} (h:∀ i,i<R.length→Da (R.getD i (0,0))=true):XV (Xz R) 1000 :=
 Lr ⟨0,0,R,[],[],D5,D5,D5,D5,D5⟩ h
end
end Go.Ab.N
namespace Go.Ab.N
open Go Go.RowKit Go.Proofs
noncomputable section
set_option maxRecDepth 10000
set_option maxHeartbeats 2000000
open Classical
theorem Td (n a b c d:V2) (hn:vb n≤vs) (ha:vb a≤vs) (hb:vb b≤vs) (hc:vb c≤vs) (hd:vb d≤vs):Fn Tryz.prog 230 [vA n,vA a,vA b,vA c,vA d] (.bool (K8 n a b c d)):=by
 unfold vs at hn ha hb hc hd
 have e1:=KP n a (by unfold vm; omega) (by unfold vm; omega)
 have e2:=KP n b (by unfold vm; omega) (by unfold vm; omega)
 have e3:=KP n c (by unfold vm; omega) (by unfold vm; omega)
 have e4:=KP n d (by unfold vm; omega) (by unfold vm; omega)
 have q1:=ZV n a; have q2:=ZV n b; have q3:=ZV n c; have q4:=ZV n d
 obtain ⟨V,hV⟩:∃ V,V=K8 n a b c d:=⟨_,rfl⟩
 rw [← hV]
 unfold K8 at hV
 generalize Qa n a=p at *
 generalize Qa n b=q at *
 generalize Qa n c=r at *
 generalize Qa n d=s at *
 have k1:=QP p r (by unfold rm; omega) (by unfold rm; omega)
 have k2:=QP p s (by unfold rm; omega) (by unfold rm; omega)
 have k3:=QP q r (by unfold rm; omega) (by unfold rm; omega)
 have k4:=QP q s (by unfold rm; omega) (by unfold rm; omega)
 obtain ⟨LE,hLE⟩:∃ LE,LE=H7 p q r s:=⟨_,rfl⟩
 obtain ⟨MO,hMO⟩:∃ MO,MO=H7 r s p q:=⟨_,rfl⟩
 rw [← hLE,← hMO] at hV
 have hl:LE=(decide (Q6 p r<0) && decide (Q6 p s<0) && decide (Q6 q r<0) && decide (Q6 q s<0)):=by
  rw [hLE]; unfold H7
  rw [decide_eq_decide.2 (K7 p r),decide_eq_decide.2 (K7 p s),decide_eq_decide.2 (K7 q r),decide_eq_decide.2 (K7 q s)]
 have hm:MO=(decide (0<Q6 p r) && decide (0<Q6 p s) && decide (0<Q6 q r) && decide (0<Q6 q s)):=by
  rw [hMO]; unfold H7
  rw [decide_eq_decide.2 (JI p r),decide_eq_decide.2 (JI p s),decide_eq_decide.2 (JI q r),decide_eq_decide.2 (JI q s)]
  cases decide (r<p) <;> cases decide (r<q) <;> cases decide (s<p) <;> cases decide (s<q) <;> rfl
 have five:∀ (A B C D:Prop) [Decidable A] [Decidable B] [Decidable C] [Decidable D] (X:Bool),X=(decide A && decide B && decide C && decide D)→(X=false∧A=False∧True∧True∧True)∨(X=false∧A=True∧B=False∧True∧True)∨(X=false∧A=True∧B=True∧C=False∧True)∨(X=false∧A=True∧B=True∧C=True∧D=False)∨(X=true∧A=True∧B=True∧C=True∧D=True):=by
  intro A B C D _ _ _ _ X h
  by_cases hA:A
  rotate_left
  ·exact .inl ⟨by rw [h,decide_eq_false hA]; rfl,eq_false hA,trivial,trivial,trivial⟩
  by_cases hB:B
  rotate_left
  ·exact .inr (.inl ⟨by rw [h,decide_eq_true hA,decide_eq_false hB]; rfl,eq_true hA,eq_false hB,trivial,trivial⟩)
  by_cases hC:C
  rotate_left
  ·exact .inr (.inr (.inl ⟨by rw [h,decide_eq_true hA,decide_eq_true hB,decide_eq_false hC]; rfl,eq_true hA,eq_true hB,eq_false hC,trivial⟩))
  by_cases hD:D
  rotate_left
  ·exact .inr (.inr (.inr (.inl ⟨by rw [h,decide_eq_true hA,decide_eq_true hB,decide_eq_true hC,decide_eq_false hD]; rfl,eq_true hA,eq_true hB,eq_true hC,eq_false hD⟩)))
  ·exact .inr (.inr (.inr (.inr ⟨by rw [h,decide_eq_true hA,decide_eq_true hB,decide_eq_true hC,decide_eq_true hD]; rfl,eq_true hA,eq_true hB,eq_true hC,eq_true hD⟩)))
 have cl:=five _ _ _ _ _ hl
 have cm:=five _ _ _ _ _ hm
 clear five hl hm hLE hMO q1 q2 q3 q4 hn ha hb hc hd
 have fin:∀ {s:AS} {v:Bool},s.get 10=.bool v→v=(LE || MO)→RetOk (Qn Tryz.prog Tryz.f230 [] [] (.bool V)) s:=fun h e=>Xs rfl h (X3 _) (by rw [e,hV])
 refine Fq Tryz.call230 Tryz.func230 17 [] [] [] (by simp [Xn]) (X1 1000 ?_)
 simp only [AS.start,↓X2,wA,seval,wE]
 refine X0 e1 rfl ?_
 simp only [↓X2,wA,seval,wE]
 refine X0 e2 rfl ?_
 simp only [↓X2,wA,seval,wE]
 refine X0 e3 rfl ?_
 simp only [↓X2,wA,seval,wE]
 refine X0 e4 rfl ?_
 simp only [↓X2,wA,seval,wE]
 rcases cl with ⟨hX,l1,l2,l3,l4⟩ | ⟨hX,l1,l2,l3,l4⟩ | ⟨hX,l1,l2,l3,l4⟩ | ⟨hX,l1,l2,l3,l4⟩ | ⟨hX,l1,l2,l3,l4⟩
 all_goals
  refine X0 k1 rfl ?_
  simp only [l1,l2,l3,l4,↓X2,wA,seval,wE]
  try (refine X0 k2 rfl ?_; simp only [l1,l2,l3,l4,↓X2,wA,seval,wE])
  try (refine X0 k3 rfl ?_; simp only [l1,l2,l3,l4,↓X2,wA,seval,wE])
  try (refine X0 k4 rfl ?_; simp only [l1,l2,l3,l4,↓X2,wA,seval,wE])
  rcases cm with ⟨hY,m1,m2,m3,m4⟩ | ⟨hY,m1,m2,m3,m4⟩ | ⟨hY,m1,m2,m3,m4⟩ | ⟨hY,m1,m2,m3,m4⟩ | ⟨hY,m1,m2,m3,m4⟩
  all_goals
   refine X0 k1 rfl ?_
   simp only [l1,l2,l3,l4,m1,m2,m3,m4,↓X2,wA,seval,wE]
   try (refine X0 k2 rfl ?_; simp only [l1,l2,l3,l4,m1,m2,m3,m4,↓X2,wA,seval,wE])
   try (refine X0 k3 rfl ?_; simp only [l1,l2,l3,l4,m1,m2,m3,m4,↓X2,wA,seval,wE])
   try (refine X0 k4 rfl ?_; simp only [l1,l2,l3,l4,m1,m2,m3,m4,↓X2,wA,seval,wE])
   exact fin rfl (by rw [hX,hY]; rfl)
end
end Go.Ab.N
namespace Go.Ab.N
open Go Go.RowKit Go.Proofs
noncomputable section
set_option maxRecDepth 10000
set_option maxHeartbeats 4000000
open Classical
theorem TF (a b c d:V2) (ha:vb a≤10000) (hb:vb b≤10000) (hc:vb c≤10000) (hd:vb d≤10000):Fn Tryz.prog 184 [vA a,vA b,vA c,vA d] (.bool (decide (AM a b c d))):=by
 have m1:=K5 b a; have m2:=K5 d c; have m3:=K5 c a
 have u1:=Nq (b.sub a); have u2:=Nq (d.sub c)
 have c1:=JB b a (by unfold rm; omega) (by unfold rm; omega)
 have c2:=JB d c (by unfold rm; omega) (by unfold rm; omega)
 have c5:=JB c a (by unfold rm; omega) (by unfold rm; omega)
 have c3:=Np (b.sub a) (by unfold rm; omega)
 have c4:=Np (d.sub c) (by unfold rm; omega)
 have hA:∀ i,i<5→vb (D7 a b c d i)≤vs:=fun i hi=>by
  unfold vs
  match i,hi with
  | 0,_=>show vb (b.sub a).turned≤_; omega
  | 1,_=>show vb (d.sub c).turned≤_; omega
  | 2,_=>show vb (b.sub a)≤_; omega
  | 3,_=>show vb (d.sub c)≤_; omega
  | 4,_=>show vb (c.sub a)≤_; omega
  | i+5,h=>omega
 have kb:∀ i,i<5→Fn Tryz.prog 230 [vA (D7 a b c d i),vA a,vA b,vA c,vA d] (.bool (K8 (D7 a b c d i) a b c d)):=fun i hi=>Td _ a b c d (hA i hi) (by unfold vs; omega) (by unfold vs; omega) (by unfold vs; omega) (by unfold vs; omega)
 obtain ⟨V,hV⟩:∃ V,V=decide (AM a b c d):=⟨_,rfl⟩
 rw [← hV]
 unfold AM at hV
 replace c1:Fn Tryz.prog 104 [vA b,vA a] (vA (D7 a b c d 2)):=c1
 replace c2:Fn Tryz.prog 104 [vA d,vA c] (vA (D7 a b c d 3)):=c2
 replace c3:Fn Tryz.prog 229 [vA (D7 a b c d 2)] (vA (D7 a b c d 0)):=c3
 replace c4:Fn Tryz.prog 229 [vA (D7 a b c d 3)] (vA (D7 a b c d 1)):=c4
 replace c5:Fn Tryz.prog 104 [vA c,vA a] (vA (D7 a b c d 4)):=c5
 clear m1 m2 m3 u1 u2 hA ha hb hc hd
 generalize hF:(fun i=>K8 (D7 a b c d i) a b c d)=F at *
 have hF':∀ i,K8 (D7 a b c d i) a b c d=F i:=fun i=>by rw [← hF]
 simp only [hF'] at kb hV
 clear hF hF'
 generalize D7 a b c d=A at *
 have fin:∀ {s:AS} {v:Bool},s.get 8=.bool v→v=V→RetOk (Qn Tryz.prog Tryz.f184 [] [] (.bool V)) s:=fun h e=>Xs rfl h (X3 _) (by rw [e])
 have hvc:∀ a:V2,∀ x∈vC a,Settled x:=fun a=>by simp [vC,X7,X3]
 have brow:∀ a:V2,XI 4 (.row 0 8 (Xq (vC a)))=True:=fun a=>eq_true (XG (hvc a))
 have bel:Jj 4 (.sl 5 40 (Xq (vC (A 0) ++ (vC (A 1) ++ (vC (A 2) ++ (vC (A 3) ++ vC (A 4)))))) true)=True:=eq_true (X6 (JD fun j hj=>Xg (fun x hx=>by
  simp only [List.mem_append] at hx
  rcases hx with h | h | h | h | h <;> exact hvc _ _ h) j))
 refine Fq Tryz.call184 Tryz.func184 13 [] [] [] (by simp [wS]) (X1 1000 ?_); simp (config:={ maxSteps:=2000000 }) only [AS.start,↓X2,wA,↓reduceIte,reduceIte,reduceCtorEq,Y1,Y2,Y3,Y4,Y5,Y6,Y7,Y8,Y9,YA,wE]
 refine X0 c1 rfl ?_
 simp only [↓X2,wA,↓reduceIte,reduceIte,reduceCtorEq,Y1,Y2,Y3,Y4,Y5,Y6,Y7,Y8,Y9,YA,wE]
 refine X0 c2 rfl ?_
 simp only [↓X2,wA,↓reduceIte,reduceIte,reduceCtorEq,Y1,Y2,Y3,Y4,Y5,Y6,Y7,Y8,Y9,YA,wE]
 refine X0 c3 rfl ?_
 simp only [↓X2,wA,↓reduceIte,reduceIte,reduceCtorEq,Y1,Y2,Y3,Y4,Y5,Y6,Y7,Y8,Y9,YA,wE]
 refine X0 c4 rfl ?_
 simp only [↓X2,wA,↓reduceIte,reduceIte,reduceCtorEq,Y1,Y2,Y3,Y4,Y5,Y6,Y7,Y8,Y9,YA,wE]
 refine X0 c5 rfl ?_
 simp only [↓X2,wA,↓reduceIte,reduceIte,reduceCtorEq,Y1,Y2,Y3,Y4,Y5,Y6,Y7,Y8,Y9,YA,wE]
 refine Xe (fun i:Nat=>⟨13,[],[.any,.any,.any,.any,.ref 0 0 0,.ref 1 0 0,.ref 2 0 0,.ref 3 0 0,.bool false,.any,.any,.sl 5 40 (Xq (vC (A 0) ++ (vC (A 1) ++ (vC (A 2) ++ (vC (A 3) ++ vC (A 4)))))) true,I i],[],[.row 0 8 (Xq (vC a)),.row 0 8 (Xq (vC b)),.row 0 8 (Xq (vC c)),.row 0 8 (Xq (vC d))]⟩) (fun i=>i≤5∧∀ j,j<i→F j=false) (fun i=>5 - i) 0 ⟨by omega,by omega⟩
  (Xy (m:=4) (Nat.zero_le _) rfl (by simp [vC,X4,Xh,I]) (by simp [Xi]) (by simp [vC,X4]) (by simp [Xx,bel]) (by simp [Xx]) (by simp [brow])) ?_
 rintro i ⟨hi,hok⟩ next
 have w0:IntKind.i64.wrap (0+1)=1:=by decide
 have w1:IntKind.i64.wrap (1+1)=2:=by decide
 have w2:IntKind.i64.wrap (2+1)=3:=by decide
 have w3:IntKind.i64.wrap (3+1)=4:=by decide
 have w4:IntKind.i64.wrap (4+1)=5:=by decide
 have e0:((0:Nat):Int)=0:=rfl
 have e1:((1:Nat):Int)=1:=rfl
 have e2:((2:Nat):Int)=2:=rfl
 have e3:((3:Nat):Int)=3:=rfl
 have e4:((4:Nat):Int)=4:=rfl
 have e5:((5:Nat):Int)=5:=rfl
 have t1:(1:Int).toNat=1:=rfl
 have t2:(2:Int).toNat=2:=rfl
 have t3:(3:Int).toNat=3:=rfl
 have t4:(4:Int).toNat=4:=rfl
 by_cases hi5:i<5
 ·have k:=kb i hi5
  have hcase:i=0∨i=1∨i=2∨i=3∨i=4:=by omega
  by_cases hv:F i=true
  ·rw [hv] at k
   have hb:false=V:=by
    rw [hV,decide_eq_false]
    intro h
    rw [h i hi5] at hv; cases hv
   rcases hcase with rfl | rfl | rfl | rfl | rfl
   all_goals
    refine X1 1000 ?_
    simp only [vC,List.cons_append,List.nil_append,e0,e1,e2,e3,e4,e5,t1,t2,t3,t4,w0,w1,w2,w3,w4,Int.reduceLT,Int.reduceLE,Int.toNat_zero,↓X2,wA,↓reduceIte,reduceIte,reduceCtorEq,Y1,Y2,Y3,Y4,Y5,Y6,Y7,Y8,Y9,YA,wE]
    refine X0 k rfl ?_
    simp only [↓X2,wA,↓reduceIte,reduceIte,reduceCtorEq,Y1,Y2,Y3,Y4,Y5,Y6,Y7,Y8,Y9,YA,wE]
    exact fin rfl hb
  rw [Bool.not_eq_true] at hv
  rw [hv] at k
  have nx:=next (i+1)
  rcases hcase with rfl | rfl | rfl | rfl | rfl
  all_goals
   refine X1 1000 ?_
   simp only [vC,List.cons_append,List.nil_append,e0,e1,e2,e3,e4,e5,t1,t2,t3,t4,w0,w1,w2,w3,w4,Int.reduceLT,Int.reduceLE,Int.toNat_zero,↓X2,wA,↓reduceIte,reduceIte,reduceCtorEq,Y1,Y2,Y3,Y4,Y5,Y6,Y7,Y8,Y9,YA,wE]
   refine X0 k rfl ?_
   simp only [w0,w1,w2,w3,w4,↓X2,wA,↓reduceIte,reduceIte,reduceCtorEq,Y1,Y2,Y3,Y4,Y5,Y6,Y7,Y8,Y9,YA,wE]
   refine nx _ ⟨by omega,fun j hj=>?_⟩ (by omega) (Xa rfl (by simp [vC,X4,Xh,I]) (by simp [Xi]) (by simp [vC,X4]))
   rcases Nat.lt_succ_iff_lt_or_eq.1 hj with h | h
   ·exact hok j h
   ·rw [h]; exact hv
 obtain rfl:i=5:=by omega
 refine X1 1000 ?_
 simp only [e5,Int.lt_irrefl,↓X2,wA,↓reduceIte,reduceIte,reduceCtorEq,Y1,Y2,Y3,Y4,Y5,Y6,Y7,Y8,Y9,YA,wE]
 exact fin rfl (by rw [hV,decide_eq_true hok])
theorem O5 (L:List V2) (k:Nat) (h:XV L k) (hk:k≤1000) (hl:L.length<1000000):Fn Tryz.prog 181 [Xp L] (.bool true):=by
 have rv:∀ r:Rat,qb r≤1000→Fn Tryz.prog 83 [qA r] (.bool true):=fun r hr=>by
  have h1:=RQ.of_sz r
  have:=G0 (RQ.of r) (by omega)
  rwa [decide_eq_true ⟨r,rfl⟩] at this
 refine Fq Tryz.call181 Tryz.func181 4 [] [] [] (by simp [Xd]) (X1 1000 ?_)
 simp only [AS.start,X5,↓X2,wA,↓reduceIte,reduceIte,reduceCtorEq,Y1,Y2,Y3,Y4,Y5,Y6,Y7,Y8,Y9,YA,wE]
 refine Xe (fun i:Nat=>⟨4,[],[Xp L,.any,.bool false,I i],[],[]⟩) (fun i=>i≤L.length) (fun i=>L.length - i) 0 (by omega)
  (Xa rfl (by simp [X5,Xh,I]) (by simp [Xi]) rfl) ?_
 intro i hi next
 have w1:=wj i (by omega)
 by_cases hi2:i<L.length
 ·have f3:((i:Int)<L.length)=True:=eq_true (by omega)
  have f4:(i<L.length)=True:=eq_true hi2
  have f5:(i*8+8≤L.length*8)=True:=eq_true (by omega)
  have f6:(i*8+4≤L.length*8)=True:=eq_true (by omega)
  have f7:(i*8+4+4≤L.length*8)=True:=eq_true (by omega)
  have v1:=vF L i
  have hx:=Qw (L.getD i v0); have hy:=Qr (L.getD i v0); have hb:=h i
  refine X1 1000 ?_
  simp only [X5,w1,f3,f4,f5,f6,f7,v1,Int.toNat_natCast,↓X2,wA,↓reduceIte,reduceIte,reduceCtorEq,Y1,Y2,Y3,Y4,Y5,Y6,Y7,Y8,Y9,YA,wE]
  refine X0 (rv (L.getD i v0).x (by omega)) rfl ?_
  simp only [X5,w1,f3,f4,f5,f6,f7,v1,Int.toNat_natCast,↓X2,wA,↓reduceIte,reduceIte,reduceCtorEq,Y1,Y2,Y3,Y4,Y5,Y6,Y7,Y8,Y9,YA,wE]
  refine X0 (rv (L.getD i v0).y (by omega)) rfl ?_
  simp only [w1,↓X2,wA,↓reduceIte,reduceIte,reduceCtorEq,Y1,Y2,Y3,Y4,Y5,Y6,Y7,Y8,Y9,YA,wE]
  exact next (i+1) _ (by omega) (by omega) (Xa rfl (by simp [X5,Xh,I]) (by simp [Xi]) rfl)
 obtain rfl:i=L.length:=by omega
 refine X1 1000 ?_
 simp only [X5,Int.lt_irrefl,Nat.lt_irrefl,↓X2,wA,↓reduceIte,reduceIte,reduceCtorEq,Y1,Y2,Y3,Y4,Y5,Y6,Y7,Y8,Y9,YA,wE]
 exact Xs rfl rfl (X3 _) rfl
theorem FZ (L:List V2) (h:XV L 1000) (hl:L.length<1000000):Fn Tryz.prog 92 [Xp L] (.bool (decide (XN L))):=by
 obtain ⟨V,hV⟩:∃ V,V=decide (XN L):=⟨_,rfl⟩
 have cn:=O5 L 1000 h (by omega) hl
 rw [← hV]
 have fin:∀ {s:AS} {v:Bool},s.get 2=.bool v→v=V→RetOk (Qn Tryz.prog Tryz.f92 [] [] (.bool V)) s:=fun h e=>Xs rfl h (X3 _) (by rw [e])
 have sm:∀ i,vb (atF L i)≤1000:=fun i=>h (i % L.length)
 refine Fq Tryz.call92 Tryz.func92 6 [] [] [] (by simp [Xd]) (X1 1000 ?_)
 by_cases hlo:(L.length:Int)<3
 ·have f1:((L.length:Int)<3)=True:=eq_true hlo
  have f1':(L.length<3)=True:=eq_true (by omega)
  simp only [AS.start,X5,f1,f1',↓X2,wA,seval,wE]
  exact fin rfl (by rw [hV,decide_eq_false]; unfold XN; omega)
 have f1:((L.length:Int)<3)=False:=eq_false hlo
 have f1':(L.length<3)=False:=eq_false (by omega)
 by_cases hhi:(12:Int)<L.length
 ·have f2:((12:Int)<L.length)=True:=eq_true hhi
  have f2':(12<L.length)=True:=eq_true (by omega)
  simp only [AS.start,X5,f1,f1',f2,f2',↓X2,wA,seval,wE]
  exact fin rfl (by rw [hV,decide_eq_false]; unfold XN; omega)
 have f2:((12:Int)<L.length)=False:=eq_false hhi
 have f2':(12<L.length)=False:=eq_false (by omega)
 simp only [AS.start,X5,f1,f1',f2,f2',↓X2,wA,seval,wE]
 refine X0 cn rfl ?_
 simp only [f1,f1',f2,f2',↓X2,wA,seval,wE]
 have hn0:L.length≠0:=by omega
 refine Xe (fun i:Nat=>⟨6,[],[Xp L,.any,.bool false,I i,.any,.any],[],[]⟩) (fun i=>i≤L.length∧∀ j,j<i→UY L j) (fun i=>L.length - i) 0 ⟨by omega,by omega⟩
  (Xa rfl (by simp [X5,Xh,I]) (by simp [Xi]) rfl) ?_
 rintro i ⟨hi,hgood⟩ next
 have w1:=wj i (by omega)
 have w2:IntKind.i64.wrap ((i:Int)+2)=((i+2:Nat):Int):=by rw [IntKind.wrap_i64]; omega
 by_cases hi2:i<L.length
 rotate_left
 ·obtain rfl:i=L.length:=by omega
  refine X1 1000 ?_
  simp only [X5,Int.lt_irrefl,Nat.lt_irrefl,↓X2,wA,seval,wE]
  have ca:=TZ L 1000 h (by omega) (by omega)
  have cs:=AP (Zb L) (by have:=(Uy L 1000 h (by omega) (by omega)).2; unfold rm; omega)
  refine X0 ca rfl ?_
  simp only [↓X2,wA,seval,wE]
  refine X0 cs rfl ?_
  simp only [↓X2,wA,seval,wE]
  exact fin rfl (by rw [hV,decide_eq_decide]; unfold XN; exact ⟨fun h=>⟨by omega,hgood,h⟩,fun h=>h.2.2⟩)
 have at_i:∀ j,j<L.length→atF L j=L.getD j v0:=fun j hj=>by unfold atF; rw [Nat.mod_eq_of_lt hj]
 have f3:((i:Int)<L.length)=True:=eq_true (by omega)
 have f4:(i<L.length)=True:=eq_true hi2
 have f5:(i*8+8≤L.length*8)=True:=eq_true (by omega)
 have v1:=vF L i
 have cat:∀ j:Nat,j<1000000000→Fn Tryz.prog 183 [Xp L,I j] (vA (atF L j)):=fun j hj=>WQ L j hl hn0 hj
 have cs:=AN (atF L i) (atF L (i+1)) (atF L (i+2)) (by have:=sm i; unfold vs; omega) (by have:=sm (i+1); unfold vs; omega) (by have:=sm (i+2); unfold vs; omega)
 refine X1 1000 ?_
 simp only [X5,w1,w2,f3,f4,f5,v1,Int.toNat_natCast,↓X2,wA,seval,wE]
 refine X0 (cat (i+1) (by omega)) rfl ?_
 simp only [X5,w1,w2,f3,f4,f5,v1,Int.toNat_natCast,↓X2,wA,seval,wE]
 refine X0 (cat (i+2) (by omega)) rfl ?_
 simp only [X5,w1,w2,f3,f4,f5,v1,Int.toNat_natCast,↓X2,wA,seval,wE]
 have cs':=cs
 rw [at_i i hi2] at cs'
 refine X0 cs' rfl ?_
 by_cases hs:Jd (atF L i) (atF L (i+1)) (atF L (i+2))=0
 ·have g5:(Jd (L.getD i v0) (atF L (i+1)) (atF L (i+2))=0)=True:=eq_true (by rw [← at_i i hi2]; exact hs)
  simp only [g5,↓X2,wA,seval,wE]
  exact fin rfl (by rw [hV,decide_eq_false]; exact fun hp=>(hp.2.1 i hi2).1 hs)
 have g5:(Jd (L.getD i v0) (atF L (i+1)) (atF L (i+2))=0)=False:=eq_false (by rw [← at_i i hi2]; exact hs)
 simp only [g5,w1,w2,↓X2,wA,seval,wE]
 refine Xe (fun k:Nat=>⟨6,[],[Xp L,.any,.bool false,I i,I k,.any],[],[]⟩) (fun k=>k≤L.length∧∀ j,j<k→¬ O1 L i j) (fun k=>L.length - k) 0 ⟨by omega,by omega⟩
  (Xa rfl (by simp [X5,Xh,I]) (by simp [Xi]) rfl) ?_
 rintro k ⟨hk,hpair⟩ nextk
 have u1:=wj k (by omega)
 by_cases hk3:k<L.length
 rotate_left
 ·obtain rfl:k=L.length:=by omega
  refine X1 1000 ?_
  simp only [X5,Int.lt_irrefl,Nat.lt_irrefl,w1,↓X2,wA,seval,wE]
  refine next (i+1) _ ⟨by omega,fun j hj=>?_⟩ (by omega) (Xa rfl (by simp [X5,Xh,I]) (by simp [Xi]) rfl)
  by_cases hji:j<i
  ·exact hgood j hji
  ·obtain rfl:j=i:=by omega
   exact ⟨hs,fun q hq=>hpair q hq⟩
 have g3:((k:Int)<L.length)=True:=eq_true (by omega)
 have g4:(k<L.length)=True:=eq_true hk3
 have h5:(k*8+8≤L.length*8)=True:=eq_true (by omega)
 have v2:=vF L k
 have f6:((L.length:Int)=0)=False:=eq_false (by omega)
 have f6':(L.length=0)=False:=eq_false hn0
 have r1:IntKind.i64.wrap ((k:Int) - i)=(k:Int) - i:=by rw [IntKind.wrap_i64]; omega
 have r2:IntKind.i64.wrap ((k:Int) - i+L.length)=((k+L.length - i:Nat):Int):=by rw [IntKind.wrap_i64]; omega
 have r3:((k+L.length - i:Nat):Int).tmod L.length=(((k+L.length - i) % L.length:Nat):Int):=rfl
 have r4:IntKind.i64.wrap ((L.length:Int) - 1)=((L.length - 1:Nat):Int):=by rw [IntKind.wrap_i64]; omega
 obtain ⟨G,hG⟩:∃ G,G=(k+L.length - i) % L.length:=⟨_,rfl⟩
 rw [← hG] at r3
 have step:¬ O1 L i k→∀ j,j<k+1→¬ O1 L i j:=fun hb j hj=>by
  by_cases hjk:j<k
  ·exact hpair j hjk
  ·obtain rfl:j=k:=by omega
   exact hb
 by_cases q1:1<G
 rotate_left
 ·have q2:(1<G)=False:=eq_false q1
  have q2':((1:Int)<(G:Int))=False:=eq_false (by omega)
  refine X1 1000 ?_
  simp only [X5,w1,u1,g3,g4,f6,f6',r1,r2,r3,r4,q2,q2',↓X2,wA,seval,wE]
  exact nextk (k+1) _ ⟨by omega,step fun hb=>q1 (by rw [hG]; exact hb.1)⟩ (by omega) (Xa rfl (by simp [X5,Xh,I]) (by simp [Xi]) rfl)
 have q2:(1<G)=True:=eq_true q1
 have q2':((1:Int)<(G:Int))=True:=eq_true (by omega)
 by_cases q3:G<L.length - 1
 rotate_left
 ·have q4:(G<L.length - 1)=False:=eq_false q3
  have q4':((G:Int)<((L.length - 1:Nat):Int))=False:=eq_false (by omega)
  refine X1 1000 ?_
  simp only [X5,w1,u1,g3,g4,f6,f6',r1,r2,r3,r4,q2,q2',q4,q4',↓X2,wA,seval,wE]
  exact nextk (k+1) _ ⟨by omega,step fun hb=>q3 (by rw [hG]; exact hb.2.1)⟩ (by omega) (Xa rfl (by simp [X5,Xh,I]) (by simp [Xi]) rfl)
 have q4:(G<L.length - 1)=True:=eq_true q3
 have q4':((G:Int)<((L.length - 1:Nat):Int))=True:=eq_true (by omega)
 have cm:=TF (atF L i) (atF L (i+1)) (atF L k) (atF L (k+1)) (by have:=sm i; omega) (by have:=sm (i+1); omega) (by have:=sm k; omega) (by have:=sm (k+1); omega)
 rw [at_i i hi2,at_i k hk3] at cm
 refine X1 1000 ?_
 simp only [X5,w1,u1,f3,f4,f5,g3,g4,h5,f6,f6',r1,r2,r3,r4,q2,q2',q4,q4',v1,v2,Int.toNat_natCast,↓X2,wA,seval,wE]
 refine X0 (cat (i+1) (by omega)) rfl ?_
 simp only [X5,w1,u1,f3,f4,f5,g3,g4,h5,f6,f6',r1,r2,r3,r4,q2,q2',q4,q4',v1,v2,Int.toNat_natCast,↓X2,wA,seval,wE]
 refine X0 (cat (k+1) (by omega)) rfl ?_
 simp only [X5,w1,u1,f3,f4,f5,g3,g4,h5,f6,f6',r1,r2,r3,r4,q2,q2',q4,q4',v1,v2,Int.toNat_natCast,↓X2,wA,seval,wE]
 refine X0 cm rfl ?_
 by_cases hmt:AM (L.getD i v0) (atF L (i+1)) (L.getD k v0) (atF L (k+1))
 ·rw [decide_eq_true hmt]
  simp only [↓X2,wA,seval,wE]
  exact fin rfl (by rw [hV,decide_eq_false]; exact fun hp=>(hp.2.1 i hi2).2 k hk3 ⟨by omega,by omega,by rw [at_i i hi2,at_i k hk3]; exact hmt⟩)
 ·rw [decide_eq_false hmt]
  simp only [u1,↓X2,wA,seval,wE]
  exact nextk (k+1) _ ⟨by omega,step fun hb=>hmt (by have:=hb.2.2; rwa [at_i i hi2,at_i k hk3] at this)⟩ (by omega) (Xa rfl (by simp [X5,Xh,I]) (by simp [Xi]) rfl)
theorem AD (n m:Int) (hn:Z4 n) (hm:m≠0):Fn Tryz.prog 17 [I n,I m] (I (QW n m)):=by
 obtain ⟨h1,h2⟩:=hn
 refine Fq Tryz.call17 Tryz.func17 5 [] [] [] (by simp [wS]) (X1 1000 ?_); simp (config:={ maxSteps:=2000000 }) only [AS.start,↓X2,wA,seval,wE]
 refine ⟨fun h=>⟨hm,AR rfl (QC (X9 _) ?_)⟩,fun h=>⟨hm,AR rfl (QC (X9 _) ?_)⟩⟩
 ·have e1:IntKind.i64.wrap (n+1)=n+1:=by rw [IntKind.wrap_i64]; omega
  have e2:IntKind.i64.wrap (-(n+1)) = -(n+1):=by rw [IntKind.wrap_i64]; omega
  simp [AS.get,QW,h,e1,e2,I]
 ·simp [AS.get,QW,h,I]
theorem JF (l:List Int) (i m:Int) (hl:Fh l) (hm:m≠0):Fn Tryz.prog 74 [X8 l,I i,I m] (I (Ab.atF l i m)):=by
 refine Fq Tryz.call74 Tryz.func74 7 [] [] [] (by simp [X7,X9]) (X1 1000 ?_)
 by_cases h0:i<0
 ·have f1:(i<0)=True:=eq_true h0
  simp only [AS.start,X4,f1,↓X2,wA,seval,wE]
  exact Xs (v:=I 0) rfl rfl (X9 _) (by rw [show Ab.atF l i m=0 from if_pos (.inl h0)])
 have f1:(i<0)=False:=eq_false h0
 by_cases h1:(l.length:Int)≤i
 ·have f2:((l.length:Int)≤i)=True:=eq_true h1
  simp only [AS.start,X4,f1,f2,↓X2,wA,seval,wE]
  exact Xs (v:=I 0) rfl rfl (X9 _) (by rw [show Ab.atF l i m=0 from if_pos (.inr h1)])
 have f2:((l.length:Int)≤i)=False:=eq_false h1
 have f3:(0≤i)=True:=eq_true (by omega)
 have f4:(i<(l.length:Int))=True:=eq_true (by omega)
 have f5:(i.toNat<l.length)=True:=eq_true (by omega)
 simp only [AS.start,X4,f1,f2,f3,f4,f5,↓X2,wA,seval,wE]
 refine X0 (AD _ m (bV hl i.toNat) hm) rfl ?_
 simp only [↓X2,wA,seval,wE]
 exact Xs (v:=I (QW (l.getD i.toNat 0) m)) rfl rfl (X9 _) (by rw [show Ab.atF l i m=QW (l.getD i.toNat 0) m from if_neg (by omega)])
theorem YO (a b:List Int) (ha:a.length<4611686018427387904):Fn Tryz.prog 85 [X8 a,X8 b] (.bool (decide (a=b))):=by
 obtain ⟨V,hV⟩:∃ V,V=decide (a=b):=⟨_,rfl⟩
 rw [← hV]
 refine Fq Tryz.call85 Tryz.func85 6 [] [] [] (by simp [X7]) (X1 1000 ?_)
 by_cases hl:a.length=b.length
 rotate_left
 ·have f1:((a.length:Int)=b.length)=False:=eq_false (by omega)
  have f1':(a.length=b.length)=False:=eq_false hl
  simp only [AS.start,X4,f1,f1',↓X2,wA,seval,wE]
  exact Xs (v:=.bool false) rfl rfl (X3 _) (by rw [hV,decide_eq_false fun e=>hl (by rw [e])])
 have f1:((a.length:Int)=b.length)=True:=eq_true (by omega)
 have f1':(a.length=b.length)=True:=eq_true hl
 simp only [AS.start,X4,f1,f1',↓X2,wA,seval,wE]
 refine Xe (fun j:Nat=>⟨6,[],[X8 a,X8 b,.any,.any,.bool false,I j],[],[]⟩) (fun j=>j≤a.length∧∀ i,i<j→a.getD i 0=b.getD i 0) (fun j=>a.length - j) 0 ⟨by omega,by omega⟩
  (Xa rfl (by simp [Xh,X4,I,hl]) (by simp [Xi]) rfl) ?_
 rintro j ⟨hj,hno⟩ next
 have w1:=wj j (by omega)
 by_cases hj2:j<a.length
 rotate_left
 ·have f2:((j:Int)<a.length)=False:=eq_false (by omega)
  have f3:(j<a.length)=False:=eq_false hj2
  refine X1 1000 ?_
  simp only [X4,w1,f2,f3,↓X2,wA,seval,wE]
  refine Xs (v:=.bool true) rfl rfl (X3 _) ?_
  rw [hV,decide_eq_true]
  refine List.ext_getElem hl fun i h1 h2=>?_
  have:=hno i (by omega)
  rw [List.getD_eq_getElem?_getD,List.getElem?_eq_getElem h1,List.getD_eq_getElem?_getD,List.getElem?_eq_getElem h2] at this
  exact this
 have f2:((j:Int)<a.length)=True:=eq_true (by omega)
 have f3:(j<a.length)=True:=eq_true hj2
 have f4:(j<b.length)=True:=eq_true (by omega)
 by_cases hv:a.getD j 0=b.getD j 0
 rotate_left
 ·have f5:(a.getD j 0=b.getD j 0)=False:=eq_false hv
  refine X1 1000 ?_
  simp only [X4,w1,f2,f3,f4,f5,Int.toNat_natCast,↓X2,wA,seval,wE]
  refine Xs (v:=.bool false) rfl rfl (X3 _) ?_
  rw [hV,decide_eq_false fun e=>hv (by rw [e])]
 have f5:(a.getD j 0=b.getD j 0)=True:=eq_true hv
 refine X1 1000 ?_
 simp only [X4,w1,f2,f3,f4,f5,Int.toNat_natCast,↓X2,wA,seval,wE]
 refine next (j+1) _ ⟨by omega,fun i hi=>?_⟩ (by omega) (Xa rfl (by simp [Xh,X4,I]) (by simp [Xi]) rfl)
 by_cases e:i=j
 ·rw [e]; exact hv
 ·exact hno i (by omega)
theorem gH {x y:RQ} {a b:Rat} (hx:x=RQ.of a) (hy:y=RQ.of b) (sx:x.sz≤1000000) (sy:y.sz≤1000000):Fn Tryz.prog 95 [x.A,y.A] (I (Q6 a b)):=by
 rw [hx] at sx; rw [hy] at sy
 have h1:=Cq a; have h2:=Cq b
 rw [hx,hy]; exact QP a b (by unfold rm; omega) (by unfold rm; omega)
theorem G4 (p:PV) (hl:p.rim.length<1000000) (hr:∀ i,i<p.rim.length→Da (p.rim.getD i (0,0))=true):Fn Tryz.prog 93 [Q3 p] (Xp (Xz p.rim)):=by
 obtain ⟨R,hR⟩:∃ R,R=Xp (Xz p.rim):=⟨_,rfl⟩
 have sR:Settled R:=hR▸Xd _
 have bo:XI 2 (.con 0 25 (Xq (XC p)))=True:=eq_true (fun j _=>X6 (Xg (XF p) j))
 have hvc:∀ a:V2,∀ x∈vC a,Settled x:=fun a=>by simp [vC,X7,X3]
 have br:∀ i l n,XI 2 (.row i n (XB vC 8 v0 l))=True:=fun i l n=>eq_true fun j _=>X6 (Xg (hvc _) _)
 rw [← hR]
 refine Fq Tryz.call93 Tryz.func93 5 [] [5,60000001] [] (by simp [Xu]) (X1 1000 ?_)
 simp only [AS.start,Q3,XC,↓X2,wA,seval,wE]
 refine Xe (fun i:Nat=>⟨5,[],[.any,.ref 0 0 0,.any,.osl 1 i 8 0 i,I i],[],[.con 0 25 (Xq (XC p)),.row i (i*8) (XB vC 8 v0 (Xz (p.rim.take i)))]⟩) (fun i=>i≤p.rim.length) (fun i=>p.rim.length - i) 0 (by omega)
  (Sub.trans (Qp 0 rfl) (Sub.trans (Q7 3 8 (XB vC 8 v0 []) rfl) (Xa rfl (by simp [AS.put,Xh,I]) (by simp [AS.put,Xi]) (by simp [AS.put,XC,Xf,Xl,X4,I,Xz])))) ?_
 intro i hi next
 have w1:=wj i (by omega)
 by_cases hi2:i<p.rim.length
 ·have f1:((i:Int)<p.rim.length)=True:=eq_true (by omega)
  have f2:(i<p.rim.length)=True:=eq_true hi2
  have f3:(i*2+2≤p.rim.length*2)=True:=eq_true (by omega)
  have f4:(i*2+1≤p.rim.length*2)=True:=eq_true (by omega)
  have f5:(i*2<p.rim.length*2)=True:=eq_true (by omega)
  have f6:(i*2+1<p.rim.length*2)=True:=eq_true (by omega)
  have v1:=aw p.rim i
  have hok:=hr i hi2
  unfold Da wb at hok
  simp only [Bool.and_eq_true,decide_eq_true_eq] at hok
  have c1:=An (p.rim.getD i (0,0)).1 (p.rim.getD i (0,0)).2 ⟨by omega,by omega⟩ ⟨by omega,by omega⟩
  refine X1 1000 ?_
  simp only [XC,w1,f1,f2,f3,f4,f5,f6,v1,Int.toNat_natCast,↓X2,wA,seval,wE]
  refine X0 c1 rfl ?_
  simp only [w1,↓X2,wA,seval,wE]
  have hap:=XQ vC 8 v0 (Xz (p.rim.take i)) (Js (p.rim.getD i (0,0))) (by omega)
  have hlen:(Xz (p.rim.take i)).length=i:=by simp [Xz]; omega
  have htk:Xz (p.rim.take i) ++ [Js (p.rim.getD i (0,0))]=Xz (p.rim.take (i+1)):=by rw [As _ (0,0) hi2]; simp [Xz]
  rw [hlen,htk] at hap
  refine ⟨⟨fun j hj=>?_,by omega,by omega⟩,next (i+1) _ (by omega) (by omega) (Xy (m:=2) (Nat.zero_le _) rfl (by simp [Xh,I]) (by simp [Xi]) (by rw [← hap]; rfl) (by simp [Xx]) (by simp [Xx]) (by simp [bo,br]))⟩
  match j,hj with
  | 0,_=>rfl
  | 1,_=>rfl
  | 2,_=>rfl
  | 3,_=>rfl
  | 4,_=>rfl
  | 5,_=>rfl
  | 6,_=>rfl
  | 7,_=>rfl
  | j+8,h=>omega
 obtain rfl:i=p.rim.length:=by omega
 refine X1 1000 ?_
 simp only [XC,Int.lt_irrefl,Nat.lt_irrefl,↓X2,wA,seval,wE]
 refine AR rfl ?_
 have hlen:(Xz p.rim).length=p.rim.length:=by simp [Xz]
 rw [hR,X5,hlen]
 refine Qv (n:=p.rim.length) (.inl rfl) (by omega) (fun h=>by rw [h]) fun j hj=>?_
 rw [List.take_length,Nat.zero_add]
 exact (Xg (hvc _) _).sees _
theorem JR {P:Nat→Prop} {i:Nat}:(∀ j,j<i+1→P j)↔(∀ j,j<i→P j)∧P i :=
 ⟨fun h=>⟨fun j hj=>h j (by omega),h i (by omega)⟩,fun h j hj=>(Nat.lt_succ_iff_lt_or_eq.1 hj).elim (h.1 j) (fun e=>e▸h.2)⟩
theorem YP (a b:PV) (ha:a.small) (hb:b.small):Fn Tryz.prog 20 [Q3 a,Q3 b] (.bool (decide (a=b))):=by
 obtain ⟨V,hV⟩:∃ V,V=decide (a=b):=⟨_,rfl⟩
 have fin:∀ {s:AS} {v:Bool},s.get 4=.bool v→v=V→RetOk (Qn Tryz.prog Tryz.f20 [] [] (.bool V)) s:=fun h e=>Xs rfl h (X3 _) (by rw [e])
 have no:∀ {q:Prop},(a=b→q)→¬ q→false=V:=fun h hq=>by rw [hV,decide_eq_false fun hh=>hq (h hh)]
 have b1:=ha.rim; have b2:=hb.rim; have b3:=ha.worn; have b4:=hb.worn; have b5:=ha.marks; have b6:=hb.marks
 rw [← hV]
 refine Fq Tryz.call20 Tryz.func20 7 [] [] [] (by simp [Xu]) (X1 1000 ?_)
 by_cases h1:a.id=b.id
 rotate_left
 ·have f1:(a.id=b.id)=False:=eq_false h1
  simp only [AS.start,Q3,XC,f1,↓X2,wA,seval,wE]
  exact fin rfl (no (fun h=>by rw [h]) h1)
 have f1:(a.id=b.id)=True:=eq_true h1
 by_cases h2:a.home=b.home
 rotate_left
 ·have f2:(a.home=b.home)=False:=eq_false h2
  simp only [AS.start,Q3,XC,f1,f2,↓X2,wA,seval,wE]
  exact fin rfl (no (fun h=>by rw [h]) h2)
 have f2:(a.home=b.home)=True:=eq_true h2
 by_cases h3:a.rim.length=b.rim.length
 rotate_left
 ·have f3:(a.rim.length=b.rim.length)=False:=eq_false h3
  have f3':((a.rim.length:Int)=b.rim.length)=False:=eq_false (by omega)
  simp only [AS.start,Q3,XC,Xf,f1,f2,f3,f3',↓X2,wA,seval,wE]
  exact fin rfl (no (fun h=>by rw [h]) h3)
 have f3:(a.rim.length=b.rim.length)=True:=eq_true h3
 have f3':((a.rim.length:Int)=b.rim.length)=True:=eq_true (by omega)
 by_cases h4:a.worn.length=b.worn.length
 rotate_left
 ·have f4:(a.worn.length=b.worn.length)=False:=eq_false h4
  have f4':((a.worn.length:Int)=b.worn.length)=False:=eq_false (by omega)
  simp only [AS.start,Q3,XC,Xf,Xl,f1,f2,f3,f3',f4,f4',↓X2,wA,seval,wE]
  exact fin rfl (no (fun h=>by rw [h]) h4)
 have f4:(a.worn.length=b.worn.length)=True:=eq_true h4
 have f4':((a.worn.length:Int)=b.worn.length)=True:=eq_true (by omega)
 simp only [AS.start,Q3,XC,Xf,Xl,f1,f2,f3,f3',f4,f4',↓X2,wA,seval,wE]
 refine X0 (YO a.marks b.marks (by omega)) rfl ?_
 by_cases h5:a.marks=b.marks
 rotate_left
 ·rw [decide_eq_false h5]
  simp only [↓X2,wA,seval,wE]
  exact fin rfl (no (fun h=>by rw [h]) h5)
 rw [decide_eq_true h5]
 simp only [↓X2,wA,seval,wE]
 refine Xe (fun i:Nat=>⟨7,[],[.any,.any,.ref 0 0 0,.ref 1 0 0,.bool false,I i,.any],[],[.row 0 25 (Xq (XC a)),.row 0 25 (Xq (XC b))]⟩) (fun i=>i≤a.rim.length∧∀ j,j<i→a.rim.getD j (0,0)=b.rim.getD j (0,0)) (fun i=>a.rim.length - i) 0 ⟨by omega,by omega⟩
  (Xa rfl (by simp [Xh,I]) (by simp [Xi]) (by simp [XC,Xf,Xl,X4,I])) ?_
 rintro i ⟨hi,hrim⟩ next
 have w1:=wj i (by omega)
 by_cases hi2:i<a.rim.length
 ·have g1:((i:Int)<a.rim.length)=True:=eq_true (by omega)
  have g2:(i<a.rim.length)=True:=eq_true hi2
  have g3:(i<b.rim.length)=True:=eq_true (by omega)
  have g4:(i*2+2≤a.rim.length*2)=True:=eq_true (by omega)
  have g5:(i*2+2≤b.rim.length*2)=True:=eq_true (by omega)
  have g6:(i*2+1≤a.rim.length*2)=True:=eq_true (by omega)
  have g7:(i*2+1≤b.rim.length*2)=True:=eq_true (by omega)
  have g8:(i*2<a.rim.length*2)=True:=eq_true (by omega)
  have g9:(i*2<b.rim.length*2)=True:=eq_true (by omega)
  have ga:(i*2+1<a.rim.length*2)=True:=eq_true (by omega)
  have gb:(i*2+1<b.rim.length*2)=True:=eq_true (by omega)
  have v1:=aw a.rim i
  have v2:=aw b.rim i
  by_cases hx:(a.rim.getD i (0,0)).1=(b.rim.getD i (0,0)).1
  rotate_left
  ·have q1:((a.rim.getD i (0,0)).1=(b.rim.getD i (0,0)).1)=False:=eq_false hx
   refine X1 1000 ?_
   simp only [XC,Xf,w1,g1,g2,g3,g4,g5,g6,g7,g8,g9,ga,gb,v1,v2,q1,Int.toNat_natCast,↓X2,wA,seval,wE]
   exact fin rfl (no (fun h=>by rw [h]) hx)
  have q1:((a.rim.getD i (0,0)).1=(b.rim.getD i (0,0)).1)=True:=eq_true hx
  by_cases hy:(a.rim.getD i (0,0)).2=(b.rim.getD i (0,0)).2
  rotate_left
  ·have q2:((a.rim.getD i (0,0)).2=(b.rim.getD i (0,0)).2)=False:=eq_false hy
   refine X1 1000 ?_
   simp only [XC,Xf,w1,g1,g2,g3,g4,g5,g6,g7,g8,g9,ga,gb,v1,v2,q1,q2,Int.toNat_natCast,↓X2,wA,seval,wE]
   exact fin rfl (no (fun h=>by rw [h]) hy)
  have q2:((a.rim.getD i (0,0)).2=(b.rim.getD i (0,0)).2)=True:=eq_true hy
  refine X1 1000 ?_
  simp only [XC,Xf,w1,g1,g2,g3,g4,g5,g6,g7,g8,g9,ga,gb,v1,v2,q1,q2,Int.toNat_natCast,↓X2,wA,seval,wE]
  refine next (i+1) _ ⟨by omega,JR.2 ⟨hrim,Prod.ext hx hy⟩⟩ (by omega) (Xa rfl (by simp [Xh,I]) (by simp [Xi]) (by simp [XC,Xf,Xl,X4,I]))
 obtain rfl:i=a.rim.length:=by omega
 have er:a.rim=b.rim:=List.ext_getElem h3 fun i h1 h2=>by
  have:=hrim i h1
  rwa [List.getD_eq_getElem?_getD,List.getElem?_eq_getElem h1,List.getD_eq_getElem?_getD,List.getElem?_eq_getElem h2] at this
 refine X1 1000 ?_
 simp only [XC,Xf,Int.lt_irrefl,Nat.lt_irrefl,↓X2,wA,seval,wE]
 refine Xe (fun i:Nat=>⟨7,[],[.any,.any,.ref 0 0 0,.ref 1 0 0,.bool false,.any,I i],[],[.row 0 25 (Xq (XC a)),.row 0 25 (Xq (XC b))]⟩) (fun i=>i≤a.worn.length∧∀ j,j<i→a.worn.getD j false=b.worn.getD j false) (fun i=>a.worn.length - i) 0 ⟨by omega,by omega⟩
  (Xa rfl (by simp [Xh,I]) (by simp [Xi]) (by simp [XC,Xf,Xl,X4,I])) ?_
 rintro i ⟨hi,hw⟩ next
 have w1:=wj i (by omega)
 by_cases hi2:i<a.worn.length
 ·have g1:((i:Int)<a.worn.length)=True:=eq_true (by omega)
  have g2:(i<a.worn.length)=True:=eq_true hi2
  have g3:(i<b.worn.length)=True:=eq_true (by omega)
  by_cases hx:a.worn.getD i false=b.worn.getD i false
  rotate_left
  ·have q1:(a.worn.getD i false=b.worn.getD i false)=False:=eq_false hx
   have q2:(a.worn.getD i false != b.worn.getD i false)=true:=bne_iff_ne.2 hx
   have q3:(a.worn.getD i false == b.worn.getD i false)=false:=beq_eq_false_iff_ne.2 hx
   refine X1 1000 ?_
   simp only [XC,Xl,w1,g1,g2,g3,q1,q2,q3,Int.toNat_natCast,↓X2,wA,seval,wE]
   exact fin rfl (no (fun h=>by rw [h]) hx)
  have q1:(a.worn.getD i false=b.worn.getD i false)=True:=eq_true hx
  have q2:(a.worn.getD i false != b.worn.getD i false)=false:=by rw [hx]; simp
  have q3:(a.worn.getD i false == b.worn.getD i false)=true:=by rw [hx]; simp
  refine X1 1000 ?_
  simp only [XC,Xl,w1,g1,g2,g3,q1,q2,q3,Int.toNat_natCast,↓X2,wA,seval,wE]
  exact next (i+1) _ ⟨by omega,JR.2 ⟨hw,hx⟩⟩ (by omega) (Xa rfl (by simp [Xh,I]) (by simp [Xi]) (by simp [XC,Xf,Xl,X4,I]))
 obtain rfl:i=a.worn.length:=by omega
 have ew:a.worn=b.worn:=List.ext_getElem h4 fun i h1 h2=>by
  have:=hw i h1
  rwa [List.getD_eq_getElem?_getD,List.getElem?_eq_getElem h1,List.getD_eq_getElem?_getD,List.getElem?_eq_getElem h2] at this
 have c1:=Aq a.tol b.tol (by have:=ha.tol; omega) (by have:=hb.tol; omega)
 have c2:=Aq a.light b.light (by have:=ha.light; omega) (by have:=hb.light; omega)
 have c3:=Aq a.heavy b.heavy (by have:=ha.heavy; omega) (by have:=hb.heavy; omega)
 have c4:=Aq a.strength b.strength (by have:=ha.strength; omega) (by have:=hb.strength; omega)
 have c5:=Aq a.rough b.rough (by have:=ha.rough; omega) (by have:=hb.rough; omega)
 refine X1 1000 ?_
 simp only [XC,Xl,Int.lt_irrefl,Nat.lt_irrefl,↓X2,wA,seval,wE]
 refine X0 c1 rfl ?_
 by_cases n1:a.tol=b.tol
 rotate_left
 ·rw [decide_eq_false n1]
  simp only [↓X2,wA,seval,wE]
  exact fin rfl (no (fun h=>by rw [h]) n1)
 rw [decide_eq_true n1]
 simp only [↓X2,wA,seval,wE]
 refine X0 c2 rfl ?_
 by_cases n2:a.light=b.light
 rotate_left
 ·rw [decide_eq_false n2]
  simp only [↓X2,wA,seval,wE]
  exact fin rfl (no (fun h=>by rw [h]) n2)
 rw [decide_eq_true n2]
 simp only [↓X2,wA,seval,wE]
 refine X0 c3 rfl ?_
 by_cases n3:a.heavy=b.heavy
 rotate_left
 ·rw [decide_eq_false n3]
  simp only [↓X2,wA,seval,wE]
  exact fin rfl (no (fun h=>by rw [h]) n3)
 rw [decide_eq_true n3]
 simp only [↓X2,wA,seval,wE]
 refine X0 c4 rfl ?_
 by_cases n4:a.strength=b.strength
 rotate_left
 ·rw [decide_eq_false n4]
  simp only [↓X2,wA,seval,wE]
  exact fin rfl (no (fun h=>by rw [h]) n4)
 rw [decide_eq_true n4]
 simp only [↓X2,wA,seval,wE]
 refine X0 c5 rfl ?_
 simp only [↓X2,wA,seval,wE]
 refine fin rfl ?_
 rw [hV,decide_eq_decide,PV.eq_iff]
 exact ⟨fun h=>⟨⟨n1,n2,n3,n4,h⟩,h1,h2,er,ew,h5⟩,fun h=>h.1.2.2.2.2⟩
theorem V0 (p c:PV) (hp:p.small) (hc:c.small) {a b:Rat} (ea:p.tol=RQ.of a) (eb:c.tol=RQ.of b):Fn Tryz.prog 26 [Q3 p,Q3 c] (.bool (decide (p=Zz p c∧a≤b))):=by
 have c1:=YP p (Zz p c) hp (H8 hp hc)
 have c2:=gH eb ea hc.tol hp.tol
 obtain ⟨V,hV⟩:∃ V,V=decide (p=Zz p c∧a≤b):=⟨_,rfl⟩
 have fin:∀ {s:AS} {v:Bool},s.get 4=.bool v→v=V→RetOk (Qn Tryz.prog Tryz.f26 [] [] (.bool V)) s:=fun h e=>Xs rfl h (X3 _) (by rw [e])
 rw [← hV]
 refine Fq Tryz.call26 Tryz.func26 5 [] [] [] (by simp [Xu]) (X1 1000 ?_)
 simp only [AS.start,Q3,XC,↓X2,wA,seval,wE]
 refine X0 c2 rfl ?_
 by_cases h:Q6 b a<0
 ·have f1:(Q6 b a<0)=True:=eq_true h
  simp only [f1,↓X2,wA,seval,wE]
  exact fin rfl (by rw [hV,decide_eq_false fun hh=>Rat.not_le.2 ((K7 _ _).1 h) hh.2])
 have f1:(Q6 b a<0)=False:=eq_false h
 simp only [f1,↓X2,wA,seval,wE]
 refine X0 c1 rfl ?_
 simp only [↓X2,wA,seval,wE]
 refine fin rfl ?_
 rw [hV,decide_eq_decide]
 exact ⟨fun hh=>⟨hh,by rw [← Rat.not_lt]; exact fun hl=>h ((K7 _ _).2 hl)⟩,fun hh=>hh.1⟩
def ZQ (p:PV) (a:Rat) (n:Int):PV:=ZP p (QW n 900) (QW n 5) (a+Rat.divInt (QW n 6) 4)
theorem Wz (p:PV) (n:Int) (hn:Z4 n) {a:Rat} (ea:p.tol=RQ.of a) (ha:qb a≤100000):Fn Tryz.prog 23 [Q3 p,I n] (Q3 (ZQ p a n)):=by
 have c1:=AD n 900 hn (by omega)
 have c2:=AD n 5 hn (by omega)
 have c3:=AD n 6 hn (by omega)
 have hb:=Zc n 6 (by omega)
 have c4:=Jk (QW n 6) 4 ⟨by omega,by omega⟩ ⟨by omega,by omega⟩
 have hq:=KA (QW n 6) 4 3 (by omega) (QM ⟨by omega,by omega⟩) (QM ⟨by omega,by omega⟩)
 have c5:=Jr a (Rat.divInt (QW n 6) 4) (by unfold rm; omega) (by unfold rm; omega)
 replace c5:Fn Tryz.prog 76 [p.tol.A,qA (Rat.divInt (QW n 6) 4)] (qA (a+Rat.divInt (QW n 6) 4)):=by rw [ea]; exact c5
 obtain ⟨R,hR⟩:∃ R,R=ZQ p a n:=⟨_,rfl⟩
 rw [← hR]
 refine Fq Tryz.call23 Tryz.func23 6 [] [4,50000002] [] (by simp [Xu,X9]) (X1 1000 ?_)
 simp only [AS.start,Q3,XC,↓X2,wA,seval,wE]
 refine X0 c1 rfl ?_
 simp only [↓X2,wA,seval,wE]
 refine X0 c2 rfl ?_
 simp only [↓X2,wA,seval,wE]
 refine X0 c3 rfl ?_
 simp only [↓X2,wA,seval,wE]
 refine X0 c4 rfl ?_
 simp only [↓X2,wA,seval,wE]
 refine X0 c5 rfl ?_
 simp only [↓X2,wA,seval,wE]
 subst hR
 exact Z7 rfl MP rfl rfl rfl (Xu _) rfl
theorem FF {a:Rat} (h:qb a≤rm):(RQ.of a).sz<4611686018427387904:=Nat.lt_of_le_of_lt (RQ.of_sz a) (by unfold rm at h; omega)
theorem GK (a b:Rat) (ha:qb a≤rm) (hb:qb b≤rm):Fn Tryz.prog 29 [qA a,qA b] (.bool (decide (a=b))):=by
 have:=Lw (RQ.of a) (RQ.of b) (FF ha) (FF hb)
 rwa [decide_eq_decide.2 (show RQ.of a=RQ.of b↔a=b from ⟨RQ.of_inj,fun h=>by rw [h]⟩)] at this
theorem Bk (a b:Rat) (ha:qb a≤rm) (hb:qb b≤rm):Fn Tryz.prog 86 [qA a,qA b] (.bool (decide (a=b))):=by
 have:=Aq (RQ.of a) (RQ.of b) (FF ha) (FF hb)
 rwa [decide_eq_decide.2 (show RQ.of a=RQ.of b↔a=b from ⟨RQ.of_inj,fun h=>by rw [h]⟩)] at this
theorem Vr (a:Rat) (ha:qb a≤rm):Fn Tryz.prog 79 [qA a] (.bool true):=by
 have:=Ed (RQ.of a) (Nat.lt_of_le_of_lt (RQ.of_sz a) (by unfold rm at ha; omega))
 rwa [decide_eq_true ⟨a,rfl⟩] at this
theorem Ln (a:Rat) (ha:qb a≤rm):Fn Tryz.prog 83 [qA a] (.bool true):=by
 have:=G0 (RQ.of a) (Nat.lt_of_le_of_lt (RQ.of_sz a) (by unfold rm at ha; omega))
 rwa [decide_eq_true ⟨a,rfl⟩] at this
def Lv (t a:V2):V2:=⟨t.x*a.x - t.y*a.y,t.y*a.x+t.x*a.y⟩
def V2.scale (a:V2) (k:Rat):V2:=⟨a.x*k,a.y*k⟩
def CV (t:V2):Prop:=t.x*t.x+t.y*t.y=1
def KG:V2:=⟨1,0⟩
theorem CY (t a:V2):vb (Lv t a)≤2*(vb t+vb a)+1:=by
 have:=Qx t.x a.x; have:=Qx t.y a.y; have:=Qx t.y a.x; have:=Qx t.x a.y
 have:=Qw t; have:=Qr t; have:=Qw a; have:=Qr a
 have:=F5 (t.x*a.x) (t.y*a.y); have:=Jq (t.y*a.x) (t.x*a.y)
 unfold Lv
 show max (qb (t.x*a.x - t.y*a.y)) (qb (t.y*a.x+t.x*a.y))≤_
 omega
theorem ix (a:V2) (k:Rat):vb (a.scale k)≤vb a+qb k:=by
 have:=Qx a.x k; have:=Qx a.y k; have:=Qw a; have:=Qr a
 unfold V2.scale
 show max (qb (a.x*k)) (qb (a.y*k))≤_
 omega
theorem Bg:Rat.divInt 1 1=1:=by decide +kernel
theorem V2.ext' {a b:V2}:a=b↔a.x=b.x∧a.y=b.y:=by
 cases a; cases b
 simp
theorem HX (a b:V2) (ha:vb a≤vm) (hb:vb b≤vm):Fn Tryz.prog 42 [vA a,vA b] (.bool (decide (a=b))):=by
 unfold vm at ha hb
 have:=Qw a; have:=Qw b; have:=Qr a; have:=Qr b
 have c1:=GK a.x b.x (by unfold rm; omega) (by unfold rm; omega)
 have c2:=GK a.y b.y (by unfold rm; omega) (by unfold rm; omega)
 obtain ⟨V,hV⟩:∃ V,V=decide (a=b):=⟨_,rfl⟩
 rw [← hV]
 refine Fq Tryz.call42 Tryz.func42 5 [] [] [] (by simp [wS]) (X1 1000 ?_); simp (config:={ maxSteps:=2000000 }) only [AS.start,↓X2,wA,seval,wE]
 refine X0 c1 rfl ?_
 by_cases h:a.x=b.x
 ·rw [decide_eq_true h]
  simp only [↓X2,wA,seval,wE]
  refine X0 c2 rfl ?_
  simp only [↓X2,wA,seval,wE]
  exact Xs (v:=.bool (decide (a.y=b.y))) rfl rfl (X3 _) (by rw [hV]; exact congrArg AV.bool (decide_eq_decide.2 (show a.y=b.y↔a=b from ⟨fun e=>V2.ext'.2 ⟨h,e⟩,fun e=>(V2.ext'.1 e).2⟩)))
 ·rw [decide_eq_false h]
  simp only [↓X2,wA,seval,wE]
  exact Xs (v:=.bool false) rfl rfl (X3 _) (by rw [hV,decide_eq_false (p:=a=b) fun e=>h (by rw [e])])
theorem Hd (a b:V2) (ha:vb a≤vm) (hb:vb b≤vm):Fn Tryz.prog 67 [vA a,vA b] (.bool (decide (a=b))):=by
 unfold vm at ha hb
 have:=Qw a; have:=Qw b; have:=Qr a; have:=Qr b
 have c1:=GK a.x b.x (by unfold rm; omega) (by unfold rm; omega)
 have c2:=GK a.y b.y (by unfold rm; omega) (by unfold rm; omega)
 obtain ⟨V,hV⟩:∃ V,V=decide (a=b):=⟨_,rfl⟩
 rw [← hV]
 refine Fq Tryz.call67 Tryz.func67 5 [] [] [] (by simp [wS]) (X1 1000 ?_); simp (config:={ maxSteps:=2000000 }) only [AS.start,↓X2,wA,seval,wE]
 refine X0 c1 rfl ?_
 by_cases h:a.x=b.x
 ·rw [decide_eq_true h]
  simp only [↓X2,wA,seval,wE]
  refine X0 c2 rfl ?_
  simp only [↓X2,wA,seval,wE]
  exact Xs (v:=.bool (decide (a.y=b.y))) rfl rfl (X3 _) (by rw [hV]; exact congrArg AV.bool (decide_eq_decide.2 (show a.y=b.y↔a=b from ⟨fun e=>V2.ext'.2 ⟨h,e⟩,fun e=>(V2.ext'.1 e).2⟩)))
 ·rw [decide_eq_false h]
  simp only [↓X2,wA,seval,wE]
  exact Xs (v:=.bool false) rfl rfl (X3 _) (by rw [hV,decide_eq_false (p:=a=b) fun e=>h (by rw [e])])
theorem O8 (a b:V2) (ha:vb a≤vm) (hb:vb b≤vm):Fn Tryz.prog 59 [vA a,vA b] (vA (a.add b)):=by
 unfold vm at ha hb
 obtain ⟨R,hR⟩:∃ R,R=vA (a.add b):=⟨_,rfl⟩
 have sR:Settled R:=hR▸Xn _
 have:=Qw a; have:=Qw b; have:=Qr a; have:=Qr b
 have c1:=Az a.x b.x (by unfold rm; omega) (by unfold rm; omega)
 have c2:=Az a.y b.y (by unfold rm; omega) (by unfold rm; omega)
 rw [← hR]
 refine Fq Tryz.call59 Tryz.func59 5 [] [] [] (by simp [wS]) (X1 1000 ?_); simp (config:={ maxSteps:=2000000 }) only [AS.start,↓X2,wA,seval,wE]
 refine X0 c1 rfl ?_
 simp only [↓X2,wA,seval,wE]
 refine X0 c2 rfl ?_
 simp only [↓X2,wA,seval,wE]
 exact Z7 rfl Jh rfl rfl rfl sR (hR.trans rfl)
theorem Nc (a:V2) (k:Rat) (ha:vb a≤vm) (hk:qb k≤vm):Fn Tryz.prog 58 [vA a,qA k] (vA (a.scale k)):=by
 unfold vm at ha hk
 obtain ⟨R,hR⟩:∃ R,R=vA (a.scale k):=⟨_,rfl⟩
 have sR:Settled R:=hR▸Xn _
 have:=Qw a; have:=Qr a
 have c1:=Ks a.x k (by unfold rm; omega) (by unfold rm; omega)
 have c2:=Ks a.y k (by unfold rm; omega) (by unfold rm; omega)
 rw [← hR]
 refine Fq Tryz.call58 Tryz.func58 5 [] [] [] (by simp [wS]) (X1 1000 ?_); simp (config:={ maxSteps:=2000000 }) only [AS.start,↓X2,wA,seval,wE]
 refine X0 c1 rfl ?_
 simp only [↓X2,wA,seval,wE]
 refine X0 c2 rfl ?_
 simp only [↓X2,wA,seval,wE]
 exact Z7 rfl Jh rfl rfl rfl sR (hR.trans rfl)
theorem Yz:Fn Tryz.prog 203 [] (vA KG):=by
 have c1:=CR 1 1 ⟨by omega,by omega⟩ ⟨by omega,by omega⟩
 rw [Bg] at c1
 obtain ⟨R,hR⟩:∃ R,R=vA KG:=⟨_,rfl⟩
 have sR:Settled R:=hR▸Xn _
 rw [← hR]
 refine Fq Tryz.call203 Tryz.func203 1 [] [] [] (by simp [wS]) (X1 1000 ?_); simp (config:={ maxSteps:=2000000 }) only [AS.start,↓X2,wA,seval,wE]
 refine X0 c1 rfl ?_
 simp only [↓X2,wA,seval,wE]
 refine G3 rfl Do rfl rfl rfl ?_
 rw [hR]
 exact ZZ ⟨(X3 _).sees _,(X7 _).sees _,(X3 _).sees _,(X7 _).sees _,(X3 _).sees _,Xr (X7 _) (QJ (by show Xb (0:Rat).num.natAbs=[]; rw [Rat.zero_num]; simp [XZ])),(X3 _).sees _,Xr (X7 _) (QJ (Dy rfl)),trivial⟩
theorem Ll (a b:V2) (ha:vb a≤vm) (hb:vb b≤vm):Fn Tryz.prog 48 [vA a,vA b] (.bool (decide (a=b))):=by
 unfold vm at ha hb
 have:=Qw a; have:=Qw b; have:=Qr a; have:=Qr b
 have c1:=Bk a.x b.x (by unfold rm; omega) (by unfold rm; omega)
 have c2:=Bk a.y b.y (by unfold rm; omega) (by unfold rm; omega)
 obtain ⟨V,hV⟩:∃ V,V=decide (a=b):=⟨_,rfl⟩
 rw [← hV]
 refine Fq Tryz.call48 Tryz.func48 5 [] [] [] (by simp [wS]) (X1 1000 ?_); simp (config:={ maxSteps:=2000000 }) only [AS.start,↓X2,wA,seval,wE]
 refine X0 c1 rfl ?_
 by_cases h:a.x=b.x
 ·rw [decide_eq_true h]
  simp only [↓X2,wA,seval,wE]
  refine X0 c2 rfl ?_
  simp only [↓X2,wA,seval,wE]
  exact Xs (v:=.bool (decide (a.y=b.y))) rfl rfl (X3 _) (by rw [hV]; exact congrArg AV.bool (decide_eq_decide.2 (show a.y=b.y↔a=b from ⟨fun e=>V2.ext'.2 ⟨h,e⟩,fun e=>(V2.ext'.1 e).2⟩)))
 ·rw [decide_eq_false h]
  simp only [↓X2,wA,seval,wE]
  exact Xs (v:=.bool false) rfl rfl (X3 _) (by rw [hV,decide_eq_false (p:=a=b) fun e=>h (by rw [e])])
theorem BD (a b:V2) (ha:vb a≤vm) (hb:vb b≤vm):Fn Tryz.prog 41 [vA a,vA b] (.bool (decide (a=b))):=by
 unfold vm at ha hb
 have:=Qw a; have:=Qw b; have:=Qr a; have:=Qr b
 have c1:=Bk a.x b.x (by unfold rm; omega) (by unfold rm; omega)
 have c2:=Bk a.y b.y (by unfold rm; omega) (by unfold rm; omega)
 obtain ⟨V,hV⟩:∃ V,V=decide (a=b):=⟨_,rfl⟩
 rw [← hV]
 refine Fq Tryz.call41 Tryz.func41 5 [] [] [] (by simp [wS]) (X1 1000 ?_); simp (config:={ maxSteps:=2000000 }) only [AS.start,↓X2,wA,seval,wE]
 refine X0 c1 rfl ?_
 by_cases h:a.x=b.x
 ·rw [decide_eq_true h]
  simp only [↓X2,wA,seval,wE]
  refine X0 c2 rfl ?_
  simp only [↓X2,wA,seval,wE]
  exact Xs (v:=.bool (decide (a.y=b.y))) rfl rfl (X3 _) (by rw [hV]; exact congrArg AV.bool (decide_eq_decide.2 (show a.y=b.y↔a=b from ⟨fun e=>V2.ext'.2 ⟨h,e⟩,fun e=>(V2.ext'.1 e).2⟩)))
 ·rw [decide_eq_false h]
  simp only [↓X2,wA,seval,wE]
  exact Xs (v:=.bool false) rfl rfl (X3 _) (by rw [hV,decide_eq_false (p:=a=b) fun e=>h (by rw [e])])
theorem F6 (a b:V2) (ha:vb a≤vm) (hb:vb b≤vm):Fn Tryz.prog 111 [vA a,vA b] (vA (a.add b)):=by
 unfold vm at ha hb
 obtain ⟨R,hR⟩:∃ R,R=vA (a.add b):=⟨_,rfl⟩
 have sR:Settled R:=hR▸Xn _
 have:=Qw a; have:=Qw b; have:=Qr a; have:=Qr b
 have c1:=Jr a.x b.x (by unfold rm; omega) (by unfold rm; omega)
 have c2:=Jr a.y b.y (by unfold rm; omega) (by unfold rm; omega)
 rw [← hR]
 refine Fq Tryz.call111 Tryz.func111 5 [] [] [] (by simp [wS]) (X1 1000 ?_); simp (config:={ maxSteps:=2000000 }) only [AS.start,↓X2,wA,seval,wE]
 refine X0 c1 rfl ?_
 simp only [↓X2,wA,seval,wE]
 refine X0 c2 rfl ?_
 simp only [↓X2,wA,seval,wE]
 exact Z7 rfl Jh rfl rfl rfl sR (hR.trans rfl)
theorem Oh (a:V2) (k:Rat) (ha:vb a≤vm) (hk:qb k≤vm):Fn Tryz.prog 211 [vA a,qA k] (vA (a.scale k)):=by
 unfold vm at ha hk
 obtain ⟨R,hR⟩:∃ R,R=vA (a.scale k):=⟨_,rfl⟩
 have sR:Settled R:=hR▸Xn _
 have:=Qw a; have:=Qr a
 have c1:=QR a.x k (by unfold rm; omega) (by unfold rm; omega)
 have c2:=QR a.y k (by unfold rm; omega) (by unfold rm; omega)
 rw [← hR]
 refine Fq Tryz.call211 Tryz.func211 5 [] [] [] (by simp [wS]) (X1 1000 ?_); simp (config:={ maxSteps:=2000000 }) only [AS.start,↓X2,wA,seval,wE]
 refine X0 c1 rfl ?_
 simp only [↓X2,wA,seval,wE]
 refine X0 c2 rfl ?_
 simp only [↓X2,wA,seval,wE]
 exact Z7 rfl Jh rfl rfl rfl sR (hR.trans rfl)
theorem Oi:Fn Tryz.prog 213 [] (vA KG):=by
 have c1:=Jk 1 1 ⟨by omega,by omega⟩ ⟨by omega,by omega⟩
 rw [Bg] at c1
 obtain ⟨R,hR⟩:∃ R,R=vA KG:=⟨_,rfl⟩
 have sR:Settled R:=hR▸Xn _
 rw [← hR]
 refine Fq Tryz.call213 Tryz.func213 1 [] [] [] (by simp [wS]) (X1 1000 ?_); simp (config:={ maxSteps:=2000000 }) only [AS.start,↓X2,wA,seval,wE]
 refine X0 c1 rfl ?_
 simp only [↓X2,wA,seval,wE]
 refine G3 rfl Do rfl rfl rfl ?_
 rw [hR]
 exact ZZ ⟨(X3 _).sees _,(X7 _).sees _,(X3 _).sees _,(X7 _).sees _,(X3 _).sees _,Xr (X7 _) (QJ (by show Xb (0:Rat).num.natAbs=[]; rw [Rat.zero_num]; simp [XZ])),(X3 _).sees _,Xr (X7 _) (QJ (Dy rfl)),trivial⟩
theorem Le (t a:V2) (ht:vb t≤vm) (ha:vb a≤vm):Fn Tryz.prog 43 [vA t,vA a] (vA (Lv t a)):=by
 unfold vm at ht ha
 obtain ⟨R,hR⟩:∃ R,R=vA (Lv t a):=⟨_,rfl⟩
 have sR:Settled R:=hR▸Xn _
 have:=Qw t; have:=Qr t; have:=Qw a; have:=Qr a
 have m1:=Qx t.x a.x; have m2:=Qx t.y a.y; have m3:=Qx t.y a.x; have m4:=Qx t.x a.y
 have c1:=Ks t.x a.x (by unfold rm; omega) (by unfold rm; omega)
 have c2:=Ks t.y a.y (by unfold rm; omega) (by unfold rm; omega)
 have c3:=CP (t.y*a.y)
 have c4:=FO (t.x*a.x) (-(t.y*a.y)) (by omega) (by rw [BB]; omega)
 rw [← Rat.sub_eq_add_neg] at c4
 have c5:=Ks t.y a.x (by unfold rm; omega) (by unfold rm; omega)
 have c6:=Ks t.x a.y (by unfold rm; omega) (by unfold rm; omega)
 have c7:=FO (t.y*a.x) (t.x*a.y) (by omega) (by omega)
 rw [← hR]
 refine Fq Tryz.call43 Tryz.func43 5 [] [] [] (by simp [wS]) (X1 1000 ?_); simp (config:={ maxSteps:=2000000 }) only [AS.start,↓X2,wA,seval,wE]
 refine X0 c1 rfl ?_
 simp only [↓X2,wA,seval,wE]
 refine X0 c2 rfl ?_
 simp only [↓X2,wA,seval,wE]
 refine X0 c3 rfl ?_
 simp only [↓X2,wA,seval,wE]
 refine X0 c4 rfl ?_
 simp only [↓X2,wA,seval,wE]
 refine X0 c5 rfl ?_
 simp only [↓X2,wA,seval,wE]
 refine X0 c6 rfl ?_
 simp only [↓X2,wA,seval,wE]
 refine X0 c7 rfl ?_
 simp only [↓X2,wA,seval,wE]
 exact Z7 rfl Jh rfl rfl rfl sR (hR.trans rfl)
theorem C7 (t a:V2) (ht:vb t≤vm) (ha:vb a≤vm):Fn Tryz.prog 105 [vA t,vA a] (vA (Lv t a)):=by
 unfold vm at ht ha
 obtain ⟨R,hR⟩:∃ R,R=vA (Lv t a):=⟨_,rfl⟩
 have sR:Settled R:=hR▸Xn _
 have:=Qw t; have:=Qr t; have:=Qw a; have:=Qr a
 have m1:=Qx t.x a.x; have m2:=Qx t.y a.y; have m3:=Qx t.y a.x; have m4:=Qx t.x a.y
 have c1:=QR t.x a.x (by unfold rm; omega) (by unfold rm; omega)
 have c2:=QR t.y a.y (by unfold rm; omega) (by unfold rm; omega)
 have c4:=Zv (t.x*a.x) (t.y*a.y) (by unfold rm; omega) (by unfold rm; omega)
 have c5:=QR t.y a.x (by unfold rm; omega) (by unfold rm; omega)
 have c6:=QR t.x a.y (by unfold rm; omega) (by unfold rm; omega)
 have c7:=Jr (t.y*a.x) (t.x*a.y) (by unfold rm; omega) (by unfold rm; omega)
 rw [← hR]
 refine Fq Tryz.call105 Tryz.func105 7 [] [1,20000002,20000003,2,30000002,30000003] [] (by simp [wS]) (X1 1000 ?_); simp (config:={ maxSteps:=2000000 }) only [AS.start,↓X2,wA,seval,wE]
 refine X0 c1 rfl ?_
 simp only [↓X2,wA,seval,wE]
 refine X0 c2 rfl ?_
 simp only [↓X2,wA,seval,wE]
 refine X0 c4 rfl ?_
 simp only [↓X2,wA,seval,wE]
 refine X0 c5 rfl ?_
 simp only [↓X2,wA,seval,wE]
 refine X0 c6 rfl ?_
 simp only [↓X2,wA,seval,wE]
 refine X0 c7 rfl ?_
 simp only [↓X2,wA,seval,wE]
 exact Z7 rfl Jh rfl rfl rfl sR (hR.trans rfl)
theorem gm (t:V2) (ht:vb t≤vm):Fn Tryz.prog 123 [vA t] (.bool (decide (CV t))):=by
 unfold vm at ht
 have:=Qw t; have:=Qr t
 have m1:=Qx t.x t.x; have m2:=Qx t.y t.y; have m3:=Jq (t.x*t.x) (t.y*t.y)
 have v1:=Vr t.x (by unfold rm; omega)
 have v2:=Vr t.y (by unfold rm; omega)
 have c1:=Ks t.x t.x (by unfold rm; omega) (by unfold rm; omega)
 have c2:=Ks t.y t.y (by unfold rm; omega) (by unfold rm; omega)
 have c3:=FO (t.x*t.x) (t.y*t.y) (by omega) (by omega)
 have c4:=CR 1 1 ⟨by omega,by omega⟩ ⟨by omega,by omega⟩
 rw [Bg] at c4
 have c5:=GK (t.x*t.x+t.y*t.y) 1 (by unfold rm; omega) (by have:=(CK 1 1 ⟨by omega,by omega⟩ ⟨by omega,by omega⟩); rw [Bg] at this; unfold rm; omega)
 rw [show decide (t.x*t.x+t.y*t.y=1)=decide (CV t) from decide_eq_decide.2 Iff.rfl] at c5
 refine Fq Tryz.call123 Tryz.func123 3 [] [] [] (by simp [wS]) (X1 1000 ?_); simp (config:={ maxSteps:=2000000 }) only [AS.start,↓X2,wA,seval,wE]
 refine X0 v1 rfl ?_
 simp only [↓X2,wA,seval,wE]
 refine X0 v2 rfl ?_
 simp only [↓X2,wA,seval,wE]
 refine X0 c1 rfl ?_
 simp only [↓X2,wA,seval,wE]
 refine X0 c2 rfl ?_
 simp only [↓X2,wA,seval,wE]
 refine X0 c3 rfl ?_
 simp only [↓X2,wA,seval,wE]
 refine X0 c4 rfl ?_
 simp only [↓X2,wA,seval,wE]
 refine X0 c5 rfl ?_
 simp only [↓X2,wA,seval,wE]
 exact Xs rfl rfl (X3 _) rfl
theorem Rz (t:V2) (ht:vb t≤vm):Fn Tryz.prog 128 [vA t] (.bool (decide (CV t))):=by
 unfold vm at ht
 have:=Qw t; have:=Qr t
 have m1:=Qx t.x t.x; have m2:=Qx t.y t.y; have m3:=Jq (t.x*t.x) (t.y*t.y)
 have v1:=Ln t.x (by unfold rm; omega)
 have v2:=Ln t.y (by unfold rm; omega)
 have c1:=QR t.x t.x (by unfold rm; omega) (by unfold rm; omega)
 have c2:=QR t.y t.y (by unfold rm; omega) (by unfold rm; omega)
 have c3:=Jr (t.x*t.x) (t.y*t.y) (by unfold rm; omega) (by unfold rm; omega)
 have c4:=Jk 1 1 ⟨by omega,by omega⟩ ⟨by omega,by omega⟩
 rw [Bg] at c4
 have c5:=Bk (t.x*t.x+t.y*t.y) 1 (by unfold rm; omega) (by have:=(CK 1 1 ⟨by omega,by omega⟩ ⟨by omega,by omega⟩); rw [Bg] at this; unfold rm; omega)
 rw [show decide (t.x*t.x+t.y*t.y=1)=decide (CV t) from decide_eq_decide.2 Iff.rfl] at c5
 refine Fq Tryz.call128 Tryz.func128 4 [] [3,40000001] [] (by simp [wS]) (X1 1000 ?_); simp (config:={ maxSteps:=2000000 }) only [AS.start,↓X2,wA,seval,wE]
 refine X0 v1 rfl ?_
 simp only [↓X2,wA,seval,wE]
 refine X0 v2 rfl ?_
 simp only [↓X2,wA,seval,wE]
 refine X0 c1 rfl ?_
 simp only [↓X2,wA,seval,wE]
 refine X0 c2 rfl ?_
 simp only [↓X2,wA,seval,wE]
 refine X0 c3 rfl ?_
 simp only [↓X2,wA,seval,wE]
 refine X0 c4 rfl ?_
 simp only [↓X2,wA,seval,wE]
 refine X0 c5 rfl ?_
 simp only [↓X2,wA,seval,wE]
 exact Xs rfl rfl (X3 _) rfl
end
end Go.Ab.N
