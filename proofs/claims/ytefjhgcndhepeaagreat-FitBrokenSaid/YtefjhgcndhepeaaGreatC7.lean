/- Contracts of functions of these chapters, for every argument that fits, and what they need. -/
import Derived.Test.YtefjhgcndhepeaaGreatC6
set_option linter.unusedSimpArgs false
set_option linter.unusedVariables false
open Nat renaming reducePow → Y1, reduceLT → Y2, reduceLeDiff → Y3, reduceEqDiff → Y4, reduceAdd → Y5, reduceMul → Y6, reduceSub → Y7, reduceBEq → Y8, reduceDiv → Y9, reduceMod → YA
namespace Go.Ab.N
open Go Go.RowKit Go.Proofs
noncomputable section
set_option maxRecDepth 10000
set_option maxHeartbeats 2000000
open Classical
def Hc (p q r s:Rat):Bool:=decide (p<r) && decide (p<s) && decide (q<r) && decide (q<s)
def K2 (n a b c d:V2):Bool:=Hc (Q1 n a) (Q1 n b) (Q1 n c) (Q1 n d) || Hc (Q1 n c) (Q1 n d) (Q1 n a) (Q1 n b)
theorem Wu {p q r s fa fb fc fd:Rat} (h1:p*fd - q*fc=s*fa - r*fb) (h2:p - q=s - r) (hp:0<p) (hq:q<0) (hs:0<s) (hr:r<0) (k1:fa<fc) (k2:fa<fd) (k3:fb<fc) (k4:fb<fd):False:=by
 have pos:∀ x,x<fc→x<fd→0<p*(fd - x)+(-q)*(fc - x):=fun x hx1 hx2=>by
  have:=Rat.mul_pos hp (show 0<fd - x by grind)
  have:=Rat.mul_pos (show 0 < -q by grind) (show 0<fc - x by grind)
  grind
 rcases Rat.le_total (a:=fa) (b:=fb) with h | h
 ·have h3:=pos fb k3 k4
  have h4:=Rat.mul_nonneg (Rat.le_of_lt hs) (show 0≤fb - fa by grind)
  have e1:p*(fd - fb) + -q*(fc - fb)=(p*fd - q*fc) - (p - q)*fb:=by grind
  have e2:(s*fa - r*fb) - (s - r)*fb = -(s*(fb - fa)):=by grind
  rw [e1,h1,h2,e2] at h3
  generalize s*(fb - fa)=z at h3 h4
  grind
 ·have h3:=pos fa k1 k2
  have h4:=Rat.mul_nonneg (show 0≤-r by grind) (show 0≤fa - fb by grind)
  have e1:p*(fd - fa) + -q*(fc - fa)=(p*fd - q*fc) - (p - q)*fa:=by grind
  have e2:(s*fa - r*fb) - (s - r)*fa = -(-r*(fa - fb)):=by grind
  rw [e1,h1,h2,e2] at h3
  generalize -r*(fa - fb)=z at h3 h4
  grind
theorem NI (x:Rat):0≤x*x:=by
 rcases Rat.le_total (a:=0) (b:=x) with h | h
 ·exact Rat.mul_nonneg h h
 ·have:=Rat.mul_nonneg (show 0≤-x by grind) (show 0≤-x by grind)
  grind
theorem UT (n a b c d:V2) (k1:Q1 n a<Q1 n c) (k2:Q1 n a<Q1 n d) (k3:Q1 n b<Q1 n c) (k4:Q1 n b<Q1 n d):I2 a b c d=false:=by
 have h1:Q6 (b.sub a) (c.sub a)*Q1 n d - Q6 (b.sub a) (d.sub a)*Q1 n c=Q6 (d.sub c) (b.sub c)*Q1 n a - Q6 (d.sub c) (a.sub c)*Q1 n b:=by
  unfold Q6 Q1 V2.sub; grind
 have h2:Q6 (b.sub a) (c.sub a) - Q6 (b.sub a) (d.sub a)=Q6 (d.sub c) (b.sub c) - Q6 (d.sub c) (a.sub c):=by
  unfold Q6 V2.sub; grind
 rw [← Bool.not_eq_true]
 intro h
 unfold I2 Jm at h
 simp only [Bool.and_eq_true,decide_eq_true_eq] at h
 generalize Q6 (b.sub a) (c.sub a)=p at h1 h2 h
 generalize Q6 (b.sub a) (d.sub a)=q at h1 h2 h
 generalize Q6 (d.sub c) (a.sub c)=r at h1 h2 h
 generalize Q6 (d.sub c) (b.sub c)=s at h1 h2 h
 have sp:∀ x y:Rat,x.num.sign*y.num.sign<0→(0<x∧y<0)∨(x<0∧0<y):=fun x y h=>by
  rw [← OQ,← OQ,← Wx,← Wx]
  rcases Int.lt_trichotomy x.num.sign 0 with hx | hx | hx
  ·rcases Int.lt_trichotomy y.num.sign 0 with hy | hy | hy
   ·have:=Int.mul_pos_of_neg_of_neg hx hy; omega
   ·rw [hy] at h; omega
   ·exact .inr ⟨hx,hy⟩
  ·rw [hx] at h; omega
  ·rcases Int.lt_trichotomy y.num.sign 0 with hy | hy | hy
   ·exact .inl ⟨hx,hy⟩
   ·rw [hy] at h; omega
   ·have:=Int.mul_pos hx hy; omega
 rcases sp p q h.1 with ⟨hp,hq⟩ | ⟨hp,hq⟩
 ·rcases sp r s h.2 with ⟨hr,hs⟩ | ⟨hr,hs⟩
  ·grind
  ·exact Wu h1 h2 hp hq hs hr k1 k2 k3 k4
 ·rcases sp r s h.2 with ⟨hr,hs⟩ | ⟨hr,hs⟩
  ·exact Wu (p:=-p) (q:=-q) (r:=-r) (s:=-s) (by grind) (by grind) (by grind) (by grind) (by grind) (by grind) k1 k2 k3 k4
  ·grind
theorem US (n a b c:V2) (k1:Q1 n a<Q1 n c) (k2:Q1 n b<Q1 n c):W6 a b c=false:=by
 have hid:Q1 (a.sub c) (b.sub c)*Q1 n (a.sub c) - Q1 (a.sub c) (a.sub c)*Q1 n (b.sub c)=Q6 (b.sub a) (c.sub a)*(n.x*(a.sub c).y - n.y*(a.sub c).x):=by
  unfold Q1 Q6 V2.sub; grind
 have ha:Q1 n (a.sub c)<0:=by
  have:Q1 n (a.sub c)=Q1 n a - Q1 n c:=by unfold Q1 V2.sub; grind
  grind
 have hb:Q1 n (b.sub c)<0:=by
  have:Q1 n (b.sub c)=Q1 n b - Q1 n c:=by unfold Q1 V2.sub; grind
  grind
 have hu:0<Q1 (a.sub c) (a.sub c):=by
  have hx:=NI (a.sub c).x
  have hy:=NI (a.sub c).y
  have hne:¬ Q1 (a.sub c) (a.sub c)=0:=fun h=>by
   unfold Q1 at h
   have h1:(a.sub c).x*(a.sub c).x=0:=by grind
   have h2:(a.sub c).y*(a.sub c).y=0:=by grind
   have h3:(a.sub c).x=0:=by rcases Rat.mul_eq_zero.1 h1 with h | h <;> exact h
   have h4:(a.sub c).y=0:=by rcases Rat.mul_eq_zero.1 h2 with h | h <;> exact h
   unfold Q1 at ha
   rw [h3,h4] at ha
   grind
  unfold Q1 at hne ⊢
  grind
 rw [← Bool.not_eq_true]
 intro h
 unfold W6 Jm at h
 simp only [Bool.and_eq_true,decide_eq_true_eq,FW] at h
 obtain ⟨h1,h2⟩:=h
 rw [h1] at hid
 have h2':Q1 (a.sub c) (b.sub c)≤0:=by
  rw [← Rat.not_lt,← OQ]; omega
 have m1:=Rat.mul_nonneg (show 0≤-Q1 (a.sub c) (b.sub c) by grind) (show 0≤-Q1 n (a.sub c) by grind)
 have m2:=Rat.mul_pos hu (show 0 < -Q1 n (b.sub c) by grind)
 grind
theorem Wv (n a b c:V2) (k1:Q1 n c<Q1 n a) (k2:Q1 n c<Q1 n b):W6 a b c=false :=
 US ⟨-n.x,-n.y⟩ a b c (by unfold Q1 at *; grind) (by unfold Q1 at *; grind)
theorem NG (n a b c d:V2) (k1:Q1 n a<Q1 n c) (k2:Q1 n a<Q1 n d) (k3:Q1 n b<Q1 n c) (k4:Q1 n b<Q1 n d):Cj a b c d=false:=by
 unfold Cj
 rw [UT n a b c d k1 k2 k3 k4,US n a b c k1 k3,US n a b d k2 k4,Wv n c d a k1 k2,Wv n c d b k3 k4]
 rfl
theorem M4 (n a b c d:V2) (h:K2 n a b c d=true):Cj a b c d=false:=by
 unfold K2 Hc at h
 simp only [Bool.or_eq_true,Bool.and_eq_true,decide_eq_true_eq] at h
 rcases h with ⟨⟨⟨h1,h2⟩,h3⟩,h4⟩ | ⟨⟨⟨h1,h2⟩,h3⟩,h4⟩
 ·exact NG n a b c d h1 h2 h3 h4
 ·exact NG ⟨-n.x,-n.y⟩ a b c d (by unfold Q1 at *; grind) (by unfold Q1 at *; grind) (by unfold Q1 at *; grind) (by unfold Q1 at *; grind)
def CI (a b c d:V2):Nat→V2
 | 0=>(b.sub a).turned
 | 1=>(d.sub c).turned
 | 2=>b.sub a
 | 3=>d.sub c
 | _=>c.sub a
def Ac (a b c d:V2):Prop:=∀ i,i<5→K2 (CI a b c d i) a b c d=false
theorem bX (a b c d:V2) (h:¬ Ac a b c d):Cj a b c d=false:=by
 unfold Ac at h
 simp only [Classical.not_forall] at h
 obtain ⟨i,_,h⟩:=h
 exact M4 _ a b c d (by simpa using h)
def Oq (L:List V2) (i k:Nat):Prop:=1<(k+L.length - i) % L.length∧(k+L.length - i) % L.length<L.length - 1∧Ac (atF L i) (atF L (i+1)) (atF L k) (atF L (k+1))
def VU (L:List V2) (i:Nat):Prop:=¬ O8 L i∧∀ k,k<L.length→¬ Oq L i k
def XP (L:List V2):Prop:=(3≤L.length∧L.length≤12)∧(∀ i,i<L.length→VU L i)∧0<(JF L).num.sign
theorem Ad (L:List V2) (h:XP L):Cl L:=by
 obtain ⟨h1,h2,h3⟩:=h
 refine ⟨h1,fun i hi=>⟨(h2 i hi).1,fun k hk1 hk2 hb=>?_⟩,h3⟩
 have hg:=(h2 i hi).2 k hk2
 have e:(k+L.length - i) % L.length=k - i:=by
  rw [show k+L.length - i=(k - i)+L.length by omega,Nat.add_mod_right,Nat.mod_eq_of_lt (by omega)]
 have hne:k - i<L.length - 1:=by
  rcases Nat.lt_or_ge (k - i) (L.length - 1) with h | h
  ·exact h
  ·exfalso
   have h1:k=L.length - 1:=by omega
   have h2:i=0:=by omega
   have:(k+1) % L.length=0:=by rw [show k+1=L.length by omega,Nat.mod_self]
   exact hb.1 (by omega)
 have hm:¬ Ac (atF L i) (atF L (i+1)) (atF L k) (atF L (k+1)):=fun hm=>hg ⟨by omega,by omega,hm⟩
 have:=bX _ _ _ _ hm
 rw [hb.2] at this
 exact absurd this (by decide)
end
end Go.Ab.N
namespace Go.Ab.N
open Go Go.RowKit Go.Proofs
noncomputable section
set_option maxRecDepth 10000
set_option maxHeartbeats 4000000
open Classical
theorem Bk {R:List (Int×Int)} (h:∀ i,i<R.length→UA (R.getD i (0,0))=true):Qs (Xr R) 1000 :=
 UN ⟨0,0,R,[],[],LN,LN,LN,LN,LN⟩ h
end
end Go.Ab.N
namespace Go.Ab.N
open Go Go.RowKit Go.Proofs
noncomputable section
set_option maxRecDepth 10000
set_option maxHeartbeats 2000000
open Classical
theorem TH (n a b c d:V2) (hn:vb n≤vs) (ha:vb a≤vs) (hb:vb b≤vs) (hc:vb c≤vs) (hd:vb d≤vs):Fn Tryz.prog 230 [vA n,vA a,vA b,vA c,vA d] (.bool (K2 n a b c d)):=by
 unfold vs at hn ha hb hc hd
 have e1:=Cq n a (by unfold vm; omega) (by unfold vm; omega)
 have e2:=Cq n b (by unfold vm; omega) (by unfold vm; omega)
 have e3:=Cq n c (by unfold vm; omega) (by unfold vm; omega)
 have e4:=Cq n d (by unfold vm; omega) (by unfold vm; omega)
 have q1:=Bx n a; have q2:=Bx n b; have q3:=Bx n c; have q4:=Bx n d
 obtain ⟨V,hV⟩:∃ V,V=K2 n a b c d:=⟨_,rfl⟩
 rw [← hV]
 unfold K2 at hV
 generalize Q1 n a=p at *
 generalize Q1 n b=q at *
 generalize Q1 n c=r at *
 generalize Q1 n d=s at *
 have k1:=Cr p r (by unfold rm; omega) (by unfold rm; omega)
 have k2:=Cr p s (by unfold rm; omega) (by unfold rm; omega)
 have k3:=Cr q r (by unfold rm; omega) (by unfold rm; omega)
 have k4:=Cr q s (by unfold rm; omega) (by unfold rm; omega)
 obtain ⟨LE,hLE⟩:∃ LE,LE=Hc p q r s:=⟨_,rfl⟩
 obtain ⟨MO,hMO⟩:∃ MO,MO=Hc r s p q:=⟨_,rfl⟩
 rw [← hLE,← hMO] at hV
 have hl:LE=(decide (J3 p r<0) && decide (J3 p s<0) && decide (J3 q r<0) && decide (J3 q s<0)):=by
  rw [hLE]; unfold Hc
  rw [decide_eq_decide.2 (A1 p r),decide_eq_decide.2 (A1 p s),decide_eq_decide.2 (A1 q r),decide_eq_decide.2 (A1 q s)]
 have hm:MO=(decide (0<J3 p r) && decide (0<J3 p s) && decide (0<J3 q r) && decide (0<J3 q s)):=by
  rw [hMO]; unfold Hc
  rw [decide_eq_decide.2 (KP p r),decide_eq_decide.2 (KP p s),decide_eq_decide.2 (KP q r),decide_eq_decide.2 (KP q s)]
  cases decide (r<p) <;> cases decide (r<q) <;> cases decide (s<p) <;> cases decide (s<q) <;> rfl
 have five:∀ (A B C D:Prop) [Decidable A] [Decidable B] [Decidable C] [Decidable D] (X:Bool),X=(decide A && decide B && decide C && decide D)→(X=false∧A=False∧True∧True∧True)∨(X=false∧A=True∧B=False∧True∧True)∨(X=false∧A=True∧B=True∧C=False∧True)∨(X=false∧A=True∧B=True∧C=True∧D=False)∨(X=true∧A=True∧B=True∧C=True∧D=True):=by
  intro A B C D _ _ _ _ X h
  by_cases hA:A
  rotate_left
  ·exact .inl ⟨by rw [h,decide_eq_false hA]; rfl,eq_false hA,trivial,trivial,trivial⟩
  by_cases hB:B
  rotate_left
  ·exact .inr (.inl ⟨by rw [h,decide_eq_true hA,decide_eq_false hB]; rfl,eq_true hA,eq_false hB,trivial,trivial⟩)
  by_cases hC:C
  rotate_left
  ·exact .inr (.inr (.inl ⟨by rw [h,decide_eq_true hA,decide_eq_true hB,decide_eq_false hC]; rfl,eq_true hA,eq_true hB,eq_false hC,trivial⟩))
  by_cases hD:D
  rotate_left
  ·exact .inr (.inr (.inr (.inl ⟨by rw [h,decide_eq_true hA,decide_eq_true hB,decide_eq_true hC,decide_eq_false hD]; rfl,eq_true hA,eq_true hB,eq_true hC,eq_false hD⟩)))
  ·exact .inr (.inr (.inr (.inr ⟨by rw [h,decide_eq_true hA,decide_eq_true hB,decide_eq_true hC,decide_eq_true hD]; rfl,eq_true hA,eq_true hB,eq_true hC,eq_true hD⟩)))
 have cl:=five _ _ _ _ _ hl
 have cm:=five _ _ _ _ _ hm
 clear five hl hm hLE hMO q1 q2 q3 q4 hn ha hb hc hd
 have fin:∀ {s:AS} {v:Bool},s.get 10=.bool v→v=(LE || MO)→RetOk (QS Tryz.prog Tryz.f230 [] [] (.bool V)) s:=fun h e=>Xv rfl h (X2 _) (by rw [e,hV])
 refine Fr Tryz.call230 Tryz.func230 17 [] [] [] ?_
 simp only [AS.start,↓X1,wF,seval]
 refine X0 e1 rfl ?_
 simp only [↓X1,wF,seval]
 refine X0 e2 rfl ?_
 simp only [↓X1,wF,seval]
 refine X0 e3 rfl ?_
 simp only [↓X1,wF,seval]
 refine X0 e4 rfl ?_
 simp only [↓X1,wF,seval]
 rcases cl with ⟨hX,l1,l2,l3,l4⟩ | ⟨hX,l1,l2,l3,l4⟩ | ⟨hX,l1,l2,l3,l4⟩ | ⟨hX,l1,l2,l3,l4⟩ | ⟨hX,l1,l2,l3,l4⟩
 all_goals
  refine X0 k1 rfl ?_
  simp only [l1,l2,l3,l4,↓X1,wF,seval]
  try (refine X0 k2 rfl ?_; simp only [l1,l2,l3,l4,↓X1,wF,seval])
  try (refine X0 k3 rfl ?_; simp only [l1,l2,l3,l4,↓X1,wF,seval])
  try (refine X0 k4 rfl ?_; simp only [l1,l2,l3,l4,↓X1,wF,seval])
  rcases cm with ⟨hY,m1,m2,m3,m4⟩ | ⟨hY,m1,m2,m3,m4⟩ | ⟨hY,m1,m2,m3,m4⟩ | ⟨hY,m1,m2,m3,m4⟩ | ⟨hY,m1,m2,m3,m4⟩
  all_goals
   refine X0 k1 rfl ?_
   simp only [l1,l2,l3,l4,m1,m2,m3,m4,↓X1,wF,seval]
   try (refine X0 k2 rfl ?_; simp only [l1,l2,l3,l4,m1,m2,m3,m4,↓X1,wF,seval])
   try (refine X0 k3 rfl ?_; simp only [l1,l2,l3,l4,m1,m2,m3,m4,↓X1,wF,seval])
   try (refine X0 k4 rfl ?_; simp only [l1,l2,l3,l4,m1,m2,m3,m4,↓X1,wF,seval])
   exact fin rfl (by rw [hX,hY]; rfl)
end
end Go.Ab.N
namespace Go.Ab.N
open Go Go.RowKit Go.Proofs
noncomputable section
set_option maxRecDepth 10000
set_option maxHeartbeats 4000000
open Classical
theorem Un (a b c d:V2) (ha:vb a≤10000) (hb:vb b≤10000) (hc:vb c≤10000) (hd:vb d≤10000):Fn Tryz.prog 184 [vA a,vA b,vA c,vA d] (.bool (decide (Ac a b c d))):=by
 have m1:=KZ b a; have m2:=KZ d c; have m3:=KZ c a
 have u1:=NK (b.sub a); have u2:=NK (d.sub c)
 have c1:=ZS b a (by unfold rm; omega) (by unfold rm; omega)
 have c2:=ZS d c (by unfold rm; omega) (by unfold rm; omega)
 have c5:=ZS c a (by unfold rm; omega) (by unfold rm; omega)
 have c3:=NJ (b.sub a) (by unfold rm; omega)
 have c4:=NJ (d.sub c) (by unfold rm; omega)
 have hA:∀ i,i<5→vb (CI a b c d i)≤vs:=fun i hi=>by
  unfold vs
  match i,hi with
  | 0,_=>show vb (b.sub a).turned≤_; omega
  | 1,_=>show vb (d.sub c).turned≤_; omega
  | 2,_=>show vb (b.sub a)≤_; omega
  | 3,_=>show vb (d.sub c)≤_; omega
  | 4,_=>show vb (c.sub a)≤_; omega
  | i+5,h=>omega
 have kb:∀ i,i<5→Fn Tryz.prog 230 [vA (CI a b c d i),vA a,vA b,vA c,vA d] (.bool (K2 (CI a b c d i) a b c d)):=fun i hi=>TH _ a b c d (hA i hi) (by unfold vs; omega) (by unfold vs; omega) (by unfold vs; omega) (by unfold vs; omega)
 obtain ⟨V,hV⟩:∃ V,V=decide (Ac a b c d):=⟨_,rfl⟩
 rw [← hV]
 unfold Ac at hV
 replace c1:Fn Tryz.prog 104 [vA b,vA a] (vA (CI a b c d 2)):=c1
 replace c2:Fn Tryz.prog 104 [vA d,vA c] (vA (CI a b c d 3)):=c2
 replace c3:Fn Tryz.prog 229 [vA (CI a b c d 2)] (vA (CI a b c d 0)):=c3
 replace c4:Fn Tryz.prog 229 [vA (CI a b c d 3)] (vA (CI a b c d 1)):=c4
 replace c5:Fn Tryz.prog 104 [vA c,vA a] (vA (CI a b c d 4)):=c5
 clear m1 m2 m3 u1 u2 hA ha hb hc hd
 generalize hF:(fun i=>K2 (CI a b c d i) a b c d)=F at *
 have hF':∀ i,K2 (CI a b c d i) a b c d=F i:=fun i=>by rw [← hF]
 simp only [hF'] at kb hV
 clear hF hF'
 generalize CI a b c d=A at *
 have fin:∀ {s:AS} {v:Bool},s.get 8=.bool v→v=V→RetOk (QS Tryz.prog Tryz.f184 [] [] (.bool V)) s:=fun h e=>Xv rfl h (X2 _) (by rw [e])
 have hvc:∀ a:V2,∀ x∈vC a,Settled x:=fun a=>by simp [vC,X6,X2]
 have brow:∀ a:V2,XT 4 (.row 0 8 (Xk (vC a)))=True:=fun a=>eq_true (XL (hvc a))
 have bel:Ko 4 (.sl 5 40 (Xk (vC (A 0) ++ (vC (A 1) ++ (vC (A 2) ++ (vC (A 3) ++ vC (A 4)))))) true)=True:=eq_true (X7 (QX fun j hj=>Xe (fun x hx=>by
  simp only [List.mem_append] at hx
  rcases hx with h | h | h | h | h <;> exact hvc _ _ h) j))
 refine Fr Tryz.call184 Tryz.func184 13 [] [] [] ?_; simp (maxSteps:=999999) only [AS.start,↓X1,wA,↓reduceIte,reduceIte,reduceCtorEq,Y1,Y2,Y3,Y4,Y5,Y6,Y7,Y8,Y9,YA,wE]
 refine X0 c1 rfl ?_
 simp only [↓X1,wA,↓reduceIte,reduceIte,reduceCtorEq,Y1,Y2,Y3,Y4,Y5,Y6,Y7,Y8,Y9,YA,wE]
 refine X0 c2 rfl ?_
 simp only [↓X1,wA,↓reduceIte,reduceIte,reduceCtorEq,Y1,Y2,Y3,Y4,Y5,Y6,Y7,Y8,Y9,YA,wE]
 refine X0 c3 rfl ?_
 simp only [↓X1,wA,↓reduceIte,reduceIte,reduceCtorEq,Y1,Y2,Y3,Y4,Y5,Y6,Y7,Y8,Y9,YA,wE]
 refine X0 c4 rfl ?_
 simp only [↓X1,wA,↓reduceIte,reduceIte,reduceCtorEq,Y1,Y2,Y3,Y4,Y5,Y6,Y7,Y8,Y9,YA,wE]
 refine X0 c5 rfl ?_
 simp only [↓X1,wA,↓reduceIte,reduceIte,reduceCtorEq,Y1,Y2,Y3,Y4,Y5,Y6,Y7,Y8,Y9,YA,wE]
 refine Xd (fun i:Nat=>⟨13,[],[.any,.any,.any,.any,.ref 0 0 0,.ref 1 0 0,.ref 2 0 0,.ref 3 0 0,.bool false,.any,.any,.sl 5 40 (Xk (vC (A 0) ++ (vC (A 1) ++ (vC (A 2) ++ (vC (A 3) ++ vC (A 4)))))) true,I i],[],[.row 0 8 (Xk (vC a)),.row 0 8 (Xk (vC b)),.row 0 8 (Xk (vC c)),.row 0 8 (Xk (vC d))]⟩) (fun i=>i≤5∧∀ j,j<i→F j=false) (fun i=>5 - i) 0 ⟨by omega,by omega⟩
  (uz (m:=4) (by simp [vC,X3,Xf,I]) (by simp [vC,X3]) (by simp [XA,bel]) (by simp [brow])) ?_
 rintro i ⟨hi,hok⟩ next
 have w0:IntKind.i64.wrap (0+1)=1:=by decide
 have w1:IntKind.i64.wrap (1+1)=2:=by decide
 have w2:IntKind.i64.wrap (2+1)=3:=by decide
 have w3:IntKind.i64.wrap (3+1)=4:=by decide
 have w4:IntKind.i64.wrap (4+1)=5:=by decide
 have e0:((0:Nat):Int)=0:=rfl
 have e1:((1:Nat):Int)=1:=rfl
 have e2:((2:Nat):Int)=2:=rfl
 have e3:((3:Nat):Int)=3:=rfl
 have e4:((4:Nat):Int)=4:=rfl
 have e5:((5:Nat):Int)=5:=rfl
 have t1:(1:Int).toNat=1:=rfl
 have t2:(2:Int).toNat=2:=rfl
 have t3:(3:Int).toNat=3:=rfl
 have t4:(4:Int).toNat=4:=rfl
 by_cases hi5:i<5
 ·have k:=kb i hi5
  have hcase:i=0∨i=1∨i=2∨i=3∨i=4:=by omega
  by_cases hv:F i=true
  ·rw [hv] at k
   have hb:false=V:=by
    rw [hV,decide_eq_false]
    intro h
    rw [h i hi5] at hv; cases hv
   rcases hcase with rfl | rfl | rfl | rfl | rfl
   all_goals
    refine Xj ?_
    simp only [vC,List.cons_append,List.nil_append,e0,e1,e2,e3,e4,e5,t1,t2,t3,t4,w0,w1,w2,w3,w4,Int.reduceLT,Int.reduceLE,Int.toNat_zero,↓X1,wA,↓reduceIte,reduceIte,reduceCtorEq,Y1,Y2,Y3,Y4,Y5,Y6,Y7,Y8,Y9,YA,wE]
    refine X0 k rfl ?_
    simp only [↓X1,wA,↓reduceIte,reduceIte,reduceCtorEq,Y1,Y2,Y3,Y4,Y5,Y6,Y7,Y8,Y9,YA,wE]
    exact fin rfl hb
  rw [Bool.not_eq_true] at hv
  rw [hv] at k
  have nx:=next (i+1)
  rcases hcase with rfl | rfl | rfl | rfl | rfl
  all_goals
   refine Xj ?_
   simp only [vC,List.cons_append,List.nil_append,e0,e1,e2,e3,e4,e5,t1,t2,t3,t4,w0,w1,w2,w3,w4,Int.reduceLT,Int.reduceLE,Int.toNat_zero,↓X1,wA,↓reduceIte,reduceIte,reduceCtorEq,Y1,Y2,Y3,Y4,Y5,Y6,Y7,Y8,Y9,YA,wE]
   refine X0 k rfl ?_
   simp only [w0,w1,w2,w3,w4,↓X1,wA,↓reduceIte,reduceIte,reduceCtorEq,Y1,Y2,Y3,Y4,Y5,Y6,Y7,Y8,Y9,YA,wE]
   refine nx _ ⟨by omega,fun j hj=>?_⟩ (by omega) (Kq (by simp [vC,X3,Xf,I]) (by simp [vC,X3]))
   rcases Nat.lt_succ_iff_lt_or_eq.1 hj with h | h
   ·exact hok j h
   ·rw [h]; exact hv
 obtain rfl:i=5:=by omega
 refine Xj ?_
 simp only [e5,Int.lt_irrefl,↓X1,wA,↓reduceIte,reduceIte,reduceCtorEq,Y1,Y2,Y3,Y4,Y5,Y6,Y7,Y8,Y9,YA,wE]
 exact fin rfl (by rw [hV,decide_eq_true hok])
theorem Ow (L:List V2) (k:Nat) (h:Qs L k) (hk:k≤1000) (hl:L.length<1000000):Fn Tryz.prog 181 [Xx L] (.bool true):=by
 have rv:∀ r:Rat,qb r≤1000→Fn Tryz.prog 83 [qA r] (.bool true):=fun r hr=>by
  have h1:=RQ.of_sz r
  have:=OK (RQ.of r) (by omega)
  rwa [decide_eq_true ⟨r,rfl⟩] at this
 refine Fq Tryz.call181 Tryz.func181 4 [] [] [] (by simp [Xh]) (Xj ?_)
 simp only [AS.start,X5,↓X1,wA,↓reduceIte,reduceIte,reduceCtorEq,Y1,Y2,Y3,Y4,Y5,Y6,Y7,Y8,Y9,YA,wE]
 refine Xd (fun i:Nat=>⟨4,[],[Xx L,.any,.bool false,I i],[],[]⟩) (fun i=>i≤L.length) (fun i=>L.length - i) 0 (by omega)
  (Kq (by simp [X5,Xf,I]) rfl) ?_
 intro i hi next
 have w1:=wj i (by omega)
 by_cases hi2:i<L.length
 ·have f3:((i:Int)<L.length)=True:=eq_true (by omega)
  have f4:(i<L.length)=True:=eq_true hi2
  have f5:(i*8+8≤L.length*8)=True:=eq_true (by omega)
  have f6:(i*8+4≤L.length*8)=True:=eq_true (by omega)
  have f7:(i*8+4+4≤L.length*8)=True:=eq_true (by omega)
  have v1:=vF L i
  have hx:=QM (L.getD i v0); have hy:=QG (L.getD i v0); have hb:=h i
  refine Xj ?_
  simp only [X5,w1,f3,f4,f5,f6,f7,v1,Int.toNat_natCast,↓X1,wA,↓reduceIte,reduceIte,reduceCtorEq,Y1,Y2,Y3,Y4,Y5,Y6,Y7,Y8,Y9,YA,wE]
  refine X0 (rv (L.getD i v0).x (by omega)) rfl ?_
  simp only [X5,w1,f3,f4,f5,f6,f7,v1,Int.toNat_natCast,↓X1,wA,↓reduceIte,reduceIte,reduceCtorEq,Y1,Y2,Y3,Y4,Y5,Y6,Y7,Y8,Y9,YA,wE]
  refine X0 (rv (L.getD i v0).y (by omega)) rfl ?_
  simp only [w1,↓X1,wA,↓reduceIte,reduceIte,reduceCtorEq,Y1,Y2,Y3,Y4,Y5,Y6,Y7,Y8,Y9,YA,wE]
  exact next (i+1) _ (by omega) (by omega) (Kq (by simp [X5,Xf,I]) rfl)
 obtain rfl:i=L.length:=by omega
 refine Xj ?_
 simp only [X5,Int.lt_irrefl,Nat.lt_irrefl,↓X1,wA,↓reduceIte,reduceIte,reduceCtorEq,Y1,Y2,Y3,Y4,Y5,Y6,Y7,Y8,Y9,YA,wE]
 exact Xv rfl rfl (X2 _) rfl
theorem OJ (L:List V2) (h:Qs L 1000) (hl:L.length<1000000):Fn Tryz.prog 92 [Xx L] (.bool (decide (XP L))):=by
 obtain ⟨V,hV⟩:∃ V,V=decide (XP L):=⟨_,rfl⟩
 have cn:=Ow L 1000 h (by omega) hl
 rw [← hV]
 have fin:∀ {s:AS} {v:Bool},s.get 2=.bool v→v=V→RetOk (QS Tryz.prog Tryz.f92 [] [] (.bool V)) s:=fun h e=>Xv rfl h (X2 _) (by rw [e])
 have sm:∀ i,vb (atF L i)≤1000:=fun i=>h (i % L.length)
 refine Fq Tryz.call92 Tryz.func92 6 [] [] [] (by simp [Xh]) (Xj ?_)
 by_cases hlo:(L.length:Int)<3
 ·have f1:((L.length:Int)<3)=True:=eq_true hlo
  have f1':(L.length<3)=True:=eq_true (by omega)
  simp only [AS.start,X5,f1,f1',↓X1,wF,seval]
  exact fin rfl (by rw [hV,decide_eq_false]; unfold XP; omega)
 have f1:((L.length:Int)<3)=False:=eq_false hlo
 have f1':(L.length<3)=False:=eq_false (by omega)
 by_cases hhi:(12:Int)<L.length
 ·have f2:((12:Int)<L.length)=True:=eq_true hhi
  have f2':(12<L.length)=True:=eq_true (by omega)
  simp only [AS.start,X5,f1,f1',f2,f2',↓X1,wF,seval]
  exact fin rfl (by rw [hV,decide_eq_false]; unfold XP; omega)
 have f2:((12:Int)<L.length)=False:=eq_false hhi
 have f2':(12<L.length)=False:=eq_false (by omega)
 simp only [AS.start,X5,f1,f1',f2,f2',↓X1,wF,seval]
 refine X0 cn rfl ?_
 simp only [f1,f1',f2,f2',↓X1,wF,seval]
 have hn0:L.length≠0:=by omega
 refine Xd (fun i:Nat=>⟨6,[],[Xx L,.any,.bool false,I i,.any,.any],[],[]⟩) (fun i=>i≤L.length∧∀ j,j<i→VU L j) (fun i=>L.length - i) 0 ⟨by omega,by omega⟩
  (Kq (by simp [X5,Xf,I]) rfl) ?_
 rintro i ⟨hi,hgood⟩ next
 have w1:=wj i (by omega)
 have w2:IntKind.i64.wrap ((i:Int)+2)=((i+2:Nat):Int):=by rw [IntKind.wrap_i64]; omega
 by_cases hi2:i<L.length
 rotate_left
 ·obtain rfl:i=L.length:=by omega
  refine Xj ?_
  simp only [X5,Int.lt_irrefl,Nat.lt_irrefl,↓X1,wF,seval]
  have ca:=UK L 1000 h (by omega) (by omega)
  have cs:=Hk (JF L) (by have:=(HN L 1000 h (by omega) (by omega)).2; unfold rm; omega)
  refine X0 ca rfl ?_
  simp only [↓X1,wF,seval]
  refine X0 cs rfl ?_
  simp only [↓X1,wF,seval]
  exact fin rfl (by rw [hV,decide_eq_decide]; unfold XP; exact ⟨fun h=>⟨by omega,hgood,h⟩,fun h=>h.2.2⟩)
 have at_i:∀ j,j<L.length→atF L j=L.getD j v0:=fun j hj=>by unfold atF; rw [Nat.mod_eq_of_lt hj]
 have f3:((i:Int)<L.length)=True:=eq_true (by omega)
 have f4:(i<L.length)=True:=eq_true hi2
 have f5:(i*8+8≤L.length*8)=True:=eq_true (by omega)
 have v1:=vF L i
 have cat:∀ j:Nat,j<1000000000→Fn Tryz.prog 183 [Xx L,I j] (vA (atF L j)):=fun j hj=>ai L j hl hn0 hj
 have cs:=Sh (atF L i) (atF L (i+1)) (atF L (i+2)) (by have:=sm i; unfold vs; omega) (by have:=sm (i+1); unfold vs; omega) (by have:=sm (i+2); unfold vs; omega)
 refine Xj ?_
 simp only [X5,w1,w2,f3,f4,f5,v1,Int.toNat_natCast,↓X1,wF,seval]
 refine X0 (cat (i+1) (by omega)) rfl ?_
 simp only [X5,w1,w2,f3,f4,f5,v1,Int.toNat_natCast,↓X1,wF,seval]
 refine X0 (cat (i+2) (by omega)) rfl ?_
 simp only [X5,w1,w2,f3,f4,f5,v1,Int.toNat_natCast,↓X1,wF,seval]
 have cs':=cs
 rw [at_i i hi2] at cs'
 refine X0 cs' rfl ?_
 by_cases hs:Jm (atF L i) (atF L (i+1)) (atF L (i+2))=0
 ·have g5:(Jm (L.getD i v0) (atF L (i+1)) (atF L (i+2))=0)=True:=eq_true (by rw [← at_i i hi2]; exact hs)
  simp only [g5,↓X1,wF,seval]
  exact fin rfl (by rw [hV,decide_eq_false]; exact fun hp=>(hp.2.1 i hi2).1 hs)
 have g5:(Jm (L.getD i v0) (atF L (i+1)) (atF L (i+2))=0)=False:=eq_false (by rw [← at_i i hi2]; exact hs)
 simp only [g5,w1,w2,↓X1,wF,seval]
 refine Xd (fun k:Nat=>⟨6,[],[Xx L,.any,.bool false,I i,I k,.any],[],[]⟩) (fun k=>k≤L.length∧∀ j,j<k→¬ Oq L i j) (fun k=>L.length - k) 0 ⟨by omega,by omega⟩
  (Kq (by simp [X5,Xf,I]) rfl) ?_
 rintro k ⟨hk,hpair⟩ nextk
 have u1:=wj k (by omega)
 by_cases hk3:k<L.length
 rotate_left
 ·obtain rfl:k=L.length:=by omega
  refine Xj ?_
  simp only [X5,Int.lt_irrefl,Nat.lt_irrefl,w1,↓X1,wF,seval]
  refine next (i+1) _ ⟨by omega,fun j hj=>?_⟩ (by omega) (Kq (by simp [X5,Xf,I]) rfl)
  by_cases hji:j<i
  ·exact hgood j hji
  ·obtain rfl:j=i:=by omega
   exact ⟨hs,fun q hq=>hpair q hq⟩
 have g3:((k:Int)<L.length)=True:=eq_true (by omega)
 have g4:(k<L.length)=True:=eq_true hk3
 have h5:(k*8+8≤L.length*8)=True:=eq_true (by omega)
 have v2:=vF L k
 have f6:((L.length:Int)=0)=False:=eq_false (by omega)
 have f6':(L.length=0)=False:=eq_false hn0
 have r1:IntKind.i64.wrap ((k:Int) - i)=(k:Int) - i:=by rw [IntKind.wrap_i64]; omega
 have r2:IntKind.i64.wrap ((k:Int) - i+L.length)=((k+L.length - i:Nat):Int):=by rw [IntKind.wrap_i64]; omega
 have r3:((k+L.length - i:Nat):Int).tmod L.length=(((k+L.length - i) % L.length:Nat):Int):=rfl
 have r4:IntKind.i64.wrap ((L.length:Int) - 1)=((L.length - 1:Nat):Int):=by rw [IntKind.wrap_i64]; omega
 obtain ⟨G,hG⟩:∃ G,G=(k+L.length - i) % L.length:=⟨_,rfl⟩
 rw [← hG] at r3
 have step:¬ Oq L i k→∀ j,j<k+1→¬ Oq L i j:=fun hb j hj=>by
  by_cases hjk:j<k
  ·exact hpair j hjk
  ·obtain rfl:j=k:=by omega
   exact hb
 by_cases q1:1<G
 rotate_left
 ·have q2:(1<G)=False:=eq_false q1
  have q2':((1:Int)<(G:Int))=False:=eq_false (by omega)
  refine Xj ?_
  simp only [X5,w1,u1,g3,g4,f6,f6',r1,r2,r3,r4,q2,q2',↓X1,wF,seval]
  exact nextk (k+1) _ ⟨by omega,step fun hb=>q1 (by rw [hG]; exact hb.1)⟩ (by omega) (Kq (by simp [X5,Xf,I]) rfl)
 have q2:(1<G)=True:=eq_true q1
 have q2':((1:Int)<(G:Int))=True:=eq_true (by omega)
 by_cases q3:G<L.length - 1
 rotate_left
 ·have q4:(G<L.length - 1)=False:=eq_false q3
  have q4':((G:Int)<((L.length - 1:Nat):Int))=False:=eq_false (by omega)
  refine Xj ?_
  simp only [X5,w1,u1,g3,g4,f6,f6',r1,r2,r3,r4,q2,q2',q4,q4',↓X1,wF,seval]
  exact nextk (k+1) _ ⟨by omega,step fun hb=>q3 (by rw [hG]; exact hb.2.1)⟩ (by omega) (Kq (by simp [X5,Xf,I]) rfl)
 have q4:(G<L.length - 1)=True:=eq_true q3
 have q4':((G:Int)<((L.length - 1:Nat):Int))=True:=eq_true (by omega)
 have cm:=Un (atF L i) (atF L (i+1)) (atF L k) (atF L (k+1)) (by have:=sm i; omega) (by have:=sm (i+1); omega) (by have:=sm k; omega) (by have:=sm (k+1); omega)
 rw [at_i i hi2,at_i k hk3] at cm
 refine Xj ?_
 simp only [X5,w1,u1,f3,f4,f5,g3,g4,h5,f6,f6',r1,r2,r3,r4,q2,q2',q4,q4',v1,v2,Int.toNat_natCast,↓X1,wF,seval]
 refine X0 (cat (i+1) (by omega)) rfl ?_
 simp only [X5,w1,u1,f3,f4,f5,g3,g4,h5,f6,f6',r1,r2,r3,r4,q2,q2',q4,q4',v1,v2,Int.toNat_natCast,↓X1,wF,seval]
 refine X0 (cat (k+1) (by omega)) rfl ?_
 simp only [X5,w1,u1,f3,f4,f5,g3,g4,h5,f6,f6',r1,r2,r3,r4,q2,q2',q4,q4',v1,v2,Int.toNat_natCast,↓X1,wF,seval]
 refine X0 cm rfl ?_
 by_cases hmt:Ac (L.getD i v0) (atF L (i+1)) (L.getD k v0) (atF L (k+1))
 ·rw [decide_eq_true hmt]
  simp only [↓X1,wF,seval]
  exact fin rfl (by rw [hV,decide_eq_false]; exact fun hp=>(hp.2.1 i hi2).2 k hk3 ⟨by omega,by omega,by rw [at_i i hi2,at_i k hk3]; exact hmt⟩)
 ·rw [decide_eq_false hmt]
  simp only [u1,↓X1,wF,seval]
  exact nextk (k+1) _ ⟨by omega,step fun hb=>hmt (by have:=hb.2.2; rwa [at_i i hi2,at_i k hk3] at this)⟩ (by omega) (Kq (by simp [X5,Xf,I]) rfl)
theorem Pt (n m:Int) (hn:ZO n) (hm:m≠0):Fn Tryz.prog 17 [I n,I m] (I (Zn n m)):=by
 obtain ⟨h1,h2⟩:=hn
 refine Fr Tryz.call17 Tryz.func17 5 [] [] [] ?_; simp (maxSteps:=999999) only [AS.start,↓X1,wF,seval]
 refine ⟨fun h=>⟨hm,BU rfl (QE (X9 _) ?_)⟩,fun h=>⟨hm,BU rfl (QE (X9 _) ?_)⟩⟩
 ·have e1:IntKind.i64.wrap (n+1)=n+1:=by rw [IntKind.wrap_i64]; omega
  have e2:IntKind.i64.wrap (-(n+1)) = -(n+1):=by rw [IntKind.wrap_i64]; omega
  simp [AS.get,Zn,h,e1,e2,I]
 ·simp [AS.get,Zn,h,I]
theorem JC (l:List Int) (i m:Int) (hl:GV l) (hm:m≠0):Fn Tryz.prog 74 [X4 l,I i,I m] (I (Ab.atF l i m)):=by
 refine Fr Tryz.call74 Tryz.func74 7 [] [] [] ?_
 by_cases h0:i<0
 ·have f1:(i<0)=True:=eq_true h0
  simp only [AS.start,X3,f1,↓X1,wF,seval]
  exact Xv (v:=I 0) rfl rfl (X9 _) (by rw [show Ab.atF l i m=0 from if_pos (.inl h0)])
 have f1:(i<0)=False:=eq_false h0
 by_cases h1:(l.length:Int)≤i
 ·have f2:((l.length:Int)≤i)=True:=eq_true h1
  simp only [AS.start,X3,f1,f2,↓X1,wF,seval]
  exact Xv (v:=I 0) rfl rfl (X9 _) (by rw [show Ab.atF l i m=0 from if_pos (.inr h1)])
 have f2:((l.length:Int)≤i)=False:=eq_false h1
 have f3:(0≤i)=True:=eq_true (by omega)
 have f4:(i<(l.length:Int))=True:=eq_true (by omega)
 have f5:(i.toNat<l.length)=True:=eq_true (by omega)
 simp only [AS.start,X3,f1,f2,f3,f4,f5,↓X1,wF,seval]
 refine X0 (Pt _ m (eK hl i.toNat) hm) rfl ?_
 simp only [↓X1,wF,seval]
 exact Xv (v:=I (Zn (l.getD i.toNat 0) m)) rfl rfl (X9 _) (by rw [show Ab.atF l i m=Zn (l.getD i.toNat 0) m from if_neg (by omega)])
theorem BG {P:Nat→Prop} {i:Nat}:(∀ j,j<i+1→P j)↔(∀ j,j<i→P j)∧P i :=
 ⟨fun h=>⟨fun j hj=>h j (by omega),h i (by omega)⟩,fun h j hj=>(Nat.lt_succ_iff_lt_or_eq.1 hj).elim (h.1 j) (fun e=>e▸h.2)⟩
theorem pS {α:Type} {X:Env} {K:List Item} {Q:Prop} (P:α→Prop) (st:α→AS) (h1:(∀ a,P a→Run X K (st a))→Q) (h2:∀ a,P a→Run X K (st a)):Q:=h1 h2
end
end Go.Ab.N
namespace Go.Ab
open Go Go.RowKit Go.Proofs
theorem Al {m:Nat} {s:AS} (id:Nat) {ob:AO} (ho:s.h[id]?=some ob) (hr:ob.info≠none):Sub m s { s with h:=s.h.set id .dead }:=by
 intro N c a hst
 have hH:=hst.heap
 rw [← hH] at ho
 have hlt:=(List.getElem?_eq_some_iff.1 ho).1
 have hat:(c.H.set id .dead)[id]?=some .dead:=by simp [hlt]
 have hoth:∀ i,i≠id→(c.H.set id AO.dead)[i]?=c.H[i]?:=fun i hi=>List.getElem?_set_ne (Ne.symm hi)
 let c':Ctx:=⟨c.w,c.S,c.γ,c.H.set id .dead⟩
 have hext:Ext c c':=by
  refine ⟨?_,fun b h=>h,fun b h=>.inl h,?_,fun _ _ _=>rfl,Nat.le_refl _,rfl,rfl,rfl⟩
  ·intro i o hoi
   by_cases hi:i=id
   ·subst hi
    rw [ho] at hoi; cases hoi
    cases ob with
    | unborn=>trivial
    | dead=>exact absurd rfl hr
    | row v _ _=>exact .inl hat
    | con v _ _=>exact .inl hat
    | map k g=>exact absurd rfl hr
   ·have h1:=HLe.refl c i o hoi
    have e1:=hoth i hi
    cases o with
    | unborn=>trivial
    | dead=>simpa [c',e1] using h1
    | row v _ _=>simpa [c',e1,inf] using h1
    | con v _ _=>simpa [c',e1,inf] using h1
    | map k g=>simpa [c',e1] using h1
  ·rintro b ⟨i,o,sz,hoi,hown,hg⟩
   by_cases hi:i=id
   ·subst hi
    simp only [c'] at hoi
    rw [hat] at hoi; cases hoi; simp [AO.owned] at hown
   ·simp only [c'] at hoi
    rw [hoth i hi] at hoi
    exact .inr ⟨i,o,sz,hoi,hown,hg⟩
 have hrep:∀ {v a},Rep c v a→Rep c' v a:=fun hv=>hext.rep hst.hrel hv
 refine ⟨c',rfl,hext.toB m,hst.size,hst.defers,fun i=>hrep (hst.slots i),by simp [c',hH],?_⟩
 have ne:∀ {i o},c'.H[i]?=some o→o≠AO.dead→i≠id:=fun h hd e=>by
  subst e; simp only [c'] at h; rw [hat] at h; cases h; exact hd rfl
 have bk:∀ {i o},c'.H[i]?=some o→o≠AO.dead→c.H[i]?=some o:=fun h hd=>by
  rw [← hoth _ (ne h hd)]; exact h
 refine ⟨?_,?_,?_,?_,?_⟩
 ·intro i v k g hoi
  rcases hst.hrel.row i v k g (bk hoi (by simp)) with h | ⟨b,sz,cs,el,h1,h2,h3,h4,h5,h6⟩
  ·exact .inl h
  ·exact .inr ⟨b,sz,cs,el,h1,h2,h3,h4,h5,fun j hj=>hrep (h6 j hj)⟩
 ·intro i v k g hoi
  rcases hst.hrel.con i v k g (bk hoi (by simp)) with h | ⟨b,sz,cs,el,fr,h1,h2,h3,h4,h5,h6⟩
  ·exact .inl h
  ·exact .inr ⟨b,sz,cs,el,fr,h1,h2,h3,h4,h5,fun j hj=>hrep (h6 j hj)⟩
 ·intro i k g hoi
  obtain ⟨b,sz,es,cl,h1,h2,h3,h4⟩:=hst.hrel.map i k g (bk hoi (by simp))
  exact ⟨b,sz,es,cl,h1,h2,h3,h4.ext fun v a hv=>hrep hv⟩
 ·intro i i' o o' b sz sz' hoi hoi' h1 h2 hg hg'
  have d1:o≠AO.dead:=fun e=>by subst e; simp [AO.owned] at h1
  have d2:o'≠.dead:=fun e=>by subst e; simp [AO.owned] at h2
  exact hst.hrel.inj _ _ _ _ _ _ _ (bk hoi d1) (bk hoi' d2) h1 h2 hg hg'
 ·exact hst.hrel.bound
end Go.Ab
namespace Go.Ab.N
open Go Go.RowKit Go.Proofs
noncomputable section
set_option maxRecDepth 10000
set_option maxHeartbeats 4000000
open Classical
end
end Go.Ab.N
