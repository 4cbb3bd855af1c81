/- Contracts of functions of these chapters, for every argument that fits, and what they need. -/
import Derived.Test.YtefjhgcndhepeaaGreatC6
set_option linter.unusedSimpArgs false
set_option linter.unusedVariables false
open Nat renaming reducePow → Y1, reduceLT → Y2, reduceLeDiff → Y3, reduceEqDiff → Y4, reduceAdd → Y5, reduceMul → Y6, reduceSub → Y7, reduceBEq → Y8, reduceDiv → Y9, reduceMod → YA
namespace Go.Ab.N
open Go Go.RowKit Go.Proofs
noncomputable section
set_option maxRecDepth 10000
set_option maxHeartbeats 2000000
open Classical
def Xe7 (p q r s:Rat):Bool:=decide (p<r) && decide (p<s) && decide (q<r) && decide (q<s)
def X2D (n a b c d:V2):Bool:=Xe7 (dot n a) (dot n b) (dot n c) (dot n d) || Xe7 (dot n c) (dot n d) (dot n a) (dot n b)
theorem XmO {p q r s fa fb fc fd:Rat} (h1:p*fd - q*fc=s*fa - r*fb) (h2:p - q=s - r) (hp:0<p) (hq:q<0) (hs:0<s) (hr:r<0) (k1:fa<fc) (k2:fa<fd) (k3:fb<fc) (k4:fb<fd):False:=by
 have pos:∀ x,x<fc→x<fd→0<p*(fd - x)+(-q)*(fc - x):=fun x hx1 hx2=>by
  have:=Rat.mul_pos hp (show 0<fd - x by grind)
  have:=Rat.mul_pos (show 0 < -q by grind) (show 0<fc - x by grind)
  grind
 rcases Rat.le_total (a:=fa) (b:=fb) with h | h
 ·have h3:=pos fb k3 k4
  have h4:=Rat.mul_nonneg (Rat.le_of_lt hs) (show 0≤fb - fa by grind)
  have e1:p*(fd - fb) + -q*(fc - fb)=(p*fd - q*fc) - (p - q)*fb:=by grind
  have e2:(s*fa - r*fb) - (s - r)*fb = -(s*(fb - fa)):=by grind
  rw [e1,h1,h2,e2] at h3
  generalize s*(fb - fa)=z at h3 h4
  grind
 ·have h3:=pos fa k1 k2
  have h4:=Rat.mul_nonneg (show 0≤-r by grind) (show 0≤fa - fb by grind)
  have e1:p*(fd - fa) + -q*(fc - fa)=(p*fd - q*fc) - (p - q)*fa:=by grind
  have e2:(s*fa - r*fb) - (s - r)*fa = -(-r*(fa - fb)):=by grind
  rw [e1,h1,h2,e2] at h3
  generalize -r*(fa - fb)=z at h3 h4
  grind
theorem XeM (x:Rat):0≤x*x:=by
 rcases Rat.le_total (a:=0) (b:=x) with h | h
 ·exact Rat.mul_nonneg h h
 ·have:=Rat.mul_nonneg (show 0≤-x by grind) (show 0≤-x by grind)
  grind
theorem XjB (n a b c d:V2) (k1:dot n a<dot n c) (k2:dot n a<dot n d) (k3:dot n b<dot n c) (k4:dot n b<dot n d):XcU a b c d=false:=by
 have h1:X1E (b.sub a) (c.sub a)*dot n d - X1E (b.sub a) (d.sub a)*dot n c=X1E (d.sub c) (b.sub c)*dot n a - X1E (d.sub c) (a.sub c)*dot n b:=by
  unfold X1E dot V2.sub; grind
 have h2:X1E (b.sub a) (c.sub a) - X1E (b.sub a) (d.sub a)=X1E (d.sub c) (b.sub c) - X1E (d.sub c) (a.sub c):=by
  unfold X1E V2.sub; grind
 rw [← Bool.not_eq_true]
 intro h
 unfold XcU X3H at h
 simp only [Bool.and_eq_true,decide_eq_true_eq] at h
 generalize X1E (b.sub a) (c.sub a)=p at h1 h2 h
 generalize X1E (b.sub a) (d.sub a)=q at h1 h2 h
 generalize X1E (d.sub c) (a.sub c)=r at h1 h2 h
 generalize X1E (d.sub c) (b.sub c)=s at h1 h2 h
 have sp:∀ x y:Rat,x.num.sign*y.num.sign<0→(0<x∧y<0)∨(x<0∧0<y):=fun x y h=>by
  rw [← X8y,← X8y,← X3y,← X3y]
  rcases Int.lt_trichotomy x.num.sign 0 with hx | hx | hx
  ·rcases Int.lt_trichotomy y.num.sign 0 with hy | hy | hy
   ·have:=Int.mul_pos_of_neg_of_neg hx hy; omega
   ·rw [hy] at h; omega
   ·exact .inr ⟨hx,hy⟩
  ·rw [hx] at h; omega
  ·rcases Int.lt_trichotomy y.num.sign 0 with hy | hy | hy
   ·exact .inl ⟨hx,hy⟩
   ·rw [hy] at h; omega
   ·have:=Int.mul_pos hx hy; omega
 rcases sp p q h.1 with ⟨hp,hq⟩ | ⟨hp,hq⟩
 ·rcases sp r s h.2 with ⟨hr,hs⟩ | ⟨hr,hs⟩
  ·grind
  ·exact XmO h1 h2 hp hq hs hr k1 k2 k3 k4
 ·rcases sp r s h.2 with ⟨hr,hs⟩ | ⟨hr,hs⟩
  ·exact XmO (p:=-p) (q:=-q) (r:=-r) (s:=-s) (by grind) (by grind) (by grind) (by grind) (by grind) (by grind) k1 k2 k3 k4
  ·grind
theorem XmP (n a b c:V2) (k1:dot n a<dot n c) (k2:dot n b<dot n c):onF a b c=false:=by
 have hid:dot (a.sub c) (b.sub c)*dot n (a.sub c) - dot (a.sub c) (a.sub c)*dot n (b.sub c)=X1E (b.sub a) (c.sub a)*(n.x*(a.sub c).y - n.y*(a.sub c).x):=by
  unfold dot X1E V2.sub; grind
 have ha:dot n (a.sub c)<0:=by
  have:dot n (a.sub c)=dot n a - dot n c:=by unfold dot V2.sub; grind
  grind
 have hb:dot n (b.sub c)<0:=by
  have:dot n (b.sub c)=dot n b - dot n c:=by unfold dot V2.sub; grind
  grind
 have hu:0<dot (a.sub c) (a.sub c):=by
  have hx:=XeM (a.sub c).x
  have hy:=XeM (a.sub c).y
  have hne:¬ dot (a.sub c) (a.sub c)=0:=fun h=>by
   unfold dot at h
   have h1:(a.sub c).x*(a.sub c).x=0:=by grind
   have h2:(a.sub c).y*(a.sub c).y=0:=by grind
   have h3:(a.sub c).x=0:=by rcases Rat.mul_eq_zero.1 h1 with h | h <;> exact h
   have h4:(a.sub c).y=0:=by rcases Rat.mul_eq_zero.1 h2 with h | h <;> exact h
   unfold dot at ha
   rw [h3,h4] at ha
   grind
  unfold dot at hne ⊢
  grind
 rw [← Bool.not_eq_true]
 intro h
 unfold onF X3H at h
 simp only [Bool.and_eq_true,decide_eq_true_eq,X4Z] at h
 obtain ⟨h1,h2⟩:=h
 rw [h1] at hid
 have h2':dot (a.sub c) (b.sub c)≤0:=by
  rw [← Rat.not_lt,← X8y]; omega
 have m1:=Rat.mul_nonneg (show 0≤-dot (a.sub c) (b.sub c) by grind) (show 0≤-dot n (a.sub c) by grind)
 have m2:=Rat.mul_pos hu (show 0 < -dot n (b.sub c) by grind)
 grind
theorem XmQ (n a b c:V2) (k1:dot n c<dot n a) (k2:dot n c<dot n b):onF a b c=false :=
 XmP ⟨-n.x,-n.y⟩ a b c (by unfold dot at *; grind) (by unfold dot at *; grind)
theorem XeK (n a b c d:V2) (k1:dot n a<dot n c) (k2:dot n a<dot n d) (k3:dot n b<dot n c) (k4:dot n b<dot n d):X7w a b c d=false:=by
 unfold X7w
 rw [XjB n a b c d k1 k2 k3 k4,XmP n a b c k1 k3,XmP n a b d k2 k4,XmQ n c d a k1 k2,XmQ n c d b k3 k4]
 rfl
theorem Xcl (n a b c d:V2) (h:X2D n a b c d=true):X7w a b c d=false:=by
 unfold X2D Xe7 at h
 simp only [Bool.or_eq_true,Bool.and_eq_true,decide_eq_true_eq] at h
 rcases h with ⟨⟨⟨h1,h2⟩,h3⟩,h4⟩ | ⟨⟨⟨h1,h2⟩,h3⟩,h4⟩
 ·exact XeK n a b c d h1 h2 h3 h4
 ·exact XeK ⟨-n.x,-n.y⟩ a b c d (by unfold dot at *; grind) (by unfold dot at *; grind) (by unfold dot at *; grind) (by unfold dot at *; grind)
def Xdn (a b c d:V2):Nat→V2
 | 0=>(b.sub a).turned
 | 1=>(d.sub c).turned
 | 2=>b.sub a
 | 3=>d.sub c
 | _=>c.sub a
def X4L (a b c d:V2):Prop:=∀ i,i<5→X2D (Xdn a b c d i) a b c d=false
theorem Xmv (a b c d:V2) (h:¬ X4L a b c d):X7w a b c d=false:=by
 unfold X4L at h
 simp only [Classical.not_forall] at h
 obtain ⟨i,_,h⟩:=h
 exact Xcl _ a b c d (by simpa using h)
def Xhb (L:List V2) (i k:Nat):Prop:=1<(k+L.length - i) % L.length∧(k+L.length - i) % L.length<L.length - 1∧X4L (atF L i) (atF L (i+1)) (atF L k) (atF L (k+1))
def XlI (L:List V2) (i:Nat):Prop:=¬ X6R L i∧∀ k,k<L.length→¬ Xhb L i k
def X0F (L:List V2):Prop:=(3≤L.length∧L.length≤12)∧(∀ i,i<L.length→XlI L i)∧0<(X4S L).num.sign
theorem X2F (L:List V2) (h:X0F L):X5j L:=by
 obtain ⟨h1,h2,h3⟩:=h
 refine ⟨h1,fun i hi=>⟨(h2 i hi).1,fun k hk1 hk2 hb=>?_⟩,h3⟩
 have hg:=(h2 i hi).2 k hk2
 have e:(k+L.length - i) % L.length=k - i:=by
  rw [show k+L.length - i=(k - i)+L.length by omega,Nat.add_mod_right,Nat.mod_eq_of_lt (by omega)]
 have hne:k - i<L.length - 1:=by
  rcases Nat.lt_or_ge (k - i) (L.length - 1) with h | h
  ·exact h
  ·exfalso
   have h1:k=L.length - 1:=by omega
   have h2:i=0:=by omega
   have:(k+1) % L.length=0:=by rw [show k+1=L.length by omega,Nat.mod_self]
   exact hb.1 (by omega)
 have hm:¬ X4L (atF L i) (atF L (i+1)) (atF L k) (atF L (k+1)):=fun hm=>hg ⟨by omega,by omega,hm⟩
 have:=Xmv _ _ _ _ hm
 rw [hb.2] at this
 exact absurd this (by decide)
end
end Go.Ab.N
namespace Go.Ab.N
open Go Go.RowKit Go.Proofs
noncomputable section
set_option maxRecDepth 10000
set_option maxHeartbeats 4000000
open Classical
theorem X6Z {a q:Rat} (h:0≤q):a≤a+q:=by grind
theorem Xg8 {R:List (Int×Int)} (h:∀ i,i<R.length→Xdp (R.getD i (0,0))=true):X0Y (X0Q R) 1000 :=
 XbE ⟨0,0,R,[],[],X92,X92,X92,X92,X92⟩ h
end
end Go.Ab.N
namespace Go.Ab.N
open Go Go.RowKit Go.Proofs
noncomputable section
set_option maxRecDepth 10000
set_option maxHeartbeats 2000000
open Classical
theorem XiR (n a b c d:V2) (hn:vb n≤vs) (ha:vb a≤vs) (hb:vb b≤vs) (hc:vb c≤vs) (hd:vb d≤vs):Fn Tryz.prog 230 [vA n,vA a,vA b,vA c,vA d] (.bool (X2D n a b c d)):=by
 unfold vs at hn ha hb hc hd
 have e1:=X3a n a (by unfold vm; omega) (by unfold vm; omega)
 have e2:=X3a n b (by unfold vm; omega) (by unfold vm; omega)
 have e3:=X3a n c (by unfold vm; omega) (by unfold vm; omega)
 have e4:=X3a n d (by unfold vm; omega) (by unfold vm; omega)
 have q1:=X4K n a; have q2:=X4K n b; have q3:=X4K n c; have q4:=X4K n d
 obtain ⟨V,hV⟩:∃ V,V=X2D n a b c d:=⟨_,rfl⟩
 rw [← hV]
 unfold X2D at hV
 generalize dot n a=p at *
 generalize dot n b=q at *
 generalize dot n c=r at *
 generalize dot n d=s at *
 have k1:=X1q p r (by unfold rm; omega) (by unfold rm; omega)
 have k2:=X1q p s (by unfold rm; omega) (by unfold rm; omega)
 have k3:=X1q q r (by unfold rm; omega) (by unfold rm; omega)
 have k4:=X1q q s (by unfold rm; omega) (by unfold rm; omega)
 obtain ⟨LE,hLE⟩:∃ LE,LE=Xe7 p q r s:=⟨_,rfl⟩
 obtain ⟨MO,hMO⟩:∃ MO,MO=Xe7 r s p q:=⟨_,rfl⟩
 rw [← hLE,← hMO] at hV
 have hl:LE=(decide (X1Z p r<0) && decide (X1Z p s<0) && decide (X1Z q r<0) && decide (X1Z q s<0)):=by
  rw [hLE]; unfold Xe7
  rw [decide_eq_decide.2 (X2N p r),decide_eq_decide.2 (X2N p s),decide_eq_decide.2 (X2N q r),decide_eq_decide.2 (X2N q s)]
 have hm:MO=(decide (0<X1Z p r) && decide (0<X1Z p s) && decide (0<X1Z q r) && decide (0<X1Z q s)):=by
  rw [hMO]; unfold Xe7
  rw [decide_eq_decide.2 (X2s p r),decide_eq_decide.2 (X2s p s),decide_eq_decide.2 (X2s q r),decide_eq_decide.2 (X2s q s)]
  cases decide (r<p) <;> cases decide (r<q) <;> cases decide (s<p) <;> cases decide (s<q) <;> rfl
 have five:∀ (A B C D:Prop) [Decidable A] [Decidable B] [Decidable C] [Decidable D] (X:Bool),X=(decide A && decide B && decide C && decide D)→(X=false∧A=False∧True∧True∧True)∨(X=false∧A=True∧B=False∧True∧True)∨(X=false∧A=True∧B=True∧C=False∧True)∨(X=false∧A=True∧B=True∧C=True∧D=False)∨(X=true∧A=True∧B=True∧C=True∧D=True):=by
  intro A B C D _ _ _ _ X h
  by_cases hA:A
  rotate_left
  ·exact .inl ⟨by rw [h,decide_eq_false hA]; rfl,eq_false hA,trivial,trivial,trivial⟩
  by_cases hB:B
  rotate_left
  ·exact .inr (.inl ⟨by rw [h,decide_eq_true hA,decide_eq_false hB]; rfl,eq_true hA,eq_false hB,trivial,trivial⟩)
  by_cases hC:C
  rotate_left
  ·exact .inr (.inr (.inl ⟨by rw [h,decide_eq_true hA,decide_eq_true hB,decide_eq_false hC]; rfl,eq_true hA,eq_true hB,eq_false hC,trivial⟩))
  by_cases hD:D
  rotate_left
  ·exact .inr (.inr (.inr (.inl ⟨by rw [h,decide_eq_true hA,decide_eq_true hB,decide_eq_true hC,decide_eq_false hD]; rfl,eq_true hA,eq_true hB,eq_true hC,eq_false hD⟩)))
  ·exact .inr (.inr (.inr (.inr ⟨by rw [h,decide_eq_true hA,decide_eq_true hB,decide_eq_true hC,decide_eq_true hD]; rfl,eq_true hA,eq_true hB,eq_true hC,eq_true hD⟩)))
 have cl:=five _ _ _ _ _ hl
 have cm:=five _ _ _ _ _ hm
 clear five hl hm hLE hMO q1 q2 q3 q4 hn ha hb hc hd
 have fin:∀ {s:AS} {v:Bool},s.get 10=.bool v→v=(LE || MO)→RetOk (X2f Tryz.prog Tryz.f230 [] [] (.bool V)) s:=fun h e=>X0r rfl h (X02 _) (by rw [e,hV])
 refine Fq Tryz.call230 Tryz.func230 17 [] [] [] (by simp [X0k]) (X00 1000 ?_)
 simp only [AS.start,↓X03,wA,seval,wE]
 refine X01 e1 rfl ?_
 simp only [↓X03,wA,seval,wE]
 refine X01 e2 rfl ?_
 simp only [↓X03,wA,seval,wE]
 refine X01 e3 rfl ?_
 simp only [↓X03,wA,seval,wE]
 refine X01 e4 rfl ?_
 simp only [↓X03,wA,seval,wE]
 rcases cl with ⟨hX,l1,l2,l3,l4⟩ | ⟨hX,l1,l2,l3,l4⟩ | ⟨hX,l1,l2,l3,l4⟩ | ⟨hX,l1,l2,l3,l4⟩ | ⟨hX,l1,l2,l3,l4⟩
 all_goals
  refine X01 k1 rfl ?_
  simp only [l1,l2,l3,l4,↓X03,wA,seval,wE]
  try (refine X01 k2 rfl ?_; simp only [l1,l2,l3,l4,↓X03,wA,seval,wE])
  try (refine X01 k3 rfl ?_; simp only [l1,l2,l3,l4,↓X03,wA,seval,wE])
  try (refine X01 k4 rfl ?_; simp only [l1,l2,l3,l4,↓X03,wA,seval,wE])
  rcases cm with ⟨hY,m1,m2,m3,m4⟩ | ⟨hY,m1,m2,m3,m4⟩ | ⟨hY,m1,m2,m3,m4⟩ | ⟨hY,m1,m2,m3,m4⟩ | ⟨hY,m1,m2,m3,m4⟩
  all_goals
   refine X01 k1 rfl ?_
   simp only [l1,l2,l3,l4,m1,m2,m3,m4,↓X03,wA,seval,wE]
   try (refine X01 k2 rfl ?_; simp only [l1,l2,l3,l4,m1,m2,m3,m4,↓X03,wA,seval,wE])
   try (refine X01 k3 rfl ?_; simp only [l1,l2,l3,l4,m1,m2,m3,m4,↓X03,wA,seval,wE])
   try (refine X01 k4 rfl ?_; simp only [l1,l2,l3,l4,m1,m2,m3,m4,↓X03,wA,seval,wE])
   exact fin rfl (by rw [hX,hY]; rfl)
end
end Go.Ab.N
namespace Go.Ab.N
open Go Go.RowKit Go.Proofs
noncomputable section
set_option maxRecDepth 10000
set_option maxHeartbeats 4000000
open Classical
theorem Xjh (a b c d:V2) (ha:vb a≤10000) (hb:vb b≤10000) (hc:vb c≤10000) (hd:vb d≤10000):Fn Tryz.prog 184 [vA a,vA b,vA c,vA d] (.bool (decide (X4L a b c d))):=by
 have m1:=X2Y b a; have m2:=X2Y d c; have m3:=X2Y c a
 have u1:=XeR (b.sub a); have u2:=XeR (d.sub c)
 have c1:=X29 b a (by unfold rm; omega) (by unfold rm; omega)
 have c2:=X29 d c (by unfold rm; omega) (by unfold rm; omega)
 have c5:=X29 c a (by unfold rm; omega) (by unfold rm; omega)
 have c3:=XeQ (b.sub a) (by unfold rm; omega)
 have c4:=XeQ (d.sub c) (by unfold rm; omega)
 have hA:∀ i,i<5→vb (Xdn a b c d i)≤vs:=fun i hi=>by
  unfold vs
  match i,hi with
  | 0,_=>show vb (b.sub a).turned≤_; omega
  | 1,_=>show vb (d.sub c).turned≤_; omega
  | 2,_=>show vb (b.sub a)≤_; omega
  | 3,_=>show vb (d.sub c)≤_; omega
  | 4,_=>show vb (c.sub a)≤_; omega
  | i+5,h=>omega
 have kb:∀ i,i<5→Fn Tryz.prog 230 [vA (Xdn a b c d i),vA a,vA b,vA c,vA d] (.bool (X2D (Xdn a b c d i) a b c d)):=fun i hi=>XiR _ a b c d (hA i hi) (by unfold vs; omega) (by unfold vs; omega) (by unfold vs; omega) (by unfold vs; omega)
 obtain ⟨V,hV⟩:∃ V,V=decide (X4L a b c d):=⟨_,rfl⟩
 rw [← hV]
 unfold X4L at hV
 replace c1:Fn Tryz.prog 104 [vA b,vA a] (vA (Xdn a b c d 2)):=c1
 replace c2:Fn Tryz.prog 104 [vA d,vA c] (vA (Xdn a b c d 3)):=c2
 replace c3:Fn Tryz.prog 229 [vA (Xdn a b c d 2)] (vA (Xdn a b c d 0)):=c3
 replace c4:Fn Tryz.prog 229 [vA (Xdn a b c d 3)] (vA (Xdn a b c d 1)):=c4
 replace c5:Fn Tryz.prog 104 [vA c,vA a] (vA (Xdn a b c d 4)):=c5
 clear m1 m2 m3 u1 u2 hA ha hb hc hd
 generalize hF:(fun i=>X2D (Xdn a b c d i) a b c d)=F at *
 have hF':∀ i,X2D (Xdn a b c d i) a b c d=F i:=fun i=>by rw [← hF]
 simp only [hF'] at kb hV
 clear hF hF'
 generalize Xdn a b c d=A at *
 have fin:∀ {s:AS} {v:Bool},s.get 8=.bool v→v=V→RetOk (X2f Tryz.prog Tryz.f184 [] [] (.bool V)) s:=fun h e=>X0r rfl h (X02 _) (by rw [e])
 have hvc:∀ a:V2,∀ x∈vC a,Settled x:=fun a=>by simp [vC,X07,X02]
 have brow:∀ a:V2,X1j 4 (.row 0 8 (ofL (vC a)))=True:=fun a=>eq_true (X0B (hvc a))
 have bel:Bel 4 (.sl 5 40 (ofL (vC (A 0) ++ (vC (A 1) ++ (vC (A 2) ++ (vC (A 3) ++ vC (A 4)))))) true)=True:=eq_true (X06 (X1J fun j hj=>X0c (fun x hx=>by
  simp only [List.mem_append] at hx
  rcases hx with h | h | h | h | h <;> exact hvc _ _ h) j))
 refine Fq Tryz.call184 Tryz.func184 13 [] [] [] (by simp [wS]) (X00 1000 ?_); simp (config:={ maxSteps:=2000000 }) only [AS.start,↓X03,wA,↓reduceIte,reduceIte,reduceCtorEq,Y1,Y2,Y3,Y4,Y5,Y6,Y7,Y8,Y9,YA,wE]
 refine X01 c1 rfl ?_
 simp only [↓X03,wA,↓reduceIte,reduceIte,reduceCtorEq,Y1,Y2,Y3,Y4,Y5,Y6,Y7,Y8,Y9,YA,wE]
 refine X01 c2 rfl ?_
 simp only [↓X03,wA,↓reduceIte,reduceIte,reduceCtorEq,Y1,Y2,Y3,Y4,Y5,Y6,Y7,Y8,Y9,YA,wE]
 refine X01 c3 rfl ?_
 simp only [↓X03,wA,↓reduceIte,reduceIte,reduceCtorEq,Y1,Y2,Y3,Y4,Y5,Y6,Y7,Y8,Y9,YA,wE]
 refine X01 c4 rfl ?_
 simp only [↓X03,wA,↓reduceIte,reduceIte,reduceCtorEq,Y1,Y2,Y3,Y4,Y5,Y6,Y7,Y8,Y9,YA,wE]
 refine X01 c5 rfl ?_
 simp only [↓X03,wA,↓reduceIte,reduceIte,reduceCtorEq,Y1,Y2,Y3,Y4,Y5,Y6,Y7,Y8,Y9,YA,wE]
 refine X0d (fun i:Nat=>⟨13,[],[.any,.any,.any,.any,.ref 0 0 0,.ref 1 0 0,.ref 2 0 0,.ref 3 0 0,.bool false,.any,.any,.sl 5 40 (ofL (vC (A 0) ++ (vC (A 1) ++ (vC (A 2) ++ (vC (A 3) ++ vC (A 4)))))) true,I i],[],[.row 0 8 (ofL (vC a)),.row 0 8 (ofL (vC b)),.row 0 8 (ofL (vC c)),.row 0 8 (ofL (vC d))]⟩) (fun i=>i≤5∧∀ j,j<i→F j=false) (fun i=>5 - i) 0 ⟨by omega,by omega⟩
  (X0t (m:=4) (Nat.zero_le _) rfl (by simp [vC,X04,X0p,I]) (by simp [X0q]) (by simp [vC,X04]) (by simp [X0L,bel]) (by simp [X0L]) (by simp [brow])) ?_
 rintro i ⟨hi,hok⟩ next
 have w0:IntKind.i64.wrap (0+1)=1:=by decide
 have w1:IntKind.i64.wrap (1+1)=2:=by decide
 have w2:IntKind.i64.wrap (2+1)=3:=by decide
 have w3:IntKind.i64.wrap (3+1)=4:=by decide
 have w4:IntKind.i64.wrap (4+1)=5:=by decide
 have e0:((0:Nat):Int)=0:=rfl
 have e1:((1:Nat):Int)=1:=rfl
 have e2:((2:Nat):Int)=2:=rfl
 have e3:((3:Nat):Int)=3:=rfl
 have e4:((4:Nat):Int)=4:=rfl
 have e5:((5:Nat):Int)=5:=rfl
 have t1:(1:Int).toNat=1:=rfl
 have t2:(2:Int).toNat=2:=rfl
 have t3:(3:Int).toNat=3:=rfl
 have t4:(4:Int).toNat=4:=rfl
 by_cases hi5:i<5
 ·have k:=kb i hi5
  have hcase:i=0∨i=1∨i=2∨i=3∨i=4:=by omega
  by_cases hv:F i=true
  ·rw [hv] at k
   have hb:false=V:=by
    rw [hV,decide_eq_false]
    intro h
    rw [h i hi5] at hv; cases hv
   rcases hcase with rfl | rfl | rfl | rfl | rfl
   all_goals
    refine X00 1000 ?_
    simp only [vC,List.cons_append,List.nil_append,e0,e1,e2,e3,e4,e5,t1,t2,t3,t4,w0,w1,w2,w3,w4,Int.reduceLT,Int.reduceLE,Int.toNat_zero,↓X03,wA,↓reduceIte,reduceIte,reduceCtorEq,Y1,Y2,Y3,Y4,Y5,Y6,Y7,Y8,Y9,YA,wE]
    refine X01 k rfl ?_
    simp only [↓X03,wA,↓reduceIte,reduceIte,reduceCtorEq,Y1,Y2,Y3,Y4,Y5,Y6,Y7,Y8,Y9,YA,wE]
    exact fin rfl hb
  rw [Bool.not_eq_true] at hv
  rw [hv] at k
  have nx:=next (i+1)
  rcases hcase with rfl | rfl | rfl | rfl | rfl
  all_goals
   refine X00 1000 ?_
   simp only [vC,List.cons_append,List.nil_append,e0,e1,e2,e3,e4,e5,t1,t2,t3,t4,w0,w1,w2,w3,w4,Int.reduceLT,Int.reduceLE,Int.toNat_zero,↓X03,wA,↓reduceIte,reduceIte,reduceCtorEq,Y1,Y2,Y3,Y4,Y5,Y6,Y7,Y8,Y9,YA,wE]
   refine X01 k rfl ?_
   simp only [w0,w1,w2,w3,w4,↓X03,wA,↓reduceIte,reduceIte,reduceCtorEq,Y1,Y2,Y3,Y4,Y5,Y6,Y7,Y8,Y9,YA,wE]
   refine nx _ ⟨by omega,fun j hj=>?_⟩ (by omega) (X09 rfl (by simp [vC,X04,X0p,I]) (by simp [X0q]) (by simp [vC,X04]))
   rcases Nat.lt_succ_iff_lt_or_eq.1 hj with h | h
   ·exact hok j h
   ·rw [h]; exact hv
 obtain rfl:i=5:=by omega
 refine X00 1000 ?_
 simp only [e5,Int.lt_irrefl,↓X03,wA,↓reduceIte,reduceIte,reduceCtorEq,Y1,Y2,Y3,Y4,Y5,Y6,Y7,Y8,Y9,YA,wE]
 exact fin rfl (by rw [hV,decide_eq_true hok])
theorem Xeg (L:List V2) (k:Nat) (h:X0Y L k) (hk:k≤1000) (hl:L.length<1000000):Fn Tryz.prog 181 [X0A L] (.bool true):=by
 have rv:∀ r:Rat,qb r≤1000→Fn Tryz.prog 83 [qA r] (.bool true):=fun r hr=>by
  have h1:=RQ.of_sz r
  have:=X8Q (RQ.of r) (by omega)
  rwa [decide_eq_true ⟨r,rfl⟩] at this
 refine Fq Tryz.call181 Tryz.func181 4 [] [] [] (by simp [X0b]) (X00 1000 ?_)
 simp only [AS.start,X05,↓X03,wA,↓reduceIte,reduceIte,reduceCtorEq,Y1,Y2,Y3,Y4,Y5,Y6,Y7,Y8,Y9,YA,wE]
 refine X0d (fun i:Nat=>⟨4,[],[X0A L,.any,.bool false,I i],[],[]⟩) (fun i=>i≤L.length) (fun i=>L.length - i) 0 (by omega)
  (X09 rfl (by simp [X05,X0p,I]) (by simp [X0q]) rfl) ?_
 intro i hi next
 have w1:=wj i (by omega)
 by_cases hi2:i<L.length
 ·have f3:((i:Int)<L.length)=True:=eq_true (by omega)
  have f4:(i<L.length)=True:=eq_true hi2
  have f5:(i*8+8≤L.length*8)=True:=eq_true (by omega)
  have f6:(i*8+4≤L.length*8)=True:=eq_true (by omega)
  have f7:(i*8+4+4≤L.length*8)=True:=eq_true (by omega)
  have v1:=vF L i
  have hx:=X2w (L.getD i v0); have hy:=X2k (L.getD i v0); have hb:=h i
  refine X00 1000 ?_
  simp only [X05,w1,f3,f4,f5,f6,f7,v1,Int.toNat_natCast,↓X03,wA,↓reduceIte,reduceIte,reduceCtorEq,Y1,Y2,Y3,Y4,Y5,Y6,Y7,Y8,Y9,YA,wE]
  refine X01 (rv (L.getD i v0).x (by omega)) rfl ?_
  simp only [X05,w1,f3,f4,f5,f6,f7,v1,Int.toNat_natCast,↓X03,wA,↓reduceIte,reduceIte,reduceCtorEq,Y1,Y2,Y3,Y4,Y5,Y6,Y7,Y8,Y9,YA,wE]
  refine X01 (rv (L.getD i v0).y (by omega)) rfl ?_
  simp only [w1,↓X03,wA,↓reduceIte,reduceIte,reduceCtorEq,Y1,Y2,Y3,Y4,Y5,Y6,Y7,Y8,Y9,YA,wE]
  exact next (i+1) _ (by omega) (by omega) (X09 rfl (by simp [X05,X0p,I]) (by simp [X0q]) rfl)
 obtain rfl:i=L.length:=by omega
 refine X00 1000 ?_
 simp only [X05,Int.lt_irrefl,Nat.lt_irrefl,↓X03,wA,↓reduceIte,reduceIte,reduceCtorEq,Y1,Y2,Y3,Y4,Y5,Y6,Y7,Y8,Y9,YA,wE]
 exact X0r rfl rfl (X02 _) rfl
theorem X8P (L:List V2) (h:X0Y L 1000) (hl:L.length<1000000):Fn Tryz.prog 92 [X0A L] (.bool (decide (X0F L))):=by
 obtain ⟨V,hV⟩:∃ V,V=decide (X0F L):=⟨_,rfl⟩
 have cn:=Xeg L 1000 h (by omega) hl
 rw [← hV]
 have fin:∀ {s:AS} {v:Bool},s.get 2=.bool v→v=V→RetOk (X2f Tryz.prog Tryz.f92 [] [] (.bool V)) s:=fun h e=>X0r rfl h (X02 _) (by rw [e])
 have sm:∀ i,vb (atF L i)≤1000:=fun i=>h (i % L.length)
 refine Fq Tryz.call92 Tryz.func92 6 [] [] [] (by simp [X0b]) (X00 1000 ?_)
 by_cases hlo:(L.length:Int)<3
 ·have f1:((L.length:Int)<3)=True:=eq_true hlo
  have f1':(L.length<3)=True:=eq_true (by omega)
  simp only [AS.start,X05,f1,f1',↓X03,wA,seval,wE]
  exact fin rfl (by rw [hV,decide_eq_false]; unfold X0F; omega)
 have f1:((L.length:Int)<3)=False:=eq_false hlo
 have f1':(L.length<3)=False:=eq_false (by omega)
 by_cases hhi:(12:Int)<L.length
 ·have f2:((12:Int)<L.length)=True:=eq_true hhi
  have f2':(12<L.length)=True:=eq_true (by omega)
  simp only [AS.start,X05,f1,f1',f2,f2',↓X03,wA,seval,wE]
  exact fin rfl (by rw [hV,decide_eq_false]; unfold X0F; omega)
 have f2:((12:Int)<L.length)=False:=eq_false hhi
 have f2':(12<L.length)=False:=eq_false (by omega)
 simp only [AS.start,X05,f1,f1',f2,f2',↓X03,wA,seval,wE]
 refine X01 cn rfl ?_
 simp only [f1,f1',f2,f2',↓X03,wA,seval,wE]
 have hn0:L.length≠0:=by omega
 refine X0d (fun i:Nat=>⟨6,[],[X0A L,.any,.bool false,I i,.any,.any],[],[]⟩) (fun i=>i≤L.length∧∀ j,j<i→XlI L j) (fun i=>L.length - i) 0 ⟨by omega,by omega⟩
  (X09 rfl (by simp [X05,X0p,I]) (by simp [X0q]) rfl) ?_
 rintro i ⟨hi,hgood⟩ next
 have w1:=wj i (by omega)
 have w2:IntKind.i64.wrap ((i:Int)+2)=((i+2:Nat):Int):=by rw [IntKind.wrap_i64]; omega
 by_cases hi2:i<L.length
 rotate_left
 ·obtain rfl:i=L.length:=by omega
  refine X00 1000 ?_
  simp only [X05,Int.lt_irrefl,Nat.lt_irrefl,↓X03,wA,seval,wE]
  have ca:=Xjt L 1000 h (by omega) (by omega)
  have cs:=X4t (X4S L) (by have:=(XkA L 1000 h (by omega) (by omega)).2; unfold rm; omega)
  refine X01 ca rfl ?_
  simp only [↓X03,wA,seval,wE]
  refine X01 cs rfl ?_
  simp only [↓X03,wA,seval,wE]
  exact fin rfl (by rw [hV,decide_eq_decide]; unfold X0F; exact ⟨fun h=>⟨by omega,hgood,h⟩,fun h=>h.2.2⟩)
 have at_i:∀ j,j<L.length→atF L j=L.getD j v0:=fun j hj=>by unfold atF; rw [Nat.mod_eq_of_lt hj]
 have f3:((i:Int)<L.length)=True:=eq_true (by omega)
 have f4:(i<L.length)=True:=eq_true hi2
 have f5:(i*8+8≤L.length*8)=True:=eq_true (by omega)
 have v1:=vF L i
 have cat:∀ j:Nat,j<1000000000→Fn Tryz.prog 183 [X0A L,I j] (vA (atF L j)):=fun j hj=>Xlj L j hl hn0 hj
 have cs:=X4s (atF L i) (atF L (i+1)) (atF L (i+2)) (by have:=sm i; unfold vs; omega) (by have:=sm (i+1); unfold vs; omega) (by have:=sm (i+2); unfold vs; omega)
 refine X00 1000 ?_
 simp only [X05,w1,w2,f3,f4,f5,v1,Int.toNat_natCast,↓X03,wA,seval,wE]
 refine X01 (cat (i+1) (by omega)) rfl ?_
 simp only [X05,w1,w2,f3,f4,f5,v1,Int.toNat_natCast,↓X03,wA,seval,wE]
 refine X01 (cat (i+2) (by omega)) rfl ?_
 simp only [X05,w1,w2,f3,f4,f5,v1,Int.toNat_natCast,↓X03,wA,seval,wE]
 have cs':=cs
 rw [at_i i hi2] at cs'
 refine X01 cs' rfl ?_
 by_cases hs:X3H (atF L i) (atF L (i+1)) (atF L (i+2))=0
 ·have g5:(X3H (L.getD i v0) (atF L (i+1)) (atF L (i+2))=0)=True:=eq_true (by rw [← at_i i hi2]; exact hs)
  simp only [g5,↓X03,wA,seval,wE]
  exact fin rfl (by rw [hV,decide_eq_false]; exact fun hp=>(hp.2.1 i hi2).1 hs)
 have g5:(X3H (L.getD i v0) (atF L (i+1)) (atF L (i+2))=0)=False:=eq_false (by rw [← at_i i hi2]; exact hs)
 simp only [g5,w1,w2,↓X03,wA,seval,wE]
 refine X0d (fun k:Nat=>⟨6,[],[X0A L,.any,.bool false,I i,I k,.any],[],[]⟩) (fun k=>k≤L.length∧∀ j,j<k→¬ Xhb L i j) (fun k=>L.length - k) 0 ⟨by omega,by omega⟩
  (X09 rfl (by simp [X05,X0p,I]) (by simp [X0q]) rfl) ?_
 rintro k ⟨hk,hpair⟩ nextk
 have u1:=wj k (by omega)
 by_cases hk3:k<L.length
 rotate_left
 ·obtain rfl:k=L.length:=by omega
  refine X00 1000 ?_
  simp only [X05,Int.lt_irrefl,Nat.lt_irrefl,w1,↓X03,wA,seval,wE]
  refine next (i+1) _ ⟨by omega,fun j hj=>?_⟩ (by omega) (X09 rfl (by simp [X05,X0p,I]) (by simp [X0q]) rfl)
  by_cases hji:j<i
  ·exact hgood j hji
  ·obtain rfl:j=i:=by omega
   exact ⟨hs,fun q hq=>hpair q hq⟩
 have g3:((k:Int)<L.length)=True:=eq_true (by omega)
 have g4:(k<L.length)=True:=eq_true hk3
 have h5:(k*8+8≤L.length*8)=True:=eq_true (by omega)
 have v2:=vF L k
 have f6:((L.length:Int)=0)=False:=eq_false (by omega)
 have f6':(L.length=0)=False:=eq_false hn0
 have r1:IntKind.i64.wrap ((k:Int) - i)=(k:Int) - i:=by rw [IntKind.wrap_i64]; omega
 have r2:IntKind.i64.wrap ((k:Int) - i+L.length)=((k+L.length - i:Nat):Int):=by rw [IntKind.wrap_i64]; omega
 have r3:((k+L.length - i:Nat):Int).tmod L.length=(((k+L.length - i) % L.length:Nat):Int):=rfl
 have r4:IntKind.i64.wrap ((L.length:Int) - 1)=((L.length - 1:Nat):Int):=by rw [IntKind.wrap_i64]; omega
 obtain ⟨G,hG⟩:∃ G,G=(k+L.length - i) % L.length:=⟨_,rfl⟩
 rw [← hG] at r3
 have step:¬ Xhb L i k→∀ j,j<k+1→¬ Xhb L i j:=fun hb j hj=>by
  by_cases hjk:j<k
  ·exact hpair j hjk
  ·obtain rfl:j=k:=by omega
   exact hb
 by_cases q1:1<G
 rotate_left
 ·have q2:(1<G)=False:=eq_false q1
  have q2':((1:Int)<(G:Int))=False:=eq_false (by omega)
  refine X00 1000 ?_
  simp only [X05,w1,u1,g3,g4,f6,f6',r1,r2,r3,r4,q2,q2',↓X03,wA,seval,wE]
  exact nextk (k+1) _ ⟨by omega,step fun hb=>q1 (by rw [hG]; exact hb.1)⟩ (by omega) (X09 rfl (by simp [X05,X0p,I]) (by simp [X0q]) rfl)
 have q2:(1<G)=True:=eq_true q1
 have q2':((1:Int)<(G:Int))=True:=eq_true (by omega)
 by_cases q3:G<L.length - 1
 rotate_left
 ·have q4:(G<L.length - 1)=False:=eq_false q3
  have q4':((G:Int)<((L.length - 1:Nat):Int))=False:=eq_false (by omega)
  refine X00 1000 ?_
  simp only [X05,w1,u1,g3,g4,f6,f6',r1,r2,r3,r4,q2,q2',q4,q4',↓X03,wA,seval,wE]
  exact nextk (k+1) _ ⟨by omega,step fun hb=>q3 (by rw [hG]; exact hb.2.1)⟩ (by omega) (X09 rfl (by simp [X05,X0p,I]) (by simp [X0q]) rfl)
 have q4:(G<L.length - 1)=True:=eq_true q3
 have q4':((G:Int)<((L.length - 1:Nat):Int))=True:=eq_true (by omega)
 have cm:=Xjh (atF L i) (atF L (i+1)) (atF L k) (atF L (k+1)) (by have:=sm i; omega) (by have:=sm (i+1); omega) (by have:=sm k; omega) (by have:=sm (k+1); omega)
 rw [at_i i hi2,at_i k hk3] at cm
 refine X00 1000 ?_
 simp only [X05,w1,u1,f3,f4,f5,g3,g4,h5,f6,f6',r1,r2,r3,r4,q2,q2',q4,q4',v1,v2,Int.toNat_natCast,↓X03,wA,seval,wE]
 refine X01 (cat (i+1) (by omega)) rfl ?_
 simp only [X05,w1,u1,f3,f4,f5,g3,g4,h5,f6,f6',r1,r2,r3,r4,q2,q2',q4,q4',v1,v2,Int.toNat_natCast,↓X03,wA,seval,wE]
 refine X01 (cat (k+1) (by omega)) rfl ?_
 simp only [X05,w1,u1,f3,f4,f5,g3,g4,h5,f6,f6',r1,r2,r3,r4,q2,q2',q4,q4',v1,v2,Int.toNat_natCast,↓X03,wA,seval,wE]
 refine X01 cm rfl ?_
 by_cases hmt:X4L (L.getD i v0) (atF L (i+1)) (L.getD k v0) (atF L (k+1))
 ·rw [decide_eq_true hmt]
  simp only [↓X03,wA,seval,wE]
  exact fin rfl (by rw [hV,decide_eq_false]; exact fun hp=>(hp.2.1 i hi2).2 k hk3 ⟨by omega,by omega,by rw [at_i i hi2,at_i k hk3]; exact hmt⟩)
 ·rw [decide_eq_false hmt]
  simp only [u1,↓X03,wA,seval,wE]
  exact nextk (k+1) _ ⟨by omega,step fun hb=>hmt (by have:=hb.2.2; rwa [at_i i hi2,at_i k hk3] at this)⟩ (by omega) (X09 rfl (by simp [X05,X0p,I]) (by simp [X0q]) rfl)
theorem X1Y (n m:Int) (hn:X51 n) (hm:m≠0):Fn Tryz.prog 17 [I n,I m] (I (X0Z n m)):=by
 obtain ⟨h1,h2⟩:=hn
 refine Fq Tryz.call17 Tryz.func17 5 [] [] [] (by simp [wS]) (X00 1000 ?_); simp (config:={ maxSteps:=2000000 }) only [AS.start,↓X03,wA,seval,wE]
 refine ⟨fun h=>⟨hm,X8R rfl (X1h (X08 _) ?_)⟩,fun h=>⟨hm,X8R rfl (X1h (X08 _) ?_)⟩⟩
 ·have e1:IntKind.i64.wrap (n+1)=n+1:=by rw [IntKind.wrap_i64]; omega
  have e2:IntKind.i64.wrap (-(n+1)) = -(n+1):=by rw [IntKind.wrap_i64]; omega
  simp [AS.get,X0Z,h,e1,e2,I]
 ·simp [AS.get,X0Z,h,I]
theorem X2q (l:List Int) (i m:Int) (hl:XaQ l) (hm:m≠0):Fn Tryz.prog 74 [X0f l,I i,I m] (I (Ab.atF l i m)):=by
 refine Fq Tryz.call74 Tryz.func74 7 [] [] [] (by simp [X07,X08]) (X00 1000 ?_)
 by_cases h0:i<0
 ·have f1:(i<0)=True:=eq_true h0
  simp only [AS.start,X04,f1,↓X03,wA,seval,wE]
  exact X0r (v:=I 0) rfl rfl (X08 _) (by rw [show Ab.atF l i m=0 from if_pos (.inl h0)])
 have f1:(i<0)=False:=eq_false h0
 by_cases h1:(l.length:Int)≤i
 ·have f2:((l.length:Int)≤i)=True:=eq_true h1
  simp only [AS.start,X04,f1,f2,↓X03,wA,seval,wE]
  exact X0r (v:=I 0) rfl rfl (X08 _) (by rw [show Ab.atF l i m=0 from if_pos (.inr h1)])
 have f2:((l.length:Int)≤i)=False:=eq_false h1
 have f3:(0≤i)=True:=eq_true (by omega)
 have f4:(i<(l.length:Int))=True:=eq_true (by omega)
 have f5:(i.toNat<l.length)=True:=eq_true (by omega)
 simp only [AS.start,X04,f1,f2,f3,f4,f5,↓X03,wA,seval,wE]
 refine X01 (X1Y _ m (Xo2 hl i.toNat) hm) rfl ?_
 simp only [↓X03,wA,seval,wE]
 exact X0r (v:=I (X0Z (l.getD i.toNat 0) m)) rfl rfl (X08 _) (by rw [show Ab.atF l i m=X0Z (l.getD i.toNat 0) m from if_neg (by omega)])
theorem XmH (a b:List Int) (ha:a.length<4611686018427387904):Fn Tryz.prog 85 [X0f a,X0f b] (.bool (decide (a=b))):=by
 obtain ⟨V,hV⟩:∃ V,V=decide (a=b):=⟨_,rfl⟩
 rw [← hV]
 refine Fq Tryz.call85 Tryz.func85 6 [] [] [] (by simp [X07]) (X00 1000 ?_)
 by_cases hl:a.length=b.length
 rotate_left
 ·have f1:((a.length:Int)=b.length)=False:=eq_false (by omega)
  have f1':(a.length=b.length)=False:=eq_false hl
  simp only [AS.start,X04,f1,f1',↓X03,wA,seval,wE]
  exact X0r (v:=.bool false) rfl rfl (X02 _) (by rw [hV,decide_eq_false fun e=>hl (by rw [e])])
 have f1:((a.length:Int)=b.length)=True:=eq_true (by omega)
 have f1':(a.length=b.length)=True:=eq_true hl
 simp only [AS.start,X04,f1,f1',↓X03,wA,seval,wE]
 refine X0d (fun j:Nat=>⟨6,[],[X0f a,X0f b,.any,.any,.bool false,I j],[],[]⟩) (fun j=>j≤a.length∧∀ i,i<j→a.getD i 0=b.getD i 0) (fun j=>a.length - j) 0 ⟨by omega,by omega⟩
  (X09 rfl (by simp [X0p,X04,I,hl]) (by simp [X0q]) rfl) ?_
 rintro j ⟨hj,hno⟩ next
 have w1:=wj j (by omega)
 by_cases hj2:j<a.length
 rotate_left
 ·have f2:((j:Int)<a.length)=False:=eq_false (by omega)
  have f3:(j<a.length)=False:=eq_false hj2
  refine X00 1000 ?_
  simp only [X04,w1,f2,f3,↓X03,wA,seval,wE]
  refine X0r (v:=.bool true) rfl rfl (X02 _) ?_
  rw [hV,decide_eq_true]
  refine List.ext_getElem hl fun i h1 h2=>?_
  have:=hno i (by omega)
  rw [List.getD_eq_getElem?_getD,List.getElem?_eq_getElem h1,List.getD_eq_getElem?_getD,List.getElem?_eq_getElem h2] at this
  exact this
 have f2:((j:Int)<a.length)=True:=eq_true (by omega)
 have f3:(j<a.length)=True:=eq_true hj2
 have f4:(j<b.length)=True:=eq_true (by omega)
 by_cases hv:a.getD j 0=b.getD j 0
 rotate_left
 ·have f5:(a.getD j 0=b.getD j 0)=False:=eq_false hv
  refine X00 1000 ?_
  simp only [X04,w1,f2,f3,f4,f5,Int.toNat_natCast,↓X03,wA,seval,wE]
  refine X0r (v:=.bool false) rfl rfl (X02 _) ?_
  rw [hV,decide_eq_false fun e=>hv (by rw [e])]
 have f5:(a.getD j 0=b.getD j 0)=True:=eq_true hv
 refine X00 1000 ?_
 simp only [X04,w1,f2,f3,f4,f5,Int.toNat_natCast,↓X03,wA,seval,wE]
 refine next (j+1) _ ⟨by omega,fun i hi=>?_⟩ (by omega) (X09 rfl (by simp [X0p,X04,I]) (by simp [X0q]) rfl)
 by_cases e:i=j
 ·rw [e]; exact hv
 ·exact hno i (by omega)
def Xvf (n:Int):Rat:=Rat.divInt ((X0Z n 100).tmod 25 - 12) (1+(X0Z n 100).tdiv 25)
theorem Xm7 (n:Int) (hn:X51 n):Fn Tryz.prog 15 [I n] (qA (Xvf n)):=by
 obtain ⟨k,hk⟩:∃ k,k=X0Z n 100:=⟨_,rfl⟩
 have hb:=X1g n 100 (by omega)
 have c1:=X1Y n 100 hn (by omega)
 rw [← hk] at hb c1
 have b1:k.tmod 25=k % 25:=Int.tmod_eq_emod_of_nonneg hb.1
 have b2:k.tdiv 25=k / 25:=Int.tdiv_eq_ediv_of_nonneg hb.1
 have c2:=X1M (k.tmod 25 - 12) (1+k.tdiv 25) ⟨by omega,by omega⟩ ⟨by omega,by omega⟩
 have w1:IntKind.i64.wrap (k.tmod 25 - 12)=k.tmod 25 - 12:=by rw [IntKind.wrap_i64]; omega
 have w2:IntKind.i64.wrap (k.tdiv 25)=k.tdiv 25:=by rw [IntKind.wrap_i64]; omega
 have w3:IntKind.i64.wrap (1+k.tdiv 25)=1+k.tdiv 25:=by rw [IntKind.wrap_i64]; omega
 obtain ⟨R,hR⟩:∃ R,R=qA (Xvf n):=⟨_,rfl⟩
 have sR:Settled R:=hR▸X0a _
 rw [show Rat.divInt (k.tmod 25 - 12) (1+k.tdiv 25)=Xvf n by rw [hk]; rfl,← hR] at c2
 rw [← hR]
 refine Fq Tryz.call15 Tryz.func15 4 [] [] [] (by simp [wS]) (X00 1000 ?_); simp (config:={ maxSteps:=2000000 }) only [AS.start,↓X03,wA,seval,wE]
 refine X01 c1 rfl ?_
 simp only [w1,w2,w3,Int.reduceEq,↓X03,wA,seval,wE]
 refine X01 c2 rfl ?_
 simp only [hR,↓X03,wA,seval,wE]
 exact X3V rfl X1k rfl rfl rfl sR (hR.trans rfl)
theorem Xq2 {x y:RQ} {a b:Rat} (hx:x=RQ.of a) (hy:y=RQ.of b) (sx:x.sz≤1000000) (sy:y.sz≤1000000):Fn Tryz.prog 95 [x.A,y.A] (I (X1Z a b)):=by
 rw [hx] at sx; rw [hy] at sy
 have h1:=X6w a; have h2:=X6w b
 rw [hx,hy]; exact X1q a b (by unfold rm; omega) (by unfold rm; omega)
theorem X9j (p:PV) (hl:p.rim.length<1000000) (hr:∀ i,i<p.rim.length→Xdp (p.rim.getD i (0,0))=true):Fn Tryz.prog 93 [pvA p] (X0A (X0Q p.rim)):=by
 obtain ⟨R,hR⟩:∃ R,R=X0A (X0Q p.rim):=⟨_,rfl⟩
 have sR:Settled R:=hR▸X0b _
 have bo:X1j 2 (.con 0 25 (ofL (pvC p)))=True:=eq_true (fun j _=>X06 (X0c (X0w p) j))
 have hvc:∀ a:V2,∀ x∈vC a,Settled x:=fun a=>by simp [vC,X07,X02]
 have br:∀ i l n,X1j 2 (.row i n (X0M vC 8 v0 l))=True:=fun i l n=>eq_true fun j _=>X06 (X0c (hvc _) _)
 rw [← hR]
 refine Fq Tryz.call93 Tryz.func93 5 [] [5,60000001] [] (by simp [X0o]) (X00 1000 ?_)
 simp only [AS.start,pvA,pvC,↓X03,wA,seval,wE]
 refine X0d (fun i:Nat=>⟨5,[],[.any,.ref 0 0 0,.any,.osl 1 i 8 0 i,I i],[],[.con 0 25 (ofL (pvC p)),.row i (i*8) (X0M vC 8 v0 (X0Q (p.rim.take i)))]⟩) (fun i=>i≤p.rim.length) (fun i=>p.rim.length - i) 0 (by omega)
  (Sub.trans (X1a 0 rfl) (Sub.trans (X0W 3 8 (X0M vC 8 v0 []) rfl) (X09 rfl (by simp [AS.put,X0p,I]) (by simp [AS.put,X0q]) (by simp [AS.put,pvC,X0e,X0j,X04,I,X0Q])))) ?_
 intro i hi next
 have w1:=wj i (by omega)
 by_cases hi2:i<p.rim.length
 ·have f1:((i:Int)<p.rim.length)=True:=eq_true (by omega)
  have f2:(i<p.rim.length)=True:=eq_true hi2
  have f3:(i*2+2≤p.rim.length*2)=True:=eq_true (by omega)
  have f4:(i*2+1≤p.rim.length*2)=True:=eq_true (by omega)
  have f5:(i*2<p.rim.length*2)=True:=eq_true (by omega)
  have f6:(i*2+1<p.rim.length*2)=True:=eq_true (by omega)
  have v1:=ptF p.rim i
  have hok:=hr i hi2
  unfold Xdp wb at hok
  simp only [Bool.and_eq_true,decide_eq_true_eq] at hok
  have c1:=X3k (p.rim.getD i (0,0)).1 (p.rim.getD i (0,0)).2 ⟨by omega,by omega⟩ ⟨by omega,by omega⟩
  refine X00 1000 ?_
  simp only [pvC,w1,f1,f2,f3,f4,f5,f6,v1,Int.toNat_natCast,↓X03,wA,seval,wE]
  refine X01 c1 rfl ?_
  simp only [w1,↓X03,wA,seval,wE]
  have hap:=X0E vC 8 v0 (X0Q (p.rim.take i)) (ptV (p.rim.getD i (0,0))) (by omega)
  have hlen:(X0Q (p.rim.take i)).length=i:=by simp [X0Q]; omega
  have htk:X0Q (p.rim.take i) ++ [ptV (p.rim.getD i (0,0))]=X0Q (p.rim.take (i+1)):=by rw [X4i _ (0,0) hi2]; simp [X0Q]
  rw [hlen,htk] at hap
  refine ⟨⟨fun j hj=>?_,by omega,by omega⟩,next (i+1) _ (by omega) (by omega) (X0t (m:=2) (Nat.zero_le _) rfl (by simp [X0p,I]) (by simp [X0q]) (by rw [← hap]; rfl) (by simp [X0L]) (by simp [X0L]) (by simp [bo,br]))⟩
  match j,hj with
  | 0,_=>rfl
  | 1,_=>rfl
  | 2,_=>rfl
  | 3,_=>rfl
  | 4,_=>rfl
  | 5,_=>rfl
  | 6,_=>rfl
  | 7,_=>rfl
  | j+8,h=>omega
 obtain rfl:i=p.rim.length:=by omega
 refine X00 1000 ?_
 simp only [pvC,Int.lt_irrefl,Nat.lt_irrefl,↓X03,wA,seval,wE]
 refine X8R rfl ?_
 have hlen:(X0Q p.rim).length=p.rim.length:=by simp [X0Q]
 rw [hR,X05,hlen]
 refine X1e (n:=p.rim.length) (.inl rfl) (by omega) (fun h=>by rw [h]) fun j hj=>?_
 rw [List.take_length,Nat.zero_add]
 exact (X0c (hvc _) _).sees _
theorem X2t {P:Nat→Prop} {i:Nat}:(∀ j,j<i+1→P j)↔(∀ j,j<i→P j)∧P i :=
 ⟨fun h=>⟨fun j hj=>h j (by omega),h i (by omega)⟩,fun h j hj=>(Nat.lt_succ_iff_lt_or_eq.1 hj).elim (h.1 j) (fun e=>e▸h.2)⟩
theorem XyB {α:Type} {X:Env} {K:List Item} {Q:Prop} (P:α→Prop) (st:α→AS) (h1:(∀ a,P a→Run X K (st a))→Q) (h2:∀ a,P a→Run X K (st a)):Q:=h1 h2
theorem XmI (a b:PV) (ha:a.small) (hb:b.small):Fn Tryz.prog 20 [pvA a,pvA b] (.bool (decide (a=b))):=by
 obtain ⟨V,hV⟩:∃ V,V=decide (a=b):=⟨_,rfl⟩
 have fin:∀ {s:AS} {v:Bool},s.get 4=.bool v→v=V→RetOk (X2f Tryz.prog Tryz.f20 [] [] (.bool V)) s:=fun h e=>X0r rfl h (X02 _) (by rw [e])
 have no:∀ {q:Prop},(a=b→q)→¬ q→false=V:=fun h hq=>by rw [hV,decide_eq_false fun hh=>hq (h hh)]
 have b1:=ha.rim; have b2:=hb.rim; have b3:=ha.worn; have b4:=hb.worn; have b5:=ha.marks; have b6:=hb.marks
 rw [← hV]
 refine Fq Tryz.call20 Tryz.func20 7 [] [] [] (by simp [X0o]) (X00 1000 ?_)
 by_cases h1:a.id=b.id
 rotate_left
 ·have f1:(a.id=b.id)=False:=eq_false h1
  simp only [AS.start,pvA,pvC,f1,↓X03,wA,seval,wE]
  exact fin rfl (no (fun h=>by rw [h]) h1)
 have f1:(a.id=b.id)=True:=eq_true h1
 by_cases h2:a.home=b.home
 rotate_left
 ·have f2:(a.home=b.home)=False:=eq_false h2
  simp only [AS.start,pvA,pvC,f1,f2,↓X03,wA,seval,wE]
  exact fin rfl (no (fun h=>by rw [h]) h2)
 have f2:(a.home=b.home)=True:=eq_true h2
 by_cases h3:a.rim.length=b.rim.length
 rotate_left
 ·have f3:(a.rim.length=b.rim.length)=False:=eq_false h3
  have f3':((a.rim.length:Int)=b.rim.length)=False:=eq_false (by omega)
  simp only [AS.start,pvA,pvC,X0e,f1,f2,f3,f3',↓X03,wA,seval,wE]
  exact fin rfl (no (fun h=>by rw [h]) h3)
 have f3:(a.rim.length=b.rim.length)=True:=eq_true h3
 have f3':((a.rim.length:Int)=b.rim.length)=True:=eq_true (by omega)
 by_cases h4:a.worn.length=b.worn.length
 rotate_left
 ·have f4:(a.worn.length=b.worn.length)=False:=eq_false h4
  have f4':((a.worn.length:Int)=b.worn.length)=False:=eq_false (by omega)
  simp only [AS.start,pvA,pvC,X0e,X0j,f1,f2,f3,f3',f4,f4',↓X03,wA,seval,wE]
  exact fin rfl (no (fun h=>by rw [h]) h4)
 have f4:(a.worn.length=b.worn.length)=True:=eq_true h4
 have f4':((a.worn.length:Int)=b.worn.length)=True:=eq_true (by omega)
 simp only [AS.start,pvA,pvC,X0e,X0j,f1,f2,f3,f3',f4,f4',↓X03,wA,seval,wE]
 refine X01 (XmH a.marks b.marks (by omega)) rfl ?_
 by_cases h5:a.marks=b.marks
 rotate_left
 ·rw [decide_eq_false h5]
  simp only [↓X03,wA,seval,wE]
  exact fin rfl (no (fun h=>by rw [h]) h5)
 rw [decide_eq_true h5]
 simp only [↓X03,wA,seval,wE]
 refine X0d (fun i:Nat=>⟨7,[],[.any,.any,.ref 0 0 0,.ref 1 0 0,.bool false,I i,.any],[],[.row 0 25 (ofL (pvC a)),.row 0 25 (ofL (pvC b))]⟩) (fun i=>i≤a.rim.length∧∀ j,j<i→a.rim.getD j (0,0)=b.rim.getD j (0,0)) (fun i=>a.rim.length - i) 0 ⟨by omega,by omega⟩
  (X09 rfl (by simp [X0p,I]) (by simp [X0q]) (by simp [pvC,X0e,X0j,X04,I])) ?_
 rintro i ⟨hi,hrim⟩ next
 have w1:=wj i (by omega)
 by_cases hi2:i<a.rim.length
 ·have g1:((i:Int)<a.rim.length)=True:=eq_true (by omega)
  have g2:(i<a.rim.length)=True:=eq_true hi2
  have g3:(i<b.rim.length)=True:=eq_true (by omega)
  have g4:(i*2+2≤a.rim.length*2)=True:=eq_true (by omega)
  have g5:(i*2+2≤b.rim.length*2)=True:=eq_true (by omega)
  have g6:(i*2+1≤a.rim.length*2)=True:=eq_true (by omega)
  have g7:(i*2+1≤b.rim.length*2)=True:=eq_true (by omega)
  have g8:(i*2<a.rim.length*2)=True:=eq_true (by omega)
  have g9:(i*2<b.rim.length*2)=True:=eq_true (by omega)
  have ga:(i*2+1<a.rim.length*2)=True:=eq_true (by omega)
  have gb:(i*2+1<b.rim.length*2)=True:=eq_true (by omega)
  have v1:=ptF a.rim i
  have v2:=ptF b.rim i
  by_cases hx:(a.rim.getD i (0,0)).1=(b.rim.getD i (0,0)).1
  rotate_left
  ·have q1:((a.rim.getD i (0,0)).1=(b.rim.getD i (0,0)).1)=False:=eq_false hx
   refine X00 1000 ?_
   simp only [pvC,X0e,w1,g1,g2,g3,g4,g5,g6,g7,g8,g9,ga,gb,v1,v2,q1,Int.toNat_natCast,↓X03,wA,seval,wE]
   exact fin rfl (no (fun h=>by rw [h]) hx)
  have q1:((a.rim.getD i (0,0)).1=(b.rim.getD i (0,0)).1)=True:=eq_true hx
  by_cases hy:(a.rim.getD i (0,0)).2=(b.rim.getD i (0,0)).2
  rotate_left
  ·have q2:((a.rim.getD i (0,0)).2=(b.rim.getD i (0,0)).2)=False:=eq_false hy
   refine X00 1000 ?_
   simp only [pvC,X0e,w1,g1,g2,g3,g4,g5,g6,g7,g8,g9,ga,gb,v1,v2,q1,q2,Int.toNat_natCast,↓X03,wA,seval,wE]
   exact fin rfl (no (fun h=>by rw [h]) hy)
  have q2:((a.rim.getD i (0,0)).2=(b.rim.getD i (0,0)).2)=True:=eq_true hy
  refine X00 1000 ?_
  simp only [pvC,X0e,w1,g1,g2,g3,g4,g5,g6,g7,g8,g9,ga,gb,v1,v2,q1,q2,Int.toNat_natCast,↓X03,wA,seval,wE]
  refine next (i+1) _ ⟨by omega,X2t.2 ⟨hrim,Prod.ext hx hy⟩⟩ (by omega) (X09 rfl (by simp [X0p,I]) (by simp [X0q]) (by simp [pvC,X0e,X0j,X04,I]))
 obtain rfl:i=a.rim.length:=by omega
 have er:a.rim=b.rim:=List.ext_getElem h3 fun i h1 h2=>by
  have:=hrim i h1
  rwa [List.getD_eq_getElem?_getD,List.getElem?_eq_getElem h1,List.getD_eq_getElem?_getD,List.getElem?_eq_getElem h2] at this
 refine X00 1000 ?_
 simp only [pvC,X0e,Int.lt_irrefl,Nat.lt_irrefl,↓X03,wA,seval,wE]
 refine X0d (fun i:Nat=>⟨7,[],[.any,.any,.ref 0 0 0,.ref 1 0 0,.bool false,.any,I i],[],[.row 0 25 (ofL (pvC a)),.row 0 25 (ofL (pvC b))]⟩) (fun i=>i≤a.worn.length∧∀ j,j<i→a.worn.getD j false=b.worn.getD j false) (fun i=>a.worn.length - i) 0 ⟨by omega,by omega⟩
  (X09 rfl (by simp [X0p,I]) (by simp [X0q]) (by simp [pvC,X0e,X0j,X04,I])) ?_
 rintro i ⟨hi,hw⟩ next
 have w1:=wj i (by omega)
 by_cases hi2:i<a.worn.length
 ·have g1:((i:Int)<a.worn.length)=True:=eq_true (by omega)
  have g2:(i<a.worn.length)=True:=eq_true hi2
  have g3:(i<b.worn.length)=True:=eq_true (by omega)
  by_cases hx:a.worn.getD i false=b.worn.getD i false
  rotate_left
  ·have q1:(a.worn.getD i false=b.worn.getD i false)=False:=eq_false hx
   have q2:(a.worn.getD i false != b.worn.getD i false)=true:=bne_iff_ne.2 hx
   have q3:(a.worn.getD i false == b.worn.getD i false)=false:=beq_eq_false_iff_ne.2 hx
   refine X00 1000 ?_
   simp only [pvC,X0j,w1,g1,g2,g3,q1,q2,q3,Int.toNat_natCast,↓X03,wA,seval,wE]
   exact fin rfl (no (fun h=>by rw [h]) hx)
  have q1:(a.worn.getD i false=b.worn.getD i false)=True:=eq_true hx
  have q2:(a.worn.getD i false != b.worn.getD i false)=false:=by rw [hx]; simp
  have q3:(a.worn.getD i false == b.worn.getD i false)=true:=by rw [hx]; simp
  refine X00 1000 ?_
  simp only [pvC,X0j,w1,g1,g2,g3,q1,q2,q3,Int.toNat_natCast,↓X03,wA,seval,wE]
  exact next (i+1) _ ⟨by omega,X2t.2 ⟨hw,hx⟩⟩ (by omega) (X09 rfl (by simp [X0p,I]) (by simp [X0q]) (by simp [pvC,X0e,X0j,X04,I]))
 obtain rfl:i=a.worn.length:=by omega
 have ew:a.worn=b.worn:=List.ext_getElem h4 fun i h1 h2=>by
  have:=hw i h1
  rwa [List.getD_eq_getElem?_getD,List.getElem?_eq_getElem h1,List.getD_eq_getElem?_getD,List.getElem?_eq_getElem h2] at this
 have c1:=X4v a.tol b.tol (by have:=ha.tol; omega) (by have:=hb.tol; omega)
 have c2:=X4v a.light b.light (by have:=ha.light; omega) (by have:=hb.light; omega)
 have c3:=X4v a.heavy b.heavy (by have:=ha.heavy; omega) (by have:=hb.heavy; omega)
 have c4:=X4v a.strength b.strength (by have:=ha.strength; omega) (by have:=hb.strength; omega)
 have c5:=X4v a.rough b.rough (by have:=ha.rough; omega) (by have:=hb.rough; omega)
 refine X00 1000 ?_
 simp only [pvC,X0j,Int.lt_irrefl,Nat.lt_irrefl,↓X03,wA,seval,wE]
 refine X01 c1 rfl ?_
 by_cases n1:a.tol=b.tol
 rotate_left
 ·rw [decide_eq_false n1]
  simp only [↓X03,wA,seval,wE]
  exact fin rfl (no (fun h=>by rw [h]) n1)
 rw [decide_eq_true n1]
 simp only [↓X03,wA,seval,wE]
 refine X01 c2 rfl ?_
 by_cases n2:a.light=b.light
 rotate_left
 ·rw [decide_eq_false n2]
  simp only [↓X03,wA,seval,wE]
  exact fin rfl (no (fun h=>by rw [h]) n2)
 rw [decide_eq_true n2]
 simp only [↓X03,wA,seval,wE]
 refine X01 c3 rfl ?_
 by_cases n3:a.heavy=b.heavy
 rotate_left
 ·rw [decide_eq_false n3]
  simp only [↓X03,wA,seval,wE]
  exact fin rfl (no (fun h=>by rw [h]) n3)
 rw [decide_eq_true n3]
 simp only [↓X03,wA,seval,wE]
 refine X01 c4 rfl ?_
 by_cases n4:a.strength=b.strength
 rotate_left
 ·rw [decide_eq_false n4]
  simp only [↓X03,wA,seval,wE]
  exact fin rfl (no (fun h=>by rw [h]) n4)
 rw [decide_eq_true n4]
 simp only [↓X03,wA,seval,wE]
 refine X01 c5 rfl ?_
 simp only [↓X03,wA,seval,wE]
 refine fin rfl ?_
 rw [hV,decide_eq_decide,PV.eq_iff]
 exact ⟨fun h=>⟨⟨n1,n2,n3,n4,h⟩,h1,h2,er,ew,h5⟩,fun h=>h.1.2.2.2.2⟩
theorem XlL (p c:PV) (hp:p.small) (hc:c.small) {a b:Rat} (ea:p.tol=RQ.of a) (eb:c.tol=RQ.of b):Fn Tryz.prog 26 [pvA p,pvA c] (.bool (decide (p=X5d p c∧a≤b))):=by
 have c1:=XmI p (X5d p c) hp (X9V hp hc)
 have c2:=Xq2 eb ea hc.tol hp.tol
 obtain ⟨V,hV⟩:∃ V,V=decide (p=X5d p c∧a≤b):=⟨_,rfl⟩
 have fin:∀ {s:AS} {v:Bool},s.get 4=.bool v→v=V→RetOk (X2f Tryz.prog Tryz.f26 [] [] (.bool V)) s:=fun h e=>X0r rfl h (X02 _) (by rw [e])
 rw [← hV]
 refine Fq Tryz.call26 Tryz.func26 5 [] [] [] (by simp [X0o]) (X00 1000 ?_)
 simp only [AS.start,pvA,pvC,↓X03,wA,seval,wE]
 refine X01 c2 rfl ?_
 by_cases h:X1Z b a<0
 ·have f1:(X1Z b a<0)=True:=eq_true h
  simp only [f1,↓X03,wA,seval,wE]
  exact fin rfl (by rw [hV,decide_eq_false fun hh=>Rat.not_le.2 ((X2N _ _).1 h) hh.2])
 have f1:(X1Z b a<0)=False:=eq_false h
 simp only [f1,↓X03,wA,seval,wE]
 refine X01 c1 rfl ?_
 simp only [↓X03,wA,seval,wE]
 refine fin rfl ?_
 rw [hV,decide_eq_decide]
 exact ⟨fun hh=>⟨hh,by rw [← Rat.not_lt]; exact fun hl=>h ((X2N _ _).2 hl)⟩,fun hh=>hh.1⟩
def X4T (p:PV) (a:Rat) (n:Int):PV:=X5y p (X0Z n 900) (X0Z n 5) (a+Rat.divInt (X0Z n 6) 4)
theorem XkZ (p:PV) (n:Int) (hn:X51 n) {a:Rat} (ea:p.tol=RQ.of a) (ha:qb a≤100000):Fn Tryz.prog 23 [pvA p,I n] (pvA (X4T p a n)):=by
 have c1:=X1Y n 900 hn (by omega)
 have c2:=X1Y n 5 hn (by omega)
 have c3:=X1Y n 6 hn (by omega)
 have hb:=X1g n 6 (by omega)
 have c4:=X1M (X0Z n 6) 4 ⟨by omega,by omega⟩ ⟨by omega,by omega⟩
 have hq:=X2V (X0Z n 6) 4 3 (by omega) (X1n ⟨by omega,by omega⟩) (X1n ⟨by omega,by omega⟩)
 have c5:=X1W a (Rat.divInt (X0Z n 6) 4) (by unfold rm; omega) (by unfold rm; omega)
 replace c5:Fn Tryz.prog 76 [p.tol.A,qA (Rat.divInt (X0Z n 6) 4)] (qA (a+Rat.divInt (X0Z n 6) 4)):=by rw [ea]; exact c5
 obtain ⟨R,hR⟩:∃ R,R=X4T p a n:=⟨_,rfl⟩
 rw [← hR]
 refine Fq Tryz.call23 Tryz.func23 6 [] [4,50000002] [] (by simp [X0o,X08]) (X00 1000 ?_)
 simp only [AS.start,pvA,pvC,↓X03,wA,seval,wE]
 refine X01 c1 rfl ?_
 simp only [↓X03,wA,seval,wE]
 refine X01 c2 rfl ?_
 simp only [↓X03,wA,seval,wE]
 refine X01 c3 rfl ?_
 simp only [↓X03,wA,seval,wE]
 refine X01 c4 rfl ?_
 simp only [↓X03,wA,seval,wE]
 refine X01 c5 rfl ?_
 simp only [↓X03,wA,seval,wE]
 subst hR
 exact X6f rfl Xjb rfl rfl rfl (X0o _) rfl
theorem X9d {a:Rat} (h:qb a≤rm):(RQ.of a).sz<4611686018427387904:=Nat.lt_of_le_of_lt (RQ.of_sz a) (by unfold rm at h; omega)
theorem XbG (a b:Rat) (ha:qb a≤rm) (hb:qb b≤rm):Fn Tryz.prog 29 [qA a,qA b] (.bool (decide (a=b))):=by
 have:=Xd8 (RQ.of a) (RQ.of b) (X9d ha) (X9d hb)
 rwa [decide_eq_decide.2 (show RQ.of a=RQ.of b↔a=b from ⟨RQ.of_inj,fun h=>by rw [h]⟩)] at this
theorem X5n (a b:Rat) (ha:qb a≤rm) (hb:qb b≤rm):Fn Tryz.prog 86 [qA a,qA b] (.bool (decide (a=b))):=by
 have:=X4v (RQ.of a) (RQ.of b) (X9d ha) (X9d hb)
 rwa [decide_eq_decide.2 (show RQ.of a=RQ.of b↔a=b from ⟨RQ.of_inj,fun h=>by rw [h]⟩)] at this
theorem XmG (a:Rat) (ha:qb a≤rm):Fn Tryz.prog 79 [qA a] (.bool true):=by
 have:=X7R (RQ.of a) (Nat.lt_of_le_of_lt (RQ.of_sz a) (by unfold rm at ha; omega))
 rwa [decide_eq_true ⟨a,rfl⟩] at this
theorem XbD (a:Rat) (ha:qb a≤rm):Fn Tryz.prog 83 [qA a] (.bool true):=by
 have:=X8Q (RQ.of a) (Nat.lt_of_le_of_lt (RQ.of_sz a) (by unfold rm at ha; omega))
 rwa [decide_eq_true ⟨a,rfl⟩] at this
def rot (t a:V2):V2:=⟨t.x*a.x - t.y*a.y,t.y*a.x+t.x*a.y⟩
def V2.scale (a:V2) (k:Rat):V2:=⟨a.x*k,a.y*k⟩
def X7W (t:V2):Prop:=t.x*t.x+t.y*t.y=1
def X4b:V2:=⟨1,0⟩
theorem X7Z (t a:V2):vb (rot t a)≤2*(vb t+vb a)+1:=by
 have:=X1u t.x a.x; have:=X1u t.y a.y; have:=X1u t.y a.x; have:=X1u t.x a.y
 have:=X2w t; have:=X2k t; have:=X2w a; have:=X2k a
 have:=Xac (t.x*a.x) (t.y*a.y); have:=X2n (t.y*a.x) (t.x*a.y)
 unfold rot
 show max (qb (t.x*a.x - t.y*a.y)) (qb (t.y*a.x+t.x*a.y))≤_
 omega
theorem XqD (a:V2) (k:Rat):vb (a.scale k)≤vb a+qb k:=by
 have:=X1u a.x k; have:=X1u a.y k; have:=X2w a; have:=X2k a
 unfold V2.scale
 show max (qb (a.x*k)) (qb (a.y*k))≤_
 omega
theorem X57:Rat.divInt 1 1=1:=by decide +kernel
theorem V2.ext' {a b:V2}:a=b↔a.x=b.x∧a.y=b.y:=by
 cases a; cases b
 simp
theorem XcV (a b:V2) (ha:vb a≤vm) (hb:vb b≤vm):Fn Tryz.prog 42 [vA a,vA b] (.bool (decide (a=b))):=by
 unfold vm at ha hb
 have:=X2w a; have:=X2w b; have:=X2k a; have:=X2k b
 have c1:=XbG a.x b.x (by unfold rm; omega) (by unfold rm; omega)
 have c2:=XbG a.y b.y (by unfold rm; omega) (by unfold rm; omega)
 obtain ⟨V,hV⟩:∃ V,V=decide (a=b):=⟨_,rfl⟩
 rw [← hV]
 refine Fq Tryz.call42 Tryz.func42 5 [] [] [] (by simp [wS]) (X00 1000 ?_); simp (config:={ maxSteps:=2000000 }) only [AS.start,↓X03,wA,seval,wE]
 refine X01 c1 rfl ?_
 by_cases h:a.x=b.x
 ·rw [decide_eq_true h]
  simp only [↓X03,wA,seval,wE]
  refine X01 c2 rfl ?_
  simp only [↓X03,wA,seval,wE]
  exact X0r (v:=.bool (decide (a.y=b.y))) rfl rfl (X02 _) (by rw [hV]; exact congrArg AV.bool (decide_eq_decide.2 (show a.y=b.y↔a=b from ⟨fun e=>V2.ext'.2 ⟨h,e⟩,fun e=>(V2.ext'.1 e).2⟩)))
 ·rw [decide_eq_false h]
  simp only [↓X03,wA,seval,wE]
  exact X0r (v:=.bool false) rfl rfl (X02 _) (by rw [hV,decide_eq_false (p:=a=b) fun e=>h (by rw [e])])
theorem Xa8 (a b:V2) (ha:vb a≤vm) (hb:vb b≤vm):Fn Tryz.prog 67 [vA a,vA b] (.bool (decide (a=b))):=by
 unfold vm at ha hb
 have:=X2w a; have:=X2w b; have:=X2k a; have:=X2k b
 have c1:=XbG a.x b.x (by unfold rm; omega) (by unfold rm; omega)
 have c2:=XbG a.y b.y (by unfold rm; omega) (by unfold rm; omega)
 obtain ⟨V,hV⟩:∃ V,V=decide (a=b):=⟨_,rfl⟩
 rw [← hV]
 refine Fq Tryz.call67 Tryz.func67 5 [] [] [] (by simp [wS]) (X00 1000 ?_); simp (config:={ maxSteps:=2000000 }) only [AS.start,↓X03,wA,seval,wE]
 refine X01 c1 rfl ?_
 by_cases h:a.x=b.x
 ·rw [decide_eq_true h]
  simp only [↓X03,wA,seval,wE]
  refine X01 c2 rfl ?_
  simp only [↓X03,wA,seval,wE]
  exact X0r (v:=.bool (decide (a.y=b.y))) rfl rfl (X02 _) (by rw [hV]; exact congrArg AV.bool (decide_eq_decide.2 (show a.y=b.y↔a=b from ⟨fun e=>V2.ext'.2 ⟨h,e⟩,fun e=>(V2.ext'.1 e).2⟩)))
 ·rw [decide_eq_false h]
  simp only [↓X03,wA,seval,wE]
  exact X0r (v:=.bool false) rfl rfl (X02 _) (by rw [hV,decide_eq_false (p:=a=b) fun e=>h (by rw [e])])
theorem XfU (a b:V2) (ha:vb a≤vm) (hb:vb b≤vm):Fn Tryz.prog 59 [vA a,vA b] (vA (a.add b)):=by
 unfold vm at ha hb
 obtain ⟨R,hR⟩:∃ R,R=vA (a.add b):=⟨_,rfl⟩
 have sR:Settled R:=hR▸X0k _
 have:=X2w a; have:=X2w b; have:=X2k a; have:=X2k b
 have c1:=X4W a.x b.x (by unfold rm; omega) (by unfold rm; omega)
 have c2:=X4W a.y b.y (by unfold rm; omega) (by unfold rm; omega)
 rw [← hR]
 refine Fq Tryz.call59 Tryz.func59 5 [] [] [] (by simp [wS]) (X00 1000 ?_); simp (config:={ maxSteps:=2000000 }) only [AS.start,↓X03,wA,seval,wE]
 refine X01 c1 rfl ?_
 simp only [↓X03,wA,seval,wE]
 refine X01 c2 rfl ?_
 simp only [↓X03,wA,seval,wE]
 exact X6f rfl X2z rfl rfl rfl sR (hR.trans rfl)
theorem Xew (a:V2) (k:Rat) (ha:vb a≤vm) (hk:qb k≤vm):Fn Tryz.prog 58 [vA a,qA k] (vA (a.scale k)):=by
 unfold vm at ha hk
 obtain ⟨R,hR⟩:∃ R,R=vA (a.scale k):=⟨_,rfl⟩
 have sR:Settled R:=hR▸X0k _
 have:=X2w a; have:=X2k a
 have c1:=X32 a.x k (by unfold rm; omega) (by unfold rm; omega)
 have c2:=X32 a.y k (by unfold rm; omega) (by unfold rm; omega)
 rw [← hR]
 refine Fq Tryz.call58 Tryz.func58 5 [] [] [] (by simp [wS]) (X00 1000 ?_); simp (config:={ maxSteps:=2000000 }) only [AS.start,↓X03,wA,seval,wE]
 refine X01 c1 rfl ?_
 simp only [↓X03,wA,seval,wE]
 refine X01 c2 rfl ?_
 simp only [↓X03,wA,seval,wE]
 exact X6f rfl X2z rfl rfl rfl sR (hR.trans rfl)
theorem Xml:Fn Tryz.prog 203 [] (vA X4b):=by
 have c1:=X7P 1 1 ⟨by omega,by omega⟩ ⟨by omega,by omega⟩
 rw [X57] at c1
 obtain ⟨R,hR⟩:∃ R,R=vA X4b:=⟨_,rfl⟩
 have sR:Settled R:=hR▸X0k _
 rw [← hR]
 refine Fq Tryz.call203 Tryz.func203 1 [] [] [] (by simp [wS]) (X00 1000 ?_); simp (config:={ maxSteps:=2000000 }) only [AS.start,↓X03,wA,seval,wE]
 refine X01 c1 rfl ?_
 simp only [↓X03,wA,seval,wE]
 refine X9i rfl X8Y rfl rfl rfl ?_
 rw [hR]
 exact X4a ⟨(X02 _).sees _,(X07 _).sees _,(X02 _).sees _,(X07 _).sees _,(X02 _).sees _,X0n (X07 _) (X1i (by show X0i (0:Rat).num.natAbs=[]; rw [Rat.zero_num]; simp [X0O])),(X02 _).sees _,X0n (X07 _) (X1i (X8M rfl)),trivial⟩
theorem X6x (a b:V2) (ha:vb a≤vm) (hb:vb b≤vm):Fn Tryz.prog 48 [vA a,vA b] (.bool (decide (a=b))):=by
 unfold vm at ha hb
 have:=X2w a; have:=X2w b; have:=X2k a; have:=X2k b
 have c1:=X5n a.x b.x (by unfold rm; omega) (by unfold rm; omega)
 have c2:=X5n a.y b.y (by unfold rm; omega) (by unfold rm; omega)
 obtain ⟨V,hV⟩:∃ V,V=decide (a=b):=⟨_,rfl⟩
 rw [← hV]
 refine Fq Tryz.call48 Tryz.func48 5 [] [] [] (by simp [wS]) (X00 1000 ?_); simp (config:={ maxSteps:=2000000 }) only [AS.start,↓X03,wA,seval,wE]
 refine X01 c1 rfl ?_
 by_cases h:a.x=b.x
 ·rw [decide_eq_true h]
  simp only [↓X03,wA,seval,wE]
  refine X01 c2 rfl ?_
  simp only [↓X03,wA,seval,wE]
  exact X0r (v:=.bool (decide (a.y=b.y))) rfl rfl (X02 _) (by rw [hV]; exact congrArg AV.bool (decide_eq_decide.2 (show a.y=b.y↔a=b from ⟨fun e=>V2.ext'.2 ⟨h,e⟩,fun e=>(V2.ext'.1 e).2⟩)))
 ·rw [decide_eq_false h]
  simp only [↓X03,wA,seval,wE]
  exact X0r (v:=.bool false) rfl rfl (X02 _) (by rw [hV,decide_eq_false (p:=a=b) fun e=>h (by rw [e])])
theorem X3E (a b:V2) (ha:vb a≤vm) (hb:vb b≤vm):Fn Tryz.prog 41 [vA a,vA b] (.bool (decide (a=b))):=by
 unfold vm at ha hb
 have:=X2w a; have:=X2w b; have:=X2k a; have:=X2k b
 have c1:=X5n a.x b.x (by unfold rm; omega) (by unfold rm; omega)
 have c2:=X5n a.y b.y (by unfold rm; omega) (by unfold rm; omega)
 obtain ⟨V,hV⟩:∃ V,V=decide (a=b):=⟨_,rfl⟩
 rw [← hV]
 refine Fq Tryz.call41 Tryz.func41 5 [] [] [] (by simp [wS]) (X00 1000 ?_); simp (config:={ maxSteps:=2000000 }) only [AS.start,↓X03,wA,seval,wE]
 refine X01 c1 rfl ?_
 by_cases h:a.x=b.x
 ·rw [decide_eq_true h]
  simp only [↓X03,wA,seval,wE]
  refine X01 c2 rfl ?_
  simp only [↓X03,wA,seval,wE]
  exact X0r (v:=.bool (decide (a.y=b.y))) rfl rfl (X02 _) (by rw [hV]; exact congrArg AV.bool (decide_eq_decide.2 (show a.y=b.y↔a=b from ⟨fun e=>V2.ext'.2 ⟨h,e⟩,fun e=>(V2.ext'.1 e).2⟩)))
 ·rw [decide_eq_false h]
  simp only [↓X03,wA,seval,wE]
  exact X0r (v:=.bool false) rfl rfl (X02 _) (by rw [hV,decide_eq_false (p:=a=b) fun e=>h (by rw [e])])
theorem X5m (a b:V2) (ha:vb a≤vm) (hb:vb b≤vm):Fn Tryz.prog 111 [vA a,vA b] (vA (a.add b)):=by
 unfold vm at ha hb
 obtain ⟨R,hR⟩:∃ R,R=vA (a.add b):=⟨_,rfl⟩
 have sR:Settled R:=hR▸X0k _
 have:=X2w a; have:=X2w b; have:=X2k a; have:=X2k b
 have c1:=X1W a.x b.x (by unfold rm; omega) (by unfold rm; omega)
 have c2:=X1W a.y b.y (by unfold rm; omega) (by unfold rm; omega)
 rw [← hR]
 refine Fq Tryz.call111 Tryz.func111 5 [] [] [] (by simp [wS]) (X00 1000 ?_); simp (config:={ maxSteps:=2000000 }) only [AS.start,↓X03,wA,seval,wE]
 refine X01 c1 rfl ?_
 simp only [↓X03,wA,seval,wE]
 refine X01 c2 rfl ?_
 simp only [↓X03,wA,seval,wE]
 exact X6f rfl X2z rfl rfl rfl sR (hR.trans rfl)
theorem XeE (a:V2) (k:Rat) (ha:vb a≤vm) (hk:qb k≤vm):Fn Tryz.prog 211 [vA a,qA k] (vA (a.scale k)):=by
 unfold vm at ha hk
 obtain ⟨R,hR⟩:∃ R,R=vA (a.scale k):=⟨_,rfl⟩
 have sR:Settled R:=hR▸X0k _
 have:=X2w a; have:=X2k a
 have c1:=X1r a.x k (by unfold rm; omega) (by unfold rm; omega)
 have c2:=X1r a.y k (by unfold rm; omega) (by unfold rm; omega)
 rw [← hR]
 refine Fq Tryz.call211 Tryz.func211 5 [] [] [] (by simp [wS]) (X00 1000 ?_); simp (config:={ maxSteps:=2000000 }) only [AS.start,↓X03,wA,seval,wE]
 refine X01 c1 rfl ?_
 simp only [↓X03,wA,seval,wE]
 refine X01 c2 rfl ?_
 simp only [↓X03,wA,seval,wE]
 exact X6f rfl X2z rfl rfl rfl sR (hR.trans rfl)
theorem XeF:Fn Tryz.prog 213 [] (vA X4b):=by
 have c1:=X1M 1 1 ⟨by omega,by omega⟩ ⟨by omega,by omega⟩
 rw [X57] at c1
 obtain ⟨R,hR⟩:∃ R,R=vA X4b:=⟨_,rfl⟩
 have sR:Settled R:=hR▸X0k _
 rw [← hR]
 refine Fq Tryz.call213 Tryz.func213 1 [] [] [] (by simp [wS]) (X00 1000 ?_); simp (config:={ maxSteps:=2000000 }) only [AS.start,↓X03,wA,seval,wE]
 refine X01 c1 rfl ?_
 simp only [↓X03,wA,seval,wE]
 refine X9i rfl X8Y rfl rfl rfl ?_
 rw [hR]
 exact X4a ⟨(X02 _).sees _,(X07 _).sees _,(X02 _).sees _,(X07 _).sees _,(X02 _).sees _,X0n (X07 _) (X1i (by show X0i (0:Rat).num.natAbs=[]; rw [Rat.zero_num]; simp [X0O])),(X02 _).sees _,X0n (X07 _) (X1i (X8M rfl)),trivial⟩
theorem Xby (t a:V2) (ht:vb t≤vm) (ha:vb a≤vm):Fn Tryz.prog 43 [vA t,vA a] (vA (rot t a)):=by
 unfold vm at ht ha
 obtain ⟨R,hR⟩:∃ R,R=vA (rot t a):=⟨_,rfl⟩
 have sR:Settled R:=hR▸X0k _
 have:=X2w t; have:=X2k t; have:=X2w a; have:=X2k a
 have m1:=X1u t.x a.x; have m2:=X1u t.y a.y; have m3:=X1u t.y a.x; have m4:=X1u t.x a.y
 have c1:=X32 t.x a.x (by unfold rm; omega) (by unfold rm; omega)
 have c2:=X32 t.y a.y (by unfold rm; omega) (by unfold rm; omega)
 have c3:=X75 (t.y*a.y)
 have c4:=Xa9 (t.x*a.x) (-(t.y*a.y)) (by omega) (by rw [X6d]; omega)
 rw [← Rat.sub_eq_add_neg] at c4
 have c5:=X32 t.y a.x (by unfold rm; omega) (by unfold rm; omega)
 have c6:=X32 t.x a.y (by unfold rm; omega) (by unfold rm; omega)
 have c7:=Xa9 (t.y*a.x) (t.x*a.y) (by omega) (by omega)
 rw [← hR]
 refine Fq Tryz.call43 Tryz.func43 5 [] [] [] (by simp [wS]) (X00 1000 ?_); simp (config:={ maxSteps:=2000000 }) only [AS.start,↓X03,wA,seval,wE]
 refine X01 c1 rfl ?_
 simp only [↓X03,wA,seval,wE]
 refine X01 c2 rfl ?_
 simp only [↓X03,wA,seval,wE]
 refine X01 c3 rfl ?_
 simp only [↓X03,wA,seval,wE]
 refine X01 c4 rfl ?_
 simp only [↓X03,wA,seval,wE]
 refine X01 c5 rfl ?_
 simp only [↓X03,wA,seval,wE]
 refine X01 c6 rfl ?_
 simp only [↓X03,wA,seval,wE]
 refine X01 c7 rfl ?_
 simp only [↓X03,wA,seval,wE]
 exact X6f rfl X2z rfl rfl rfl sR (hR.trans rfl)
theorem X5I (t a:V2) (ht:vb t≤vm) (ha:vb a≤vm):Fn Tryz.prog 105 [vA t,vA a] (vA (rot t a)):=by
 unfold vm at ht ha
 obtain ⟨R,hR⟩:∃ R,R=vA (rot t a):=⟨_,rfl⟩
 have sR:Settled R:=hR▸X0k _
 have:=X2w t; have:=X2k t; have:=X2w a; have:=X2k a
 have m1:=X1u t.x a.x; have m2:=X1u t.y a.y; have m3:=X1u t.y a.x; have m4:=X1u t.x a.y
 have c1:=X1r t.x a.x (by unfold rm; omega) (by unfold rm; omega)
 have c2:=X1r t.y a.y (by unfold rm; omega) (by unfold rm; omega)
 have c4:=X3t (t.x*a.x) (t.y*a.y) (by unfold rm; omega) (by unfold rm; omega)
 have c5:=X1r t.y a.x (by unfold rm; omega) (by unfold rm; omega)
 have c6:=X1r t.x a.y (by unfold rm; omega) (by unfold rm; omega)
 have c7:=X1W (t.y*a.x) (t.x*a.y) (by unfold rm; omega) (by unfold rm; omega)
 rw [← hR]
 refine Fq Tryz.call105 Tryz.func105 7 [] [1,20000002,20000003,2,30000002,30000003] [] (by simp [wS]) (X00 1000 ?_); simp (config:={ maxSteps:=2000000 }) only [AS.start,↓X03,wA,seval,wE]
 refine X01 c1 rfl ?_
 simp only [↓X03,wA,seval,wE]
 refine X01 c2 rfl ?_
 simp only [↓X03,wA,seval,wE]
 refine X01 c4 rfl ?_
 simp only [↓X03,wA,seval,wE]
 refine X01 c5 rfl ?_
 simp only [↓X03,wA,seval,wE]
 refine X01 c6 rfl ?_
 simp only [↓X03,wA,seval,wE]
 refine X01 c7 rfl ?_
 simp only [↓X03,wA,seval,wE]
 exact X6f rfl X2z rfl rfl rfl sR (hR.trans rfl)
theorem XpV (t:V2) (ht:vb t≤vm):Fn Tryz.prog 123 [vA t] (.bool (decide (X7W t))):=by
 unfold vm at ht
 have:=X2w t; have:=X2k t
 have m1:=X1u t.x t.x; have m2:=X1u t.y t.y; have m3:=X2n (t.x*t.x) (t.y*t.y)
 have v1:=XmG t.x (by unfold rm; omega)
 have v2:=XmG t.y (by unfold rm; omega)
 have c1:=X32 t.x t.x (by unfold rm; omega) (by unfold rm; omega)
 have c2:=X32 t.y t.y (by unfold rm; omega) (by unfold rm; omega)
 have c3:=Xa9 (t.x*t.x) (t.y*t.y) (by omega) (by omega)
 have c4:=X7P 1 1 ⟨by omega,by omega⟩ ⟨by omega,by omega⟩
 rw [X57] at c4
 have c5:=XbG (t.x*t.x+t.y*t.y) 1 (by unfold rm; omega) (by have:=(X5O 1 1 ⟨by omega,by omega⟩ ⟨by omega,by omega⟩); rw [X57] at this; unfold rm; omega)
 rw [show decide (t.x*t.x+t.y*t.y=1)=decide (X7W t) from decide_eq_decide.2 Iff.rfl] at c5
 refine Fq Tryz.call123 Tryz.func123 3 [] [] [] (by simp [wS]) (X00 1000 ?_); simp (config:={ maxSteps:=2000000 }) only [AS.start,↓X03,wA,seval,wE]
 refine X01 v1 rfl ?_
 simp only [↓X03,wA,seval,wE]
 refine X01 v2 rfl ?_
 simp only [↓X03,wA,seval,wE]
 refine X01 c1 rfl ?_
 simp only [↓X03,wA,seval,wE]
 refine X01 c2 rfl ?_
 simp only [↓X03,wA,seval,wE]
 refine X01 c3 rfl ?_
 simp only [↓X03,wA,seval,wE]
 refine X01 c4 rfl ?_
 simp only [↓X03,wA,seval,wE]
 refine X01 c5 rfl ?_
 simp only [↓X03,wA,seval,wE]
 exact X0r rfl rfl (X02 _) rfl
theorem Xg5 (t:V2) (ht:vb t≤vm):Fn Tryz.prog 128 [vA t] (.bool (decide (X7W t))):=by
 unfold vm at ht
 have:=X2w t; have:=X2k t
 have m1:=X1u t.x t.x; have m2:=X1u t.y t.y; have m3:=X2n (t.x*t.x) (t.y*t.y)
 have v1:=XbD t.x (by unfold rm; omega)
 have v2:=XbD t.y (by unfold rm; omega)
 have c1:=X1r t.x t.x (by unfold rm; omega) (by unfold rm; omega)
 have c2:=X1r t.y t.y (by unfold rm; omega) (by unfold rm; omega)
 have c3:=X1W (t.x*t.x) (t.y*t.y) (by unfold rm; omega) (by unfold rm; omega)
 have c4:=X1M 1 1 ⟨by omega,by omega⟩ ⟨by omega,by omega⟩
 rw [X57] at c4
 have c5:=X5n (t.x*t.x+t.y*t.y) 1 (by unfold rm; omega) (by have:=(X5O 1 1 ⟨by omega,by omega⟩ ⟨by omega,by omega⟩); rw [X57] at this; unfold rm; omega)
 rw [show decide (t.x*t.x+t.y*t.y=1)=decide (X7W t) from decide_eq_decide.2 Iff.rfl] at c5
 refine Fq Tryz.call128 Tryz.func128 4 [] [3,40000001] [] (by simp [wS]) (X00 1000 ?_); simp (config:={ maxSteps:=2000000 }) only [AS.start,↓X03,wA,seval,wE]
 refine X01 v1 rfl ?_
 simp only [↓X03,wA,seval,wE]
 refine X01 v2 rfl ?_
 simp only [↓X03,wA,seval,wE]
 refine X01 c1 rfl ?_
 simp only [↓X03,wA,seval,wE]
 refine X01 c2 rfl ?_
 simp only [↓X03,wA,seval,wE]
 refine X01 c3 rfl ?_
 simp only [↓X03,wA,seval,wE]
 refine X01 c4 rfl ?_
 simp only [↓X03,wA,seval,wE]
 refine X01 c5 rfl ?_
 simp only [↓X03,wA,seval,wE]
 exact X0r rfl rfl (X02 _) rfl
end
end Go.Ab.N
