/- Own texts. -/
import Derived.Test.YtefjhgcndhepeaaGreatC6
set_option linter.unusedSimpArgs false
set_option linter.unusedVariables false
open Nat renaming reducePow → Y1, reduceLT → Y2, reduceLeDiff → Y3, reduceEqDiff → Y4, reduceAdd → Y5, reduceMul → Y6, reduceSub → Y7, reduceBEq → Y8, reduceDiv → Y9, reduceMod → YA
namespace Go.Ab.N
open Go Go.RowKit Go.Proofs
noncomputable section
set_option maxRecDepth 10000
set_option maxHeartbeats 2000000
open Classical
def HJ (p q r s:Rat):Bool:=decide (p<r) && decide (p<s) && decide (q<r) && decide (q<s)
def Ko (n a b c d:V2):Bool:=HJ (XS n a) (XS n b) (XS n c) (XS n d) || HJ (XS n c) (XS n d) (XS n a) (XS n b)
theorem WL {p q r s fa fb fc fd:Rat} (h1:p*fd - q*fc=s*fa - r*fb) (h2:p - q=s - r) (hp:0<p) (hq:q<0) (hs:0<s) (hr:r<0) (k1:fa<fc) (k2:fa<fd) (k3:fb<fc) (k4:fb<fd):False:=by
 have pos:∀ x,x<fc→x<fd→0<p*(fd - x)+(-q)*(fc - x):=fun x hx1 hx2=>by
  have:=Rat.mul_pos hp (show 0<fd - x by grind)
  have:=Rat.mul_pos (show 0 < -q by grind) (show 0<fc - x by grind)
  grind
 rcases Rat.le_total (a:=fa) (b:=fb) with h | h
 ·have h3:=pos fb k3 k4
  have h4:=Rat.mul_nonneg (Rat.le_of_lt hs) (show 0≤fb - fa by grind)
  have e1:p*(fd - fb) + -q*(fc - fb)=(p*fd - q*fc) - (p - q)*fb:=by grind
  have e2:(s*fa - r*fb) - (s - r)*fb = -(s*(fb - fa)):=by grind
  rw [e1,h1,h2,e2] at h3
  generalize s*(fb - fa)=z at h3 h4
  grind
 ·have h3:=pos fa k1 k2
  have h4:=Rat.mul_nonneg (show 0≤-r by grind) (show 0≤fa - fb by grind)
  have e1:p*(fd - fa) + -q*(fc - fa)=(p*fd - q*fc) - (p - q)*fa:=by grind
  have e2:(s*fa - r*fb) - (s - r)*fa = -(-r*(fa - fb)):=by grind
  rw [e1,h1,h2,e2] at h3
  generalize -r*(fa - fb)=z at h3 h4
  grind
theorem O5 (x:Rat):0≤x*x:=by
 rcases Rat.le_total (a:=0) (b:=x) with h | h
 ·exact Rat.mul_nonneg h h
 ·have:=Rat.mul_nonneg (show 0≤-x by grind) (show 0≤-x by grind)
  grind
theorem Vo (n a b c d:V2) (k1:XS n a<XS n c) (k2:XS n a<XS n d) (k3:XS n b<XS n c) (k4:XS n b<XS n d):Iz a b c d=false:=by
 have h1:Qe (b.sub a) (c.sub a)*XS n d - Qe (b.sub a) (d.sub a)*XS n c=Qe (d.sub c) (b.sub c)*XS n a - Qe (d.sub c) (a.sub c)*XS n b:=by
  unfold Qe XS V2.sub; grind
 have h2:Qe (b.sub a) (c.sub a) - Qe (b.sub a) (d.sub a)=Qe (d.sub c) (b.sub c) - Qe (d.sub c) (a.sub c):=by
  unfold Qe V2.sub; grind
 rw [← Bool.not_eq_true]
 intro h
 unfold Iz Ji at h
 simp only [Bool.and_eq_true,decide_eq_true_eq] at h
 generalize Qe (b.sub a) (c.sub a)=p at h1 h2 h
 generalize Qe (b.sub a) (d.sub a)=q at h1 h2 h
 generalize Qe (d.sub c) (a.sub c)=r at h1 h2 h
 generalize Qe (d.sub c) (b.sub c)=s at h1 h2 h
 have sp:∀ x y:Rat,x.num.sign*y.num.sign<0→(0<x∧y<0)∨(x<0∧0<y):=fun x y h=>by
  rw [← Pg,← Pg,← IJ,← IJ]
  rcases Int.lt_trichotomy x.num.sign 0 with hx | hx | hx
  ·rcases Int.lt_trichotomy y.num.sign 0 with hy | hy | hy
   ·have:=Int.mul_pos_of_neg_of_neg hx hy; omega
   ·rw [hy] at h; omega
   ·exact .inr ⟨hx,hy⟩
  ·rw [hx] at h; omega
  ·rcases Int.lt_trichotomy y.num.sign 0 with hy | hy | hy
   ·exact .inl ⟨hx,hy⟩
   ·rw [hy] at h; omega
   ·have:=Int.mul_pos hx hy; omega
 rcases sp p q h.1 with ⟨hp,hq⟩ | ⟨hp,hq⟩
 ·rcases sp r s h.2 with ⟨hr,hs⟩ | ⟨hr,hs⟩
  ·grind
  ·exact WL h1 h2 hp hq hs hr k1 k2 k3 k4
 ·rcases sp r s h.2 with ⟨hr,hs⟩ | ⟨hr,hs⟩
  ·exact WL (p:=-p) (q:=-q) (r:=-r) (s:=-s) (by grind) (by grind) (by grind) (by grind) (by grind) (by grind) k1 k2 k3 k4
  ·grind
theorem Vn (n a b c:V2) (k1:XS n a<XS n c) (k2:XS n b<XS n c):Wr a b c=false:=by
 have hid:XS (a.sub c) (b.sub c)*XS n (a.sub c) - XS (a.sub c) (a.sub c)*XS n (b.sub c)=Qe (b.sub a) (c.sub a)*(n.x*(a.sub c).y - n.y*(a.sub c).x):=by
  unfold XS Qe V2.sub; grind
 have ha:XS n (a.sub c)<0:=by
  have:XS n (a.sub c)=XS n a - XS n c:=by unfold XS V2.sub; grind
  grind
 have hb:XS n (b.sub c)<0:=by
  have:XS n (b.sub c)=XS n b - XS n c:=by unfold XS V2.sub; grind
  grind
 have hu:0<XS (a.sub c) (a.sub c):=by
  have hx:=O5 (a.sub c).x
  have hy:=O5 (a.sub c).y
  have hne:¬ XS (a.sub c) (a.sub c)=0:=fun h=>by
   unfold XS at h
   have h1:(a.sub c).x*(a.sub c).x=0:=by grind
   have h2:(a.sub c).y*(a.sub c).y=0:=by grind
   have h3:(a.sub c).x=0:=by rcases Rat.mul_eq_zero.1 h1 with h | h <;> exact h
   have h4:(a.sub c).y=0:=by rcases Rat.mul_eq_zero.1 h2 with h | h <;> exact h
   unfold XS at ha
   rw [h3,h4] at ha
   grind
  unfold XS at hne ⊢
  grind
 rw [← Bool.not_eq_true]
 intro h
 unfold Wr Ji at h
 simp only [Bool.and_eq_true,decide_eq_true_eq,Bn] at h
 obtain ⟨h1,h2⟩:=h
 rw [h1] at hid
 have h2':XS (a.sub c) (b.sub c)≤0:=by
  rw [← Rat.not_lt,← Pg]; omega
 have m1:=Rat.mul_nonneg (show 0≤-XS (a.sub c) (b.sub c) by grind) (show 0≤-XS n (a.sub c) by grind)
 have m2:=Rat.mul_pos hu (show 0 < -XS n (b.sub c) by grind)
 grind
theorem WM (n a b c:V2) (k1:XS n c<XS n a) (k2:XS n c<XS n b):Wr a b c=false :=
 Vn ⟨-n.x,-n.y⟩ a b c (by unfold XS at *; grind) (by unfold XS at *; grind)
theorem O3 (n a b c d:V2) (k1:XS n a<XS n c) (k2:XS n a<XS n d) (k3:XS n b<XS n c) (k4:XS n b<XS n d):D3 a b c d=false:=by
 unfold D3
 rw [Vo n a b c d k1 k2 k3 k4,Vn n a b c k1 k3,Vn n a b d k2 k4,WM n c d a k1 k2,WM n c d b k3 k4]
 rfl
theorem MH (n a b c d:V2) (h:Ko n a b c d=true):D3 a b c d=false:=by
 unfold Ko HJ at h
 simp only [Bool.or_eq_true,Bool.and_eq_true,decide_eq_true_eq] at h
 rcases h with ⟨⟨⟨h1,h2⟩,h3⟩,h4⟩ | ⟨⟨⟨h1,h2⟩,h3⟩,h4⟩
 ·exact O3 n a b c d h1 h2 h3 h4
 ·exact O3 ⟨-n.x,-n.y⟩ a b c d (by unfold XS at *; grind) (by unfold XS at *; grind) (by unfold XS at *; grind) (by unfold XS at *; grind)
def Ds (a b c d:V2):Nat→V2
 | 0=>(b.sub a).turned
 | 1=>(d.sub c).turned
 | 2=>b.sub a
 | 3=>d.sub c
 | _=>c.sub a
def AY (a b c d:V2):Prop:=∀ i,i<5→Ko (Ds a b c d i) a b c d=false
theorem cI (a b c d:V2) (h:¬ AY a b c d):D3 a b c d=false:=by
 unfold AY at h
 simp only [Classical.not_forall] at h
 obtain ⟨i,_,h⟩:=h
 exact MH _ a b c d (by simpa using h)
def OM (L:List V2) (i k:Nat):Prop:=1<(k+L.length - i) % L.length∧(k+L.length - i) % L.length<L.length - 1∧AY (atF L i) (atF L (i+1)) (atF L k) (atF L (k+1))
def Wi (L:List V2) (i:Nat):Prop:=¬ FU L i∧∀ k,k<L.length→¬ OM L i k
def XM (L:List V2):Prop:=(3≤L.length∧L.length≤12)∧(∀ i,i<L.length→Wi L i)∧0<(ZC L).num.sign
theorem JV (L:List V2) (h:XM L):D5 L:=by
 obtain ⟨h1,h2,h3⟩:=h
 refine ⟨h1,fun i hi=>⟨(h2 i hi).1,fun k hk1 hk2 hb=>?_⟩,h3⟩
 have hg:=(h2 i hi).2 k hk2
 have e:(k+L.length - i) % L.length=k - i:=by
  rw [show k+L.length - i=(k - i)+L.length by omega,Nat.add_mod_right,Nat.mod_eq_of_lt (by omega)]
 have hne:k - i<L.length - 1:=by
  rcases Nat.lt_or_ge (k - i) (L.length - 1) with h | h
  ·exact h
  ·exfalso
   have h1:k=L.length - 1:=by omega
   have h2:i=0:=by omega
   have:(k+1) % L.length=0:=by rw [show k+1=L.length by omega,Nat.mod_self]
   exact hb.1 (by omega)
 have hm:¬ AY (atF L i) (atF L (i+1)) (atF L k) (atF L (k+1)):=fun hm=>hg ⟨by omega,by omega,hm⟩
 have:=cI _ _ _ _ hm
 rw [hb.2] at this
 exact absurd this (by decide)
end
end Go.Ab.N
namespace Go.Ab.N
open Go Go.RowKit Go.Proofs
noncomputable section
set_option maxRecDepth 10000
set_option maxHeartbeats 4000000
open Classical
def Te (u v:Int):List (Int×Int):=[(0,0),(4+u,0),(v,3)]
theorem p7 (u v:Int) (hu:0≤u∧u<3) (hv:0≤v∧v<4):XM (Xz (Te u v)):=by
 have hs:∀ i,i<3→¬ FU (Xz (Te u v)) i:=by
  have e1:u=0∨u=1∨u=2:=by omega
  have e2:v=0∨v=1∨v=2∨v=3:=by omega
  intro i hi
  have e3:i=0∨i=1∨i=2:=by omega
  unfold FU
  rcases e1 with rfl | rfl | rfl <;> rcases e2 with rfl | rfl | rfl | rfl <;> rcases e3 with rfl | rfl | rfl <;> decide +kernel
 refine ⟨⟨by show 3≤3; omega,by show 3≤12; omega⟩,fun i hi=>⟨hs i hi,fun k hk hg=>?_⟩,?_⟩
 ·have h1:=hg.1; have h2:=hg.2.1
  have hl:(Xz (Te u v)).length=3:=rfl
  rw [hl] at h1 h2
  omega
 ·have e1:u=0∨u=1∨u=2:=by omega
  have e2:v=0∨v=1∨v=2∨v=3:=by omega
  rcases e1 with rfl | rfl | rfl <;> rcases e2 with rfl | rfl | rfl | rfl <;> decide +kernel
def SM (R:List (Int×Int)):Prop:=∀ c∈R,(0≤c.1∧c.1≤8)∧(0≤c.2∧c.2≤8)
def qr (R:List (Int×Int)):Prop:=(3≤R.length∧R.length≤5)∧SM R∧XM (Xz R)
theorem tg (u v:Int) (hu:0≤u∧u<3) (hv:0≤v∧v<4):qr (Te u v):=by
 refine ⟨⟨by show 3≤3; omega,by show 3≤5; omega⟩,fun c hc=>?_,p7 u v hu hv⟩
 unfold Te at hc
 simp only [List.mem_cons,List.not_mem_nil,or_false] at hc
 rcases hc with rfl | rfl | rfl <;> (simp only; omega)
theorem jJ {R:List (Int×Int)} (h:SM R) (i:Nat):(0≤(R.getD i (0,0)).1∧(R.getD i (0,0)).1≤8)∧(0≤(R.getD i (0,0)).2∧(R.getD i (0,0)).2≤8):=by
 rw [List.getD_eq_getElem?_getD]
 cases hx:R[i]? with
 | none=>exact ⟨⟨by decide,by decide⟩,⟨by decide,by decide⟩⟩
 | some c=>exact h c (List.mem_of_getElem? hx)
theorem SN {R:List (Int×Int)} (h:SM R):∀ i,i<R.length→LP (R.getD i (0,0))=true:=fun i _=>by
 have:=jJ h i
 unfold LP wb
 simp only [Bool.and_eq_true,decide_eq_true_eq]
 omega
theorem HS {R:List (Int×Int)} (h:∀ i,i<R.length→LP (R.getD i (0,0))=true):Q2 (Xz R) 1000 :=
 Vh ⟨0,0,R,[],[],Dq,Dq,Dq,Dq,Dq⟩ h
end
end Go.Ab.N
namespace Go.Ab.N
open Go Go.RowKit Go.Proofs
noncomputable section
set_option maxRecDepth 10000
set_option maxHeartbeats 2000000
open Classical
theorem Uh (n a b c d:V2) (hn:vb n≤vs) (ha:vb a≤vs) (hb:vb b≤vs) (hc:vb c≤vs) (hd:vb d≤vs):Fn Tryz.prog 230 [vA n,vA a,vA b,vA c,vA d] (.bool (Ko n a b c d)):=by
 unfold vs at hn ha hb hc hd
 have e1:=Z8 n a (by unfold vm; omega) (by unfold vm; omega)
 have e2:=Z8 n b (by unfold vm; omega) (by unfold vm; omega)
 have e3:=Z8 n c (by unfold vm; omega) (by unfold vm; omega)
 have e4:=Z8 n d (by unfold vm; omega) (by unfold vm; omega)
 have q1:=Ai n a; have q2:=Ai n b; have q3:=Ai n c; have q4:=Ai n d
 obtain ⟨V,hV⟩:∃ V,V=Ko n a b c d:=⟨_,rfl⟩
 rw [← hV]
 unfold Ko at hV
 generalize XS n a=p at *
 generalize XS n b=q at *
 generalize XS n c=r at *
 generalize XS n d=s at *
 have k1:=J6 p r (by unfold rm; omega) (by unfold rm; omega)
 have k2:=J6 p s (by unfold rm; omega) (by unfold rm; omega)
 have k3:=J6 q r (by unfold rm; omega) (by unfold rm; omega)
 have k4:=J6 q s (by unfold rm; omega) (by unfold rm; omega)
 obtain ⟨LE,hLE⟩:∃ LE,LE=HJ p q r s:=⟨_,rfl⟩
 obtain ⟨MO,hMO⟩:∃ MO,MO=HJ r s p q:=⟨_,rfl⟩
 rw [← hLE,← hMO] at hV
 have hl:LE=(decide (Qj p r<0) && decide (Qj p s<0) && decide (Qj q r<0) && decide (Qj q s<0)):=by
  rw [hLE]; unfold HJ
  rw [decide_eq_decide.2 (K7 p r),decide_eq_decide.2 (K7 p s),decide_eq_decide.2 (K7 q r),decide_eq_decide.2 (K7 q s)]
 have hm:MO=(decide (0<Qj p r) && decide (0<Qj p s) && decide (0<Qj q r) && decide (0<Qj q s)):=by
  rw [hMO]; unfold HJ
  rw [decide_eq_decide.2 (JN p r),decide_eq_decide.2 (JN p s),decide_eq_decide.2 (JN q r),decide_eq_decide.2 (JN q s)]
  cases decide (r<p) <;> cases decide (r<q) <;> cases decide (s<p) <;> cases decide (s<q) <;> rfl
 have five:∀ (A B C D:Prop) [Decidable A] [Decidable B] [Decidable C] [Decidable D] (X:Bool),X=(decide A && decide B && decide C && decide D)→(X=false∧A=False∧True∧True∧True)∨(X=false∧A=True∧B=False∧True∧True)∨(X=false∧A=True∧B=True∧C=False∧True)∨(X=false∧A=True∧B=True∧C=True∧D=False)∨(X=true∧A=True∧B=True∧C=True∧D=True):=by
  intro A B C D _ _ _ _ X h
  by_cases hA:A
  rotate_left
  ·exact .inl ⟨by rw [h,decide_eq_false hA]; rfl,eq_false hA,trivial,trivial,trivial⟩
  by_cases hB:B
  rotate_left
  ·exact .inr (.inl ⟨by rw [h,decide_eq_true hA,decide_eq_false hB]; rfl,eq_true hA,eq_false hB,trivial,trivial⟩)
  by_cases hC:C
  rotate_left
  ·exact .inr (.inr (.inl ⟨by rw [h,decide_eq_true hA,decide_eq_true hB,decide_eq_false hC]; rfl,eq_true hA,eq_true hB,eq_false hC,trivial⟩))
  by_cases hD:D
  rotate_left
  ·exact .inr (.inr (.inr (.inl ⟨by rw [h,decide_eq_true hA,decide_eq_true hB,decide_eq_true hC,decide_eq_false hD]; rfl,eq_true hA,eq_true hB,eq_true hC,eq_false hD⟩)))
  ·exact .inr (.inr (.inr (.inr ⟨by rw [h,decide_eq_true hA,decide_eq_true hB,decide_eq_true hC,decide_eq_true hD]; rfl,eq_true hA,eq_true hB,eq_true hC,eq_true hD⟩)))
 have cl:=five _ _ _ _ _ hl
 have cm:=five _ _ _ _ _ hm
 clear five hl hm hLE hMO q1 q2 q3 q4 hn ha hb hc hd
 have fin:∀ {s:AS} {v:Bool},s.get 10=.bool v→v=(LE || MO)→RetOk (QJ Tryz.prog Tryz.f230 [] [] (.bool V)) s:=fun h e=>Xt rfl h (X2 _) (by rw [e,hV])
 refine Fr Tryz.call230 Tryz.func230 17 [] [] [] ?_
 simp only [AS.start,↓X1,wF,seval]
 refine X0 e1 rfl ?_
 simp only [↓X1,wF,seval]
 refine X0 e2 rfl ?_
 simp only [↓X1,wF,seval]
 refine X0 e3 rfl ?_
 simp only [↓X1,wF,seval]
 refine X0 e4 rfl ?_
 simp only [↓X1,wF,seval]
 rcases cl with ⟨hX,l1,l2,l3,l4⟩ | ⟨hX,l1,l2,l3,l4⟩ | ⟨hX,l1,l2,l3,l4⟩ | ⟨hX,l1,l2,l3,l4⟩ | ⟨hX,l1,l2,l3,l4⟩
 all_goals
  refine X0 k1 rfl ?_
  simp only [l1,l2,l3,l4,↓X1,wF,seval]
  try (refine X0 k2 rfl ?_; simp only [l1,l2,l3,l4,↓X1,wF,seval])
  try (refine X0 k3 rfl ?_; simp only [l1,l2,l3,l4,↓X1,wF,seval])
  try (refine X0 k4 rfl ?_; simp only [l1,l2,l3,l4,↓X1,wF,seval])
  rcases cm with ⟨hY,m1,m2,m3,m4⟩ | ⟨hY,m1,m2,m3,m4⟩ | ⟨hY,m1,m2,m3,m4⟩ | ⟨hY,m1,m2,m3,m4⟩ | ⟨hY,m1,m2,m3,m4⟩
  all_goals
   refine X0 k1 rfl ?_
   simp only [l1,l2,l3,l4,m1,m2,m3,m4,↓X1,wF,seval]
   try (refine X0 k2 rfl ?_; simp only [l1,l2,l3,l4,m1,m2,m3,m4,↓X1,wF,seval])
   try (refine X0 k3 rfl ?_; simp only [l1,l2,l3,l4,m1,m2,m3,m4,↓X1,wF,seval])
   try (refine X0 k4 rfl ?_; simp only [l1,l2,l3,l4,m1,m2,m3,m4,↓X1,wF,seval])
   exact fin rfl (by rw [hX,hY]; rfl)
end
end Go.Ab.N
namespace Go.Ab.N
open Go Go.RowKit Go.Proofs
noncomputable section
set_option maxRecDepth 10000
set_option maxHeartbeats 4000000
open Classical
theorem UQ (a b c d:V2) (ha:vb a≤10000) (hb:vb b≤10000) (hc:vb c≤10000) (hd:vb d≤10000):Fn Tryz.prog 184 [vA a,vA b,vA c,vA d] (.bool (decide (AY a b c d))):=by
 have m1:=Km b a; have m2:=Km d c; have m3:=Km c a
 have u1:=O8 (b.sub a); have u2:=O8 (d.sub c)
 have c1:=JW b a (by unfold rm; omega) (by unfold rm; omega)
 have c2:=JW d c (by unfold rm; omega) (by unfold rm; omega)
 have c5:=JW c a (by unfold rm; omega) (by unfold rm; omega)
 have c3:=O7 (b.sub a) (by unfold rm; omega)
 have c4:=O7 (d.sub c) (by unfold rm; omega)
 have hA:∀ i,i<5→vb (Ds a b c d i)≤vs:=fun i hi=>by
  unfold vs
  match i,hi with
  | 0,_=>show vb (b.sub a).turned≤_; omega
  | 1,_=>show vb (d.sub c).turned≤_; omega
  | 2,_=>show vb (b.sub a)≤_; omega
  | 3,_=>show vb (d.sub c)≤_; omega
  | 4,_=>show vb (c.sub a)≤_; omega
  | i+5,h=>omega
 have kb:∀ i,i<5→Fn Tryz.prog 230 [vA (Ds a b c d i),vA a,vA b,vA c,vA d] (.bool (Ko (Ds a b c d i) a b c d)):=fun i hi=>Uh _ a b c d (hA i hi) (by unfold vs; omega) (by unfold vs; omega) (by unfold vs; omega) (by unfold vs; omega)
 obtain ⟨V,hV⟩:∃ V,V=decide (AY a b c d):=⟨_,rfl⟩
 rw [← hV]
 unfold AY at hV
 replace c1:Fn Tryz.prog 104 [vA b,vA a] (vA (Ds a b c d 2)):=c1
 replace c2:Fn Tryz.prog 104 [vA d,vA c] (vA (Ds a b c d 3)):=c2
 replace c3:Fn Tryz.prog 229 [vA (Ds a b c d 2)] (vA (Ds a b c d 0)):=c3
 replace c4:Fn Tryz.prog 229 [vA (Ds a b c d 3)] (vA (Ds a b c d 1)):=c4
 replace c5:Fn Tryz.prog 104 [vA c,vA a] (vA (Ds a b c d 4)):=c5
 clear m1 m2 m3 u1 u2 hA ha hb hc hd
 generalize hF:(fun i=>Ko (Ds a b c d i) a b c d)=F at *
 have hF':∀ i,Ko (Ds a b c d i) a b c d=F i:=fun i=>by rw [← hF]
 simp only [hF'] at kb hV
 clear hF hF'
 generalize Ds a b c d=A at *
 have fin:∀ {s:AS} {v:Bool},s.get 8=.bool v→v=V→RetOk (QJ Tryz.prog Tryz.f184 [] [] (.bool V)) s:=fun h e=>Xt rfl h (X2 _) (by rw [e])
 have hvc:∀ a:V2,∀ x∈vC a,Settled x:=fun a=>by simp [vC,X6,X2]
 have brow:∀ a:V2,XI 4 (.row 0 8 (Xn (vC a)))=True:=fun a=>eq_true (XD (hvc a))
 have bel:JO 4 (.sl 5 40 (Xn (vC (A 0) ++ (vC (A 1) ++ (vC (A 2) ++ (vC (A 3) ++ vC (A 4)))))) true)=True:=eq_true (X5 (J8 fun j hj=>Xb (fun x hx=>by
  simp only [List.mem_append] at hx
  rcases hx with h | h | h | h | h <;> exact hvc _ _ h) j))
 refine Fr Tryz.call184 Tryz.func184 13 [] [] [] ?_; simp (maxSteps:=999999) only [AS.start,↓X1,wA,↓reduceIte,reduceIte,reduceCtorEq,Y1,Y2,Y3,Y4,Y5,Y6,Y7,Y8,Y9,YA,wE]
 refine X0 c1 rfl ?_
 simp only [↓X1,wA,↓reduceIte,reduceIte,reduceCtorEq,Y1,Y2,Y3,Y4,Y5,Y6,Y7,Y8,Y9,YA,wE]
 refine X0 c2 rfl ?_
 simp only [↓X1,wA,↓reduceIte,reduceIte,reduceCtorEq,Y1,Y2,Y3,Y4,Y5,Y6,Y7,Y8,Y9,YA,wE]
 refine X0 c3 rfl ?_
 simp only [↓X1,wA,↓reduceIte,reduceIte,reduceCtorEq,Y1,Y2,Y3,Y4,Y5,Y6,Y7,Y8,Y9,YA,wE]
 refine X0 c4 rfl ?_
 simp only [↓X1,wA,↓reduceIte,reduceIte,reduceCtorEq,Y1,Y2,Y3,Y4,Y5,Y6,Y7,Y8,Y9,YA,wE]
 refine X0 c5 rfl ?_
 simp only [↓X1,wA,↓reduceIte,reduceIte,reduceCtorEq,Y1,Y2,Y3,Y4,Y5,Y6,Y7,Y8,Y9,YA,wE]
 refine Xe (fun i:Nat=>⟨13,[],[.any,.any,.any,.any,.ref 0 0 0,.ref 1 0 0,.ref 2 0 0,.ref 3 0 0,.bool false,.any,.any,.sl 5 40 (Xn (vC (A 0) ++ (vC (A 1) ++ (vC (A 2) ++ (vC (A 3) ++ vC (A 4)))))) true,I i],[],[.row 0 8 (Xn (vC a)),.row 0 8 (Xn (vC b)),.row 0 8 (Xn (vC c)),.row 0 8 (Xn (vC d))]⟩) (fun i=>i≤5∧∀ j,j<i→F j=false) (fun i=>5 - i) 0 ⟨by omega,by omega⟩
  (dK (m:=4) (by simp [vC,X3,Xf,I]) (by simp [vC,X3]) (by simp [XA,bel]) (by simp [brow])) ?_
 rintro i ⟨hi,hok⟩ next
 have w0:IntKind.i64.wrap (0+1)=1:=by decide
 have w1:IntKind.i64.wrap (1+1)=2:=by decide
 have w2:IntKind.i64.wrap (2+1)=3:=by decide
 have w3:IntKind.i64.wrap (3+1)=4:=by decide
 have w4:IntKind.i64.wrap (4+1)=5:=by decide
 have e0:((0:Nat):Int)=0:=rfl
 have e1:((1:Nat):Int)=1:=rfl
 have e2:((2:Nat):Int)=2:=rfl
 have e3:((3:Nat):Int)=3:=rfl
 have e4:((4:Nat):Int)=4:=rfl
 have e5:((5:Nat):Int)=5:=rfl
 have t1:(1:Int).toNat=1:=rfl
 have t2:(2:Int).toNat=2:=rfl
 have t3:(3:Int).toNat=3:=rfl
 have t4:(4:Int).toNat=4:=rfl
 by_cases hi5:i<5
 ·have k:=kb i hi5
  have hcase:i=0∨i=1∨i=2∨i=3∨i=4:=by omega
  by_cases hv:F i=true
  ·rw [hv] at k
   have hb:false=V:=by
    rw [hV,decide_eq_false]
    intro h
    rw [h i hi5] at hv; cases hv
   rcases hcase with rfl | rfl | rfl | rfl | rfl
   all_goals
    refine Xl ?_
    simp only [vC,List.cons_append,List.nil_append,e0,e1,e2,e3,e4,e5,t1,t2,t3,t4,w0,w1,w2,w3,w4,Int.reduceLT,Int.reduceLE,Int.toNat_zero,↓X1,wA,↓reduceIte,reduceIte,reduceCtorEq,Y1,Y2,Y3,Y4,Y5,Y6,Y7,Y8,Y9,YA,wE]
    refine X0 k rfl ?_
    simp only [↓X1,wA,↓reduceIte,reduceIte,reduceCtorEq,Y1,Y2,Y3,Y4,Y5,Y6,Y7,Y8,Y9,YA,wE]
    exact fin rfl hb
  rw [Bool.not_eq_true] at hv
  rw [hv] at k
  have nx:=next (i+1)
  rcases hcase with rfl | rfl | rfl | rfl | rfl
  all_goals
   refine Xl ?_
   simp only [vC,List.cons_append,List.nil_append,e0,e1,e2,e3,e4,e5,t1,t2,t3,t4,w0,w1,w2,w3,w4,Int.reduceLT,Int.reduceLE,Int.toNat_zero,↓X1,wA,↓reduceIte,reduceIte,reduceCtorEq,Y1,Y2,Y3,Y4,Y5,Y6,Y7,Y8,Y9,YA,wE]
   refine X0 k rfl ?_
   simp only [w0,w1,w2,w3,w4,↓X1,wA,↓reduceIte,reduceIte,reduceCtorEq,Y1,Y2,Y3,Y4,Y5,Y6,Y7,Y8,Y9,YA,wE]
   refine nx _ ⟨by omega,fun j hj=>?_⟩ (by omega) (Jm (by simp [vC,X3,Xf,I]) (by simp [vC,X3]))
   rcases Nat.lt_succ_iff_lt_or_eq.1 hj with h | h
   ·exact hok j h
   ·rw [h]; exact hv
 obtain rfl:i=5:=by omega
 refine Xl ?_
 simp only [e5,Int.lt_irrefl,↓X1,wA,↓reduceIte,reduceIte,reduceCtorEq,Y1,Y2,Y3,Y4,Y5,Y6,Y7,Y8,Y9,YA,wE]
 exact fin rfl (by rw [hV,decide_eq_true hok])
theorem OU (L:List V2) (k:Nat) (h:Q2 L k) (hk:k≤1000) (hl:L.length<1000000):Fn Tryz.prog 181 [Xp L] (.bool true):=by
 have rv:∀ r:Rat,qb r≤1000→Fn Tryz.prog 83 [qA r] (.bool true):=fun r hr=>by
  have h1:=RQ.of_sz r
  have:=GA (RQ.of r) (by omega)
  rwa [decide_eq_true ⟨r,rfl⟩] at this
 refine Fq Tryz.call181 Tryz.func181 4 [] [] [] (by simp [Xc]) (Xl ?_)
 simp only [AS.start,X4,↓X1,wA,↓reduceIte,reduceIte,reduceCtorEq,Y1,Y2,Y3,Y4,Y5,Y6,Y7,Y8,Y9,YA,wE]
 refine Xe (fun i:Nat=>⟨4,[],[Xp L,.any,.bool false,I i],[],[]⟩) (fun i=>i≤L.length) (fun i=>L.length - i) 0 (by omega)
  (Jm (by simp [X4,Xf,I]) rfl) ?_
 intro i hi next
 have w1:=wj i (by omega)
 by_cases hi2:i<L.length
 ·have f3:((i:Int)<L.length)=True:=eq_true (by omega)
  have f4:(i<L.length)=True:=eq_true hi2
  have f5:(i*8+8≤L.length*8)=True:=eq_true (by omega)
  have f6:(i*8+4≤L.length*8)=True:=eq_true (by omega)
  have f7:(i*8+4+4≤L.length*8)=True:=eq_true (by omega)
  have v1:=vF L i
  have hx:=Qv (L.getD i v0); have hy:=Qm (L.getD i v0); have hb:=h i
  refine Xl ?_
  simp only [X4,w1,f3,f4,f5,f6,f7,v1,Int.toNat_natCast,↓X1,wA,↓reduceIte,reduceIte,reduceCtorEq,Y1,Y2,Y3,Y4,Y5,Y6,Y7,Y8,Y9,YA,wE]
  refine X0 (rv (L.getD i v0).x (by omega)) rfl ?_
  simp only [X4,w1,f3,f4,f5,f6,f7,v1,Int.toNat_natCast,↓X1,wA,↓reduceIte,reduceIte,reduceCtorEq,Y1,Y2,Y3,Y4,Y5,Y6,Y7,Y8,Y9,YA,wE]
  refine X0 (rv (L.getD i v0).y (by omega)) rfl ?_
  simp only [w1,↓X1,wA,↓reduceIte,reduceIte,reduceCtorEq,Y1,Y2,Y3,Y4,Y5,Y6,Y7,Y8,Y9,YA,wE]
  exact next (i+1) _ (by omega) (by omega) (Jm (by simp [X4,Xf,I]) rfl)
 obtain rfl:i=L.length:=by omega
 refine Xl ?_
 simp only [X4,Int.lt_irrefl,Nat.lt_irrefl,↓X1,wA,↓reduceIte,reduceIte,reduceCtorEq,Y1,Y2,Y3,Y4,Y5,Y6,Y7,Y8,Y9,YA,wE]
 exact Xt rfl rfl (X2 _) rfl
theorem Dc (L:List V2) (h:Q2 L 1000) (hl:L.length<1000000):Fn Tryz.prog 92 [Xp L] (.bool (decide (XM L))):=by
 obtain ⟨V,hV⟩:∃ V,V=decide (XM L):=⟨_,rfl⟩
 have cn:=OU L 1000 h (by omega) hl
 rw [← hV]
 have fin:∀ {s:AS} {v:Bool},s.get 2=.bool v→v=V→RetOk (QJ Tryz.prog Tryz.f92 [] [] (.bool V)) s:=fun h e=>Xt rfl h (X2 _) (by rw [e])
 have sm:∀ i,vb (atF L i)≤1000:=fun i=>h (i % L.length)
 refine Fq Tryz.call92 Tryz.func92 6 [] [] [] (by simp [Xc]) (Xl ?_)
 by_cases hlo:(L.length:Int)<3
 ·have f1:((L.length:Int)<3)=True:=eq_true hlo
  have f1':(L.length<3)=True:=eq_true (by omega)
  simp only [AS.start,X4,f1,f1',↓X1,wF,seval]
  exact fin rfl (by rw [hV,decide_eq_false]; unfold XM; omega)
 have f1:((L.length:Int)<3)=False:=eq_false hlo
 have f1':(L.length<3)=False:=eq_false (by omega)
 by_cases hhi:(12:Int)<L.length
 ·have f2:((12:Int)<L.length)=True:=eq_true hhi
  have f2':(12<L.length)=True:=eq_true (by omega)
  simp only [AS.start,X4,f1,f1',f2,f2',↓X1,wF,seval]
  exact fin rfl (by rw [hV,decide_eq_false]; unfold XM; omega)
 have f2:((12:Int)<L.length)=False:=eq_false hhi
 have f2':(12<L.length)=False:=eq_false (by omega)
 simp only [AS.start,X4,f1,f1',f2,f2',↓X1,wF,seval]
 refine X0 cn rfl ?_
 simp only [f1,f1',f2,f2',↓X1,wF,seval]
 have hn0:L.length≠0:=by omega
 refine Xe (fun i:Nat=>⟨6,[],[Xp L,.any,.bool false,I i,.any,.any],[],[]⟩) (fun i=>i≤L.length∧∀ j,j<i→Wi L j) (fun i=>L.length - i) 0 ⟨by omega,by omega⟩
  (Jm (by simp [X4,Xf,I]) rfl) ?_
 rintro i ⟨hi,hgood⟩ next
 have w1:=wj i (by omega)
 have w2:IntKind.i64.wrap ((i:Int)+2)=((i+2:Nat):Int):=by rw [IntKind.wrap_i64]; omega
 by_cases hi2:i<L.length
 rotate_left
 ·obtain rfl:i=L.length:=by omega
  refine Xl ?_
  simp only [X4,Int.lt_irrefl,Nat.lt_irrefl,↓X1,wF,seval]
  have ca:=Vf L 1000 h (by omega) (by omega)
  have cs:=B5 (ZC L) (by have:=(VP L 1000 h (by omega) (by omega)).2; unfold rm; omega)
  refine X0 ca rfl ?_
  simp only [↓X1,wF,seval]
  refine X0 cs rfl ?_
  simp only [↓X1,wF,seval]
  exact fin rfl (by rw [hV,decide_eq_decide]; unfold XM; exact ⟨fun h=>⟨by omega,hgood,h⟩,fun h=>h.2.2⟩)
 have at_i:∀ j,j<L.length→atF L j=L.getD j v0:=fun j hj=>by unfold atF; rw [Nat.mod_eq_of_lt hj]
 have f3:((i:Int)<L.length)=True:=eq_true (by omega)
 have f4:(i<L.length)=True:=eq_true hi2
 have f5:(i*8+8≤L.length*8)=True:=eq_true (by omega)
 have v1:=vF L i
 have cat:∀ j:Nat,j<1000000000→Fn Tryz.prog 183 [Xp L,I j] (vA (atF L j)):=fun j hj=>aB L j hl hn0 hj
 have cs:=AZ (atF L i) (atF L (i+1)) (atF L (i+2)) (by have:=sm i; unfold vs; omega) (by have:=sm (i+1); unfold vs; omega) (by have:=sm (i+2); unfold vs; omega)
 refine Xl ?_
 simp only [X4,w1,w2,f3,f4,f5,v1,Int.toNat_natCast,↓X1,wF,seval]
 refine X0 (cat (i+1) (by omega)) rfl ?_
 simp only [X4,w1,w2,f3,f4,f5,v1,Int.toNat_natCast,↓X1,wF,seval]
 refine X0 (cat (i+2) (by omega)) rfl ?_
 simp only [X4,w1,w2,f3,f4,f5,v1,Int.toNat_natCast,↓X1,wF,seval]
 have cs':=cs
 rw [at_i i hi2] at cs'
 refine X0 cs' rfl ?_
 by_cases hs:Ji (atF L i) (atF L (i+1)) (atF L (i+2))=0
 ·have g5:(Ji (L.getD i v0) (atF L (i+1)) (atF L (i+2))=0)=True:=eq_true (by rw [← at_i i hi2]; exact hs)
  simp only [g5,↓X1,wF,seval]
  exact fin rfl (by rw [hV,decide_eq_false]; exact fun hp=>(hp.2.1 i hi2).1 hs)
 have g5:(Ji (L.getD i v0) (atF L (i+1)) (atF L (i+2))=0)=False:=eq_false (by rw [← at_i i hi2]; exact hs)
 simp only [g5,w1,w2,↓X1,wF,seval]
 refine Xe (fun k:Nat=>⟨6,[],[Xp L,.any,.bool false,I i,I k,.any],[],[]⟩) (fun k=>k≤L.length∧∀ j,j<k→¬ OM L i j) (fun k=>L.length - k) 0 ⟨by omega,by omega⟩
  (Jm (by simp [X4,Xf,I]) rfl) ?_
 rintro k ⟨hk,hpair⟩ nextk
 have u1:=wj k (by omega)
 by_cases hk3:k<L.length
 rotate_left
 ·obtain rfl:k=L.length:=by omega
  refine Xl ?_
  simp only [X4,Int.lt_irrefl,Nat.lt_irrefl,w1,↓X1,wF,seval]
  refine next (i+1) _ ⟨by omega,fun j hj=>?_⟩ (by omega) (Jm (by simp [X4,Xf,I]) rfl)
  by_cases hji:j<i
  ·exact hgood j hji
  ·obtain rfl:j=i:=by omega
   exact ⟨hs,fun q hq=>hpair q hq⟩
 have g3:((k:Int)<L.length)=True:=eq_true (by omega)
 have g4:(k<L.length)=True:=eq_true hk3
 have h5:(k*8+8≤L.length*8)=True:=eq_true (by omega)
 have v2:=vF L k
 have f6:((L.length:Int)=0)=False:=eq_false (by omega)
 have f6':(L.length=0)=False:=eq_false hn0
 have r1:IntKind.i64.wrap ((k:Int) - i)=(k:Int) - i:=by rw [IntKind.wrap_i64]; omega
 have r2:IntKind.i64.wrap ((k:Int) - i+L.length)=((k+L.length - i:Nat):Int):=by rw [IntKind.wrap_i64]; omega
 have r3:((k+L.length - i:Nat):Int).tmod L.length=(((k+L.length - i) % L.length:Nat):Int):=rfl
 have r4:IntKind.i64.wrap ((L.length:Int) - 1)=((L.length - 1:Nat):Int):=by rw [IntKind.wrap_i64]; omega
 obtain ⟨G,hG⟩:∃ G,G=(k+L.length - i) % L.length:=⟨_,rfl⟩
 rw [← hG] at r3
 have step:¬ OM L i k→∀ j,j<k+1→¬ OM L i j:=fun hb j hj=>by
  by_cases hjk:j<k
  ·exact hpair j hjk
  ·obtain rfl:j=k:=by omega
   exact hb
 by_cases q1:1<G
 rotate_left
 ·have q2:(1<G)=False:=eq_false q1
  have q2':((1:Int)<(G:Int))=False:=eq_false (by omega)
  refine Xl ?_
  simp only [X4,w1,u1,g3,g4,f6,f6',r1,r2,r3,r4,q2,q2',↓X1,wF,seval]
  exact nextk (k+1) _ ⟨by omega,step fun hb=>q1 (by rw [hG]; exact hb.1)⟩ (by omega) (Jm (by simp [X4,Xf,I]) rfl)
 have q2:(1<G)=True:=eq_true q1
 have q2':((1:Int)<(G:Int))=True:=eq_true (by omega)
 by_cases q3:G<L.length - 1
 rotate_left
 ·have q4:(G<L.length - 1)=False:=eq_false q3
  have q4':((G:Int)<((L.length - 1:Nat):Int))=False:=eq_false (by omega)
  refine Xl ?_
  simp only [X4,w1,u1,g3,g4,f6,f6',r1,r2,r3,r4,q2,q2',q4,q4',↓X1,wF,seval]
  exact nextk (k+1) _ ⟨by omega,step fun hb=>q3 (by rw [hG]; exact hb.2.1)⟩ (by omega) (Jm (by simp [X4,Xf,I]) rfl)
 have q4:(G<L.length - 1)=True:=eq_true q3
 have q4':((G:Int)<((L.length - 1:Nat):Int))=True:=eq_true (by omega)
 have cm:=UQ (atF L i) (atF L (i+1)) (atF L k) (atF L (k+1)) (by have:=sm i; omega) (by have:=sm (i+1); omega) (by have:=sm k; omega) (by have:=sm (k+1); omega)
 rw [at_i i hi2,at_i k hk3] at cm
 refine Xl ?_
 simp only [X4,w1,u1,f3,f4,f5,g3,g4,h5,f6,f6',r1,r2,r3,r4,q2,q2',q4,q4',v1,v2,Int.toNat_natCast,↓X1,wF,seval]
 refine X0 (cat (i+1) (by omega)) rfl ?_
 simp only [X4,w1,u1,f3,f4,f5,g3,g4,h5,f6,f6',r1,r2,r3,r4,q2,q2',q4,q4',v1,v2,Int.toNat_natCast,↓X1,wF,seval]
 refine X0 (cat (k+1) (by omega)) rfl ?_
 simp only [X4,w1,u1,f3,f4,f5,g3,g4,h5,f6,f6',r1,r2,r3,r4,q2,q2',q4,q4',v1,v2,Int.toNat_natCast,↓X1,wF,seval]
 refine X0 cm rfl ?_
 by_cases hmt:AY (L.getD i v0) (atF L (i+1)) (L.getD k v0) (atF L (k+1))
 ·rw [decide_eq_true hmt]
  simp only [↓X1,wF,seval]
  exact fin rfl (by rw [hV,decide_eq_false]; exact fun hp=>(hp.2.1 i hi2).2 k hk3 ⟨by omega,by omega,by rw [at_i i hi2,at_i k hk3]; exact hmt⟩)
 ·rw [decide_eq_false hmt]
  simp only [u1,↓X1,wF,seval]
  exact nextk (k+1) _ ⟨by omega,step fun hb=>hmt (by have:=hb.2.2; rwa [at_i i hi2,at_i k hk3] at this)⟩ (by omega) (Jm (by simp [X4,Xf,I]) rfl)
theorem ZW (n m:Int) (hn:KM n) (hm:m≠0):Fn Tryz.prog 17 [I n,I m] (I (J5 n m)):=by
 obtain ⟨h1,h2⟩:=hn
 refine Fr Tryz.call17 Tryz.func17 5 [] [] [] ?_; simp (maxSteps:=999999) only [AS.start,↓X1,wF,seval]
 refine ⟨fun h=>⟨hm,Bm rfl (QL (X9 _) ?_)⟩,fun h=>⟨hm,Bm rfl (QL (X9 _) ?_)⟩⟩
 ·have e1:IntKind.i64.wrap (n+1)=n+1:=by rw [IntKind.wrap_i64]; omega
  have e2:IntKind.i64.wrap (-(n+1)) = -(n+1):=by rw [IntKind.wrap_i64]; omega
  simp [AS.get,J5,h,e1,e2,I]
 ·simp [AS.get,J5,h,I]
theorem Qs (l:List Int) (i m:Int) (hl:C2 l) (hm:m≠0):Fn Tryz.prog 74 [X7 l,I i,I m] (I (Ab.atF l i m)):=by
 refine Fr Tryz.call74 Tryz.func74 7 [] [] [] ?_
 by_cases h0:i<0
 ·have f1:(i<0)=True:=eq_true h0
  simp only [AS.start,X3,f1,↓X1,wF,seval]
  exact Xt (v:=I 0) rfl rfl (X9 _) (by rw [show Ab.atF l i m=0 from if_pos (.inl h0)])
 have f1:(i<0)=False:=eq_false h0
 by_cases h1:(l.length:Int)≤i
 ·have f2:((l.length:Int)≤i)=True:=eq_true h1
  simp only [AS.start,X3,f1,f2,↓X1,wF,seval]
  exact Xt (v:=I 0) rfl rfl (X9 _) (by rw [show Ab.atF l i m=0 from if_pos (.inr h1)])
 have f2:((l.length:Int)≤i)=False:=eq_false h1
 have f3:(0≤i)=True:=eq_true (by omega)
 have f4:(i<(l.length:Int))=True:=eq_true (by omega)
 have f5:(i.toNat<l.length)=True:=eq_true (by omega)
 simp only [AS.start,X3,f1,f2,f3,f4,f5,↓X1,wF,seval]
 refine X0 (ZW _ m (fi hl i.toNat) hm) rfl ?_
 simp only [↓X1,wF,seval]
 exact Xt (v:=I (J5 (l.getD i.toNat 0) m)) rfl rfl (X9 _) (by rw [show Ab.atF l i m=J5 (l.getD i.toNat 0) m from if_neg (by omega)])
def bP (n:Int):Rat:=Rat.divInt ((J5 n 100).tmod 25 - 12) (1+(J5 n 100).tdiv 25)
theorem bQ (n:Int) (hn:KM n):Fn Tryz.prog 15 [I n] (qA (bP n)):=by
 obtain ⟨k,hk⟩:∃ k,k=J5 n 100:=⟨_,rfl⟩
 have hb:=Kh n 100 (by omega)
 have c1:=ZW n 100 hn (by omega)
 rw [← hk] at hb c1
 have b1:k.tmod 25=k % 25:=Int.tmod_eq_emod_of_nonneg hb.1
 have b2:k.tdiv 25=k / 25:=Int.tdiv_eq_ediv_of_nonneg hb.1
 have c2:=QV (k.tmod 25 - 12) (1+k.tdiv 25) ⟨by omega,by omega⟩ ⟨by omega,by omega⟩
 have w1:IntKind.i64.wrap (k.tmod 25 - 12)=k.tmod 25 - 12:=by rw [IntKind.wrap_i64]; omega
 have w2:IntKind.i64.wrap (k.tdiv 25)=k.tdiv 25:=by rw [IntKind.wrap_i64]; omega
 have w3:IntKind.i64.wrap (1+k.tdiv 25)=1+k.tdiv 25:=by rw [IntKind.wrap_i64]; omega
 obtain ⟨R,hR⟩:∃ R,R=qA (bP n):=⟨_,rfl⟩
 have sR:Settled R:=hR▸Xa _
 rw [show Rat.divInt (k.tmod 25 - 12) (1+k.tdiv 25)=bP n by rw [hk]; rfl,← hR] at c2
 rw [← hR]
 refine Fr Tryz.call15 Tryz.func15 4 [] [] [] ?_; simp (maxSteps:=999999) only [AS.start,↓X1,wF,seval]
 refine X0 c1 rfl ?_
 simp only [w1,w2,w3,Int.reduceEq,↓X1,wF,seval]
 refine X0 c2 rfl ?_
 simp only [hR,↓X1,wF,seval]
 exact JH rfl Qa rfl rfl rfl sR (hR.trans rfl)
theorem E8 (p:PV) (hl:p.rim.length<1000000) (hr:∀ i,i<p.rim.length→LP (p.rim.getD i (0,0))=true):Fn Tryz.prog 93 [QP p] (Xp (Xz p.rim)):=by
 obtain ⟨R,hR⟩:∃ R,R=Xp (Xz p.rim):=⟨_,rfl⟩
 have sR:Settled R:=hR▸Xc _
 have bo:XI 2 (.con 0 25 (Xn (XG p)))=True:=eq_true (fun j _=>X5 (Xb (Xy p) j))
 have hvc:∀ a:V2,∀ x∈vC a,Settled x:=fun a=>by simp [vC,X6,X2]
 have br:∀ i l n,XI 2 (.row i n (Xs vC 8 v0 l))=True:=fun i l n=>eq_true fun j _=>X5 (Xb (hvc _) _)
 rw [← hR]
 refine Fr Tryz.call93 Tryz.func93 5 [] [5,60000001] [] ?_
 simp only [AS.start,QP,XG,↓X1,wF,seval]
 refine Xe (fun i:Nat=>⟨5,[],[.any,.ref 0 0 0,.any,.osl 1 i 8 0 i,I i],[],[.con 0 25 (Xn (XG p)),.row i (i*8) (Xs vC 8 v0 (Xz (p.rim.take i)))]⟩) (fun i=>i≤p.rim.length) (fun i=>p.rim.length - i) 0 (by omega)
  (Sub.trans (XX 0 rfl) (Sub.trans (Q5 3 8 (Xs vC 8 v0 []) rfl) (Xi rfl (by simp [AS.put,Xf,I]) (by simp [AS.put,Xq]) (by simp [AS.put,XG,Xd,Xm,X3,I,Xz])))) ?_
 intro i hi next
 have w1:=wj i (by omega)
 by_cases hi2:i<p.rim.length
 ·have f1:((i:Int)<p.rim.length)=True:=eq_true (by omega)
  have f2:(i<p.rim.length)=True:=eq_true hi2
  have f3:(i*2+2≤p.rim.length*2)=True:=eq_true (by omega)
  have f4:(i*2+1≤p.rim.length*2)=True:=eq_true (by omega)
  have f5:(i*2<p.rim.length*2)=True:=eq_true (by omega)
  have f6:(i*2+1<p.rim.length*2)=True:=eq_true (by omega)
  have v1:=oz p.rim i
  have hok:=hr i hi2
  unfold LP wb at hok
  simp only [Bool.and_eq_true,decide_eq_true_eq] at hok
  have c1:=KR (p.rim.getD i (0,0)).1 (p.rim.getD i (0,0)).2 ⟨by omega,by omega⟩ ⟨by omega,by omega⟩
  refine Xl ?_
  simp only [XG,w1,f1,f2,f3,f4,f5,f6,v1,Int.toNat_natCast,↓X1,wF,seval]
  refine X0 c1 rfl ?_
  simp only [w1,↓X1,wF,seval]
  have hap:=XR vC 8 v0 (Xz (p.rim.take i)) (Jv (p.rim.getD i (0,0))) (by omega)
  have hlen:(Xz (p.rim.take i)).length=i:=by simp [Xz]; omega
  have htk:Xz (p.rim.take i) ++ [Jv (p.rim.getD i (0,0))]=Xz (p.rim.take (i+1)):=by rw [BS _ (0,0) hi2]; simp [Xz]
  rw [hlen,htk] at hap
  refine ⟨⟨fun j hj=>?_,by omega,by omega⟩,next (i+1) _ (by omega) (by omega) (dK (m:=2) (by simp [Xf,I]) (by rw [← hap]; rfl) (by simp [XA]) (by simp [bo,br]))⟩
  match j,hj with
  | 0,_=>rfl
  | 1,_=>rfl
  | 2,_=>rfl
  | 3,_=>rfl
  | 4,_=>rfl
  | 5,_=>rfl
  | 6,_=>rfl
  | 7,_=>rfl
  | j+8,h=>omega
 obtain rfl:i=p.rim.length:=by omega
 refine Xl ?_
 simp only [XG,Int.lt_irrefl,Nat.lt_irrefl,↓X1,wF,seval]
 refine Bm rfl ?_
 have hlen:(Xz p.rim).length=p.rim.length:=by simp [Xz]
 rw [hR,X4,hlen]
 refine Qx (n:=p.rim.length) (.inl rfl) (by omega) (fun h=>by rw [h]) fun j hj=>?_
 rw [List.take_length,Nat.zero_add]
 exact (Xb (hvc _) _).sees _
theorem KJ {P:Nat→Prop} {i:Nat}:(∀ j,j<i+1→P j)↔(∀ j,j<i→P j)∧P i :=
 ⟨fun h=>⟨fun j hj=>h j (by omega),h i (by omega)⟩,fun h j hj=>(Nat.lt_succ_iff_lt_or_eq.1 hj).elim (h.1 j) (fun e=>e▸h.2)⟩
theorem uK {α:Type} {X:Env} {K:List Item} {Q:Prop} (P:α→Prop) (st:α→AS) (h1:(∀ a,P a→Run X K (st a))→Q) (h2:∀ a,P a→Run X K (st a)):Q:=h1 h2
def ways:List (Int×Int):=[(4,0),(3,3),(0,4),(-3,3),(-4,0),(-3,-3),(0,-4),(3,-3)]
theorem Y0:∀ i,i<8→∀ k:Int,k=1∨k=2→(-4≤(ways.getD i (0,0)).1.tdiv k∧(ways.getD i (0,0)).1.tdiv k≤4)∧(-4≤(ways.getD i (0,0)).2.tdiv k∧(ways.getD i (0,0)).2.tdiv k≤4):=by
 intro i hi k hk
 match i,hi with
 | 0,_=>rcases hk with rfl | rfl <;> decide
 | 1,_=>rcases hk with rfl | rfl <;> decide
 | 2,_=>rcases hk with rfl | rfl <;> decide
 | 3,_=>rcases hk with rfl | rfl <;> decide
 | 4,_=>rcases hk with rfl | rfl <;> decide
 | 5,_=>rcases hk with rfl | rfl <;> decide
 | 6,_=>rcases hk with rfl | rfl <;> decide
 | 7,_=>rcases hk with rfl | rfl <;> decide
 | i+8,h=>omega
def MX (l:List Int) (i:Nat):List (Int×Int):=if Ab.atF l i 5=1∨Ab.atF l i 5=2 then [(4+(ways.getD i (0,0)).1.tdiv (Ab.atF l i 5),4+(ways.getD i (0,0)).2.tdiv (Ab.atF l i 5))] else []
def ZU (l:List Int):Nat→List (Int×Int)
 | 0=>[]
 | i+1=>if (ZU l i).length<5 then ZU l i ++ MX l i else ZU l i
theorem kA (l:List Int) (i:Nat):(MX l i).length≤1:=by unfold MX; split <;> simp
theorem GB (l:List Int):∀ i,(ZU l i).length≤5
 | 0=>by simp [ZU]
 | i+1=>by
  have:=GB l i
  have:=kA l i
  simp only [ZU]
  split
  ·rw [List.length_append]; omega
  ·omega
theorem NZ (l:List Int) (i:Nat) (h:¬ (ZU l i).length<5):∀ d,ZU l (i+d)=ZU l i
 | 0=>rfl
 | d+1=>by
  have ih:=NZ l i h d
  show (if (ZU l (i+d)).length<5 then ZU l (i+d) ++ MX l (i+d) else ZU l (i+d))=_
  rw [ih,if_neg h]
theorem P9 (l:List Int):∀ i,i≤8→SM (ZU l i)
 | 0,_=>fun c hc=>by simp [ZU] at hc
 | i+1,hi=>by
  have ih:=P9 l i (by omega)
  have hw:=Y0 i (by omega) (Ab.atF l i 5)
  intro c hc
  simp only [ZU] at hc
  split at hc
  ·rcases List.mem_append.1 hc with h | h
   ·exact ih c h
   ·unfold MX at h
    split at h
    ·rename_i hk
     have:=hw hk
     simp only [List.mem_cons,List.not_mem_nil,or_false] at h
     subst h
     simp only
     omega
    ·simp at h
  ·exact ih c hc
def Id (l:List Int):List (Int×Int):=if XM (Xz (ZU l 8)) then ZU l 8 else Te (Ab.atF l 0 3) (Ab.atF l 1 4)
theorem P8 (l:List Int):qr (Id l):=by
 unfold Id
 split
 ·rename_i h
  have h1:=h.1
  have:(Xz (ZU l 8)).length=(ZU l 8).length:=by simp [Xz]
  exact ⟨⟨by omega,GB l 8⟩,P9 l 8 (Nat.le_refl _),h⟩
 ·have a1:=XB l 0 3 (by omega)
  have a2:=XB l 1 4 (by omega)
  exact tg _ _ a1 a2
def uW (R:List (Int×Int)):PV:=⟨0,0,R,[],[],Dq,Dq,Dq,Dq,Dq⟩
theorem dE {t:Bool}:Weak (.sl 8 16 (Xn [I 4,I 0,I 3,I 3,I 0,I 4,I (-3),I 3,I (-4),I 0,I (-3),I (-3),I 0,I (-4),I 3,I (-3)]) t) (Dz ways):=Aq rfl (Nat.le_refl _) fun j hj=>by
 match j,hj with
 | 0,_=>exact Weak.rfl' _
 | 1,_=>exact Weak.rfl' _
 | 2,_=>exact Weak.rfl' _
 | 3,_=>exact Weak.rfl' _
 | 4,_=>exact Weak.rfl' _
 | 5,_=>exact Weak.rfl' _
 | 6,_=>exact Weak.rfl' _
 | 7,_=>exact Weak.rfl' _
 | 8,_=>exact Weak.rfl' _
 | 9,_=>exact Weak.rfl' _
 | 10,_=>exact Weak.rfl' _
 | 11,_=>exact Weak.rfl' _
 | 12,_=>exact Weak.rfl' _
 | 13,_=>exact Weak.rfl' _
 | 14,_=>exact Weak.rfl' _
 | 15,_=>exact Weak.rfl' _
 | j+16,h=>exact absurd h (by show ¬ j+16<8*2; omega)
theorem kF (u v:Int) {t:Bool}:Weak (.sl 3 6 (Xn [I 0,I 0,I (4+u),I 0,I v,I 3]) t) (Dz (Te u v)):=Aq rfl (Nat.le_refl _) fun j hj=>by
 match j,hj with
 | 0,_=>exact Weak.rfl' _
 | 1,_=>exact Weak.rfl' _
 | 2,_=>exact Weak.rfl' _
 | 3,_=>exact Weak.rfl' _
 | 4,_=>exact Weak.rfl' _
 | 5,_=>exact Weak.rfl' _
 | j+6,h=>exact absurd h (by show ¬ j+6<3*2; omega)
theorem cK (l:List Int) (hl:C2 l) (hl2:l.length<9223372036854775808):Fn Tryz.prog 75 [X7 l] (Dz (Id l)):=by
 obtain ⟨V,hV⟩:∃ V,V=Id l:=⟨_,rfl⟩
 rw [← hV]
 have wl:ways.length=8:=rfl
 have z8:((8:Nat):Int)=8:=rfl
 have z5:((5:Nat):Int)=5:=rfl
 refine Fr Tryz.call75 Tryz.func75 7 [] [8] [] ?_; simp (maxSteps:=999999) only [AS.start,↓X1,wA,↓reduceIte,reduceIte,reduceCtorEq,Y1,Y2,Y3,Y4,Y5,Y6,Y7,Y8,Y9,YA,wE]
 refine Xe (fun i:Nat=>⟨7,[],[X7 l,.any,.any,Dz ways,.osl 0 (ZU l i).length 2 0 (ZU l i).length,I i,.any],[],[.row (ZU l i).length ((ZU l i).length*2) (Xs Kq 2 (0,0) (ZU l i))]⟩) (fun i=>i≤8) (fun i=>8 - i) 0 (by omega)
  (Sub.trans (ZV 3 (Dz ways) (by show 3<7; omega) (Zo dE)) (Sub.trans (Q5 4 2 (Xs Kq 2 (0,0) []) rfl) (Xi rfl (by simp [AS.put,X3,ZU,Xf,I]) (by simp [AS.put,Xq]) (by simp [AS.put,ZU])))) ?_
 intro i hi next
 have w1:=wj i (by omega)
 have hn5:=GB l i
 obtain ⟨R,hR⟩:∃ R,R=ZU l i:=⟨_,rfl⟩
 by_cases h8:i<8∧R.length<5
 ·obtain ⟨h8,h5⟩:=h8
  have f1:((i:Int)<8)=True:=eq_true (by omega)
  have f2:(i<8)=True:=eq_true h8
  have f3:((R.length:Int)<5)=True:=eq_true (by omega)
  have f4:(R.length<5)=True:=eq_true h5
  have f5:(i*2+2≤16)=True:=eq_true (by omega)
  have f6:(i*2<16)=True:=eq_true (by omega)
  have f7:(i*2+1<16)=True:=eq_true (by omega)
  have f8:(i*2+1≤16)=True:=eq_true (by omega)
  have v1:=oz ways i
  have c1:=Qs l i 5 hl (by omega)
  have hb:=XB l i 5 (by omega)
  have nx:=next (i+1)
  have hs:ZU l (i+1)=R ++ MX l i:=by rw [hR]; show (if _ then _ else _)=_; rw [if_pos (by rw [← hR]; exact h5)]
  by_cases hk:Ab.atF l i 5=1∨Ab.atF l i 5=2
  rotate_left
  ·have hx:MX l i=[]:=by unfold MX; rw [if_neg hk]
   rw [hx,List.append_nil] at hs
   have k1:(Ab.atF l i 5=1)=False:=eq_false fun h=>hk (.inl h)
   have k2:(Ab.atF l i 5=2)=False:=eq_false fun h=>hk (.inr h)
   simp only [hs] at nx
   rw [← hR]
   refine Xl ?_
   simp only [Xd,z8,z5,w1,f1,f2,f3,f4,f5,f6,f7,f8,v1,show ways.length=8 from rfl,Int.toNat_natCast,↓X1,wA,↓reduceIte,reduceIte,reduceCtorEq,Y1,Y2,Y3,Y4,Y5,Y6,Y7,Y8,Y9,YA,wE]
   refine X0 c1 rfl ?_
   simp only [k1,k2,w1,↓X1,wA,↓reduceIte,reduceIte,reduceCtorEq,Y1,Y2,Y3,Y4,Y5,Y6,Y7,Y8,Y9,YA,wE]
   exact nx _ (by omega) (by omega) (Jm (by simp [Xf,Xd,X3,wl,I]) rfl)
  have hw:=Y0 i h8 (Ab.atF l i 5) hk
  have hx:MX l i=[(4+(ways.getD i (0,0)).1.tdiv (Ab.atF l i 5),4+(ways.getD i (0,0)).2.tdiv (Ab.atF l i 5))]:=by unfold MX; rw [if_pos hk]
  rw [hx] at hs
  generalize Ab.atF l i 5=K at *
  have m1:IntKind.i64.wrap ((ways.getD i (0,0)).1.tdiv K)=(ways.getD i (0,0)).1.tdiv K:=by rw [IntKind.wrap_i64]; omega
  have m2:IntKind.i64.wrap ((ways.getD i (0,0)).2.tdiv K)=(ways.getD i (0,0)).2.tdiv K:=by rw [IntKind.wrap_i64]; omega
  have m3:IntKind.i64.wrap (4+(ways.getD i (0,0)).1.tdiv K)=4+(ways.getD i (0,0)).1.tdiv K:=by rw [IntKind.wrap_i64]; omega
  have m4:IntKind.i64.wrap (4+(ways.getD i (0,0)).2.tdiv K)=4+(ways.getD i (0,0)).2.tdiv K:=by rw [IntKind.wrap_i64]; omega
  have hap:=XR Kq 2 (0,0) R (4+(ways.getD i (0,0)).1.tdiv K,4+(ways.getD i (0,0)).2.tdiv K) (by omega)
  rw [← hs] at hap
  have hlen:(ZU l (i+1)).length=R.length+1:=by rw [hs]; simp
  simp only [hlen] at nx
  have k3:(K=0)=False:=eq_false (by omega)
  rw [← hR]
  have hk':(K=1)=True∨((K=1)=False∧(K=2)=True):=by
   rcases hk with h | h
   ·exact .inl (eq_true h)
   ·exact .inr ⟨eq_false (by omega),eq_true h⟩
  have hk'':∃ k2:Prop,k2∧((K=1)=True∨((K=1)=False∧(K=2)=True)):=⟨True,trivial,hk'⟩
  refine Xl ?_
  simp only [Xd,z8,z5,w1,f1,f2,f3,f4,f5,f6,f7,f8,v1,show ways.length=8 from rfl,Int.toNat_natCast,↓X1,wA,↓reduceIte,reduceIte,reduceCtorEq,Y1,Y2,Y3,Y4,Y5,Y6,Y7,Y8,Y9,YA,wE]
  refine X0 c1 rfl ?_
  rcases hk' with k1 | ⟨k1,k2⟩
  ·simp only [Xd,z8,z5,k1,k3,m1,m2,m3,m4,w1,f1,f2,f3,f4,f5,f6,f7,f8,v1,show ways.length=8 from rfl,Int.toNat_natCast,↓X1,wA,↓reduceIte,reduceIte,reduceCtorEq,Y1,Y2,Y3,Y4,Y5,Y6,Y7,Y8,Y9,YA,wE]
   refine ⟨by omega,⟨by omega,by omega⟩,⟨fun j hj=>?_,by omega,by omega⟩,nx _ (by omega) (by omega) (Jm (by simp [Xf,Xd,X3,wl,I]) (by rw [← hap]; rfl))⟩
   match j,hj with
   | 0,_=>rfl
   | 1,_=>rfl
   | j+2,h=>omega
  ·simp only [Xd,z8,z5,k1,k2,k3,m1,m2,m3,m4,w1,f1,f2,f3,f4,f5,f6,f7,f8,v1,show ways.length=8 from rfl,Int.toNat_natCast,↓X1,wA,↓reduceIte,reduceIte,reduceCtorEq,Y1,Y2,Y3,Y4,Y5,Y6,Y7,Y8,Y9,YA,wE]
   refine ⟨by omega,⟨by omega,by omega⟩,⟨fun j hj=>?_,by omega,by omega⟩,nx _ (by omega) (by omega) (Jm (by simp [Xf,Xd,X3,wl,I]) (by rw [← hap]; rfl))⟩
   match j,hj with
   | 0,_=>rfl
   | 1,_=>rfl
   | j+2,h=>omega
 have hN:R=ZU l 8:=by
  by_cases h:i<8
  ·have h5:¬ (ZU l i).length<5:=fun hh=>h8 ⟨h,by rw [hR]; exact hh⟩
   have:=NZ l i h5 (8 - i)
   rw [show i+(8 - i)=8 by omega] at this
   rw [hR,this]
  ·obtain rfl:i=8:=by omega
   exact hR
 have hin:SM R:=hN▸P9 l 8 (Nat.le_refl _)
 have hlt:R.length≤5:=hN▸GB l 8
 have hVR:V=if XM (Xz R) then R else Te (Ab.atF l 0 3) (Ab.atF l 1 4):=by rw [hV,hN]; rfl
 have cr:=E8 (uW R) (by show R.length<_; omega) (SN hin)
 have cp:=Dc (Xz R) (HS (SN hin)) (by simp [Xz]; omega)
 have c2:=Qs l 0 3 hl (by omega)
 have c3:=Qs l 1 4 hl (by omega)
 have a1:=XB l 0 3 (by omega)
 have a2:=XB l 1 4 (by omega)
 have w4:IntKind.i64.wrap (4+Ab.atF l 0 3)=4+Ab.atF l 0 3:=by rw [IntKind.wrap_i64]; omega
 have ex:(((i:Int)<8)=True∧(i<8)=True∧((R.length:Int)<5)=False∧(R.length<5)=False)∨(((i:Int)<8)=False∧(i<8)=False∧True∧True):=by
  by_cases h:i<8
  ·have h5:¬ R.length<5:=fun hh=>h8 ⟨h,hh⟩
   exact .inl ⟨eq_true (by omega),eq_true h,eq_false (by omega),eq_false h5⟩
  ·exact .inr ⟨eq_false (by omega),eq_false h,trivial,trivial⟩
 rw [← hR]
 refine Run.sub (s':=⟨7,[],[X7 l,.any,.any,Dz ways,Dz R,I i,.any],[],[.con R.length (R.length*2) (Xs Kq 2 (0,0) R)]⟩) ?_ (Sub.trans (XX 0 rfl) (Sub.trans (Mj 4 (M:=R.length*2) rfl rfl (by omega) (fun h=>by omega)) (Xi rfl (by simp [AS.put,Xf,Xd,I]) (by simp [AS.put,Xq]) rfl)))
 have wk:∀ t:Bool,WeakL [.agg [I 0,I 0,.sl R.length (R.length*2) (Xs Kq 2 (0,0) R) false,.sl 0 0 (fun _=>.any) t,.sl 0 0 (fun _=>.any) t,.bool false,.sl 0 0 (fun _=>.any) t,.bool false,.sl 0 0 (fun _=>.any) t,.bool false,.sl 0 0 (fun _=>.any) t,.bool false,.sl 0 0 (fun _=>.any) t,
   .bool false,.sl 0 0 (fun _=>.any) t,.bool false,.sl 0 0 (fun _=>.any) t,.bool false,.sl 0 0 (fun _=>.any) t,.bool false,.sl 0 0 (fun _=>.any) t,.bool false,.sl 0 0 (fun _=>.any) t,.bool false,.sl 0 0 (fun _=>.any) t]] [QP (uW R)]:=fun t =>
  ⟨XO ⟨Weak.rfl' _,Weak.rfl' _,Weak.rfl' _,ZP,ZP,Weak.rfl' _,ZP,Weak.rfl' _,ZP,Weak.rfl' _,ZP,Weak.rfl' _,ZP,Weak.rfl' _,ZP,Weak.rfl' _,ZP,Weak.rfl' _,ZP,Weak.rfl' _,ZP,Weak.rfl' _,ZP,Weak.rfl' _,ZP,trivial⟩,trivial⟩
 refine Xl ?_
 rcases ex with ⟨q1,q2,q3,q4⟩ | ⟨q1,q2,q3,q4⟩
 all_goals
  simp only [Xd,z8,z5,q1,q2,q3,q4,show ways.length=8 from rfl,↓X1,wA,↓reduceIte,reduceIte,reduceCtorEq,Y1,Y2,Y3,Y4,Y5,Y6,Y7,Y8,Y9,YA,wE]
  refine XW cr (wk _) ?_
  simp only [↓X1,wA,↓reduceIte,reduceIte,reduceCtorEq,Y1,Y2,Y3,Y4,Y5,Y6,Y7,Y8,Y9,YA,wE]
  refine X0 cp rfl ?_
  by_cases hp:XM (Xz R)
  ·rw [decide_eq_true hp]
   simp only [↓X1,wA,↓reduceIte,reduceIte,reduceCtorEq,Y1,Y2,Y3,Y4,Y5,Y6,Y7,Y8,Y9,YA,wE]
   rw [if_pos hp] at hVR
   exact Xt rfl rfl (Jd _) (by rw [hVR]; rfl)
  ·rw [decide_eq_false hp]
   simp only [↓X1,wA,↓reduceIte,reduceIte,reduceCtorEq,Y1,Y2,Y3,Y4,Y5,Y6,Y7,Y8,Y9,YA,wE]
   refine X0 c2 rfl ?_
   simp only [w4,↓X1,wA,↓reduceIte,reduceIte,reduceCtorEq,Y1,Y2,Y3,Y4,Y5,Y6,Y7,Y8,Y9,YA,wE]
   refine X0 c3 rfl ?_
   simp only [w4,↓X1,wA,↓reduceIte,reduceIte,reduceCtorEq,Y1,Y2,Y3,Y4,Y5,Y6,Y7,Y8,Y9,YA,wE]
   rw [if_neg hp] at hVR
   exact Bm rfl (Xr (Jd _) (by rw [hVR]; exact kF _ _))
end
end Go.Ab.N
namespace Go.Ab
open Go Go.RowKit Go.Proofs
theorem CI {m:Nat} {s:AS} (id:Nat) {ob:AO} (ho:s.h[id]?=some ob) (hr:ob.info≠none):Sub m s { s with h:=s.h.set id .dead }:=by
 intro N c a hst
 have hH:=hst.heap
 rw [← hH] at ho
 have hlt:=(List.getElem?_eq_some_iff.1 ho).1
 have hat:(c.H.set id .dead)[id]?=some .dead:=by simp [hlt]
 have hoth:∀ i,i≠id→(c.H.set id AO.dead)[i]?=c.H[i]?:=fun i hi=>List.getElem?_set_ne (Ne.symm hi)
 let c':Ctx:=⟨c.w,c.S,c.γ,c.H.set id .dead⟩
 have hext:Ext c c':=by
  refine ⟨?_,fun b h=>h,fun b h=>.inl h,?_,fun _ _ _=>rfl,Nat.le_refl _,rfl,rfl,rfl⟩
  ·intro i o hoi
   by_cases hi:i=id
   ·subst hi
    rw [ho] at hoi; cases hoi
    cases ob with
    | unborn=>trivial
    | dead=>exact absurd rfl hr
    | row v _ _=>exact .inl hat
    | con v _ _=>exact .inl hat
    | map k g=>exact absurd rfl hr
   ·have h1:=HLe.refl c i o hoi
    have e1:=hoth i hi
    cases o with
    | unborn=>trivial
    | dead=>simpa [c',e1] using h1
    | row v _ _=>simpa [c',e1,inf] using h1
    | con v _ _=>simpa [c',e1,inf] using h1
    | map k g=>simpa [c',e1] using h1
  ·rintro b ⟨i,o,sz,hoi,hown,hg⟩
   by_cases hi:i=id
   ·subst hi
    simp only [c'] at hoi
    rw [hat] at hoi; cases hoi; simp [AO.owned] at hown
   ·simp only [c'] at hoi
    rw [hoth i hi] at hoi
    exact .inr ⟨i,o,sz,hoi,hown,hg⟩
 have hrep:∀ {v a},Rep c v a→Rep c' v a:=fun hv=>hext.rep hst.hrel hv
 refine ⟨c',rfl,hext.toB m,hst.size,hst.defers,fun i=>hrep (hst.slots i),by simp [c',hH],?_⟩
 have ne:∀ {i o},c'.H[i]?=some o→o≠AO.dead→i≠id:=fun h hd e=>by
  subst e; simp only [c'] at h; rw [hat] at h; cases h; exact hd rfl
 have bk:∀ {i o},c'.H[i]?=some o→o≠AO.dead→c.H[i]?=some o:=fun h hd=>by
  rw [← hoth _ (ne h hd)]; exact h
 refine ⟨?_,?_,?_,?_,?_⟩
 ·intro i v k g hoi
  rcases hst.hrel.row i v k g (bk hoi (by simp)) with h | ⟨b,sz,cs,el,h1,h2,h3,h4,h5,h6⟩
  ·exact .inl h
  ·exact .inr ⟨b,sz,cs,el,h1,h2,h3,h4,h5,fun j hj=>hrep (h6 j hj)⟩
 ·intro i v k g hoi
  rcases hst.hrel.con i v k g (bk hoi (by simp)) with h | ⟨b,sz,cs,el,fr,h1,h2,h3,h4,h5,h6⟩
  ·exact .inl h
  ·exact .inr ⟨b,sz,cs,el,fr,h1,h2,h3,h4,h5,fun j hj=>hrep (h6 j hj)⟩
 ·intro i k g hoi
  obtain ⟨b,sz,es,cl,h1,h2,h3,h4⟩:=hst.hrel.map i k g (bk hoi (by simp))
  exact ⟨b,sz,es,cl,h1,h2,h3,h4.ext fun v a hv=>hrep hv⟩
 ·intro i i' o o' b sz sz' hoi hoi' h1 h2 hg hg'
  have d1:o≠AO.dead:=fun e=>by subst e; simp [AO.owned] at h1
  have d2:o'≠.dead:=fun e=>by subst e; simp [AO.owned] at h2
  exact hst.hrel.inj _ _ _ _ _ _ _ (bk hoi d1) (bk hoi' d2) h1 h2 hg hg'
 ·exact hst.hrel.bound
theorem HCall.introS {P:Program} {f:FuncId} {fn:Func} {body:Code} (he:A7 P f) (hf:P.funcs[f]?=some fn) (hb:fn.body=some body) (hm:P.follows .mixedOrders=true) {args:List AV} {H H':List AO} {r':AV}
  (n0:Nat) (hid str hcs:List Nat) (hok:Qq fn.ntmps str hcs body=true) (hlen:args.length≤fn.ntmps) (r:AV) (H1:List AO) (hs:Sub H.length ⟨0,[],[],[(0,r)],H1⟩ ⟨0,[],[],[(0,r')],H'⟩)
  (h:Run (DL P fn str hcs H.length r H1) [.code body] (AS.start n0 hid args H)):HCall P f args H r' H':=by
 refine ⟨he,?_⟩
 rintro c vs rfl hrc hv
 refine Ac (X:=DL P fn str hcs c.H.length r H1) hf hb hm hok rfl hrc hv hlen h (fun p hp=>absurd hp (List.not_mem_nil)) ?_
 rintro v r2 ⟨w',S',γ',H''⟩ h1 h2 h3 ⟨rfl,rfl⟩
 have hst:St 1 ⟨w',S',γ',H''⟩ { tmps:=#[v],defers:=[] } ⟨0,[],[],[(0,r2)],H''⟩:=by
  refine ⟨rfl,rfl,fun i=>?_,rfl,h2⟩
  unfold AS.get
  simp only [Nat.not_lt_zero,if_false,Xw]
  split
  ·rename_i hi; subst hi; exact h1
  ·exact .any _
 obtain ⟨c',hw,hx,hst'⟩:=hs _ _ _ hst
 have hv':=hst'.slots 0
 have hH:=hst'.heap
 have hrel:=hst'.hrel
 obtain ⟨w2,S2,γ2,H2⟩:=c'
 cases hw
 cases hH
 refine ⟨v,S2,γ2,rfl,by simpa [AS.get,Xw] using hv',hrel,?_⟩
 exact (h3.trans hx).toExt (Nat.le_refl _)
end Go.Ab
namespace Go.Ab.N
open Go Go.RowKit Go.Proofs
noncomputable section
set_option maxRecDepth 10000
set_option maxHeartbeats 4000000
open Classical
theorem jH {P:Program} {fn:Func} {str hcs:List Nat} {b:Nat} {r:AV} {H:List AO} {s:AS} {t u id ver n:Nat} {L:List AV} (hr:fn.results=#[.cell t u]) (hk:C8 P u=some (some n)) (hs:s.get t=.ref id ver 0)
  (ho:s.h[id]?=some (.row ver n (Xn L))) (hn:L.length=n) (e:.agg L=r) (hH:s.h=H):RetOk (DL P fn str hcs b r H) s :=
 ⟨.agg L,by
  have:=Xo hk hs ho hn
  simp [SI,Z9,DL,hr,J7,Ag,this],e,hH⟩
def ww (q:Rat):List AV:=[.bool (decide (q.num<0)),X7 (X8 q.num.natAbs),.bool false,X7 (X8 (qd q))]
def V3 (id:Int) (n:Nat) (q1 q2 q3:Rat):List AV:=[I id,I 0,.osl 4 0 2 0 n,.osl 5 0 1 0 n,.osl 6 0 1 0 n,.bool false,.sl 0 0 (fun _=>.any) false,.bool false,.sl 0 0 (fun _=>.any) false,
 .bool (decide (q1.num<0)),X7 (X8 q1.num.natAbs),.bool false,X7 (X8 (qd q1)),.bool (decide (q1.num<0)),X7 (X8 q1.num.natAbs),.bool false,X7 (X8 (qd q1)),
 .bool (decide (q2.num<0)),X7 (X8 q2.num.natAbs),.bool false,X7 (X8 (qd q2)),.bool (decide (q3.num<0)),X7 (X8 q3.num.natAbs),.bool false,X7 (X8 (qd q3))]
theorem Sr (id:Int) (R:List (Int×Int)) (hR:R.length<1000000) (f0:Nat→AV):HCall Tryz.prog 73 [I id,Dz R] [.row 0 25 f0] (.agg (V3 id R.length (Rat.divInt 1 1) (Rat.divInt 100 1) (Rat.divInt 1 2)))
  [.row 0 25 f0,.dead,.dead,.dead,.row 0 (R.length*2) (Xs Kq 2 (0,0) R),.row 0 R.length (fun _=>.bool false),.row 0 R.length (fun _=>I 0)]:=by
 have o1:=QV 1 1 ⟨by omega,by omega⟩ ⟨by omega,by omega⟩
 have o2:=QV 100 1 ⟨by omega,by omega⟩ ⟨by omega,by omega⟩
 have o3:=QV 1 2 ⟨by omega,by omega⟩ ⟨by omega,by omega⟩
 generalize Rat.divInt 1 1=q1 at *
 generalize Rat.divInt 100 1=q2 at *
 generalize Rat.divInt 1 2=q3 at *
 refine HCall.introS (fn:=Tryz.f73) Tryz.call73 Tryz.func73 rfl mixed 7 [] [2,30000005,3010] [] (by kernel_rfl) (Nat.le_of_ble_eq_true rfl) (.agg (V3 id R.length q1 q2 q3))
  [.row 0 25 f0,.row 0 25 (Xn (V3 id R.length q1 q2 q3)),.con 0 4 (Xn (ww q1)),.row 0 25 (Xn (V3 id R.length q1 q2 q3)),.row 0 (R.length*2) (QR 0 (Xn []) (R.length*2) (Xs Kq 2 (0,0) R)),.row 0 R.length (fun _=>.bool false),.row 0 R.length (fun _=>I 0)]
  (Sub.trans (CI 1 rfl (by simp [AO.info])) (Sub.trans (CI 2 rfl (by simp [AO.info])) (Sub.trans (CI 3 rfl (by simp [AO.info])) (Qr 4 (R.length*2) (Xs Kq 2 (0,0) R) rfl (Nat.le_refl _) fun j hj=>by rw [r9,if_pos hj])))) (Xl ?_)
 simp only [AS.start,Xd,↓X1,wF,seval]
 refine X0 o1 rfl ?_
 simp only [↓X1,wF,seval]
 refine ⟨⟨fun j _=>T7 _ _ _ _ _ (by omega) fun a=>⟨rfl,by simp [Kq,I,AV.one]⟩,by omega,by omega⟩,?_⟩
 refine X0 o2 rfl ?_
 simp only [↓X1,wF,seval]
 refine X0 o3 rfl ?_
 simp only [↓X1,wF,seval]
 refine ⟨⟨by omega,by omega⟩,⟨by omega,by omega⟩,?_⟩
 exact jH rfl Ge rfl rfl rfl (by simp [V3,X3,I]) (by simp [V3,ww,X3,I])
end
end Go.Ab.N
