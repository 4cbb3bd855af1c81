/- Contracts of functions of these chapters, for every argument that fits, and what they need. -/
import Derived.Test.YtefjhgcndhepeaaGreatAb4
import Derived.Test.YtefjhgcndhepeaaGreatRows
import Derived.KernelRfl
set_option linter.unusedSimpArgs false
set_option linter.unusedVariables false
open Nat renaming reducePow → Y1, reduceLT → Y2, reduceLeDiff → Y3, reduceEqDiff → Y4, reduceAdd → Y5, reduceMul → Y6, reduceSub → Y7, reduceBEq → Y8, reduceDiv → Y9, reduceMod → YA
namespace Go.Ab.N
open Go.Ab
open Classical
noncomputable section
def pw:Nat→Int
 | 0=>1
 | n+1=>1000000000*pw n
theorem X2L:∀ n,0<pw n
 | 0=>by simp [pw]
 | n+1=>by have:=X2L n; simp only [pw]; omega
theorem Xa1 (m n:Nat):pw (m+n)=pw m*pw n:=by
 induction m with
 | zero=>simp [pw]
 | succ m ih=>rw [show m+1+n=(m+n)+1 by omega]; simp only [pw]; rw [ih,Int.mul_assoc]
theorem X6X {m n:Nat} (h:m≤n):pw m≤pw n:=by
 obtain ⟨k,rfl⟩:=Nat.exists_eq_add_of_le h
 induction k with
 | zero=>exact Int.le_refl _
 | succ k ih =>
  have h1:=ih (by omega)
  have h2:=X2L (m+k)
  rw [show m+(k+1)=(m+k)+1 by omega]
  simp only [pw]; omega
def val:List Int→Int
 | []=>0
 | d :: l=>d+1000000000*val l
def X1O (d:Int):Prop:=0≤d∧d<1000000000
def dig (l:List Int):Prop:=∀ d∈l,X1O d
def X5M (l:List Int):Prop:=dig l∧(l≠[]→l.getD (l.length - 1) 0≠0)
theorem X6b:dig []:=fun _ h=>by cases h
theorem X3n {d:Int} {l:List Int}:dig (d :: l)↔X1O d∧dig l:=by unfold dig; simp
theorem XbY {l m:List Int}:dig (l ++ m)↔dig l∧dig m:=by
 unfold dig
 constructor
 ·exact fun h=>⟨fun d hd=>h d (List.mem_append_left _ hd),fun d hd=>h d (List.mem_append_right _ hd)⟩
 ·rintro ⟨h1,h2⟩ d hd
  rcases List.mem_append.1 hd with h | h
  ·exact h1 d h
  ·exact h2 d h
theorem X2l {l:List Int} (h:dig l) (i:Nat):X1O (l.getD i 0):=by
 by_cases hi:i<l.length
 ·exact h _ (X2w hi)
 ·rw [List.getD_eq_getElem?_getD,List.getElem?_eq_none (by omega)]; exact ⟨by simp,by simp⟩
theorem X1m {l:List Int} (h:dig l) (n:Nat):dig (l.take n):=fun d hd=>h d (List.mem_of_mem_take hd)
theorem Xdw {l:List Int} (h:∀ i,i<l.length→X1O (l.getD i 0)):dig l:=by
 intro d hd
 obtain ⟨i,hi,rfl⟩:=List.getElem_of_mem hd
 have:=h i hi
 rwa [List.getD_eq_getElem?_getD,List.getElem?_eq_getElem hi] at this
theorem X0G {l:List Int} (h:dig l):0≤val l:=by
 induction l with
 | nil=>exact Int.le_refl 0
 | cons d l ih =>
  obtain ⟨h1,h2⟩:=X3n.1 h
  have:=ih h2
  simp only [val]; unfold X1O at h1; omega
theorem X40 {l:List Int} (h:dig l):val l<pw l.length:=by
 induction l with
 | nil=>simp [val,pw]
 | cons d l ih =>
  obtain ⟨h1,h2⟩:=X3n.1 h
  have:=ih h2
  simp only [val,List.length_cons,pw]; unfold X1O at h1; omega
theorem Xgb (l m:List Int):val (l ++ m)=val l+pw l.length*val m:=by
 induction l with
 | nil=>simp [val,pw]
 | cons d l ih =>
  simp only [List.cons_append,val,List.length_cons,pw]
  rw [ih,Int.mul_add,Int.mul_assoc]; omega
theorem X7d (l:List Int) (x:Int):val (l ++ [x])=val l+pw l.length*x:=by
 rw [Xgb]; simp [val]
theorem X1G (l:List Int) (i:Nat) (h:i<l.length):val (l.take (i+1))=val (l.take i)+pw i*l.getD i 0:=by
 rw [X17 l 0 i h,X7d,List.length_take,Nat.min_eq_left (by omega)]
theorem X7a (n:Nat):val (List.replicate n 0)=0:=by
 induction n with
 | zero=>rfl
 | succ n ih=>simp [List.replicate_succ,val,ih]
theorem X6B {l:List Int} (h:X5M l) (hne:l≠[]):pw (l.length - 1)≤val l:=by
 have hl:=h.2 hne
 have hlen:0<l.length:=List.length_pos_iff.2 hne
 have e:=X1G l (l.length - 1) (by omega)
 rw [show l.length - 1+1=l.length by omega,List.take_length] at e
 have h1:=X0G (X1m h.1 (l.length - 1))
 have h2:=X2l h.1 (l.length - 1)
 have h3:=X2L (l.length - 1)
 have h4:pw (l.length - 1)*1≤pw (l.length - 1)*l.getD (l.length - 1) 0:=Int.mul_le_mul_of_nonneg_left (by unfold X1O at h2; omega) (by omega)
 omega
theorem Xd8:∀ {a b:List Int},dig a→dig b→a.length=b.length→val a=val b→a=b
 | [],[],_,_,_,_=>rfl
 | [],_ :: _,_,_,h,_=>by simp at h
 | _ :: _,[],_,_,h,_=>by simp at h
 | x :: a,y :: b,ha,hb,hl,hv=>by
  obtain ⟨h1,h2⟩:=X3n.1 ha
  obtain ⟨h3,h4⟩:=X3n.1 hb
  simp only [val] at hv
  unfold X1O at h1 h3
  have hxy:x=y:=by omega
  have hv':val a=val b:=by omega
  rw [hxy,Xd8 h2 h4 (by simpa using hl) hv']
theorem XmA {a b:List Int} (ha:X5M a) (hb:X5M b) (h:val a=val b):a=b:=by
 have key:∀ {a b:List Int},X5M a→X5M b→val a=val b→a.length≤b.length→a=b:=by
  intro a b ha hb h hl
  by_cases e:a.length=b.length
  ·exact Xd8 ha.1 hb.1 e h
  ·exfalso
   have hne:b≠[]:=fun e'=>by
    have:b.length=0:=by rw [e']; rfl
    omega
   have h1:=X6B hb hne
   have h2:=X40 ha.1
   have h3:=X6X (show a.length≤b.length - 1 by omega)
   omega
 rcases Nat.le_total a.length b.length with hl | hl
 ·exact key ha hb h hl
 ·exact (key hb ha h.symm hl).symm
def X0i (n:Nat):List Int:=if h:n=0 then [] else ((n % 1000000000:Nat):Int) :: X0i (n / 1000000000)
termination_by n
decreasing_by omega
theorem X0N:X0i 0=[]:=by rw [X0i]; simp
theorem X4H {n:Nat} (h:n≠0):X0i n=((n % 1000000000:Nat):Int) :: X0i (n / 1000000000):=by rw [X0i]; simp [h]
theorem X0u (n:Nat):val (X0i n)=n:=by
 induction n using Nat.strongRecOn with
 | ind n ih =>
  by_cases h:n=0
  ·subst h; rw [X0N]; rfl
  ·rw [X4H h]
   simp only [val]
   rw [ih (n / 1000000000) (by omega)]; omega
theorem X0C (n:Nat):dig (X0i n):=by
 induction n using Nat.strongRecOn with
 | ind n ih =>
  by_cases h:n=0
  ·subst h; rw [X0N]; exact X6b
  ·rw [X4H h]
   exact X3n.2 ⟨⟨by omega,by omega⟩,ih _ (by omega)⟩
theorem Xd0 {n:Nat} (h:n≠0):X0i n≠[]:=by rw [X4H h]; simp
theorem Xeh {n:Nat}:X0i n=[]↔n=0:=⟨fun h=>Classical.byContradiction fun e=>Xd0 e h,fun h=>by rw [h]; exact X0N⟩
theorem X0D (n:Nat):X5M (X0i n):=by
 refine ⟨X0C n,?_⟩
 induction n using Nat.strongRecOn with
 | ind n ih =>
  intro hne
  by_cases h:n=0
  ·subst h; exact absurd X0N hne
  ·rw [X4H h]
   by_cases h2:n / 1000000000=0
   ·rw [h2,X0N]; simp; omega
   ·have hn:=Xd0 h2
    have:=ih (n / 1000000000) (by omega) hn
    obtain ⟨k,hk⟩:∃ k,(X0i (n / 1000000000)).length=k+1:=⟨(X0i (n / 1000000000)).length - 1,by have:=List.length_pos_iff.2 hn; omega⟩
    simp only [List.length_cons,hk,Nat.add_sub_cancel] at this ⊢
    simpa using this
theorem X46 {l:List Int} (h:X5M l):X0i (val l).toNat=l:=by
 refine XmA (X0D _) h ?_
 rw [X0u]
 have:=X0G h.1
 omega
theorem Xuj {l:List Int} (h:dig l):((val l).toNat:Int)=val l:=Int.toNat_of_nonneg (X0G h)
def X7f (l:List Int):Nat→Nat
 | 0=>0
 | n+1=>if l.getD n 0=0 then X7f l n else n+1
theorem Xlq (l:List Int):∀ n,X7f l n≤n
 | 0=>Nat.le_refl _
 | n+1=>by
  simp only [X7f]
  split
  ·exact Nat.le_succ_of_le (Xlq l n)
  ·exact Nat.le_refl _
theorem Xi8 {l:List Int}:∀ n,n≤l.length→val (l.take (X7f l n))=val (l.take n)
 | 0,_=>rfl
 | n+1,h=>by
  simp only [X7f]
  split
  ·rename_i e
   rw [Xi8 n (by omega),X1G l n h,e]; simp
  ·rfl
theorem Xja {l:List Int} (h:dig l) (n:Nat) (hn:n≤l.length):X5M (l.take (X7f l n)):=by
 refine ⟨X1m h _,fun hne=>?_⟩
 induction n with
 | zero=>simp [X7f] at hne
 | succ n ih =>
  simp only [X7f] at hne ⊢
  split
  ·rename_i e; rw [if_pos e] at hne; exact ih (by omega) hne
  ·rename_i e
   rw [List.length_take,Nat.min_eq_left hn,Nat.add_sub_cancel,X5m l 0 n (n+1) (by omega)]
   exact e
theorem Xki {l:List Int} (h:dig l):l.take (X7f l l.length)=X0i (val l).toNat:=by
 have h1:=Xja h l.length (Nat.le_refl _)
 rw [← X46 h1,Xi8 _ (Nat.le_refl _),List.take_length]
def sm (f:Nat→Int):Nat→Int
 | 0=>0
 | n+1=>sm f n+pw n*f n
def tab (f:Nat→Int) (n:Nat):List Int:=(List.range n).map f
theorem X13 (f:Nat→Int) (n:Nat):(tab f n).length=n:=by simp [tab]
theorem X7N (f:Nat→Int) (n:Nat):tab f (n+1)=tab f n ++ [f n]:=by simp [tab,List.range_succ]
theorem X6N (f:Nat→Int) (n i:Nat) (h:i<n):(tab f n).getD i 0=f i:=by simp [tab,List.getD_eq_getElem?_getD,h]
theorem X2V {f f':Nat→Int} {n:Nat} (h:∀ k,k<n→f k=f' k):tab f n=tab f' n:=List.map_congr_left fun k hk=>h k (by simpa using hk)
theorem Xal (f:Nat→Int):∀ n,val (tab f n)=sm f n
 | 0=>rfl
 | n+1=>by rw [X7N,X7d,X13,Xal f n]; rfl
theorem XlX (l:List Int):∀ n,n≤l.length→sm (fun i=>l.getD i 0) n=val (l.take n)
 | 0,_=>rfl
 | n+1,h=>by rw [X1G l n h,← XlX l n (by omega)]; rfl
theorem XwL (l:List Int) (n:Nat) (h:l.length≤n):sm (fun i=>l.getD i 0) n=val l:=by
 obtain ⟨k,rfl⟩:=Nat.exists_eq_add_of_le h
 induction k with
 | zero=>rw [Nat.add_zero,XlX l _ (Nat.le_refl _),List.take_length]
 | succ k ih =>
  rw [show l.length+(k+1)=(l.length+k)+1 by omega]
  simp only [sm]
  rw [ih (by omega)]
  have:l.getD (l.length+k) 0=0:=by rw [List.getD_eq_getElem?_getD,List.getElem?_eq_none (by omega)]; rfl
  rw [this]; simp
theorem X76 {f:Nat→Int} {n:Nat} (h:∀ i,i<n→X1O (f i)):dig (tab f n):=by
 refine Xdw fun i hi=>?_
 rw [X13] at hi
 rw [X6N _ _ _ hi]; exact h i hi
def X29 (a b:Nat→Int):Nat→Int
 | 0=>0
 | i+1=>if 1000000000≤a i+b i+X29 a b i then 1 else 0
def X8f (a b:Nat→Int) (i:Nat):Int:=if 1000000000≤a i+b i+X29 a b i then a i+b i+X29 a b i - 1000000000 else a i+b i+X29 a b i
theorem X7K (a b:Nat→Int):∀ i,X29 a b i=0∨X29 a b i=1
 | 0=>.inl rfl
 | i+1=>by simp only [X29]; split <;> simp
theorem XhO {a b:Nat→Int} {i:Nat} (ha:X1O (a i)) (hb:X1O (b i)):X1O (X8f a b i):=by
 have:=X7K a b i
 unfold X1O at *
 unfold X8f
 split <;> omega
theorem Xg3 (a b:Nat→Int):∀ n,sm (X8f a b) n+pw n*X29 a b n=sm a n+sm b n
 | 0=>by simp [sm,X29]
 | n+1=>by
  have ih:=Xg3 a b n
  have e:X8f a b n+1000000000*X29 a b (n+1)=a n+b n+X29 a b n:=by
   simp only [X8f,X29]
   split <;> omega
  simp only [sm,pw]
  have:pw n*(X8f a b n+1000000000*X29 a b (n+1))=pw n*(a n+b n+X29 a b n):=by rw [e]
  grind
def X4C (a b:Nat→Int):Nat→Int
 | 0=>0
 | i+1=>if a i - b i - X4C a b i<0 then 1 else 0
def X91 (a b:Nat→Int) (i:Nat):Int:=if a i - b i - X4C a b i<0 then a i - b i - X4C a b i+1000000000 else a i - b i - X4C a b i
theorem X9p (a b:Nat→Int):∀ i,X4C a b i=0∨X4C a b i=1
 | 0=>.inl rfl
 | i+1=>by simp only [X4C]; split <;> simp
theorem Xhu {a b:Nat→Int} {i:Nat} (ha:X1O (a i)) (hb:X1O (b i)):X1O (X91 a b i):=by
 have:=X9p a b i
 unfold X1O at *
 unfold X91
 split <;> omega
theorem Xgt (a b:Nat→Int):∀ n,sm (X91 a b) n - pw n*X4C a b n=sm a n - sm b n
 | 0=>by simp [sm,X4C]
 | n+1=>by
  have ih:=Xgt a b n
  have e:X91 a b n - 1000000000*X4C a b (n+1)=a n - b n - X4C a b n:=by
   simp only [X91,X4C]
   split <;> omega
  simp only [sm,pw]
  have:pw n*(X91 a b n - 1000000000*X4C a b (n+1))=pw n*(a n - b n - X4C a b n):=by rw [e]
  grind
theorem XwA {f:Nat→Int}:∀ {n:Nat},(∀ i,i<n→X1O (f i))→0≤sm f n∧sm f n<pw n
 | 0,_=>by simp [sm,pw]
 | n+1,h=>by
  obtain ⟨h1,h2⟩:=XwA (n:=n) fun i hi=>h i (by omega)
  have h3:=h n (by omega)
  have h4:=X2L n
  unfold X1O at h3
  have h5:pw n*f n≤pw n*999999999:=Int.mul_le_mul_of_nonneg_left (by omega) (by omega)
  have h6:0≤pw n*f n:=Int.mul_nonneg (by omega) h3.1
  simp only [sm,pw]; omega
theorem XlU {a b:Nat→Int} {n:Nat} (ha:∀ i,i<n→X1O (a i)) (hb:∀ i,i<n→X1O (b i)) (h:sm b n≤sm a n):X4C a b n=0:=by
 have h1:=Xgt a b n
 have h2:=(XwA (f:=X91 a b) (n:=n) fun i hi=>Xhu (ha i hi) (hb i hi)).2
 rcases X9p a b n with e | e
 ·exact e
 ·rw [e] at h1; omega
theorem X1d (l:List Int) (i j:Nat) (x:Int) (hi:i<l.length):(l.set i x).getD j 0=if j=i then x else l.getD j 0:=by
 simp only [List.getD_eq_getElem?_getD,List.getElem?_set]
 by_cases h:i=j
 ·subst h; simp [hi]
 ·simp [h,Ne.symm h]
theorem X5Z:∀ (l:List Int) (i:Nat) (x:Int),i<l.length→val (l.set i x)=val l+pw i*(x - l.getD i 0)
 | [],_,_,h=>by simp at h
 | d :: l,0,x,_=>by simp [val,pw]; omega
 | d :: l,i+1,x,h=>by
  have ih:=X5Z l i x (by simpa using h)
  simp only [List.set_cons_succ,val,pw,List.getD_cons_succ]
  rw [ih,Int.mul_add,Int.mul_assoc]; omega
theorem X8k {l:List Int} (h:dig l) (i:Nat) {x:Int} (hx:X1O x):dig (l.set i x):=fun d hd=>by
 rcases List.mem_or_eq_of_mem_set hd with e | e
 ·exact h d e
 ·rw [e]; exact hx
theorem X5F {x y:Int} (hx:X1O x) (hy:X1O y):0≤x*y∧x*y≤999999998000000001:=by
 unfold X1O at hx hy
 have h1:0≤x*y:=Int.mul_nonneg hx.1 hy.1
 have h2:x*y≤999999999*y:=Int.mul_le_mul_of_nonneg_right (by omega) hy.1
 omega
theorem X2E (l:List Int) (i:Nat) (h:i<l.length):val (l.drop i)=l.getD i 0+1000000000*val (l.drop (i+1)):=by
 rw [List.drop_eq_getElem_cons h]
 simp only [val]
 rw [List.getD_eq_getElem?_getD,List.getElem?_eq_getElem h]; rfl
theorem X1X (l:List Int) (i:Nat) (h:i≤l.length):val l=val (l.take i)+pw i*val (l.drop i):=by
 conv=>lhs; rw [← List.take_append_drop i l]
 rw [Xgb,List.length_take,Nat.min_eq_left h]
def X5w (a:Nat→Int) (k:Int):Nat→Int
 | 0=>0
 | i+1=>(a i*k+X5w a k i) / 1000000000
def Xg9 (a:Nat→Int) (k:Int) (i:Nat):Int:=(a i*k+X5w a k i) % 1000000000
theorem X6u {a:Nat→Int} {k:Int} (ha:∀ i,X1O (a i)) (hk:X1O k):∀ i,X1O (X5w a k i)
 | 0=>⟨by simp [X5w],by simp [X5w]⟩
 | i+1=>by
  have h1:=X6u ha hk i
  have h2:=X5F (ha i) hk
  simp only [X5w]; unfold X1O at *; omega
theorem XnC {a:Nat→Int} {k:Int} (ha:∀ i,X1O (a i)) (hk:X1O k) (i:Nat):X1O (Xg9 a k i):=by
 unfold Xg9 X1O; omega
theorem Xkk (a:Nat→Int) (k:Int):∀ n,sm (Xg9 a k) n+pw n*X5w a k n=sm a n*k
 | 0=>by simp [sm,X5w]
 | n+1=>by
  have ih:=Xkk a k n
  have e:Xg9 a k n+1000000000*X5w a k (n+1)=a n*k+X5w a k n:=by
   simp only [Xg9,X5w]; omega
  have e2:pw n*(Xg9 a k n+1000000000*X5w a k (n+1))=pw n*(a n*k+X5w a k n):=by rw [e]
  simp only [sm,pw]
  grind
def X4I (a:List Int) (b:Int) (i:Nat):Int:=val (a.drop i) % b
def X7S (a:List Int) (b:Int) (i:Nat):Int:=(X4I a b (i+1)*1000000000+a.getD i 0) / b
theorem Xa6 (a:List Int) (b:Int) (i:Nat) (h:i<a.length):X4I a b i=(X4I a b (i+1)*1000000000+a.getD i 0) % b:=by
 unfold X4I
 rw [X2E a i h]
 rw [Int.add_comm,Int.mul_comm,Int.add_emod,Int.mul_emod]
 conv=>rhs; rw [Int.add_emod,Int.mul_emod,Int.emod_emod_of_dvd _ (Int.dvd_refl b)]
theorem Xcx (a:List Int) (b:Int):X4I a b a.length=0:=by unfold X4I; simp [val]
theorem X7M {a:List Int} {b:Int} (ha:dig a) (hb:0<b) (i:Nat):X1O (X7S a b i):=by
 have h1:=Int.emod_nonneg (val (a.drop (i+1))) (show b≠0 by omega)
 have h2:=Int.emod_lt_of_pos (val (a.drop (i+1))) hb
 have h3:=X2l ha i
 unfold X1O at *
 unfold X7S X4I
 refine ⟨Int.ediv_nonneg (by omega) (by omega),Int.ediv_lt_of_lt_mul hb ?_⟩
 omega
theorem Xkd {a:List Int} {b:Int} (hb:0<b):∀ i,i≤a.length→val (a.drop (a.length - i))=b*val ((tab (X7S a b) a.length).drop (a.length - i))+X4I a b (a.length - i)
 | 0,_=>by
  have e:(tab (X7S a b) a.length).drop a.length=[]:=by rw [List.drop_eq_nil_iff,X13]; exact Nat.le_refl _
  simp [e,Xcx,val]
 | i+1,h=>by
  have ih:=Xkd (a:=a) hb i (by omega)
  obtain ⟨k,hk⟩:∃ k,a.length - (i+1)=k:=⟨_,rfl⟩
  have hk1:a.length - i=k+1:=by omega
  rw [hk1] at ih
  rw [hk]
  rw [X2E a k (by omega),X2E (tab (X7S a b) a.length) k (by rw [X13]; omega),X6N _ _ _ (show k<a.length by omega)]
  have e:=Int.mul_ediv_add_emod (X4I a b (k+1)*1000000000+a.getD k 0) b
  have e2:=Xa6 a b k (by omega)
  have e3:X7S a b k=(X4I a b (k+1)*1000000000+a.getD k 0) / b:=rfl
  rw [← e3,← e2] at e
  grind
theorem Xfb {a:List Int} {b:Int} (hb:0<b):val a=b*val (tab (X7S a b) a.length)+X4I a b 0:=by
 have:=Xkd (a:=a) hb a.length (Nat.le_refl _)
 simpa using this
def zA (z:Int):AV:=.agg [.bool (decide (z<0)),X0f (X0i z.natAbs)]
theorem X0y (z:Int):Settled (zA z):=X0U (by simp [X07,X02])
theorem XwY:(!(true == false))=true:=Go.Ab.nrfl rfl
theorem Xxo:(!(false == true))=true:=Go.Ab.nrfl rfl
theorem XwI:(!(true == true))=false:=Go.Ab.nrfl rfl
theorem Xx9:(!(false == false))=false:=Go.Ab.nrfl rfl
set_option linter.defProp false in
def wN:=And.intro XwY (And.intro Xxo (And.intro XwI Xx9))
def sgn (neg:Bool) (v:Int):Int:=if neg=true then -v else v
theorem digs_len_zero {n:Nat}:(X0i n).length=0↔n=0:=by rw [List.length_eq_zero_iff,Xeh]
theorem Xxz {l:List Int} (h:dig l) (neg:Bool):zA (sgn neg (val l))=.agg [.bool (neg && decide (X7f l l.length≠0)),X0f (l.take (X7f l l.length))]:=by
 have h0:=X0G h
 have e1:(sgn neg (val l)).natAbs=(val l).toNat:=by unfold sgn; split <;> omega
 have e2:=Xki h
 have hle:=Xlq l l.length
 have e3:X7f l l.length=0↔val l=0:=by
  have h1:(l.take (X7f l l.length)).length=X7f l l.length:=by rw [List.length_take,Nat.min_eq_left hle]
  rw [← h1,e2,digs_len_zero]; omega
 unfold zA
 rw [e1,e2]
 congr 3
 unfold sgn
 have h0':¬ val l<0:=by omega
 cases neg
 ·simp [h0']
 ·have:-val l<0↔¬ X7f l l.length=0:=by rw [e3]; omega
  simp only [if_true,Bool.true_and,decide_eq_decide]
  exact this
theorem XcZ {d:Nat} (h0:d≠0) (h:d<1000000000):X0i d=[(d:Int)]:=by
 rw [X4H h0,show d / 1000000000=0 by omega,X0N,show d % 1000000000=d by omega]
theorem Xic {d:Nat} (h0:1000000000≤d) (h:d<1000000000000000000):X0i d=[((d % 1000000000:Nat):Int),((d / 1000000000:Nat):Int)]:=by
 rw [X4H (by omega),XcZ (by omega) (by omega)]
theorem Xis {d:Nat} (h0:1000000000000000000≤d) (h:d<18446744073709551616) :
  X0i d=[((d % 1000000000:Nat):Int),((d / 1000000000 % 1000000000:Nat):Int),((d / 1000000000 / 1000000000:Nat):Int)]:=by
 rw [X4H (by omega),Xic (by omega) (by omega)]
def dg (l:List Int):Nat→Int:=fun i=>l.getD i 0
theorem X1a {l:List Int} (h:dig l) (i:Nat):X1O (dg l i):=X2l h i
theorem Xbc {l:List Int} {i:Nat} (h:l.length≤i):dg l i=0:=by unfold dg; rw [List.getD_eq_getElem?_getD,List.getElem?_eq_none h]; rfl
theorem X9K (l:List Int) (n:Nat) (h:l.length≤n):sm (dg l) n=val l:=XwL l n h
def X5b (a b:List Int) (n:Nat):List Int:=tab (X8f (dg a) (dg b)) n ++ [X29 (dg a) (dg b) n]
theorem XdM (a b:List Int) (n:Nat) (ha:a.length≤n) (hb:b.length≤n):val (X5b a b n)=val a+val b:=by
 unfold X5b
 rw [X7d,X13,Xal,Xg3,X9K a n ha,X9K b n hb]
theorem Xer {a b:List Int} (ha:dig a) (hb:dig b) (n:Nat):dig (X5b a b n):=by
 unfold X5b
 refine XbY.2 ⟨X76 fun i _=>XhO (X1a ha i) (X1a hb i),X3n.2 ⟨?_,X6b⟩⟩
 have:=X7K (dg a) (dg b) n
 unfold X1O; omega
theorem X7G (a b:List Int) (n:Nat):(X5b a b n).length=n+1:=by simp [X5b,X13]
def X41 (a b:List Int):List Int:=tab (X91 (dg a) (dg b)) a.length
theorem X5f {a b:List Int} (ha:dig a) (hb:dig b) (hl:b.length≤a.length) (h:val b≤val a):val (X41 a b)=val a - val b:=by
 unfold X41
 have e:=XlU (n:=a.length) (fun i _=>X1a ha i) (fun i _=>X1a hb i) (by rw [X9K b _ hl,X9K a _ (Nat.le_refl _)]; exact h)
 have e2:=Xgt (dg a) (dg b) a.length
 rw [e,X9K a _ (Nat.le_refl _),X9K b _ hl] at e2
 rw [Xal]; omega
theorem X56 {a b:List Int} (ha:dig a) (hb:dig b):dig (X41 a b):=X76 fun i _=>Xhu (X1a ha i) (X1a hb i)
def X22 (a b:List Int) (i:Nat):List Int:=tab (fun j=>if j<i then X91 (dg a) (dg b) j else if j=i then dg a j - X4C (dg a) (dg b) i else dg a j) a.length
theorem Xo9 (l:List Int):tab (dg l) l.length=l:=by
 refine List.ext_getElem (by simp [tab]) fun i h1 h2=>?_
 simp [tab,dg,List.getD_eq_getElem?_getD,h2]
theorem Xfm (a b:List Int):X22 a b 0=a:=by
 unfold X22
 conv=>rhs; rw [← Xo9 a]
 refine X2V fun k _=>?_
 rw [if_neg (by omega)]
 split
 ·simp [X4C]
 ·rfl
theorem Xj5 (a b:List Int):X22 a b a.length=X41 a b:=X2V fun k hk=>by rw [if_pos hk]
theorem X4Q (f:Nat→Int) (n k:Nat) (x:Int) (h:k<n):(tab f n).set k x=tab (fun q=>if q=k then x else f q) n:=by
 refine List.ext_getElem (by simp [tab]) fun q h1 h2=>?_
 have hq:q<n:=by simpa [X13] using h2
 by_cases e:k=q
 ·subst e; simp [tab]
 ·simp [tab,List.getElem_set,e,Ne.symm e]
end
end Go.Ab.N
namespace Go.Ab.N
open Go Go.Ab
open Classical
noncomputable section
theorem X0I {l m:List AV} (h:WeakL l m):Weak (.agg l) (.agg m):=fun c v hv=>by
 cases hv with
 | agg vs _ hs hr =>
  have:=(XpZ h) c (.tuple vs) (.tup vs _ hs hr)
  cases this with
  | tup _ _ hs' hr'=>exact .agg vs m hs' hr'
theorem X16 (f:Nat→AV) (t:Bool):Weak (.sl 0 0 f t) (X0f []):=X4e rfl (Nat.le_refl _) fun j hj=>by exact absurd hj (Nat.not_lt_zero j)
theorem X3R {n:Nat} {L:List AV} {l:List Int} {t:Bool} (hn:n=l.length) (h:L=l.map I):Weak (.sl n n (ofL L) t) (X0f l):=by
 subst hn; subst h; exact Xq3 l t
theorem XeQ (L:List AV):∀ n off,off+n=L.length→X14 (ofL L) off 0 n=L.drop off:=by
 have key:∀ n off j,off+j+n=L.length→X14 (ofL L) off j n=L.drop (off+j):=by
  intro n
  induction n with
  | zero=>intro off j h; rw [List.drop_eq_nil_iff.2 (by omega)]; rfl
  | succ n ih =>
   intro off j h
   rw [List.drop_eq_getElem_cons (by omega)]
   simp only [X14]
   rw [ih off (j+1) (by omega)]
   congr 1
   show L.getD (off+j) .any=_
   rw [List.getD_eq_getElem?_getD,List.getElem?_eq_getElem (by omega)]; rfl
 intro n off h
 rw [key n off 0 (by omega)]; rfl
theorem Xwm {P:Program} {fn:Func} {str hcs:List Nat} {r:AV} {s:AS} {t u id ver n:Nat} {L:List AV} (hr:fn.results=#[.cell t u]) (hk:ldk P u=some (some n)) (hs:s.get t=.ref id ver 0)
  (ho:s.h[id]?=some (.row ver n (ofL L))) (hn:L.length=n) (h:X4B s.h (.agg L) r):RetOk (X2g P fn str hcs r) s:=by
 subst hn
 refine X5D (v:=.agg L) hr ?_ h
 rw [hs,Xfo,hk,X8c,ho,X8b,XyC,XeQ L _ _ (by omega)]
 simp [oif]
theorem X15 {P:Program} {fn:Func} {str hcs:List Nat} {r:AV} {s:AS} {t u id ver n:Nat} {L M:List AV} (hr:fn.results=#[.cell t u]) (hk:ldk P u=some (some n)) (hs:s.get t=.ref id ver 0)
  (ho:s.h[id]?=some (.row ver n (ofL L))) (hn:L.length=n) (e:r=.agg M) (hset:Settled r) (h:WeakL L M):RetOk (X2g P fn str hcs r) s:=by
 refine Xwm hr hk hs ho hn ?_
 subst e
 exact X0n hset (X0I h)
end
end Go.Ab.N
namespace Go.Ab.N
open Go Go.RowKit Go.Proofs
theorem ldk3:ldk Tryz.prog 3=some none:=by kernel_rfl
theorem XvI:X3U Tryz.prog 3=some 1:=by kernel_rfl
theorem ikd3:ikd Tryz.prog 3=some .i64:=by kernel_rfl
theorem Xvt:X1z Tryz.prog 3=some [.int .i64 0]:=by kernel_rfl
theorem Xxe:Xjw Tryz.prog 3=some (.int .i64 0):=by kernel_rfl
theorem ldk4:ldk Tryz.prog 4=some none:=by kernel_rfl
theorem XwQ:X3U Tryz.prog 4=some 1:=by kernel_rfl
theorem Xvw:Xgm Tryz.prog 4=true:=by kernel_rfl
theorem Xxb:X1z Tryz.prog 4=some [.bool false]:=by kernel_rfl
theorem Xyx:ldk Tryz.prog 22=some none:=by kernel_rfl
theorem Xu7:X3U Tryz.prog 22=some 1:=by kernel_rfl
theorem Xon:X8U Tryz.prog 22=true:=by kernel_rfl
theorem Xvz:elm Tryz.prog 22=some (3,1,8):=by kernel_rfl
theorem Xyo:ldk Tryz.prog 23=some none:=by kernel_rfl
theorem Xui:X3U Tryz.prog 23=some 1:=by kernel_rfl
theorem Xpt:X8U Tryz.prog 23=true:=by kernel_rfl
theorem XxW:elm Tryz.prog 23=some (110,2,16):=by kernel_rfl
theorem Xyf:ldk Tryz.prog 24=some none:=by kernel_rfl
theorem Xs4:X3U Tryz.prog 24=some 1:=by kernel_rfl
theorem XnH:X8U Tryz.prog 24=true:=by kernel_rfl
theorem Xyt:elm Tryz.prog 24=some (4,1,1):=by kernel_rfl
theorem X12:ldk Tryz.prog 26=some (some 2):=by kernel_rfl
theorem XsI:X3U Tryz.prog 26=some 2:=by kernel_rfl
theorem Xs3:fld Tryz.prog 26 0=some (0,1,none):=by kernel_rfl
theorem Xu3:X1o Tryz.prog 26 0=some (0,1):=by kernel_rfl
theorem XuN:fld Tryz.prog 26 1=some (1,1,none):=by kernel_rfl
theorem XrE:X1o Tryz.prog 26 1=some (1,1):=by kernel_rfl
theorem XxY:X57 Tryz.prog 26=true:=by kernel_rfl
theorem XuD:X1z Tryz.prog 26=some [.bool false,.sl 0 0 (fun _=>.any) true]:=by kernel_rfl
theorem X1k:ldk Tryz.prog 28=some (some 4):=by kernel_rfl
theorem Xuz:X3U Tryz.prog 28=some 4:=by kernel_rfl
theorem XtX:fld Tryz.prog 28 0=some (0,2,some 2):=by kernel_rfl
theorem Xsf:X1o Tryz.prog 28 0=some (0,2):=by kernel_rfl
theorem Xul:fld Tryz.prog 28 1=some (2,2,some 2):=by kernel_rfl
theorem XrP:X1o Tryz.prog 28 1=some (2,2):=by kernel_rfl
theorem XyM:X57 Tryz.prog 28=true:=by kernel_rfl
theorem XsH:X1z Tryz.prog 28=some [.bool false,.sl 0 0 (fun _=>.any) true,.bool false,.sl 0 0 (fun _=>.any) true]:=by kernel_rfl
theorem XjP:ldk Tryz.prog 30=some (some 25):=by kernel_rfl
theorem XuK:X3U Tryz.prog 30=some 25:=by kernel_rfl
theorem XuM:fld Tryz.prog 30 0=some (0,1,none):=by kernel_rfl
theorem Xta:X1o Tryz.prog 30 0=some (0,1):=by kernel_rfl
theorem Xua:fld Tryz.prog 30 1=some (1,1,none):=by kernel_rfl
theorem XrZ:X1o Tryz.prog 30 1=some (1,1):=by kernel_rfl
theorem Xse:fld Tryz.prog 30 2=some (2,1,none):=by kernel_rfl
theorem XtM:X1o Tryz.prog 30 2=some (2,1):=by kernel_rfl
theorem XuE:fld Tryz.prog 30 3=some (3,1,none):=by kernel_rfl
theorem XtS:X1o Tryz.prog 30 3=some (3,1):=by kernel_rfl
theorem XsR:fld Tryz.prog 30 4=some (4,1,none):=by kernel_rfl
theorem XrG:X1o Tryz.prog 30 4=some (4,1):=by kernel_rfl
theorem Xty:fld Tryz.prog 30 5=some (5,4,some 4):=by kernel_rfl
theorem Xs9:X1o Tryz.prog 30 5=some (5,4):=by kernel_rfl
theorem Xug:fld Tryz.prog 30 6=some (9,4,some 4):=by kernel_rfl
theorem XrO:X1o Tryz.prog 30 6=some (9,4):=by kernel_rfl
theorem XrY:fld Tryz.prog 30 7=some (13,4,some 4):=by kernel_rfl
theorem Xtp:X1o Tryz.prog 30 7=some (13,4):=by kernel_rfl
theorem Xu0:fld Tryz.prog 30 8=some (17,4,some 4):=by kernel_rfl
theorem XuV:X1o Tryz.prog 30 8=some (17,4):=by kernel_rfl
theorem Xt4:fld Tryz.prog 30 9=some (21,4,some 4):=by kernel_rfl
theorem XtV:X1o Tryz.prog 30 9=some (21,4):=by kernel_rfl
theorem XyF:X57 Tryz.prog 30=true:=by kernel_rfl
theorem XrK:X1z Tryz.prog 30=some [.int .i64 0,.int .i64 0,.sl 0 0 (fun _=>.any) true,.sl 0 0 (fun _=>.any) true,.sl 0 0 (fun _=>.any) true,.bool false,.sl 0 0 (fun _=>.any) true,.bool false,.sl 0 0 (fun _=>.any) true,.bool false,.sl 0 0 (fun _=>.any) true,.bool false,.sl 0 0 (fun _=>.any) true,.bool false,.sl 0 0 (fun _=>.any) true,.bool false,.sl 0 0 (fun _=>.any) true,.bool false,.sl 0 0 (fun _=>.any) true,.bool false,.sl 0 0 (fun _=>.any) true,.bool false,.sl 0 0 (fun _=>.any) true,.bool false,.sl 0 0 (fun _=>.any) true]:=by kernel_rfl
theorem Xye:elm Tryz.prog 35=some (28,4,64):=by kernel_rfl
theorem Xyd:elm Tryz.prog 43=none:=by kernel_rfl
theorem Xto:X1o Tryz.prog 43 0=some (0,25):=by kernel_rfl
theorem XsW:X1o Tryz.prog 43 1=some (25,25):=by kernel_rfl
theorem XyD:X57 Tryz.prog 43=true:=by kernel_rfl
theorem Xya:arr Tryz.prog 43=some (2,25,some 25):=by kernel_rfl
theorem XuP:X1z Tryz.prog 43=some [.int .i64 0,.int .i64 0,.sl 0 0 (fun _=>.any) true,.sl 0 0 (fun _=>.any) true,.sl 0 0 (fun _=>.any) true,.bool false,.sl 0 0 (fun _=>.any) true,.bool false,.sl 0 0 (fun _=>.any) true,.bool false,.sl 0 0 (fun _=>.any) true,.bool false,.sl 0 0 (fun _=>.any) true,.bool false,.sl 0 0 (fun _=>.any) true,.bool false,.sl 0 0 (fun _=>.any) true,.bool false,.sl 0 0 (fun _=>.any) true,.bool false,.sl 0 0 (fun _=>.any) true,.bool false,.sl 0 0 (fun _=>.any) true,.bool false,.sl 0 0 (fun _=>.any) true,.int .i64 0,.int .i64 0,.sl 0 0 (fun _=>.any) true,.sl 0 0 (fun _=>.any) true,.sl 0 0 (fun _=>.any) true,.bool false,.sl 0 0 (fun _=>.any) true,.bool false,.sl 0 0 (fun _=>.any) true,.bool false,.sl 0 0 (fun _=>.any) true,.bool false,.sl 0 0 (fun _=>.any) true,.bool false,.sl 0 0 (fun _=>.any) true,.bool false,.sl 0 0 (fun _=>.any) true,.bool false,.sl 0 0 (fun _=>.any) true,.bool false,.sl 0 0 (fun _=>.any) true,.bool false,.sl 0 0 (fun _=>.any) true,.bool false,.sl 0 0 (fun _=>.any) true]:=by kernel_rfl
theorem Xy3:elm Tryz.prog 44=some (43,50,816):=by kernel_rfl
theorem X93:ldk Tryz.prog 48=some (some 8):=by kernel_rfl
theorem Xue:X3U Tryz.prog 48=some 8:=by kernel_rfl
theorem XtG:fld Tryz.prog 48 0=some (0,4,some 4):=by kernel_rfl
theorem Xtj:X1o Tryz.prog 48 0=some (0,4):=by kernel_rfl
theorem Xu9:fld Tryz.prog 48 1=some (4,4,some 4):=by kernel_rfl
theorem Xth:X1o Tryz.prog 48 1=some (4,4):=by kernel_rfl
theorem XyH:X57 Tryz.prog 48=true:=by kernel_rfl
theorem XsD:X1z Tryz.prog 48=some [.bool false,.sl 0 0 (fun _=>.any) true,.bool false,.sl 0 0 (fun _=>.any) true,.bool false,.sl 0 0 (fun _=>.any) true,.bool false,.sl 0 0 (fun _=>.any) true]:=by kernel_rfl
theorem X2A:ldk Tryz.prog 50=some (some 8):=by kernel_rfl
theorem XrM:X3U Tryz.prog 50=some 8:=by kernel_rfl
theorem XsP:fld Tryz.prog 50 0=some (0,4,some 4):=by kernel_rfl
theorem Xu1:X1o Tryz.prog 50 0=some (0,4):=by kernel_rfl
theorem XtH:fld Tryz.prog 50 1=some (4,4,some 4):=by kernel_rfl
theorem XtU:X1o Tryz.prog 50 1=some (4,4):=by kernel_rfl
theorem XyA:X57 Tryz.prog 50=true:=by kernel_rfl
theorem XtN:X1z Tryz.prog 50=some [.bool false,.sl 0 0 (fun _=>.any) true,.bool false,.sl 0 0 (fun _=>.any) true,.bool false,.sl 0 0 (fun _=>.any) true,.bool false,.sl 0 0 (fun _=>.any) true]:=by kernel_rfl
theorem XcA:ldk Tryz.prog 52=some (some 29):=by kernel_rfl
theorem XrV:X3U Tryz.prog 52=some 29:=by kernel_rfl
theorem Xs2:fld Tryz.prog 52 0=some (0,1,none):=by kernel_rfl
theorem XsS:fld Tryz.prog 52 1=some (1,1,none):=by kernel_rfl
theorem XuS:X1o Tryz.prog 52 1=some (1,1):=by kernel_rfl
theorem Xuh:fld Tryz.prog 52 2=some (2,1,none):=by kernel_rfl
theorem Xub:X1o Tryz.prog 52 2=some (2,1):=by kernel_rfl
theorem Xtr:fld Tryz.prog 52 3=some (3,1,none):=by kernel_rfl
theorem Xsa:X1o Tryz.prog 52 3=some (3,1):=by kernel_rfl
theorem XsZ:fld Tryz.prog 52 4=some (4,1,none):=by kernel_rfl
theorem XsF:X1o Tryz.prog 52 4=some (4,1):=by kernel_rfl
theorem Xu4:fld Tryz.prog 52 5=some (5,8,some 8):=by kernel_rfl
theorem XsM:X1o Tryz.prog 52 5=some (5,8):=by kernel_rfl
theorem Xtn:fld Tryz.prog 52 6=some (13,8,some 8):=by kernel_rfl
theorem XsT:fld Tryz.prog 52 7=some (21,8,some 8):=by kernel_rfl
theorem Xyv:X57 Tryz.prog 52=true:=by kernel_rfl
theorem XsQ:X1z Tryz.prog 52=some [.int .i64 0,.int .i64 0,.int .i64 0,.int .i64 0,.int .i64 0,.bool false,.sl 0 0 (fun _=>.any) true,.bool false,.sl 0 0 (fun _=>.any) true,.bool false,.sl 0 0 (fun _=>.any) true,.bool false,.sl 0 0 (fun _=>.any) true,.bool false,.sl 0 0 (fun _=>.any) true,.bool false,.sl 0 0 (fun _=>.any) true,.bool false,.sl 0 0 (fun _=>.any) true,.bool false,.sl 0 0 (fun _=>.any) true,.bool false,.sl 0 0 (fun _=>.any) true,.bool false,.sl 0 0 (fun _=>.any) true,.bool false,.sl 0 0 (fun _=>.any) true,.bool false,.sl 0 0 (fun _=>.any) true]:=by kernel_rfl
theorem Xqg:ldk Tryz.prog 54=some (some 79):=by kernel_rfl
theorem XsB:X3U Tryz.prog 54=some 79:=by kernel_rfl
theorem XtT:fld Tryz.prog 54 0=some (0,25,some 25):=by kernel_rfl
theorem XsN:X1o Tryz.prog 54 0=some (0,25):=by kernel_rfl
theorem XtD:fld Tryz.prog 54 1=some (25,25,some 25):=by kernel_rfl
theorem Xs7:X1o Tryz.prog 54 1=some (25,25):=by kernel_rfl
theorem XrJ:fld Tryz.prog 54 2=some (50,29,some 29):=by kernel_rfl
theorem Xyg:X57 Tryz.prog 54=true:=by kernel_rfl
theorem Xsi:X1z Tryz.prog 54=some [.int .i64 0,.int .i64 0,.sl 0 0 (fun _=>.any) true,.sl 0 0 (fun _=>.any) true,.sl 0 0 (fun _=>.any) true,.bool false,.sl 0 0 (fun _=>.any) true,.bool false,.sl 0 0 (fun _=>.any) true,.bool false,.sl 0 0 (fun _=>.any) true,.bool false,.sl 0 0 (fun _=>.any) true,.bool false,.sl 0 0 (fun _=>.any) true,.bool false,.sl 0 0 (fun _=>.any) true,.bool false,.sl 0 0 (fun _=>.any) true,.bool false,.sl 0 0 (fun _=>.any) true,.bool false,.sl 0 0 (fun _=>.any) true,.bool false,.sl 0 0 (fun _=>.any) true,.int .i64 0,.int .i64 0,.sl 0 0 (fun _=>.any) true,.sl 0 0 (fun _=>.any) true,.sl 0 0 (fun _=>.any) true,.bool false,.sl 0 0 (fun _=>.any) true,.bool false,.sl 0 0 (fun _=>.any) true,.bool false,.sl 0 0 (fun _=>.any) true,.bool false,.sl 0 0 (fun _=>.any) true,.bool false,.sl 0 0 (fun _=>.any) true,.bool false,.sl 0 0 (fun _=>.any) true,.bool false,.sl 0 0 (fun _=>.any) true,.bool false,.sl 0 0 (fun _=>.any) true,.bool false,.sl 0 0 (fun _=>.any) true,.bool false,.sl 0 0 (fun _=>.any) true,.int .i64 0,.int .i64 0,.int .i64 0,.int .i64 0,.int .i64 0,.bool false,.sl 0 0 (fun _=>.any) true,.bool false,.sl 0 0 (fun _=>.any) true,.bool false,.sl 0 0 (fun _=>.any) true,.bool false,.sl 0 0 (fun _=>.any) true,.bool false,.sl 0 0 (fun _=>.any) true,.bool false,.sl 0 0 (fun _=>.any) true,.bool false,.sl 0 0 (fun _=>.any) true,.bool false,.sl 0 0 (fun _=>.any) true,.bool false,.sl 0 0 (fun _=>.any) true,.bool false,.sl 0 0 (fun _=>.any) true,.bool false,.sl 0 0 (fun _=>.any) true,.bool false,.sl 0 0 (fun _=>.any) true]:=by kernel_rfl
theorem Xy5:elm Tryz.prog 57=some (52,29,424):=by kernel_rfl
theorem XxU:ldk Tryz.prog 81=some none:=by kernel_rfl
theorem Xt7:X3U Tryz.prog 81=some 1:=by kernel_rfl
theorem XyJ:elm Tryz.prog 81=some (50,8,128):=by kernel_rfl
theorem XuY:X1z Tryz.prog 81=some [.sl 0 0 (fun _=>.any) true]:=by kernel_rfl
theorem Xys:ldk Tryz.prog 84=some (some 16):=by kernel_rfl
theorem XuR:X3U Tryz.prog 84=some 16:=by kernel_rfl
theorem Xsu:fld Tryz.prog 84 0=some (0,8,some 8):=by kernel_rfl
theorem XtE:X1o Tryz.prog 84 0=some (0,8):=by kernel_rfl
theorem XrQ:fld Tryz.prog 84 1=some (8,8,some 8):=by kernel_rfl
theorem Xsp:X1o Tryz.prog 84 1=some (8,8):=by kernel_rfl
theorem XxT:X57 Tryz.prog 84=true:=by kernel_rfl
theorem Xt2:X1z Tryz.prog 84=some [.bool false,.sl 0 0 (fun _=>.any) true,.bool false,.sl 0 0 (fun _=>.any) true,.bool false,.sl 0 0 (fun _=>.any) true,.bool false,.sl 0 0 (fun _=>.any) true,.bool false,.sl 0 0 (fun _=>.any) true,.bool false,.sl 0 0 (fun _=>.any) true,.bool false,.sl 0 0 (fun _=>.any) true,.bool false,.sl 0 0 (fun _=>.any) true]:=by kernel_rfl
theorem Xrh:ldk Tryz.prog 110=some (some 2):=by kernel_rfl
theorem XnB:X3U Tryz.prog 110=some 2:=by kernel_rfl
theorem Xqj:fld Tryz.prog 110 0=some (0,1,none):=by kernel_rfl
theorem Xpe:X1o Tryz.prog 110 0=some (0,1):=by kernel_rfl
theorem XqT:fld Tryz.prog 110 1=some (1,1,none):=by kernel_rfl
theorem XnZ:X1o Tryz.prog 110 1=some (1,1):=by kernel_rfl
theorem Xxt:X57 Tryz.prog 110=true:=by kernel_rfl
theorem XuO:XsA Tryz.prog 110 2=true:=by kernel_rfl
theorem XoM:X1z Tryz.prog 110=some [.int .i64 0,.int .i64 0]:=by kernel_rfl
theorem Xrk:ldk Tryz.prog 114=some (some 20):=by kernel_rfl
theorem Xp5:X3U Tryz.prog 114=some 20:=by kernel_rfl
theorem Xwq:elm Tryz.prog 114=none:=by kernel_rfl
theorem XpA:X1o Tryz.prog 114 0=some (0,4):=by kernel_rfl
theorem XqZ:X1o Tryz.prog 114 1=some (4,4):=by kernel_rfl
theorem XpF:X1o Tryz.prog 114 2=some (8,4):=by kernel_rfl
theorem XoR:X1o Tryz.prog 114 3=some (12,4):=by kernel_rfl
theorem XqS:X1o Tryz.prog 114 4=some (16,4):=by kernel_rfl
theorem Xxa:X57 Tryz.prog 114=true:=by kernel_rfl
theorem Xw9:arr Tryz.prog 114=some (5,4,some 4):=by kernel_rfl
theorem XpP:X1z Tryz.prog 114=some [.bool false,.sl 0 0 (fun _=>.any) true,.bool false,.sl 0 0 (fun _=>.any) true,.bool false,.sl 0 0 (fun _=>.any) true,.bool false,.sl 0 0 (fun _=>.any) true,.bool false,.sl 0 0 (fun _=>.any) true,.bool false,.sl 0 0 (fun _=>.any) true,.bool false,.sl 0 0 (fun _=>.any) true,.bool false,.sl 0 0 (fun _=>.any) true,.bool false,.sl 0 0 (fun _=>.any) true,.bool false,.sl 0 0 (fun _=>.any) true]:=by kernel_rfl
theorem XvM:ldk Tryz.prog 120=some none:=by kernel_rfl
theorem XnI:X3U Tryz.prog 120=some 1:=by kernel_rfl
theorem XwU:elm Tryz.prog 120=some (183,3,24):=by kernel_rfl
theorem XpQ:X1z Tryz.prog 120=some [.sl 0 0 (fun _=>.any) true]:=by kernel_rfl
theorem XwN:ldk Tryz.prog 122=some (some 2):=by kernel_rfl
theorem Xoq:X3U Tryz.prog 122=some 2:=by kernel_rfl
theorem Xxf:elm Tryz.prog 122=none:=by kernel_rfl
theorem XpW:X1o Tryz.prog 122 0=some (0,1):=by kernel_rfl
theorem XoW:X1o Tryz.prog 122 1=some (1,1):=by kernel_rfl
theorem Xwr:X57 Tryz.prog 122=true:=by kernel_rfl
theorem Xx5:arr Tryz.prog 122=some (2,1,none):=by kernel_rfl
theorem XpH:X1z Tryz.prog 122=some [.int .i64 0,.int .i64 0]:=by kernel_rfl
theorem Xxg:elm Tryz.prog 123=some (122,2,16):=by kernel_rfl
theorem Xvx:ldk Tryz.prog 125=some (some 3):=by kernel_rfl
theorem XpY:X1o Tryz.prog 125 0=some (0,1):=by kernel_rfl
theorem XqJ:X1o Tryz.prog 125 1=some (1,1):=by kernel_rfl
theorem Xpg:X1o Tryz.prog 125 2=some (2,1):=by kernel_rfl
theorem XwO:X57 Tryz.prog 125=true:=by kernel_rfl
theorem Xtc:XsA Tryz.prog 125 3=true:=by kernel_rfl
theorem XpT:X1z Tryz.prog 125=some [.int .i64 0,.int .i64 0,.int .i64 0]:=by kernel_rfl
theorem Xvv:elm Tryz.prog 126=some (125,3,24):=by kernel_rfl
theorem Xwy:elm Tryz.prog 148=some (48,8,128):=by kernel_rfl
theorem XxL:ldk Tryz.prog 181=some none:=by kernel_rfl
theorem Xqm:X3U Tryz.prog 181=some 1:=by kernel_rfl
theorem Xtd:XlY Tryz.prog 181=some (3,3):=by kernel_rfl
theorem XoA:X1z Tryz.prog 181=some [.nilmap]:=by kernel_rfl
theorem XnE:fld Tryz.prog 183 0=some (0,1,none):=by kernel_rfl
theorem XqA:X1o Tryz.prog 183 0=some (0,1):=by kernel_rfl
theorem Xpv:fld Tryz.prog 183 1=some (1,1,none):=by kernel_rfl
theorem Xoo:X1o Tryz.prog 183 1=some (1,1):=by kernel_rfl
theorem Xq0:fld Tryz.prog 183 2=some (2,1,none):=by kernel_rfl
theorem Xqv:X1o Tryz.prog 183 2=some (2,1):=by kernel_rfl
theorem XwT:X57 Tryz.prog 183=true:=by kernel_rfl
theorem Xom:X1z Tryz.prog 183=some [.int .i64 0,.int .i64 0,.int .i64 0]:=by kernel_rfl
theorem Xxd:ldk Tryz.prog 191=some none:=by kernel_rfl
theorem Xwv:elm Tryz.prog 191=some (81,1,24):=by kernel_rfl
theorem XvP:ikd Tryz.prog 197=some .u64:=by kernel_rfl
theorem Xwi:elm Tryz.prog 241=some (244,3,24):=by kernel_rfl
theorem Xr3:ldk Tryz.prog 244=some (some 3):=by kernel_rfl
theorem XnY:X3U Tryz.prog 244=some 3:=by kernel_rfl
theorem Xw7:elm Tryz.prog 244=none:=by kernel_rfl
theorem Xnt:X1o Tryz.prog 244 0=some (0,1):=by kernel_rfl
theorem Xpd:X1o Tryz.prog 244 1=some (1,1):=by kernel_rfl
theorem Xol:X1o Tryz.prog 244 2=some (2,1):=by kernel_rfl
theorem Xxn:X57 Tryz.prog 244=true:=by kernel_rfl
theorem XxM:arr Tryz.prog 244=some (3,1,none):=by kernel_rfl
theorem XqC:X1z Tryz.prog 244=some [.int .i64 0,.int .i64 0,.int .i64 0]:=by kernel_rfl
theorem Xw5:ldk Tryz.prog 249=some none:=by kernel_rfl
theorem Xnu:fld Tryz.prog 252 0=some (0,1,none):=by kernel_rfl
theorem Xo5:X1o Tryz.prog 252 0=some (0,1):=by kernel_rfl
theorem XnN:fld Tryz.prog 252 1=some (1,1,none):=by kernel_rfl
theorem XvC:X57 Tryz.prog 252=true:=by kernel_rfl
theorem Xos:X1z Tryz.prog 252=some [.sl 0 0 (fun _=>.any) true,.sl 0 0 (fun _=>.any) true]:=by kernel_rfl
theorem Xhv:ldk Tryz.prog 255=some (some 1):=by kernel_rfl
theorem Xqc:X3U Tryz.prog 255=some 1:=by kernel_rfl
theorem XqV:fld Tryz.prog 255 0=some (0,1,none):=by kernel_rfl
theorem XqL:X1z Tryz.prog 255=some [.sl 0 0 (fun _=>.any) true]:=by kernel_rfl
theorem X4A:Tryz.prog.follows .mixedOrders=true:=by kernel_rfl
theorem Fq {f:FuncId} {fn:Func} {body:Code} {args:List AV} {r:AV} (he:X6e Tryz.prog f) (hf:Tryz.prog.funcs[f]?=some fn) (n0:Nat) (hid str hcs:List Nat) (hs:∀ a∈args,Settled a) (h:Run (X2g Tryz.prog fn str hcs r) [.code body] (AS.start n0 hid args [])) (hb:fn.body=some body:=by rfl) (hok:X1x fn.ntmps str hcs body=true:=by kernel_rfl) (hlen:args.length≤fn.ntmps:=by exact Nat.le_of_ble_eq_true rfl):Fn Tryz.prog f args r:=Fn.intro he hf hb X4A n0 hid str hcs hok hlen hs h
set_option linter.defProp false in
def Xx8:=And.intro @ldk3 <| And.intro @XvI <| And.intro @ikd3 <| And.intro @Xvt <| And.intro @Xxe <| And.intro @ldk4 <| And.intro @XwQ <| And.intro @Xvw <| And.intro @Xxb <| And.intro @Xyx <| And.intro @Xu7 <| And.intro @Xon <| And.intro @Xvz <| And.intro @Xyo <| And.intro @Xui <| And.intro @Xpt <| And.intro @XxW <| And.intro @Xyf <| And.intro @Xs4 <| And.intro @XnH <| And.intro @Xyt <| And.intro @X12 <| And.intro @XsI <| And.intro @Xs3 <| And.intro @Xu3 <| And.intro @XuN <| And.intro @XrE <| And.intro @XxY <| And.intro @XuD <| And.intro @X1k <| And.intro @Xuz <| And.intro @XtX <| And.intro @Xsf <| And.intro @Xul <| And.intro @XrP <| And.intro @XyM <| And.intro @XsH <| And.intro @XjP <| And.intro @XuK <| And.intro @XuM <| And.intro @Xta <| And.intro @Xua <| And.intro @XrZ <| And.intro @Xse <| And.intro @XtM <| And.intro @XuE <| And.intro @XtS <| And.intro @XsR <| And.intro @XrG <| And.intro @Xty <| And.intro @Xs9 <| And.intro @Xug <| And.intro @XrO <| And.intro @XrY <| And.intro @Xtp <| And.intro @Xu0 <| And.intro @XuV <| And.intro @Xt4 <| And.intro @XtV <| And.intro @XyF <| And.intro @XrK <| And.intro @Xye <| And.intro @Xyd <| And.intro @Xto <| And.intro @XsW <| And.intro @XyD <| And.intro @Xya <| And.intro @XuP <| And.intro @Xy3 <| And.intro @X93 <| And.intro @Xue <| And.intro @XtG <| And.intro @Xtj <| And.intro @Xu9 <| And.intro @Xth <| And.intro @XyH <| And.intro @XsD <| And.intro @X2A <| And.intro @XrM <| And.intro @XsP <| And.intro @Xu1 <| And.intro @XtH <| And.intro @XtU <| And.intro @XyA <| And.intro @XtN <| And.intro @XcA <| And.intro @XrV <| And.intro @Xs2 <| And.intro @XsS <| And.intro @XuS <| And.intro @Xuh <| And.intro @Xub <| And.intro @Xtr <| And.intro @Xsa <| And.intro @XsZ <| And.intro @XsF <| And.intro @Xu4 <| And.intro @XsM <| And.intro @Xtn <| And.intro @XsT <| And.intro @Xyv <| And.intro @XsQ <| And.intro @Xqg <| And.intro @XsB <| And.intro @XtT <| And.intro @XsN <| And.intro @XtD <| And.intro @Xs7 <| And.intro @XrJ <| And.intro @Xyg <| And.intro @Xsi <| And.intro @Xy5 <| And.intro @XxU <| And.intro @Xt7 <| And.intro @XyJ <| And.intro @XuY <| And.intro @Xys <| And.intro @XuR <| And.intro @Xsu <| And.intro @XtE <| And.intro @XrQ <| And.intro @Xsp <| And.intro @XxT <| And.intro @Xt2 <| And.intro @Xrh <| And.intro @XnB <| And.intro @Xqj <| And.intro @Xpe <| And.intro @XqT <| And.intro @XnZ <| And.intro @Xxt <| And.intro @XuO <| And.intro @XoM <| And.intro @Xrk <| And.intro @Xp5 <| And.intro @Xwq <| And.intro @XpA <| And.intro @XqZ <| And.intro @XpF <| And.intro @XoR <| And.intro @XqS <| And.intro @Xxa <| And.intro @Xw9 <| And.intro @XpP <| And.intro @XvM <| And.intro @XnI <| And.intro @XwU <| And.intro @XpQ <| And.intro @XwN <| And.intro @Xoq <| And.intro @Xxf <| And.intro @XpW <| And.intro @XoW <| And.intro @Xwr <| And.intro @Xx5 <| And.intro @XpH <| And.intro @Xxg <| And.intro @Xvx <| And.intro @XpY <| And.intro @XqJ <| And.intro @Xpg <| And.intro @XwO <| And.intro @Xtc <| And.intro @XpT <| And.intro @Xvv <| And.intro @Xwy <| And.intro @XxL <| And.intro @Xqm <| And.intro @Xtd <| And.intro @XoA <| And.intro @XnE <| And.intro @XqA <| And.intro @Xpv <| And.intro @Xoo <| And.intro @Xq0 <| And.intro @Xqv <| And.intro @XwT <| And.intro @Xom <| And.intro @Xxd <| And.intro @Xwv <| And.intro @XvP <| And.intro @Xwi <| And.intro @Xr3 <| And.intro @XnY <| And.intro @Xw7 <| And.intro @Xnt <| And.intro @Xpd <| And.intro @Xol <| And.intro @Xxn <| And.intro @XxM <| And.intro @XqC <| And.intro @Xw5 <| And.intro @Xnu <| And.intro @Xo5 <| And.intro @XnN <| And.intro @XvC <| And.intro @Xos <| And.intro @Xhv <| And.intro @Xqc <| And.intro @XqV <| @XqL
set_option linter.defProp false in
def wA:=And.intro @Xyi <| And.intro @Xym <| And.intro @XyB <| And.intro @beq_self_eq_true.{0} <| And.intro @ite_true.{1} <| And.intro @ite_false.{1} <| And.intro @false_implies <| And.intro @true_implies <| And.intro @implies_true.{1} <| And.intro @implies_true.{0} <| And.intro @eq_self.{1} <| And.intro @ne_eq.{1} <| @Xx8
end Go.Ab.N
namespace Go.Ab.N
open Go Go.RowKit Go.Proofs
noncomputable section
set_option maxRecDepth 10000
set_option maxHeartbeats 2000000
open Classical
def ofA (neg:Bool) (l:List Int):AV:=.agg [.bool (neg && decide (X7f l l.length≠0)),X0f (l.take (X7f l l.length))]
theorem X2f (neg:Bool) (l:List Int):Settled (ofA neg l):=X0U (by simp [X07,X02])
theorem Xy1 (neg:Bool) (d:List Int) (hl:d.length<4611686018427387904):Fn Tryz.prog 208 [.bool neg,X0f d] (ofA neg d):=by
 refine Fq Tryz.call208 Tryz.func208 6 [] [] [] (by simp [X07,X08,X2j,X1H,X02,X2i,X0y,X2f,X21]) (X00 1000 ?_); simp (config:={ maxSteps:=2000000 }) only [AS.start,↓X03,wA,seval,zA,wN]
 refine X0d (fun n:Nat=>⟨6,[],[.bool neg,X0f d,.any,.any,.ref 0 0 0,I n],[],[.row 0 2 (ofL [.bool false,.sl 0 0 (fun _=>.any) true])]⟩) (fun n=>n≤d.length∧X7f d d.length=X7f d n) (fun n=>n) d.length ⟨by omega,rfl⟩
  (X09 rfl (by simp [zA,wN,X0p,X0f,X8m,X2U,sl1,I]) (by simp [X0q]) rfl) ?_
 rintro n ⟨hn,ht⟩ next
 cases n with
 | zero =>
  refine X00 1000 ?_
  simp only [Int.lt_irrefl,↓X03,wA,seval,zA,wN]
  refine X5D (v:=.agg [.bool false,.sl 0 0 (fun _=>.any) false]) rfl (by simp [AS.get,X2X,X12,rd,X14,ofL,X4d]) ?_
  have e:ofA neg d=.agg [.bool false,X0f []]:=by unfold ofA; rw [ht]; simp [X7f]
  rw [e]
  exact X44 ⟨X1i (X02 _) rfl,X0n (X07 _) (X16 _ _),trivial⟩
 | succ n =>
  have e0:(0<((n+1:Nat):Int))=True:=eq_true (by omega)
  have e1:(((n+1:Nat):Int)=0)=False:=eq_false (by omega)
  have w1:IntKind.i64.wrap (((n+1:Nat):Int) - 1)=(n:Int):=by rw [IntKind.wrap_i64]; omega
  have e2:(n<d.length)=True:=eq_true (by omega)
  refine X00 1000 ?_
  simp only [e0,e1,e2,w1,↓X03,wA,seval,zA,wN]
  refine ⟨fun h0=>next n _ ⟨by omega,by rw [ht]; simp only [X7f]; rw [if_pos h0]⟩ (by omega) (X09 rfl (by simp [zA,wN,X0p,X0f,X8m,X2U,sl1,I]) (by simp [X0q]) rfl),fun h0=>⟨by omega,?_⟩⟩
  have ht2:X7f d d.length=n+1:=by rw [ht]; simp only [X7f]; rw [if_neg h0]
  have e:ofA neg d=.agg [.bool neg,X0f (d.take (n+1))]:=by unfold ofA; rw [ht2]; simp
  have hlen:(d.take (n+1)).length=n+1:=by rw [List.length_take]; omega
  rw [e]
  refine X5D (v:=.agg [.bool neg,.sl (n+1) (n+1) (fun j=>.int .i64 (d.getD j 0)) false]) rfl ?_ ?_
  ·have m1:min (n+1) d.length=n+1:=by omega
   simp [AS.get,X2X,X12,rd,X14,ofL,X4d,m1]
  ·refine X44 ⟨X1i (X02 _) rfl,X0n (X07 _) (X99 _ hlen.symm (by omega) fun j hj=>?_),trivial⟩
   rw [hlen] at hj
   rw [X5m d 0 j (n+1) hj]; rfl
set_option linter.defProp false in
def wS0:=And.intro @X07 (And.intro @X08 (And.intro @X2j (And.intro @X1H (And.intro @X02 (And.intro @X2i (And.intro @X0y (And.intro @X2f @X21)))))))
theorem Xr4 (neg:Bool) {u:Int} (h:0≤u):zA (sgn neg u)=.agg [.bool (neg && decide (u≠0)),X0f (X0i u.toNat)]:=by
 unfold zA
 have e1:(sgn neg u).natAbs=u.toNat:=by unfold sgn; split <;> omega
 rw [e1]
 congr 3
 unfold sgn
 have h0':¬ u<0:=by omega
 cases neg
 ·simp [h0']
 ·have:-u<0↔¬ u=0:=by omega
  simp only [if_true,Bool.true_and,decide_eq_decide,ne_eq]
  exact this
def U (n:Int):AV:=.int .u64 n
theorem X33 (neg:Bool) (u:Int) (h0:0≤u) (h1:u<18446744073709551616):Fn Tryz.prog 207 [.bool neg,.int .u64 u] (zA (sgn neg u)):=by
 obtain ⟨R,hR⟩:∃ R,R=zA (sgn neg u):=⟨_,rfl⟩
 have eR:=hR.trans (Xr4 neg h0)
 have sR:Settled R:=hR▸X0y _
 have b1:u≠0→(neg && decide (u≠0))=neg:=fun h=>by simp [h]
 have w1:IntKind.i64.wrap (u.tmod 1000000000)=u % 1000000000:=by rw [IntKind.wrap_i64,Int.tmod_eq_emod_of_nonneg h0]; omega
 have w2:IntKind.u64.wrap (u.tdiv 1000000000)=u / 1000000000:=by rw [IntKind.wrap_u64,Int.tdiv_eq_ediv_of_nonneg h0]; omega
 have h2:0≤u / 1000000000:=by omega
 have w3:IntKind.i64.wrap (u / 1000000000)=u / 1000000000:=by rw [IntKind.wrap_i64]; omega
 have w4:IntKind.i64.wrap ((u / 1000000000).tmod 1000000000)=u / 1000000000 % 1000000000:=by rw [IntKind.wrap_i64,Int.tmod_eq_emod_of_nonneg h2]; omega
 have w5:IntKind.u64.wrap ((u / 1000000000).tdiv 1000000000)=u / 1000000000 / 1000000000:=by rw [IntKind.wrap_u64,Int.tdiv_eq_ediv_of_nonneg h2]; omega
 have w6:IntKind.i64.wrap (u / 1000000000 / 1000000000)=u / 1000000000 / 1000000000:=by rw [IntKind.wrap_i64]; omega
 rw [← hR]
 refine Fq Tryz.call207 Tryz.func207 6 [] [] [] (by simp [wS0]) (X00 1000 ?_); simp (config:={ maxSteps:=2000000 }) only [AS.start,↓X03,wA,↓reduceIte,reduceIte,reduceCtorEq,Y1,Y2,Y3,Y4,Y5,Y6,Y7,Y8,Y9,YA,zA,wN]
 simp only [w1,w2,w3,w4,w5,w6]
 refine ⟨fun a=>?_,fun a0=>⟨fun a1=>?_,fun a1=>⟨fun a2=>⟨by omega,by omega,?_⟩,fun a2=>⟨by omega,by omega,by omega,by omega,by omega,?_⟩⟩⟩⟩
 ·rw [a,show (neg && decide ((0:Int)≠0))=false by simp,show (0:Int).toNat=0 from rfl,X0N] at eR
  exact X15 rfl X12 rfl rfl rfl eR sR ⟨Weak.rfl' _,X16 _ _,trivial⟩
 ·have w0:IntKind.i64.wrap u=u:=by rw [IntKind.wrap_i64]; omega
  rw [b1 a0,XcZ (by omega) (by omega),Int.toNat_of_nonneg h0] at eR
  rw [w0]
  exact X15 rfl X12 rfl rfl rfl eR sR ⟨Weak.rfl' _,X3R rfl rfl,trivial⟩
 ·rw [b1 a0,Xic (by omega) (by omega)] at eR
  have e1:((u.toNat % 1000000000:Nat):Int)=u % 1000000000:=by omega
  have e2:((u.toNat / 1000000000:Nat):Int)=u / 1000000000:=by omega
  rw [e1,e2] at eR
  exact X15 rfl X12 rfl rfl rfl eR sR ⟨Weak.rfl' _,X3R rfl rfl,trivial⟩
 ·rw [b1 a0,Xis (by omega) (by omega)] at eR
  have e1:((u.toNat % 1000000000:Nat):Int)=u % 1000000000:=by omega
  have e2:((u.toNat / 1000000000 % 1000000000:Nat):Int)=u / 1000000000 % 1000000000:=by omega
  have e3:((u.toNat / 1000000000 / 1000000000:Nat):Int)=u / 1000000000 / 1000000000:=by omega
  rw [e1,e2,e3] at eR
  exact X15 rfl X12 rfl rfl rfl eR sR ⟨Weak.rfl' _,X3R rfl rfl,trivial⟩
theorem Xht (z:Int):Fn Tryz.prog 196 [zA z] (zA (-z)):=by
 have e:(-z).natAbs=z.natAbs:=by omega
 have e0:z.natAbs=0↔z=0:=by omega
 have e1:(X0i z.natAbs).length=0↔z=0:=digs_len_zero.trans e0
 refine Fq Tryz.call196 Tryz.func196 3 [] [] [] (by simp [wS0]) (X00 1000 ?_); simp (config:={ maxSteps:=2000000 }) only [AS.start,↓X03,wA,↓reduceIte,reduceIte,reduceCtorEq,Y1,Y2,Y3,Y4,Y5,Y6,Y7,Y8,Y9,YA,zA,wN]
 refine ⟨fun h=>X15 rfl X12 rfl rfl rfl rfl (X0y _) ?_,fun h=>X15 rfl X12 rfl rfl rfl rfl (X0y _) ?_⟩
 ·rw [e]
  have:decide (-z<0)=decide (0<((X0i z.natAbs).length:Int)):=by rw [decide_eq_decide]; omega
  rw [this]
  exact ⟨Weak.rfl' _,Weak.rfl' _,trivial⟩
 ·rw [e,show decide (-z<0)=false from decide_eq_false (by omega)]
  exact ⟨Weak.rfl' _,Weak.rfl' _,trivial⟩
theorem XuC (z:Int):Fn Tryz.prog 155 [zA z] (I z.sign):=by
 have e0:z.natAbs=0↔z=0:=by omega
 have e1:(X0i z.natAbs).length=0↔z=0:=digs_len_zero.trans e0
 refine Fq Tryz.call155 Tryz.func155 4 [] [] [] (by simp [wS0]) (X00 1000 ?_); simp (config:={ maxSteps:=2000000 }) only [AS.start,↓X03,wA,↓reduceIte,reduceIte,reduceCtorEq,Y1,Y2,Y3,Y4,Y5,Y6,Y7,Y8,Y9,YA,zA,wN]
 refine ⟨fun h=>X0r rfl rfl (X08 _) ?_,fun h=>⟨fun h2=>X0r rfl rfl (X08 _) ?_,fun h2=>X0r rfl rfl (X08 _) ?_⟩⟩
 ·rw [Int.sign_eq_neg_one_of_neg h]; rfl
 ·rw [e1.1 (by omega)]; rfl
 ·rw [Int.sign_eq_one_of_pos (by omega)]; rfl
theorem XhT (d:List Int) (h:dig d):Fn Tryz.prog 226 [X0f d] (.tup [I (if d.length≤2 then val d else 0),.bool (decide (d.length≤2))]):=by
 have k2:¬ d.length≤2→I 0=I (if d.length≤2 then val d else 0)∧AV.bool false=.bool (decide (d.length≤2)):=fun h=>by simp [h]
 have k1:d.length≤2→∀ x,x=val d→I x=I (if d.length≤2 then val d else 0)∧AV.bool true=.bool (decide (d.length≤2)):=fun h x hx=>by simp [h,hx]
 refine Fq Tryz.call226 Tryz.func226 4 [5] [] [] (by simp [wS0]) (X00 1000 ?_); simp (config:={ maxSteps:=2000000 }) only [AS.start,↓X03,wA,↓reduceIte,reduceIte,reduceCtorEq,Y1,Y2,Y3,Y4,Y5,Y6,Y7,Y8,Y9,YA,zA,wN]
 have fin:∀ {s:AS} {x:Int},s.get 2=I x→s.get 3=.bool true→d.length≤2→x=val d→RetOk (X2g Tryz.prog Tryz.f226 [] [] (.tup [I (if d.length≤2 then val d else 0),.bool (decide (d.length≤2))])) s:=fun h1 h2 hl hx =>
  Xm3 rfl h1 h2 (X08 _) (X02 _) (k1 hl _ hx).1 (k1 hl _ hx).2
 refine ⟨fun a=>fin rfl rfl (by omega) ?_,fun a0=>⟨fun a=>⟨by omega,by omega,fin rfl rfl (by omega) ?_⟩,fun a1=>⟨fun a=>⟨⟨by omega,by omega⟩,by omega,by omega,by omega,fin rfl rfl (by omega) ?_⟩,fun a2=>Xm3 rfl rfl rfl (X08 _) (X02 _) (k2 (by omega)).1 (k2 (by omega)).2⟩⟩⟩
 ·obtain rfl:d=[]:=List.length_eq_zero_iff.1 (by omega)
  rfl
 ·obtain ⟨x,rfl⟩:=List.length_eq_one_iff.1 (show d.length=1 by omega)
  simp [val]
 ·obtain ⟨x,y,rfl⟩:∃ x y,d=[x,y]:=by
   match d,a with
   | [x,y],_=>exact ⟨x,y,rfl⟩
   | [],h=>exact absurd h (by simp)
   | [_],h=>exact absurd h (by simp)
   | _ :: _ :: _ :: _,h=>exact absurd h (by simp; omega)
  have h1:=h x (by simp)
  have h2:=h y (by simp)
  unfold X1O at h1 h2
  simp only [List.getD_cons_zero,List.getD_cons_succ,val,IntKind.wrap_i64]
  omega
theorem XhB (a:Int):Fn Tryz.prog 267 [I a] (.bool false):=by
 refine Fq Tryz.call267 Tryz.func267 3 [] [] [] (by simp [wS0]) (X00 1000 ?_); simp (config:={ maxSteps:=2000000 }) only [AS.start,↓X03,wA,↓reduceIte,reduceIte,reduceCtorEq,Y1,Y2,Y3,Y4,Y5,Y6,Y7,Y8,Y9,YA,zA,wN]
 exact X0r rfl rfl (X02 _) rfl
theorem XmN (a b:Int):Fn Tryz.prog 249 [I a,I b] (I (a - b).sign):=by
 refine Fq Tryz.call249 Tryz.func249 7 [] [] [] (by simp [wS0]) (X00 1000 ?_); simp (config:={ maxSteps:=2000000 }) only [AS.start,↓X03,wA,↓reduceIte,reduceIte,reduceCtorEq,Y1,Y2,Y3,Y4,Y5,Y6,Y7,Y8,Y9,YA,zA,wN]
 refine X01 (XhB a) rfl ?_
 simp only [↓X03,wA,↓reduceIte,reduceIte,reduceCtorEq,Y1,Y2,Y3,Y4,Y5,Y6,Y7,Y8,Y9,YA,zA,wN]
 refine X01 (XhB b) rfl ?_
 simp only [↓X03,wA,↓reduceIte,reduceIte,reduceCtorEq,Y1,Y2,Y3,Y4,Y5,Y6,Y7,Y8,Y9,YA,zA,wN]
 refine ⟨fun h=>X0r rfl rfl (X08 _) ?_,fun h=>⟨fun h2=>X0r rfl rfl (X08 _) ?_,fun h2=>X0r rfl rfl (X08 _) ?_⟩⟩
 ·rw [Int.sign_eq_neg_one_of_neg (by omega)]; rfl
 ·rw [Int.sign_eq_one_of_pos (by omega)]; rfl
 ·rw [show a - b=0 by omega]; rfl
theorem Xrl {a b:List Int} (ha:dig a) (hb:dig b) (hl:a.length=b.length) {i:Nat} (hi:i<a.length) (he:a.drop (i+1)=b.drop (i+1)) (hne:a.getD i 0≠b.getD i 0) :
  (val a - val b).sign=(a.getD i 0 - b.getD i 0).sign:=by
 rw [X1X a i (by omega),X1X b i (by omega),X2E a i hi,X2E b i (by omega),he]
 have h1:=X0G (X1m ha i)
 have h2:=X0G (X1m hb i)
 have h3:=X40 (X1m ha i)
 have h4:=X40 (X1m hb i)
 have e1:(a.take i).length=i:=by rw [List.length_take]; omega
 have e2:(b.take i).length=i:=by rw [List.length_take]; omega
 rw [e1] at h3
 rw [e2] at h4
 generalize val (a.take i)=p at *
 generalize val (b.take i)=q at *
 generalize val (b.drop (i+1))=r at *
 generalize a.getD i 0=x at *
 generalize b.getD i 0=y at *
 have hp:=X2L i
 generalize pw i=P at *
 have e:p+P*(x+1000000000*r) - (q+P*(y+1000000000*r))=(p - q)+P*(x - y):=by grind
 rw [e]
 rcases Int.lt_or_gt_of_ne hne with h | h
 ·rw [Int.sign_eq_neg_one_of_neg (show x - y<0 by omega)]
  have:P*(x - y)≤P*(-1):=Int.mul_le_mul_of_nonneg_left (by omega) (by omega)
  exact Int.sign_eq_neg_one_of_neg (by omega)
 ·rw [Int.sign_eq_one_of_pos (show 0<x - y by omega)]
  have:P*1≤P*(x - y):=Int.mul_le_mul_of_nonneg_left (by omega) (by omega)
  exact Int.sign_eq_one_of_pos (by omega)
theorem X7Z {a b:List Int} (ha:X5M a) (hb:X5M b) (h:a.length<b.length):val a<val b:=by
 have h1:=X40 ha.1
 have hne:b≠[]:=fun e=>by rw [e] at h; simp at h
 have h2:=X6B hb hne
 have h3:=X6X (show a.length≤b.length - 1 by omega)
 omega
theorem X8V {a b:List Int} (hl:a.length=b.length) {i:Nat} (hi:i<a.length) (he:a.drop (i+1)=b.drop (i+1)) (h:a.getD i 0=b.getD i 0):a.drop i=b.drop i:=by
 have hi2:i<b.length:=by omega
 rw [List.drop_eq_getElem_cons hi,List.drop_eq_getElem_cons hi2,he]
 rw [List.getD_eq_getElem?_getD,List.getElem?_eq_getElem hi,List.getD_eq_getElem?_getD,List.getElem?_eq_getElem hi2] at h
 simp only [Option.getD_some] at h
 rw [h]
theorem X6l (a b:List Int) (ha:X5M a) (hb:X5M b) (la:a.length<4611686018427387904):Fn Tryz.prog 215 [X0f a,X0f b] (I (val a - val b).sign):=by
 have hc:a.length≠b.length→Fn Tryz.prog 249 [I a.length,I b.length] (I (val a - val b).sign):=fun h=>by
  have e:((a.length:Int) - b.length).sign=(val a - val b).sign:=by
   rcases Nat.lt_or_gt_of_ne h with h' | h'
   ·have:=X7Z ha hb h'
    rw [Int.sign_eq_neg_one_of_neg (by omega),Int.sign_eq_neg_one_of_neg (by omega)]
   ·have:=X7Z hb ha h'
    rw [Int.sign_eq_one_of_pos (by omega),Int.sign_eq_one_of_pos (by omega)]
  rw [← e]; exact XmN _ _
 refine Fq Tryz.call215 Tryz.func215 6 [] [] [] (by simp [wS0]) (X00 1000 ?_); simp (config:={ maxSteps:=2000000 }) only [AS.start,↓X03,wA,seval,zA,wN]
 refine ⟨fun h=>X01 (hc h) rfl ?_,fun hl=>?_⟩
 ·simp only [↓X03,wA,seval,zA,wN]
  exact X0r rfl rfl (X08 _) rfl
 refine X0d (fun k:Nat=>⟨6,[],[X0f a,X0f b,.any,.any,I 0,I ((k:Int) - 1)],[],[]⟩) (fun k=>k≤a.length∧a.drop k=b.drop k) (fun k=>k) a.length ⟨by omega,by rw [List.drop_length,hl,List.drop_length]⟩
  ?_ ?_
 ·have w0:IntKind.i64.wrap ((a.length:Int) - 1)=(a.length:Int) - 1:=by rw [IntKind.wrap_i64]; omega
  rw [w0]
  exact (X09 rfl (by simp [zA,wN,X0p,X0f,X8m,X2U,sl1,I]) (by simp [X0q]) rfl)
 rintro k ⟨hk,he⟩ next
 cases k with
 | zero =>
  refine X00 1000 ?_
  have e0:(0≤((0:Nat):Int) - 1)=False:=eq_false (by omega)
  have e1:((0:Int)≤0 - 1)=False:=eq_false (by omega)
  simp only [e0,e1,↓X03,wA,seval,zA,wN]
  refine X0r rfl rfl (X08 _) ?_
  rw [List.drop_zero,List.drop_zero] at he
  rw [he,Int.sub_self]; rfl
 | succ k =>
  have e1:((k+1:Nat):Int) - 1=(k:Int):=by omega
  have w1:IntKind.i64.wrap ((k:Int) - 1)=(k:Int) - 1:=by rw [IntKind.wrap_i64]; omega
  have e2:((k:Int)<a.length)=True:=eq_true (by omega)
  have e3:(k<a.length)=True:=eq_true (by omega)
  have e4:(k<b.length)=True:=eq_true (by omega)
  have hcm:a.getD k 0≠b.getD k 0→Fn Tryz.prog 249 [I (a.getD k 0),I (b.getD k 0)] (I (val a - val b).sign):=fun h=>by
   rw [Xrl ha.1 hb.1 hl (by omega) he h]; exact XmN _ _
  refine X00 1000 ?_
  simp only [e1,w1,e3,e4,↓X03,wA,seval,zA,wN]
  refine ⟨fun h=>X01 (hcm h) rfl ?_,fun h=>next k _ ⟨by omega,X8V hl (by omega) he h⟩ (by omega) (X09 rfl (by simp [zA,wN,X0p,X0f,X8m,X2U,sl1,I]) (by simp [X0q]) rfl)⟩
  simp only [↓X03,wA,seval,zA,wN]
  exact X0r rfl rfl (X08 _) rfl
theorem Xa4 (n:Int) (h:X51 n):Fn Tryz.prog 148 [I n] (zA n):=by
 obtain ⟨R,hR⟩:∃ R,R=zA n:=⟨_,rfl⟩
 have sR:Settled R:=hR▸X0y _
 unfold X51 at h
 have c1:n<0→Fn Tryz.prog 207 [.bool (decide (n<0)),.int .u64 (IntKind.u64.wrap (0 - IntKind.u64.wrap n))] R:=fun h1=>by
  have e:IntKind.u64.wrap (0 - IntKind.u64.wrap n) = -n:=by rw [IntKind.wrap_u64,IntKind.wrap_u64]; omega
  have e2:sgn (decide (n<0)) (-n)=n:=by unfold sgn; rw [if_pos (decide_eq_true h1)]; omega
  have:=X33 (decide (n<0)) (-n) (by omega) (by omega)
  rw [e2] at this
  rw [e,hR]; exact this
 have c2:¬ n<0→Fn Tryz.prog 207 [.bool (decide (n<0)),.int .u64 (IntKind.u64.wrap n)] R:=fun h1=>by
  have e:IntKind.u64.wrap n=n:=by rw [IntKind.wrap_u64]; omega
  have e2:sgn (decide (n<0)) n=n:=by unfold sgn; rw [if_neg (by simp; omega)]
  have:=X33 (decide (n<0)) n (by omega) (by omega)
  rw [e2] at this
  rw [e,hR]; exact this
 rw [← hR]
 refine Fq Tryz.call148 Tryz.func148 4 [] [] [] (by simp [wS0]) (X00 1000 ?_); simp (config:={ maxSteps:=2000000 }) only [AS.start,↓X03,wA,seval,zA,wN]
 refine ⟨fun h1=>X01 (c1 h1) rfl ?_,fun h1=>X01 (c2 h1) rfl ?_⟩
 ·simp only [hR,↓X03,wA,seval,zA,wN]
  exact X15 rfl X12 rfl rfl rfl hR sR ⟨Weak.rfl' _,Weak.rfl' _,trivial⟩
 ·simp only [hR,↓X03,wA,seval,zA,wN]
  exact X15 rfl X12 rfl rfl rfl hR sR ⟨Weak.rfl' _,Weak.rfl' _,trivial⟩
end
end Go.Ab.N
