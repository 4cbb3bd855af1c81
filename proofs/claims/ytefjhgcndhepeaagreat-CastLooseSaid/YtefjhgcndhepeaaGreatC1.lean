/- Contracts of functions of these chapters, for every argument that fits, and what they need. -/
import Derived.Test.YtefjhgcndhepeaaGreatAb4
import Derived.Test.YtefjhgcndhepeaaGreatRows
import Derived.KernelRfl
set_option linter.unusedSimpArgs false
set_option linter.unusedVariables false
open Nat renaming reducePow → Y1, reduceLT → Y2, reduceLeDiff → Y3, reduceEqDiff → Y4, reduceAdd → Y5, reduceMul → Y6, reduceSub → Y7, reduceBEq → Y8, reduceDiv → Y9, reduceMod → YA
namespace Go.Ab.N
open Go.Ab
open Classical
noncomputable section
def pw:Nat→Int
 | 0=>1
 | n+1=>1000000000*pw n
theorem X2J:∀ n,0<pw n
 | 0=>by simp [pw]
 | n+1=>by have:=X2J n; simp only [pw]; omega
theorem Xab (m n:Nat):pw (m+n)=pw m*pw n:=by
 induction m with
 | zero=>simp [pw]
 | succ m ih=>rw [show m+1+n=(m+n)+1 by omega]; simp only [pw]; rw [ih,Int.mul_assoc]
theorem X73 {m n:Nat} (h:m≤n):pw m≤pw n:=by
 obtain ⟨k,rfl⟩:=Nat.exists_eq_add_of_le h
 induction k with
 | zero=>exact Int.le_refl _
 | succ k ih =>
  have h1:=ih (by omega)
  have h2:=X2J (m+k)
  rw [show m+(k+1)=(m+k)+1 by omega]
  simp only [pw]; omega
def val:List Int→Int
 | []=>0
 | d :: l=>d+1000000000*val l
def X1O (d:Int):Prop:=0≤d∧d<1000000000
def dig (l:List Int):Prop:=∀ d∈l,X1O d
def X5x (l:List Int):Prop:=dig l∧(l≠[]→l.getD (l.length - 1) 0≠0)
theorem X64:dig []:=fun _ h=>by cases h
theorem X3i {d:Int} {l:List Int}:dig (d :: l)↔X1O d∧dig l:=by unfold dig; simp
theorem Xcs {l m:List Int}:dig (l ++ m)↔dig l∧dig m:=by
 unfold dig
 constructor
 ·exact fun h=>⟨fun d hd=>h d (List.mem_append_left _ hd),fun d hd=>h d (List.mem_append_right _ hd)⟩
 ·rintro ⟨h1,h2⟩ d hd
  rcases List.mem_append.1 hd with h | h
  ·exact h1 d h
  ·exact h2 d h
theorem X2m {l:List Int} (h:dig l) (i:Nat):X1O (l.getD i 0):=by
 by_cases hi:i<l.length
 ·exact h _ (X2u hi)
 ·rw [List.getD_eq_getElem?_getD,List.getElem?_eq_none (by omega)]; exact ⟨by simp,by simp⟩
theorem X1m {l:List Int} (h:dig l) (n:Nat):dig (l.take n):=fun d hd=>h d (List.mem_of_mem_take hd)
theorem XdP {l:List Int} (h:∀ i,i<l.length→X1O (l.getD i 0)):dig l:=by
 intro d hd
 obtain ⟨i,hi,rfl⟩:=List.getElem_of_mem hd
 have:=h i hi
 rwa [List.getD_eq_getElem?_getD,List.getElem?_eq_getElem hi] at this
theorem X0H {l:List Int} (h:dig l):0≤val l:=by
 induction l with
 | nil=>exact Int.le_refl 0
 | cons d l ih =>
  obtain ⟨h1,h2⟩:=X3i.1 h
  have:=ih h2
  simp only [val]; unfold X1O at h1; omega
theorem X43 {l:List Int} (h:dig l):val l<pw l.length:=by
 induction l with
 | nil=>simp [val,pw]
 | cons d l ih =>
  obtain ⟨h1,h2⟩:=X3i.1 h
  have:=ih h2
  simp only [val,List.length_cons,pw]; unfold X1O at h1; omega
theorem Xgu (l m:List Int):val (l ++ m)=val l+pw l.length*val m:=by
 induction l with
 | nil=>simp [val,pw]
 | cons d l ih =>
  simp only [List.cons_append,val,List.length_cons,pw]
  rw [ih,Int.mul_add,Int.mul_assoc]; omega
theorem X7X (l:List Int) (x:Int):val (l ++ [x])=val l+pw l.length*x:=by
 rw [Xgu]; simp [val]
theorem X1I (l:List Int) (i:Nat) (h:i<l.length):val (l.take (i+1))=val (l.take i)+pw i*l.getD i 0:=by
 rw [X1b l 0 i h,X7X,List.length_take,Nat.min_eq_left (by omega)]
theorem X7Y (n:Nat):val (List.replicate n 0)=0:=by
 induction n with
 | zero=>rfl
 | succ n ih=>simp [List.replicate_succ,val,ih]
theorem X6l {l:List Int} (h:X5x l) (hne:l≠[]):pw (l.length - 1)≤val l:=by
 have hl:=h.2 hne
 have hlen:0<l.length:=List.length_pos_iff.2 hne
 have e:=X1I l (l.length - 1) (by omega)
 rw [show l.length - 1+1=l.length by omega,List.take_length] at e
 have h1:=X0H (X1m h.1 (l.length - 1))
 have h2:=X2m h.1 (l.length - 1)
 have h3:=X2J (l.length - 1)
 have h4:pw (l.length - 1)*1≤pw (l.length - 1)*l.getD (l.length - 1) 0:=Int.mul_le_mul_of_nonneg_left (by unfold X1O at h2; omega) (by omega)
 omega
theorem Xdj:∀ {a b:List Int},dig a→dig b→a.length=b.length→val a=val b→a=b
 | [],[],_,_,_,_=>rfl
 | [],_ :: _,_,_,h,_=>by simp at h
 | _ :: _,[],_,_,h,_=>by simp at h
 | x :: a,y :: b,ha,hb,hl,hv=>by
  obtain ⟨h1,h2⟩:=X3i.1 ha
  obtain ⟨h3,h4⟩:=X3i.1 hb
  simp only [val] at hv
  unfold X1O at h1 h3
  have hxy:x=y:=by omega
  have hv':val a=val b:=by omega
  rw [hxy,Xdj h2 h4 (by simpa using hl) hv']
theorem XkY {a b:List Int} (ha:X5x a) (hb:X5x b) (h:val a=val b):a=b:=by
 have key:∀ {a b:List Int},X5x a→X5x b→val a=val b→a.length≤b.length→a=b:=by
  intro a b ha hb h hl
  by_cases e:a.length=b.length
  ·exact Xdj ha.1 hb.1 e h
  ·exfalso
   have hne:b≠[]:=fun e'=>by
    have:b.length=0:=by rw [e']; rfl
    omega
   have h1:=X6l hb hne
   have h2:=X43 ha.1
   have h3:=X73 (show a.length≤b.length - 1 by omega)
   omega
 rcases Nat.le_total a.length b.length with hl | hl
 ·exact key ha hb h hl
 ·exact (key hb ha h.symm hl).symm
def X0i (n:Nat):List Int:=if h:n=0 then [] else ((n % 1000000000:Nat):Int) :: X0i (n / 1000000000)
termination_by n
decreasing_by omega
theorem X0O:X0i 0=[]:=by rw [X0i]; simp
theorem X4G {n:Nat} (h:n≠0):X0i n=((n % 1000000000:Nat):Int) :: X0i (n / 1000000000):=by rw [X0i]; simp [h]
theorem X0u (n:Nat):val (X0i n)=n:=by
 induction n using Nat.strongRecOn with
 | ind n ih =>
  by_cases h:n=0
  ·subst h; rw [X0O]; rfl
  ·rw [X4G h]
   simp only [val]
   rw [ih (n / 1000000000) (by omega)]; omega
theorem X0C (n:Nat):dig (X0i n):=by
 induction n using Nat.strongRecOn with
 | ind n ih =>
  by_cases h:n=0
  ·subst h; rw [X0O]; exact X64
  ·rw [X4G h]
   exact X3i.2 ⟨⟨by omega,by omega⟩,ih _ (by omega)⟩
theorem Xct {n:Nat} (h:n≠0):X0i n≠[]:=by rw [X4G h]; simp
theorem XdR {n:Nat}:X0i n=[]↔n=0:=⟨fun h=>Classical.byContradiction fun e=>Xct e h,fun h=>by rw [h]; exact X0O⟩
theorem X0D (n:Nat):X5x (X0i n):=by
 refine ⟨X0C n,?_⟩
 induction n using Nat.strongRecOn with
 | ind n ih =>
  intro hne
  by_cases h:n=0
  ·subst h; exact absurd X0O hne
  ·rw [X4G h]
   by_cases h2:n / 1000000000=0
   ·rw [h2,X0O]; simp; omega
   ·have hn:=Xct h2
    have:=ih (n / 1000000000) (by omega) hn
    obtain ⟨k,hk⟩:∃ k,(X0i (n / 1000000000)).length=k+1:=⟨(X0i (n / 1000000000)).length - 1,by have:=List.length_pos_iff.2 hn; omega⟩
    simp only [List.length_cons,hk,Nat.add_sub_cancel] at this ⊢
    simpa using this
theorem X47 {l:List Int} (h:X5x l):X0i (val l).toNat=l:=by
 refine XkY (X0D _) h ?_
 rw [X0u]
 have:=X0H h.1
 omega
theorem XuJ {l:List Int} (h:dig l):((val l).toNat:Int)=val l:=Int.toNat_of_nonneg (X0H h)
def X7U (l:List Int):Nat→Nat
 | 0=>0
 | n+1=>if l.getD n 0=0 then X7U l n else n+1
theorem Xn2 (l:List Int):∀ n,X7U l n≤n
 | 0=>Nat.le_refl _
 | n+1=>by
  simp only [X7U]
  split
  ·exact Nat.le_succ_of_le (Xn2 l n)
  ·exact Nat.le_refl _
theorem Xi3 {l:List Int}:∀ n,n≤l.length→val (l.take (X7U l n))=val (l.take n)
 | 0,_=>rfl
 | n+1,h=>by
  simp only [X7U]
  split
  ·rename_i e
   rw [Xi3 n (by omega),X1I l n h,e]; simp
  ·rfl
theorem XjJ {l:List Int} (h:dig l) (n:Nat) (hn:n≤l.length):X5x (l.take (X7U l n)):=by
 refine ⟨X1m h _,fun hne=>?_⟩
 induction n with
 | zero=>simp [X7U] at hne
 | succ n ih =>
  simp only [X7U] at hne ⊢
  split
  ·rename_i e; rw [if_pos e] at hne; exact ih (by omega) hne
  ·rename_i e
   rw [List.length_take,Nat.min_eq_left hn,Nat.add_sub_cancel,X5b l 0 n (n+1) (by omega)]
   exact e
theorem Xn1 {l:List Int} (h:dig l):l.take (X7U l l.length)=X0i (val l).toNat:=by
 have h1:=XjJ h l.length (Nat.le_refl _)
 rw [← X47 h1,Xi3 _ (Nat.le_refl _),List.take_length]
def sm (f:Nat→Int):Nat→Int
 | 0=>0
 | n+1=>sm f n+pw n*f n
def tab (f:Nat→Int) (n:Nat):List Int:=(List.range n).map f
theorem X13 (f:Nat→Int) (n:Nat):(tab f n).length=n:=by simp [tab]
theorem X7T (f:Nat→Int) (n:Nat):tab f (n+1)=tab f n ++ [f n]:=by simp [tab,List.range_succ]
theorem X6N (f:Nat→Int) (n i:Nat) (h:i<n):(tab f n).getD i 0=f i:=by simp [tab,List.getD_eq_getElem?_getD,h]
theorem X2X {f f':Nat→Int} {n:Nat} (h:∀ k,k<n→f k=f' k):tab f n=tab f' n:=List.map_congr_left fun k hk=>h k (by simpa using hk)
theorem XaB (f:Nat→Int):∀ n,val (tab f n)=sm f n
 | 0=>rfl
 | n+1=>by rw [X7T,X7X,X13,XaB f n]; rfl
theorem XmS (l:List Int):∀ n,n≤l.length→sm (fun i=>l.getD i 0) n=val (l.take n)
 | 0,_=>rfl
 | n+1,h=>by rw [X1I l n h,← XmS l n (by omega)]; rfl
theorem Xxq (l:List Int) (n:Nat) (h:l.length≤n):sm (fun i=>l.getD i 0) n=val l:=by
 obtain ⟨k,rfl⟩:=Nat.exists_eq_add_of_le h
 induction k with
 | zero=>rw [Nat.add_zero,XmS l _ (Nat.le_refl _),List.take_length]
 | succ k ih =>
  rw [show l.length+(k+1)=(l.length+k)+1 by omega]
  simp only [sm]
  rw [ih (by omega)]
  have:l.getD (l.length+k) 0=0:=by rw [List.getD_eq_getElem?_getD,List.getElem?_eq_none (by omega)]; rfl
  rw [this]; simp
theorem X6T {f:Nat→Int} {n:Nat} (h:∀ i,i<n→X1O (f i)):dig (tab f n):=by
 refine XdP fun i hi=>?_
 rw [X13] at hi
 rw [X6N _ _ _ hi]; exact h i hi
def X25 (a b:Nat→Int):Nat→Int
 | 0=>0
 | i+1=>if 1000000000≤a i+b i+X25 a b i then 1 else 0
def X86 (a b:Nat→Int) (i:Nat):Int:=if 1000000000≤a i+b i+X25 a b i then a i+b i+X25 a b i - 1000000000 else a i+b i+X25 a b i
theorem X7a (a b:Nat→Int):∀ i,X25 a b i=0∨X25 a b i=1
 | 0=>.inl rfl
 | i+1=>by simp only [X25]; split <;> simp
theorem XgF {a b:Nat→Int} {i:Nat} (ha:X1O (a i)) (hb:X1O (b i)):X1O (X86 a b i):=by
 have:=X7a a b i
 unfold X1O at *
 unfold X86
 split <;> omega
theorem Xf3 (a b:Nat→Int):∀ n,sm (X86 a b) n+pw n*X25 a b n=sm a n+sm b n
 | 0=>by simp [sm,X25]
 | n+1=>by
  have ih:=Xf3 a b n
  have e:X86 a b n+1000000000*X25 a b (n+1)=a n+b n+X25 a b n:=by
   simp only [X86,X25]
   split <;> omega
  simp only [sm,pw]
  have:pw n*(X86 a b n+1000000000*X25 a b (n+1))=pw n*(a n+b n+X25 a b n):=by rw [e]
  grind
def X4C (a b:Nat→Int):Nat→Int
 | 0=>0
 | i+1=>if a i - b i - X4C a b i<0 then 1 else 0
def X91 (a b:Nat→Int) (i:Nat):Int:=if a i - b i - X4C a b i<0 then a i - b i - X4C a b i+1000000000 else a i - b i - X4C a b i
theorem X9m (a b:Nat→Int):∀ i,X4C a b i=0∨X4C a b i=1
 | 0=>.inl rfl
 | i+1=>by simp only [X4C]; split <;> simp
theorem XhV {a b:Nat→Int} {i:Nat} (ha:X1O (a i)) (hb:X1O (b i)):X1O (X91 a b i):=by
 have:=X9m a b i
 unfold X1O at *
 unfold X91
 split <;> omega
theorem Xgq (a b:Nat→Int):∀ n,sm (X91 a b) n - pw n*X4C a b n=sm a n - sm b n
 | 0=>by simp [sm,X4C]
 | n+1=>by
  have ih:=Xgq a b n
  have e:X91 a b n - 1000000000*X4C a b (n+1)=a n - b n - X4C a b n:=by
   simp only [X91,X4C]
   split <;> omega
  simp only [sm,pw]
  have:pw n*(X91 a b n - 1000000000*X4C a b (n+1))=pw n*(a n - b n - X4C a b n):=by rw [e]
  grind
theorem Xxr {f:Nat→Int}:∀ {n:Nat},(∀ i,i<n→X1O (f i))→0≤sm f n∧sm f n<pw n
 | 0,_=>by simp [sm,pw]
 | n+1,h=>by
  obtain ⟨h1,h2⟩:=Xxr (n:=n) fun i hi=>h i (by omega)
  have h3:=h n (by omega)
  have h4:=X2J n
  unfold X1O at h3
  have h5:pw n*f n≤pw n*999999999:=Int.mul_le_mul_of_nonneg_left (by omega) (by omega)
  have h6:0≤pw n*f n:=Int.mul_nonneg (by omega) h3.1
  simp only [sm,pw]; omega
theorem XmV {a b:Nat→Int} {n:Nat} (ha:∀ i,i<n→X1O (a i)) (hb:∀ i,i<n→X1O (b i)) (h:sm b n≤sm a n):X4C a b n=0:=by
 have h1:=Xgq a b n
 have h2:=(Xxr (f:=X91 a b) (n:=n) fun i hi=>XhV (ha i hi) (hb i hi)).2
 rcases X9m a b n with e | e
 ·exact e
 ·rw [e] at h1; omega
theorem X1d (l:List Int) (i j:Nat) (x:Int) (hi:i<l.length):(l.set i x).getD j 0=if j=i then x else l.getD j 0:=by
 simp only [List.getD_eq_getElem?_getD,List.getElem?_set]
 by_cases h:i=j
 ·subst h; simp [hi]
 ·simp [h,Ne.symm h]
theorem X6i:∀ (l:List Int) (i:Nat) (x:Int),i<l.length→val (l.set i x)=val l+pw i*(x - l.getD i 0)
 | [],_,_,h=>by simp at h
 | d :: l,0,x,_=>by simp [val,pw]; omega
 | d :: l,i+1,x,h=>by
  have ih:=X6i l i x (by simpa using h)
  simp only [List.set_cons_succ,val,pw,List.getD_cons_succ]
  rw [ih,Int.mul_add,Int.mul_assoc]; omega
theorem X8j {l:List Int} (h:dig l) (i:Nat) {x:Int} (hx:X1O x):dig (l.set i x):=fun d hd=>by
 rcases List.mem_or_eq_of_mem_set hd with e | e
 ·exact h d e
 ·rw [e]; exact hx
theorem X5A {x y:Int} (hx:X1O x) (hy:X1O y):0≤x*y∧x*y≤999999998000000001:=by
 unfold X1O at hx hy
 have h1:0≤x*y:=Int.mul_nonneg hx.1 hy.1
 have h2:x*y≤999999999*y:=Int.mul_le_mul_of_nonneg_right (by omega) hy.1
 omega
theorem X2G (l:List Int) (i:Nat) (h:i<l.length):val (l.drop i)=l.getD i 0+1000000000*val (l.drop (i+1)):=by
 rw [List.drop_eq_getElem_cons h]
 simp only [val]
 rw [List.getD_eq_getElem?_getD,List.getElem?_eq_getElem h]; rfl
theorem X1X (l:List Int) (i:Nat) (h:i≤l.length):val l=val (l.take i)+pw i*val (l.drop i):=by
 conv=>lhs; rw [← List.take_append_drop i l]
 rw [Xgu,List.length_take,Nat.min_eq_left h]
def X5E (a:Nat→Int) (k:Int):Nat→Int
 | 0=>0
 | i+1=>(a i*k+X5E a k i) / 1000000000
def XfO (a:Nat→Int) (k:Int) (i:Nat):Int:=(a i*k+X5E a k i) % 1000000000
theorem X6t {a:Nat→Int} {k:Int} (ha:∀ i,X1O (a i)) (hk:X1O k):∀ i,X1O (X5E a k i)
 | 0=>⟨by simp [X5E],by simp [X5E]⟩
 | i+1=>by
  have h1:=X6t ha hk i
  have h2:=X5A (ha i) hk
  simp only [X5E]; unfold X1O at *; omega
theorem XpI {a:Nat→Int} {k:Int} (ha:∀ i,X1O (a i)) (hk:X1O k) (i:Nat):X1O (XfO a k i):=by
 unfold XfO X1O; omega
theorem Xm1 (a:Nat→Int) (k:Int):∀ n,sm (XfO a k) n+pw n*X5E a k n=sm a n*k
 | 0=>by simp [sm,X5E]
 | n+1=>by
  have ih:=Xm1 a k n
  have e:XfO a k n+1000000000*X5E a k (n+1)=a n*k+X5E a k n:=by
   simp only [XfO,X5E]; omega
  have e2:pw n*(XfO a k n+1000000000*X5E a k (n+1))=pw n*(a n*k+X5E a k n):=by rw [e]
  simp only [sm,pw]
  grind
def X4M (a:List Int) (b:Int) (i:Nat):Int:=val (a.drop i) % b
def X7G (a:List Int) (b:Int) (i:Nat):Int:=(X4M a b (i+1)*1000000000+a.getD i 0) / b
theorem Xal (a:List Int) (b:Int) (i:Nat) (h:i<a.length):X4M a b i=(X4M a b (i+1)*1000000000+a.getD i 0) % b:=by
 unfold X4M
 rw [X2G a i h]
 rw [Int.add_comm,Int.mul_comm,Int.add_emod,Int.mul_emod]
 conv=>rhs; rw [Int.add_emod,Int.mul_emod,Int.emod_emod_of_dvd _ (Int.dvd_refl b)]
theorem Xd3 (a:List Int) (b:Int):X4M a b a.length=0:=by unfold X4M; simp [val]
theorem X7H {a:List Int} {b:Int} (ha:dig a) (hb:0<b) (i:Nat):X1O (X7G a b i):=by
 have h1:=Int.emod_nonneg (val (a.drop (i+1))) (show b≠0 by omega)
 have h2:=Int.emod_lt_of_pos (val (a.drop (i+1))) hb
 have h3:=X2m ha i
 unfold X1O at *
 unfold X7G X4M
 refine ⟨Int.ediv_nonneg (by omega) (by omega),Int.ediv_lt_of_lt_mul hb ?_⟩
 omega
theorem Xmt {a:List Int} {b:Int} (hb:0<b):∀ i,i≤a.length→val (a.drop (a.length - i))=b*val ((tab (X7G a b) a.length).drop (a.length - i))+X4M a b (a.length - i)
 | 0,_=>by
  have e:(tab (X7G a b) a.length).drop a.length=[]:=by rw [List.drop_eq_nil_iff,X13]; exact Nat.le_refl _
  simp [e,Xd3,val]
 | i+1,h=>by
  have ih:=Xmt (a:=a) hb i (by omega)
  obtain ⟨k,hk⟩:∃ k,a.length - (i+1)=k:=⟨_,rfl⟩
  have hk1:a.length - i=k+1:=by omega
  rw [hk1] at ih
  rw [hk]
  rw [X2G a k (by omega),X2G (tab (X7G a b) a.length) k (by rw [X13]; omega),X6N _ _ _ (show k<a.length by omega)]
  have e:=Int.mul_ediv_add_emod (X4M a b (k+1)*1000000000+a.getD k 0) b
  have e2:=Xal a b k (by omega)
  have e3:X7G a b k=(X4M a b (k+1)*1000000000+a.getD k 0) / b:=rfl
  rw [← e3,← e2] at e
  grind
theorem Xg2 {a:List Int} {b:Int} (hb:0<b):val a=b*val (tab (X7G a b) a.length)+X4M a b 0:=by
 have:=Xmt (a:=a) hb a.length (Nat.le_refl _)
 simpa using this
def zA (z:Int):AV:=.agg [.bool (decide (z<0)),X0f (X0i z.natAbs)]
theorem X0y (z:Int):Settled (zA z):=X0V (by simp [X07,X02])
theorem XwZ:(!(true == false))=true:=Go.Ab.nrfl rfl
theorem XwY:(!(false == true))=true:=Go.Ab.nrfl rfl
theorem Xx0:(!(true == true))=false:=Go.Ab.nrfl rfl
theorem XwX:(!(false == false))=false:=Go.Ab.nrfl rfl
set_option linter.defProp false in
def wN:=And.intro XwZ (And.intro XwY (And.intro Xx0 XwX))
def sgn (neg:Bool) (v:Int):Int:=if neg=true then -v else v
theorem digs_len_zero {n:Nat}:(X0i n).length=0↔n=0:=by rw [List.length_eq_zero_iff,XdR]
theorem Xx4 {l:List Int} (h:dig l) (neg:Bool):zA (sgn neg (val l))=.agg [.bool (neg && decide (X7U l l.length≠0)),X0f (l.take (X7U l l.length))]:=by
 have h0:=X0H h
 have e1:(sgn neg (val l)).natAbs=(val l).toNat:=by unfold sgn; split <;> omega
 have e2:=Xn1 h
 have hle:=Xn2 l l.length
 have e3:X7U l l.length=0↔val l=0:=by
  have h1:(l.take (X7U l l.length)).length=X7U l l.length:=by rw [List.length_take,Nat.min_eq_left hle]
  rw [← h1,e2,digs_len_zero]; omega
 unfold zA
 rw [e1,e2]
 congr 3
 unfold sgn
 have h0':¬ val l<0:=by omega
 cases neg
 ·simp [h0']
 ·have:-val l<0↔¬ X7U l l.length=0:=by rw [e3]; omega
  simp only [if_true,Bool.true_and,decide_eq_decide]
  exact this
theorem Xcu {d:Nat} (h0:d≠0) (h:d<1000000000):X0i d=[(d:Int)]:=by
 rw [X4G h0,show d / 1000000000=0 by omega,X0O,show d % 1000000000=d by omega]
theorem XgZ {d:Nat} (h0:1000000000≤d) (h:d<1000000000000000000):X0i d=[((d % 1000000000:Nat):Int),((d / 1000000000:Nat):Int)]:=by
 rw [X4G (by omega),Xcu (by omega) (by omega)]
theorem XiY {d:Nat} (h0:1000000000000000000≤d) (h:d<18446744073709551616) :
  X0i d=[((d % 1000000000:Nat):Int),((d / 1000000000 % 1000000000:Nat):Int),((d / 1000000000 / 1000000000:Nat):Int)]:=by
 rw [X4G (by omega),XgZ (by omega) (by omega)]
def dg (l:List Int):Nat→Int:=fun i=>l.getD i 0
theorem X18 {l:List Int} (h:dig l) (i:Nat):X1O (dg l i):=X2m h i
theorem Xbc {l:List Int} {i:Nat} (h:l.length≤i):dg l i=0:=by unfold dg; rw [List.getD_eq_getElem?_getD,List.getElem?_eq_none h]; rfl
theorem Xaz (l:List Int) (n:Nat) (h:l.length≤n):sm (dg l) n=val l:=Xxq l n h
def X5h (a b:List Int) (n:Nat):List Int:=tab (X86 (dg a) (dg b)) n ++ [X25 (dg a) (dg b) n]
theorem Xes (a b:List Int) (n:Nat) (ha:a.length≤n) (hb:b.length≤n):val (X5h a b n)=val a+val b:=by
 unfold X5h
 rw [X7X,X13,XaB,Xf3,Xaz a n ha,Xaz b n hb]
theorem Xer {a b:List Int} (ha:dig a) (hb:dig b) (n:Nat):dig (X5h a b n):=by
 unfold X5h
 refine Xcs.2 ⟨X6T fun i _=>XgF (X18 ha i) (X18 hb i),X3i.2 ⟨?_,X64⟩⟩
 have:=X7a (dg a) (dg b) n
 unfold X1O; omega
theorem X7B (a b:List Int) (n:Nat):(X5h a b n).length=n+1:=by simp [X5h,X13]
def X3Z (a b:List Int):List Int:=tab (X91 (dg a) (dg b)) a.length
theorem X5g {a b:List Int} (ha:dig a) (hb:dig b) (hl:b.length≤a.length) (h:val b≤val a):val (X3Z a b)=val a - val b:=by
 unfold X3Z
 have e:=XmV (n:=a.length) (fun i _=>X18 ha i) (fun i _=>X18 hb i) (by rw [Xaz b _ hl,Xaz a _ (Nat.le_refl _)]; exact h)
 have e2:=Xgq (dg a) (dg b) a.length
 rw [e,Xaz a _ (Nat.le_refl _),Xaz b _ hl] at e2
 rw [XaB]; omega
theorem X5f {a b:List Int} (ha:dig a) (hb:dig b):dig (X3Z a b):=X6T fun i _=>XhV (X18 ha i) (X18 hb i)
def X23 (a b:List Int) (i:Nat):List Int:=tab (fun j=>if j<i then X91 (dg a) (dg b) j else if j=i then dg a j - X4C (dg a) (dg b) i else dg a j) a.length
theorem Xqn (l:List Int):tab (dg l) l.length=l:=by
 refine List.ext_getElem (by simp [tab]) fun i h1 h2=>?_
 simp [tab,dg,List.getD_eq_getElem?_getD,h2]
theorem XfN (a b:List Int):X23 a b 0=a:=by
 unfold X23
 conv=>rhs; rw [← Xqn a]
 refine X2X fun k _=>?_
 rw [if_neg (by omega)]
 split
 ·simp [X4C]
 ·rfl
theorem Xji (a b:List Int):X23 a b a.length=X3Z a b:=X2X fun k hk=>by rw [if_pos hk]
theorem X4P (f:Nat→Int) (n k:Nat) (x:Int) (h:k<n):(tab f n).set k x=tab (fun q=>if q=k then x else f q) n:=by
 refine List.ext_getElem (by simp [tab]) fun q h1 h2=>?_
 have hq:q<n:=by simpa [X13] using h2
 by_cases e:k=q
 ·subst e; simp [tab]
 ·simp [tab,List.getElem_set,e,Ne.symm e]
end
end Go.Ab.N
namespace Go.Ab.N
open Go Go.Ab
open Classical
noncomputable section
theorem X0I {l m:List AV} (h:WeakL l m):Weak (.agg l) (.agg m):=fun c v hv=>by
 cases hv with
 | agg vs _ hs hr =>
  have:=(XqM h) c (.tuple vs) (.tup vs _ hs hr)
  cases this with
  | tup _ _ hs' hr'=>exact .agg vs m hs' hr'
theorem X16 (f:Nat→AV) (t:Bool):Weak (.sl 0 0 f t) (X0f []):=X4e rfl (Nat.le_refl _) fun j hj=>by exact absurd hj (Nat.not_lt_zero j)
theorem X3S {n:Nat} {L:List AV} {l:List Int} {t:Bool} (hn:n=l.length) (h:L=l.map I):Weak (.sl n n (ofL L) t) (X0f l):=by
 subst hn; subst h; exact XqK l t
theorem XdJ (L:List AV):∀ n off,off+n=L.length→X14 (ofL L) off 0 n=L.drop off:=by
 have key:∀ n off j,off+j+n=L.length→X14 (ofL L) off j n=L.drop (off+j):=by
  intro n
  induction n with
  | zero=>intro off j h; rw [List.drop_eq_nil_iff.2 (by omega)]; rfl
  | succ n ih =>
   intro off j h
   rw [List.drop_eq_getElem_cons (by omega)]
   simp only [X14]
   rw [ih off (j+1) (by omega)]
   congr 1
   show L.getD (off+j) .any=_
   rw [List.getD_eq_getElem?_getD,List.getElem?_eq_getElem (by omega)]; rfl
 intro n off h
 rw [key n off 0 (by omega)]; rfl
theorem Xxm {P:Program} {fn:Func} {str hcs:List Nat} {r:AV} {s:AS} {t u id ver n:Nat} {L:List AV} (hr:fn.results=#[.cell t u]) (hk:ldk P u=some (some n)) (hs:s.get t=.ref id ver 0)
  (ho:s.h[id]?=some (.row ver n (ofL L))) (hn:L.length=n) (h:X4B s.h (.agg L) r):RetOk (X2f P fn str hcs r) s:=by
 subst hn
 refine X5K (v:=.agg L) hr ?_ h
 rw [hs,Xf9,hk,X89,ho,X8a,XyF,XdJ L _ _ (by omega)]
 simp [oif]
theorem X15 {P:Program} {fn:Func} {str hcs:List Nat} {r:AV} {s:AS} {t u id ver n:Nat} {L M:List AV} (hr:fn.results=#[.cell t u]) (hk:ldk P u=some (some n)) (hs:s.get t=.ref id ver 0)
  (ho:s.h[id]?=some (.row ver n (ofL L))) (hn:L.length=n) (e:r=.agg M) (hset:Settled r) (h:WeakL L M):RetOk (X2f P fn str hcs r) s:=by
 refine Xxm hr hk hs ho hn ?_
 subst e
 exact X0n hset (X0I h)
end
end Go.Ab.N
namespace Go.Ab.N
open Go Go.RowKit Go.Proofs
theorem ldk3:ldk Tryz.prog 3=some none:=by kernel_rfl
theorem Xxt:X3X Tryz.prog 3=some 1:=by kernel_rfl
theorem ikd3:ikd Tryz.prog 3=some .i64:=by kernel_rfl
theorem XxH:X1z Tryz.prog 3=some [.int .i64 0]:=by kernel_rfl
theorem XxJ:XjP Tryz.prog 3=some (.int .i64 0):=by kernel_rfl
theorem ldk4:ldk Tryz.prog 4=some none:=by kernel_rfl
theorem Xxu:X3X Tryz.prog 4=some 1:=by kernel_rfl
theorem Xw9:Xfl Tryz.prog 4=true:=by kernel_rfl
theorem XxI:X1z Tryz.prog 4=some [.bool false]:=by kernel_rfl
theorem Xyw:ldk Tryz.prog 22=some none:=by kernel_rfl
theorem Xux:X3X Tryz.prog 22=some 1:=by kernel_rfl
theorem Xqf:X8U Tryz.prog 22=true:=by kernel_rfl
theorem Xwu:elm Tryz.prog 22=some (3,1,8):=by kernel_rfl
theorem Xyx:ldk Tryz.prog 23=some none:=by kernel_rfl
theorem Xuy:X3X Tryz.prog 23=some 1:=by kernel_rfl
theorem Xqg:X8U Tryz.prog 23=true:=by kernel_rfl
theorem Xyn:elm Tryz.prog 23=some (110,2,16):=by kernel_rfl
theorem Xyy:ldk Tryz.prog 24=some none:=by kernel_rfl
theorem Xuz:X3X Tryz.prog 24=some 1:=by kernel_rfl
theorem Xqh:X8U Tryz.prog 24=true:=by kernel_rfl
theorem Xyo:elm Tryz.prog 24=some (4,1,1):=by kernel_rfl
theorem X12:ldk Tryz.prog 26=some (some 2):=by kernel_rfl
theorem XuA:X3X Tryz.prog 26=some 2:=by kernel_rfl
theorem Xt8:fld Tryz.prog 26 0=some (0,1,none):=by kernel_rfl
theorem Xsn:X1o Tryz.prog 26 0=some (0,1):=by kernel_rfl
theorem Xt9:fld Tryz.prog 26 1=some (1,1,none):=by kernel_rfl
theorem Xso:X1o Tryz.prog 26 1=some (1,1):=by kernel_rfl
theorem Xya:X53 Tryz.prog 26=true:=by kernel_rfl
theorem XuR:X1z Tryz.prog 26=some [.bool false,.sl 0 0 (fun _=>.any) true]:=by kernel_rfl
theorem X1k:ldk Tryz.prog 28=some (some 4):=by kernel_rfl
theorem XuB:X3X Tryz.prog 28=some 4:=by kernel_rfl
theorem Xta:fld Tryz.prog 28 0=some (0,2,some 2):=by kernel_rfl
theorem Xsp:X1o Tryz.prog 28 0=some (0,2):=by kernel_rfl
theorem Xtb:fld Tryz.prog 28 1=some (2,2,some 2):=by kernel_rfl
theorem Xsq:X1o Tryz.prog 28 1=some (2,2):=by kernel_rfl
theorem Xyb:X53 Tryz.prog 28=true:=by kernel_rfl
theorem XuS:X1z Tryz.prog 28=some [.bool false,.sl 0 0 (fun _=>.any) true,.bool false,.sl 0 0 (fun _=>.any) true]:=by kernel_rfl
theorem Xjb:ldk Tryz.prog 30=some (some 25):=by kernel_rfl
theorem XuC:X3X Tryz.prog 30=some 25:=by kernel_rfl
theorem Xtc:fld Tryz.prog 30 0=some (0,1,none):=by kernel_rfl
theorem Xsr:X1o Tryz.prog 30 0=some (0,1):=by kernel_rfl
theorem Xtd:fld Tryz.prog 30 1=some (1,1,none):=by kernel_rfl
theorem Xss:X1o Tryz.prog 30 1=some (1,1):=by kernel_rfl
theorem Xte:fld Tryz.prog 30 2=some (2,1,none):=by kernel_rfl
theorem Xst:X1o Tryz.prog 30 2=some (2,1):=by kernel_rfl
theorem Xtf:fld Tryz.prog 30 3=some (3,1,none):=by kernel_rfl
theorem Xsu:X1o Tryz.prog 30 3=some (3,1):=by kernel_rfl
theorem Xtg:fld Tryz.prog 30 4=some (4,1,none):=by kernel_rfl
theorem Xsv:X1o Tryz.prog 30 4=some (4,1):=by kernel_rfl
theorem Xth:fld Tryz.prog 30 5=some (5,4,some 4):=by kernel_rfl
theorem Xsw:X1o Tryz.prog 30 5=some (5,4):=by kernel_rfl
theorem Xti:fld Tryz.prog 30 6=some (9,4,some 4):=by kernel_rfl
theorem Xsx:X1o Tryz.prog 30 6=some (9,4):=by kernel_rfl
theorem Xtj:fld Tryz.prog 30 7=some (13,4,some 4):=by kernel_rfl
theorem Xsy:X1o Tryz.prog 30 7=some (13,4):=by kernel_rfl
theorem Xtk:fld Tryz.prog 30 8=some (17,4,some 4):=by kernel_rfl
theorem Xsz:X1o Tryz.prog 30 8=some (17,4):=by kernel_rfl
theorem Xtl:fld Tryz.prog 30 9=some (21,4,some 4):=by kernel_rfl
theorem XsA:X1o Tryz.prog 30 9=some (21,4):=by kernel_rfl
theorem Xyc:X53 Tryz.prog 30=true:=by kernel_rfl
theorem XuT:X1z Tryz.prog 30=some [.int .i64 0,.int .i64 0,.sl 0 0 (fun _=>.any) true,.sl 0 0 (fun _=>.any) true,.sl 0 0 (fun _=>.any) true,.bool false,.sl 0 0 (fun _=>.any) true,.bool false,.sl 0 0 (fun _=>.any) true,.bool false,.sl 0 0 (fun _=>.any) true,.bool false,.sl 0 0 (fun _=>.any) true,.bool false,.sl 0 0 (fun _=>.any) true,.bool false,.sl 0 0 (fun _=>.any) true,.bool false,.sl 0 0 (fun _=>.any) true,.bool false,.sl 0 0 (fun _=>.any) true,.bool false,.sl 0 0 (fun _=>.any) true,.bool false,.sl 0 0 (fun _=>.any) true]:=by kernel_rfl
theorem Xyp:elm Tryz.prog 35=some (28,4,64):=by kernel_rfl
theorem Xyq:elm Tryz.prog 43=none:=by kernel_rfl
theorem XsB:X1o Tryz.prog 43 0=some (0,25):=by kernel_rfl
theorem XsC:X1o Tryz.prog 43 1=some (25,25):=by kernel_rfl
theorem Xyd:X53 Tryz.prog 43=true:=by kernel_rfl
theorem XxZ:arr Tryz.prog 43=some (2,25,some 25):=by kernel_rfl
theorem XuU:X1z Tryz.prog 43=some [.int .i64 0,.int .i64 0,.sl 0 0 (fun _=>.any) true,.sl 0 0 (fun _=>.any) true,.sl 0 0 (fun _=>.any) true,.bool false,.sl 0 0 (fun _=>.any) true,.bool false,.sl 0 0 (fun _=>.any) true,.bool false,.sl 0 0 (fun _=>.any) true,.bool false,.sl 0 0 (fun _=>.any) true,.bool false,.sl 0 0 (fun _=>.any) true,.bool false,.sl 0 0 (fun _=>.any) true,.bool false,.sl 0 0 (fun _=>.any) true,.bool false,.sl 0 0 (fun _=>.any) true,.bool false,.sl 0 0 (fun _=>.any) true,.bool false,.sl 0 0 (fun _=>.any) true,.int .i64 0,.int .i64 0,.sl 0 0 (fun _=>.any) true,.sl 0 0 (fun _=>.any) true,.sl 0 0 (fun _=>.any) true,.bool false,.sl 0 0 (fun _=>.any) true,.bool false,.sl 0 0 (fun _=>.any) true,.bool false,.sl 0 0 (fun _=>.any) true,.bool false,.sl 0 0 (fun _=>.any) true,.bool false,.sl 0 0 (fun _=>.any) true,.bool false,.sl 0 0 (fun _=>.any) true,.bool false,.sl 0 0 (fun _=>.any) true,.bool false,.sl 0 0 (fun _=>.any) true,.bool false,.sl 0 0 (fun _=>.any) true,.bool false,.sl 0 0 (fun _=>.any) true]:=by kernel_rfl
theorem Xyr:elm Tryz.prog 44=some (43,50,816):=by kernel_rfl
theorem X8Y:ldk Tryz.prog 48=some (some 8):=by kernel_rfl
theorem XuD:X3X Tryz.prog 48=some 8:=by kernel_rfl
theorem Xtm:fld Tryz.prog 48 0=some (0,4,some 4):=by kernel_rfl
theorem XsD:X1o Tryz.prog 48 0=some (0,4):=by kernel_rfl
theorem Xtn:fld Tryz.prog 48 1=some (4,4,some 4):=by kernel_rfl
theorem XsE:X1o Tryz.prog 48 1=some (4,4):=by kernel_rfl
theorem Xye:X53 Tryz.prog 48=true:=by kernel_rfl
theorem XuV:X1z Tryz.prog 48=some [.bool false,.sl 0 0 (fun _=>.any) true,.bool false,.sl 0 0 (fun _=>.any) true,.bool false,.sl 0 0 (fun _=>.any) true,.bool false,.sl 0 0 (fun _=>.any) true]:=by kernel_rfl
theorem X2z:ldk Tryz.prog 50=some (some 8):=by kernel_rfl
theorem XuE:X3X Tryz.prog 50=some 8:=by kernel_rfl
theorem Xto:fld Tryz.prog 50 0=some (0,4,some 4):=by kernel_rfl
theorem XsF:X1o Tryz.prog 50 0=some (0,4):=by kernel_rfl
theorem Xtp:fld Tryz.prog 50 1=some (4,4,some 4):=by kernel_rfl
theorem XsG:X1o Tryz.prog 50 1=some (4,4):=by kernel_rfl
theorem Xyf:X53 Tryz.prog 50=true:=by kernel_rfl
theorem XuW:X1z Tryz.prog 50=some [.bool false,.sl 0 0 (fun _=>.any) true,.bool false,.sl 0 0 (fun _=>.any) true,.bool false,.sl 0 0 (fun _=>.any) true,.bool false,.sl 0 0 (fun _=>.any) true]:=by kernel_rfl
theorem XcG:ldk Tryz.prog 52=some (some 29):=by kernel_rfl
theorem XuF:X3X Tryz.prog 52=some 29:=by kernel_rfl
theorem Xtq:fld Tryz.prog 52 0=some (0,1,none):=by kernel_rfl
theorem Xtr:fld Tryz.prog 52 1=some (1,1,none):=by kernel_rfl
theorem XsH:X1o Tryz.prog 52 1=some (1,1):=by kernel_rfl
theorem Xts:fld Tryz.prog 52 2=some (2,1,none):=by kernel_rfl
theorem XsI:X1o Tryz.prog 52 2=some (2,1):=by kernel_rfl
theorem Xtt:fld Tryz.prog 52 3=some (3,1,none):=by kernel_rfl
theorem XsJ:X1o Tryz.prog 52 3=some (3,1):=by kernel_rfl
theorem Xtu:fld Tryz.prog 52 4=some (4,1,none):=by kernel_rfl
theorem XsK:X1o Tryz.prog 52 4=some (4,1):=by kernel_rfl
theorem Xtv:fld Tryz.prog 52 5=some (5,8,some 8):=by kernel_rfl
theorem XsL:X1o Tryz.prog 52 5=some (5,8):=by kernel_rfl
theorem Xtw:fld Tryz.prog 52 6=some (13,8,some 8):=by kernel_rfl
theorem Xtx:fld Tryz.prog 52 7=some (21,8,some 8):=by kernel_rfl
theorem Xyg:X53 Tryz.prog 52=true:=by kernel_rfl
theorem XuX:X1z Tryz.prog 52=some [.int .i64 0,.int .i64 0,.int .i64 0,.int .i64 0,.int .i64 0,.bool false,.sl 0 0 (fun _=>.any) true,.bool false,.sl 0 0 (fun _=>.any) true,.bool false,.sl 0 0 (fun _=>.any) true,.bool false,.sl 0 0 (fun _=>.any) true,.bool false,.sl 0 0 (fun _=>.any) true,.bool false,.sl 0 0 (fun _=>.any) true,.bool false,.sl 0 0 (fun _=>.any) true,.bool false,.sl 0 0 (fun _=>.any) true,.bool false,.sl 0 0 (fun _=>.any) true,.bool false,.sl 0 0 (fun _=>.any) true,.bool false,.sl 0 0 (fun _=>.any) true,.bool false,.sl 0 0 (fun _=>.any) true]:=by kernel_rfl
theorem Xpv:ldk Tryz.prog 54=some (some 79):=by kernel_rfl
theorem XuG:X3X Tryz.prog 54=some 79:=by kernel_rfl
theorem Xty:fld Tryz.prog 54 0=some (0,25,some 25):=by kernel_rfl
theorem XsM:X1o Tryz.prog 54 0=some (0,25):=by kernel_rfl
theorem Xtz:fld Tryz.prog 54 1=some (25,25,some 25):=by kernel_rfl
theorem XsN:X1o Tryz.prog 54 1=some (25,25):=by kernel_rfl
theorem XtA:fld Tryz.prog 54 2=some (50,29,some 29):=by kernel_rfl
theorem Xyh:X53 Tryz.prog 54=true:=by kernel_rfl
theorem XuY:X1z Tryz.prog 54=some [.int .i64 0,.int .i64 0,.sl 0 0 (fun _=>.any) true,.sl 0 0 (fun _=>.any) true,.sl 0 0 (fun _=>.any) true,.bool false,.sl 0 0 (fun _=>.any) true,.bool false,.sl 0 0 (fun _=>.any) true,.bool false,.sl 0 0 (fun _=>.any) true,.bool false,.sl 0 0 (fun _=>.any) true,.bool false,.sl 0 0 (fun _=>.any) true,.bool false,.sl 0 0 (fun _=>.any) true,.bool false,.sl 0 0 (fun _=>.any) true,.bool false,.sl 0 0 (fun _=>.any) true,.bool false,.sl 0 0 (fun _=>.any) true,.bool false,.sl 0 0 (fun _=>.any) true,.int .i64 0,.int .i64 0,.sl 0 0 (fun _=>.any) true,.sl 0 0 (fun _=>.any) true,.sl 0 0 (fun _=>.any) true,.bool false,.sl 0 0 (fun _=>.any) true,.bool false,.sl 0 0 (fun _=>.any) true,.bool false,.sl 0 0 (fun _=>.any) true,.bool false,.sl 0 0 (fun _=>.any) true,.bool false,.sl 0 0 (fun _=>.any) true,.bool false,.sl 0 0 (fun _=>.any) true,.bool false,.sl 0 0 (fun _=>.any) true,.bool false,.sl 0 0 (fun _=>.any) true,.bool false,.sl 0 0 (fun _=>.any) true,.bool false,.sl 0 0 (fun _=>.any) true,.int .i64 0,.int .i64 0,.int .i64 0,.int .i64 0,.int .i64 0,.bool false,.sl 0 0 (fun _=>.any) true,.bool false,.sl 0 0 (fun _=>.any) true,.bool false,.sl 0 0 (fun _=>.any) true,.bool false,.sl 0 0 (fun _=>.any) true,.bool false,.sl 0 0 (fun _=>.any) true,.bool false,.sl 0 0 (fun _=>.any) true,.bool false,.sl 0 0 (fun _=>.any) true,.bool false,.sl 0 0 (fun _=>.any) true,.bool false,.sl 0 0 (fun _=>.any) true,.bool false,.sl 0 0 (fun _=>.any) true,.bool false,.sl 0 0 (fun _=>.any) true,.bool false,.sl 0 0 (fun _=>.any) true]:=by kernel_rfl
theorem Xys:elm Tryz.prog 57=some (52,29,424):=by kernel_rfl
theorem Xyz:ldk Tryz.prog 81=some none:=by kernel_rfl
theorem XuH:X3X Tryz.prog 81=some 1:=by kernel_rfl
theorem Xyt:elm Tryz.prog 81=some (50,8,128):=by kernel_rfl
theorem XuZ:X1z Tryz.prog 81=some [.sl 0 0 (fun _=>.any) true]:=by kernel_rfl
theorem XyA:ldk Tryz.prog 84=some (some 16):=by kernel_rfl
theorem XuI:X3X Tryz.prog 84=some 16:=by kernel_rfl
theorem XtB:fld Tryz.prog 84 0=some (0,8,some 8):=by kernel_rfl
theorem XsO:X1o Tryz.prog 84 0=some (0,8):=by kernel_rfl
theorem XtC:fld Tryz.prog 84 1=some (8,8,some 8):=by kernel_rfl
theorem XsP:X1o Tryz.prog 84 1=some (8,8):=by kernel_rfl
theorem Xyi:X53 Tryz.prog 84=true:=by kernel_rfl
theorem Xv0:X1z Tryz.prog 84=some [.bool false,.sl 0 0 (fun _=>.any) true,.bool false,.sl 0 0 (fun _=>.any) true,.bool false,.sl 0 0 (fun _=>.any) true,.bool false,.sl 0 0 (fun _=>.any) true,.bool false,.sl 0 0 (fun _=>.any) true,.bool false,.sl 0 0 (fun _=>.any) true,.bool false,.sl 0 0 (fun _=>.any) true,.bool false,.sl 0 0 (fun _=>.any) true]:=by kernel_rfl
theorem Xrk:ldk Tryz.prog 110=some (some 2):=by kernel_rfl
theorem Xqr:X3X Tryz.prog 110=some 2:=by kernel_rfl
theorem Xp8:fld Tryz.prog 110 0=some (0,1,none):=by kernel_rfl
theorem Xof:X1o Tryz.prog 110 0=some (0,1):=by kernel_rfl
theorem Xp9:fld Tryz.prog 110 1=some (1,1,none):=by kernel_rfl
theorem Xog:X1o Tryz.prog 110 1=some (1,1):=by kernel_rfl
theorem Xw2:X53 Tryz.prog 110=true:=by kernel_rfl
theorem Xuo:Xun Tryz.prog 110 2=true:=by kernel_rfl
theorem XqQ:X1z Tryz.prog 110=some [.int .i64 0,.int .i64 0]:=by kernel_rfl
theorem Xrl:ldk Tryz.prog 114=some (some 20):=by kernel_rfl
theorem Xqs:X3X Tryz.prog 114=some 20:=by kernel_rfl
theorem Xwn:elm Tryz.prog 114=none:=by kernel_rfl
theorem Xoh:X1o Tryz.prog 114 0=some (0,4):=by kernel_rfl
theorem Xoi:X1o Tryz.prog 114 1=some (4,4):=by kernel_rfl
theorem Xoj:X1o Tryz.prog 114 2=some (8,4):=by kernel_rfl
theorem Xok:X1o Tryz.prog 114 3=some (12,4):=by kernel_rfl
theorem Xol:X1o Tryz.prog 114 4=some (16,4):=by kernel_rfl
theorem Xw3:X53 Tryz.prog 114=true:=by kernel_rfl
theorem XvS:arr Tryz.prog 114=some (5,4,some 4):=by kernel_rfl
theorem XqR:X1z Tryz.prog 114=some [.bool false,.sl 0 0 (fun _=>.any) true,.bool false,.sl 0 0 (fun _=>.any) true,.bool false,.sl 0 0 (fun _=>.any) true,.bool false,.sl 0 0 (fun _=>.any) true,.bool false,.sl 0 0 (fun _=>.any) true,.bool false,.sl 0 0 (fun _=>.any) true,.bool false,.sl 0 0 (fun _=>.any) true,.bool false,.sl 0 0 (fun _=>.any) true,.bool false,.sl 0 0 (fun _=>.any) true,.bool false,.sl 0 0 (fun _=>.any) true]:=by kernel_rfl
theorem XwM:ldk Tryz.prog 120=some none:=by kernel_rfl
theorem Xqt:X3X Tryz.prog 120=some 1:=by kernel_rfl
theorem Xwo:elm Tryz.prog 120=some (183,3,24):=by kernel_rfl
theorem XqS:X1z Tryz.prog 120=some [.sl 0 0 (fun _=>.any) true]:=by kernel_rfl
theorem XwN:ldk Tryz.prog 122=some (some 2):=by kernel_rfl
theorem Xqu:X3X Tryz.prog 122=some 2:=by kernel_rfl
theorem Xwp:elm Tryz.prog 122=none:=by kernel_rfl
theorem Xom:X1o Tryz.prog 122 0=some (0,1):=by kernel_rfl
theorem Xon:X1o Tryz.prog 122 1=some (1,1):=by kernel_rfl
theorem Xw4:X53 Tryz.prog 122=true:=by kernel_rfl
theorem XvT:arr Tryz.prog 122=some (2,1,none):=by kernel_rfl
theorem XqT:X1z Tryz.prog 122=some [.int .i64 0,.int .i64 0]:=by kernel_rfl
theorem Xwq:elm Tryz.prog 123=some (122,2,16):=by kernel_rfl
theorem XwO:ldk Tryz.prog 125=some (some 3):=by kernel_rfl
theorem Xoo:X1o Tryz.prog 125 0=some (0,1):=by kernel_rfl
theorem Xop:X1o Tryz.prog 125 1=some (1,1):=by kernel_rfl
theorem Xoq:X1o Tryz.prog 125 2=some (2,1):=by kernel_rfl
theorem Xw5:X53 Tryz.prog 125=true:=by kernel_rfl
theorem Xup:Xun Tryz.prog 125 3=true:=by kernel_rfl
theorem XqU:X1z Tryz.prog 125=some [.int .i64 0,.int .i64 0,.int .i64 0]:=by kernel_rfl
theorem Xwr:elm Tryz.prog 126=some (125,3,24):=by kernel_rfl
theorem Xws:elm Tryz.prog 148=some (48,8,128):=by kernel_rfl
theorem XwP:ldk Tryz.prog 181=some none:=by kernel_rfl
theorem Xqv:X3X Tryz.prog 181=some 1:=by kernel_rfl
theorem XtI:XlW Tryz.prog 181=some (3,3):=by kernel_rfl
theorem XqV:X1z Tryz.prog 181=some [.nilmap]:=by kernel_rfl
theorem Xpa:fld Tryz.prog 183 0=some (0,1,none):=by kernel_rfl
theorem Xor:X1o Tryz.prog 183 0=some (0,1):=by kernel_rfl
theorem Xpb:fld Tryz.prog 183 1=some (1,1,none):=by kernel_rfl
theorem Xos:X1o Tryz.prog 183 1=some (1,1):=by kernel_rfl
theorem Xpc:fld Tryz.prog 183 2=some (2,1,none):=by kernel_rfl
theorem Xot:X1o Tryz.prog 183 2=some (2,1):=by kernel_rfl
theorem Xw6:X53 Tryz.prog 183=true:=by kernel_rfl
theorem XqW:X1z Tryz.prog 183=some [.int .i64 0,.int .i64 0,.int .i64 0]:=by kernel_rfl
theorem XwQ:ldk Tryz.prog 191=some none:=by kernel_rfl
theorem Xwt:elm Tryz.prog 191=some (81,1,24):=by kernel_rfl
theorem XwJ:ikd Tryz.prog 197=some .u64:=by kernel_rfl
theorem Xwv:elm Tryz.prog 241=some (244,3,24):=by kernel_rfl
theorem Xrm:ldk Tryz.prog 244=some (some 3):=by kernel_rfl
theorem Xqw:X3X Tryz.prog 244=some 3:=by kernel_rfl
theorem Xww:elm Tryz.prog 244=none:=by kernel_rfl
theorem Xou:X1o Tryz.prog 244 0=some (0,1):=by kernel_rfl
theorem Xov:X1o Tryz.prog 244 1=some (1,1):=by kernel_rfl
theorem Xow:X1o Tryz.prog 244 2=some (2,1):=by kernel_rfl
theorem Xw7:X53 Tryz.prog 244=true:=by kernel_rfl
theorem XvU:arr Tryz.prog 244=some (3,1,none):=by kernel_rfl
theorem XqX:X1z Tryz.prog 244=some [.int .i64 0,.int .i64 0,.int .i64 0]:=by kernel_rfl
theorem XwR:ldk Tryz.prog 249=some none:=by kernel_rfl
theorem Xpd:fld Tryz.prog 252 0=some (0,1,none):=by kernel_rfl
theorem Xox:X1o Tryz.prog 252 0=some (0,1):=by kernel_rfl
theorem Xpe:fld Tryz.prog 252 1=some (1,1,none):=by kernel_rfl
theorem Xw8:X53 Tryz.prog 252=true:=by kernel_rfl
theorem XqY:X1z Tryz.prog 252=some [.sl 0 0 (fun _=>.any) true,.sl 0 0 (fun _=>.any) true]:=by kernel_rfl
theorem Xhl:ldk Tryz.prog 255=some (some 1):=by kernel_rfl
theorem Xqx:X3X Tryz.prog 255=some 1:=by kernel_rfl
theorem Xpf:fld Tryz.prog 255 0=some (0,1,none):=by kernel_rfl
theorem XqZ:X1z Tryz.prog 255=some [.sl 0 0 (fun _=>.any) true]:=by kernel_rfl
theorem mixed:Tryz.prog.follows .mixedOrders=true:=by kernel_rfl
theorem Fq {f:FuncId} {fn:Func} {body:Code} {args:List AV} {r:AV} (he:X5X Tryz.prog f) (hf:Tryz.prog.funcs[f]?=some fn) (n0:Nat) (hid str hcs:List Nat) (hs:∀ a∈args,Settled a) (h:Run (X2f Tryz.prog fn str hcs r) [.code body] (AS.start n0 hid args [])) (hb:fn.body=some body:=by rfl) (hok:X1y fn.ntmps str hcs body=true:=by kernel_rfl) (hlen:args.length≤fn.ntmps:=by exact Nat.le_of_ble_eq_true rfl):Fn Tryz.prog f args r:=Fn.intro he hf hb mixed n0 hid str hcs hok hlen hs h
set_option linter.defProp false in
def XxD:=And.intro @ldk3 <| And.intro @Xxt <| And.intro @ikd3 <| And.intro @XxH <| And.intro @XxJ <| And.intro @ldk4 <| And.intro @Xxu <| And.intro @Xw9 <| And.intro @XxI <| And.intro @Xyw <| And.intro @Xux <| And.intro @Xqf <| And.intro @Xwu <| And.intro @Xyx <| And.intro @Xuy <| And.intro @Xqg <| And.intro @Xyn <| And.intro @Xyy <| And.intro @Xuz <| And.intro @Xqh <| And.intro @Xyo <| And.intro @X12 <| And.intro @XuA <| And.intro @Xt8 <| And.intro @Xsn <| And.intro @Xt9 <| And.intro @Xso <| And.intro @Xya <| And.intro @XuR <| And.intro @X1k <| And.intro @XuB <| And.intro @Xta <| And.intro @Xsp <| And.intro @Xtb <| And.intro @Xsq <| And.intro @Xyb <| And.intro @XuS <| And.intro @Xjb <| And.intro @XuC <| And.intro @Xtc <| And.intro @Xsr <| And.intro @Xtd <| And.intro @Xss <| And.intro @Xte <| And.intro @Xst <| And.intro @Xtf <| And.intro @Xsu <| And.intro @Xtg <| And.intro @Xsv <| And.intro @Xth <| And.intro @Xsw <| And.intro @Xti <| And.intro @Xsx <| And.intro @Xtj <| And.intro @Xsy <| And.intro @Xtk <| And.intro @Xsz <| And.intro @Xtl <| And.intro @XsA <| And.intro @Xyc <| And.intro @XuT <| And.intro @Xyp <| And.intro @Xyq <| And.intro @XsB <| And.intro @XsC <| And.intro @Xyd <| And.intro @XxZ <| And.intro @XuU <| And.intro @Xyr <| And.intro @X8Y <| And.intro @XuD <| And.intro @Xtm <| And.intro @XsD <| And.intro @Xtn <| And.intro @XsE <| And.intro @Xye <| And.intro @XuV <| And.intro @X2z <| And.intro @XuE <| And.intro @Xto <| And.intro @XsF <| And.intro @Xtp <| And.intro @XsG <| And.intro @Xyf <| And.intro @XuW <| And.intro @XcG <| And.intro @XuF <| And.intro @Xtq <| And.intro @Xtr <| And.intro @XsH <| And.intro @Xts <| And.intro @XsI <| And.intro @Xtt <| And.intro @XsJ <| And.intro @Xtu <| And.intro @XsK <| And.intro @Xtv <| And.intro @XsL <| And.intro @Xtw <| And.intro @Xtx <| And.intro @Xyg <| And.intro @XuX <| And.intro @Xpv <| And.intro @XuG <| And.intro @Xty <| And.intro @XsM <| And.intro @Xtz <| And.intro @XsN <| And.intro @XtA <| And.intro @Xyh <| And.intro @XuY <| And.intro @Xys <| And.intro @Xyz <| And.intro @XuH <| And.intro @Xyt <| And.intro @XuZ <| And.intro @XyA <| And.intro @XuI <| And.intro @XtB <| And.intro @XsO <| And.intro @XtC <| And.intro @XsP <| And.intro @Xyi <| And.intro @Xv0 <| And.intro @Xrk <| And.intro @Xqr <| And.intro @Xp8 <| And.intro @Xof <| And.intro @Xp9 <| And.intro @Xog <| And.intro @Xw2 <| And.intro @Xuo <| And.intro @XqQ <| And.intro @Xrl <| And.intro @Xqs <| And.intro @Xwn <| And.intro @Xoh <| And.intro @Xoi <| And.intro @Xoj <| And.intro @Xok <| And.intro @Xol <| And.intro @Xw3 <| And.intro @XvS <| And.intro @XqR <| And.intro @XwM <| And.intro @Xqt <| And.intro @Xwo <| And.intro @XqS <| And.intro @XwN <| And.intro @Xqu <| And.intro @Xwp <| And.intro @Xom <| And.intro @Xon <| And.intro @Xw4 <| And.intro @XvT <| And.intro @XqT <| And.intro @Xwq <| And.intro @XwO <| And.intro @Xoo <| And.intro @Xop <| And.intro @Xoq <| And.intro @Xw5 <| And.intro @Xup <| And.intro @XqU <| And.intro @Xwr <| And.intro @Xws <| And.intro @XwP <| And.intro @Xqv <| And.intro @XtI <| And.intro @XqV <| And.intro @Xpa <| And.intro @Xor <| And.intro @Xpb <| And.intro @Xos <| And.intro @Xpc <| And.intro @Xot <| And.intro @Xw6 <| And.intro @XqW <| And.intro @XwQ <| And.intro @Xwt <| And.intro @XwJ <| And.intro @Xwv <| And.intro @Xrm <| And.intro @Xqw <| And.intro @Xww <| And.intro @Xou <| And.intro @Xov <| And.intro @Xow <| And.intro @Xw7 <| And.intro @XvU <| And.intro @XqX <| And.intro @XwR <| And.intro @Xpd <| And.intro @Xox <| And.intro @Xpe <| And.intro @Xw8 <| And.intro @XqY <| And.intro @Xhl <| And.intro @Xqx <| And.intro @Xpf <| @XqZ
set_option linter.defProp false in
def wA:=And.intro @XyM <| And.intro @XyL <| And.intro @XyK <| And.intro @beq_self_eq_true.{0} <| And.intro @ite_true.{1} <| And.intro @ite_false.{1} <| And.intro @false_implies <| And.intro @true_implies <| And.intro @implies_true.{1} <| And.intro @implies_true.{0} <| And.intro @eq_self.{1} <| And.intro @ne_eq.{1} <| @XxD
end Go.Ab.N
namespace Go.Ab.N
open Go Go.RowKit Go.Proofs
noncomputable section
set_option maxRecDepth 10000
set_option maxHeartbeats 2000000
open Classical
def ofA (neg:Bool) (l:List Int):AV:=.agg [.bool (neg && decide (X7U l l.length≠0)),X0f (l.take (X7U l l.length))]
theorem X2i (neg:Bool) (l:List Int):Settled (ofA neg l):=X0V (by simp [X07,X02])
theorem XyD (neg:Bool) (d:List Int) (hl:d.length<4611686018427387904):Fn Tryz.prog 208 [.bool neg,X0f d] (ofA neg d):=by
 refine Fq Tryz.call208 Tryz.func208 6 [] [] [] (by simp [X07,X08,X2g,X1H,X02,X2h,X0y,X2i,X21]) (X00 1000 ?_); simp (config:={ maxSteps:=2000000 }) only [AS.start,↓X03,wA,seval,zA,wN]
 refine X0d (fun n:Nat=>⟨6,[],[.bool neg,X0f d,.any,.any,.ref 0 0 0,I n],[],[.row 0 2 (ofL [.bool false,.sl 0 0 (fun _=>.any) true])]⟩) (fun n=>n≤d.length∧X7U d d.length=X7U d n) (fun n=>n) d.length ⟨by omega,rfl⟩
  (X09 rfl (by simp [zA,wN,X0p,X0f,X8p,X2R,sl1,I]) (by simp [X0q]) rfl) ?_
 rintro n ⟨hn,ht⟩ next
 cases n with
 | zero =>
  refine X00 1000 ?_
  simp only [Int.lt_irrefl,↓X03,wA,seval,zA,wN]
  refine X5K (v:=.agg [.bool false,.sl 0 0 (fun _=>.any) false]) rfl (by simp [AS.get,X2O,X12,rd,X14,ofL,X49]) ?_
  have e:ofA neg d=.agg [.bool false,X0f []]:=by unfold ofA; rw [ht]; simp [X7U]
  rw [e]
  exact X4a ⟨X1h (X02 _) rfl,X0n (X07 _) (X16 _ _),trivial⟩
 | succ n =>
  have e0:(0<((n+1:Nat):Int))=True:=eq_true (by omega)
  have e1:(((n+1:Nat):Int)=0)=False:=eq_false (by omega)
  have w1:IntKind.i64.wrap (((n+1:Nat):Int) - 1)=(n:Int):=by rw [IntKind.wrap_i64]; omega
  have e2:(n<d.length)=True:=eq_true (by omega)
  refine X00 1000 ?_
  simp only [e0,e1,e2,w1,↓X03,wA,seval,zA,wN]
  refine ⟨fun h0=>next n _ ⟨by omega,by rw [ht]; simp only [X7U]; rw [if_pos h0]⟩ (by omega) (X09 rfl (by simp [zA,wN,X0p,X0f,X8p,X2R,sl1,I]) (by simp [X0q]) rfl),fun h0=>⟨by omega,?_⟩⟩
  have ht2:X7U d d.length=n+1:=by rw [ht]; simp only [X7U]; rw [if_neg h0]
  have e:ofA neg d=.agg [.bool neg,X0f (d.take (n+1))]:=by unfold ofA; rw [ht2]; simp
  have hlen:(d.take (n+1)).length=n+1:=by rw [List.length_take]; omega
  rw [e]
  refine X5K (v:=.agg [.bool neg,.sl (n+1) (n+1) (fun j=>.int .i64 (d.getD j 0)) false]) rfl ?_ ?_
  ·have m1:min (n+1) d.length=n+1:=by omega
   simp [AS.get,X2O,X12,rd,X14,ofL,X49,m1]
  ·refine X4a ⟨X1h (X02 _) rfl,X0n (X07 _) (X9s _ hlen.symm (by omega) fun j hj=>?_),trivial⟩
   rw [hlen] at hj
   rw [X5b d 0 j (n+1) hj]; rfl
set_option linter.defProp false in
def wS0:=And.intro @X07 (And.intro @X08 (And.intro @X2g (And.intro @X1H (And.intro @X02 (And.intro @X2h (And.intro @X0y (And.intro @X2i @X21)))))))
theorem XrD (neg:Bool) {u:Int} (h:0≤u):zA (sgn neg u)=.agg [.bool (neg && decide (u≠0)),X0f (X0i u.toNat)]:=by
 unfold zA
 have e1:(sgn neg u).natAbs=u.toNat:=by unfold sgn; split <;> omega
 rw [e1]
 congr 3
 unfold sgn
 have h0':¬ u<0:=by omega
 cases neg
 ·simp [h0']
 ·have:-u<0↔¬ u=0:=by omega
  simp only [if_true,Bool.true_and,decide_eq_decide,ne_eq]
  exact this
def U (n:Int):AV:=.int .u64 n
theorem X35 (neg:Bool) (u:Int) (h0:0≤u) (h1:u<18446744073709551616):Fn Tryz.prog 207 [.bool neg,.int .u64 u] (zA (sgn neg u)):=by
 obtain ⟨R,hR⟩:∃ R,R=zA (sgn neg u):=⟨_,rfl⟩
 have eR:=hR.trans (XrD neg h0)
 have sR:Settled R:=hR▸X0y _
 have b1:u≠0→(neg && decide (u≠0))=neg:=fun h=>by simp [h]
 have w1:IntKind.i64.wrap (u.tmod 1000000000)=u % 1000000000:=by rw [IntKind.wrap_i64,Int.tmod_eq_emod_of_nonneg h0]; omega
 have w2:IntKind.u64.wrap (u.tdiv 1000000000)=u / 1000000000:=by rw [IntKind.wrap_u64,Int.tdiv_eq_ediv_of_nonneg h0]; omega
 have h2:0≤u / 1000000000:=by omega
 have w3:IntKind.i64.wrap (u / 1000000000)=u / 1000000000:=by rw [IntKind.wrap_i64]; omega
 have w4:IntKind.i64.wrap ((u / 1000000000).tmod 1000000000)=u / 1000000000 % 1000000000:=by rw [IntKind.wrap_i64,Int.tmod_eq_emod_of_nonneg h2]; omega
 have w5:IntKind.u64.wrap ((u / 1000000000).tdiv 1000000000)=u / 1000000000 / 1000000000:=by rw [IntKind.wrap_u64,Int.tdiv_eq_ediv_of_nonneg h2]; omega
 have w6:IntKind.i64.wrap (u / 1000000000 / 1000000000)=u / 1000000000 / 1000000000:=by rw [IntKind.wrap_i64]; omega
 rw [← hR]
 refine Fq Tryz.call207 Tryz.func207 6 [] [] [] (by simp [wS0]) (X00 1000 ?_); simp (config:={ maxSteps:=2000000 }) only [AS.start,↓X03,wA,↓reduceIte,reduceIte,reduceCtorEq,Y1,Y2,Y3,Y4,Y5,Y6,Y7,Y8,Y9,YA,zA,wN]
 simp only [w1,w2,w3,w4,w5,w6]
 refine ⟨fun a=>?_,fun a0=>⟨fun a1=>?_,fun a1=>⟨fun a2=>⟨by omega,by omega,?_⟩,fun a2=>⟨by omega,by omega,by omega,by omega,by omega,?_⟩⟩⟩⟩
 ·rw [a,show (neg && decide ((0:Int)≠0))=false by simp,show (0:Int).toNat=0 from rfl,X0O] at eR
  exact X15 rfl X12 rfl rfl rfl eR sR ⟨Weak.rfl' _,X16 _ _,trivial⟩
 ·have w0:IntKind.i64.wrap u=u:=by rw [IntKind.wrap_i64]; omega
  rw [b1 a0,Xcu (by omega) (by omega),Int.toNat_of_nonneg h0] at eR
  rw [w0]
  exact X15 rfl X12 rfl rfl rfl eR sR ⟨Weak.rfl' _,X3S rfl rfl,trivial⟩
 ·rw [b1 a0,XgZ (by omega) (by omega)] at eR
  have e1:((u.toNat % 1000000000:Nat):Int)=u % 1000000000:=by omega
  have e2:((u.toNat / 1000000000:Nat):Int)=u / 1000000000:=by omega
  rw [e1,e2] at eR
  exact X15 rfl X12 rfl rfl rfl eR sR ⟨Weak.rfl' _,X3S rfl rfl,trivial⟩
 ·rw [b1 a0,XiY (by omega) (by omega)] at eR
  have e1:((u.toNat % 1000000000:Nat):Int)=u % 1000000000:=by omega
  have e2:((u.toNat / 1000000000 % 1000000000:Nat):Int)=u / 1000000000 % 1000000000:=by omega
  have e3:((u.toNat / 1000000000 / 1000000000:Nat):Int)=u / 1000000000 / 1000000000:=by omega
  rw [e1,e2,e3] at eR
  exact X15 rfl X12 rfl rfl rfl eR sR ⟨Weak.rfl' _,X3S rfl rfl,trivial⟩
theorem Xhq (z:Int):Fn Tryz.prog 196 [zA z] (zA (-z)):=by
 have e:(-z).natAbs=z.natAbs:=by omega
 have e0:z.natAbs=0↔z=0:=by omega
 have e1:(X0i z.natAbs).length=0↔z=0:=digs_len_zero.trans e0
 refine Fq Tryz.call196 Tryz.func196 3 [] [] [] (by simp [wS0]) (X00 1000 ?_); simp (config:={ maxSteps:=2000000 }) only [AS.start,↓X03,wA,↓reduceIte,reduceIte,reduceCtorEq,Y1,Y2,Y3,Y4,Y5,Y6,Y7,Y8,Y9,YA,zA,wN]
 refine ⟨fun h=>X15 rfl X12 rfl rfl rfl rfl (X0y _) ?_,fun h=>X15 rfl X12 rfl rfl rfl rfl (X0y _) ?_⟩
 ·rw [e]
  have:decide (-z<0)=decide (0<((X0i z.natAbs).length:Int)):=by rw [decide_eq_decide]; omega
  rw [this]
  exact ⟨Weak.rfl' _,Weak.rfl' _,trivial⟩
 ·rw [e,show decide (-z<0)=false from decide_eq_false (by omega)]
  exact ⟨Weak.rfl' _,Weak.rfl' _,trivial⟩
theorem Xur (z:Int):Fn Tryz.prog 155 [zA z] (I z.sign):=by
 have e0:z.natAbs=0↔z=0:=by omega
 have e1:(X0i z.natAbs).length=0↔z=0:=digs_len_zero.trans e0
 refine Fq Tryz.call155 Tryz.func155 4 [] [] [] (by simp [wS0]) (X00 1000 ?_); simp (config:={ maxSteps:=2000000 }) only [AS.start,↓X03,wA,↓reduceIte,reduceIte,reduceCtorEq,Y1,Y2,Y3,Y4,Y5,Y6,Y7,Y8,Y9,YA,zA,wN]
 refine ⟨fun h=>X0r rfl rfl (X08 _) ?_,fun h=>⟨fun h2=>X0r rfl rfl (X08 _) ?_,fun h2=>X0r rfl rfl (X08 _) ?_⟩⟩
 ·rw [Int.sign_eq_neg_one_of_neg h]; rfl
 ·rw [e1.1 (by omega)]; rfl
 ·rw [Int.sign_eq_one_of_pos (by omega)]; rfl
theorem Xi4 (d:List Int) (h:dig d):Fn Tryz.prog 226 [X0f d] (.tup [I (if d.length≤2 then val d else 0),.bool (decide (d.length≤2))]):=by
 have k2:¬ d.length≤2→I 0=I (if d.length≤2 then val d else 0)∧AV.bool false=.bool (decide (d.length≤2)):=fun h=>by simp [h]
 have k1:d.length≤2→∀ x,x=val d→I x=I (if d.length≤2 then val d else 0)∧AV.bool true=.bool (decide (d.length≤2)):=fun h x hx=>by simp [h,hx]
 refine Fq Tryz.call226 Tryz.func226 4 [5] [] [] (by simp [wS0]) (X00 1000 ?_); simp (config:={ maxSteps:=2000000 }) only [AS.start,↓X03,wA,↓reduceIte,reduceIte,reduceCtorEq,Y1,Y2,Y3,Y4,Y5,Y6,Y7,Y8,Y9,YA,zA,wN]
 have fin:∀ {s:AS} {x:Int},s.get 2=I x→s.get 3=.bool true→d.length≤2→x=val d→RetOk (X2f Tryz.prog Tryz.f226 [] [] (.tup [I (if d.length≤2 then val d else 0),.bool (decide (d.length≤2))])) s:=fun h1 h2 hl hx =>
  Xmy rfl h1 h2 (X08 _) (X02 _) (k1 hl _ hx).1 (k1 hl _ hx).2
 refine ⟨fun a=>fin rfl rfl (by omega) ?_,fun a0=>⟨fun a=>⟨by omega,by omega,fin rfl rfl (by omega) ?_⟩,fun a1=>⟨fun a=>⟨⟨by omega,by omega⟩,by omega,by omega,by omega,fin rfl rfl (by omega) ?_⟩,fun a2=>Xmy rfl rfl rfl (X08 _) (X02 _) (k2 (by omega)).1 (k2 (by omega)).2⟩⟩⟩
 ·obtain rfl:d=[]:=List.length_eq_zero_iff.1 (by omega)
  rfl
 ·obtain ⟨x,rfl⟩:=List.length_eq_one_iff.1 (show d.length=1 by omega)
  simp [val]
 ·obtain ⟨x,y,rfl⟩:∃ x y,d=[x,y]:=by
   match d,a with
   | [x,y],_=>exact ⟨x,y,rfl⟩
   | [],h=>exact absurd h (by simp)
   | [_],h=>exact absurd h (by simp)
   | _ :: _ :: _ :: _,h=>exact absurd h (by simp; omega)
  have h1:=h x (by simp)
  have h2:=h y (by simp)
  unfold X1O at h1 h2
  simp only [List.getD_cons_zero,List.getD_cons_succ,val,IntKind.wrap_i64]
  omega
theorem Xhj (a:Int):Fn Tryz.prog 267 [I a] (.bool false):=by
 refine Fq Tryz.call267 Tryz.func267 3 [] [] [] (by simp [wS0]) (X00 1000 ?_); simp (config:={ maxSteps:=2000000 }) only [AS.start,↓X03,wA,↓reduceIte,reduceIte,reduceCtorEq,Y1,Y2,Y3,Y4,Y5,Y6,Y7,Y8,Y9,YA,zA,wN]
 exact X0r rfl rfl (X02 _) rfl
theorem Xl0 (a b:Int):Fn Tryz.prog 249 [I a,I b] (I (a - b).sign):=by
 refine Fq Tryz.call249 Tryz.func249 7 [] [] [] (by simp [wS0]) (X00 1000 ?_); simp (config:={ maxSteps:=2000000 }) only [AS.start,↓X03,wA,↓reduceIte,reduceIte,reduceCtorEq,Y1,Y2,Y3,Y4,Y5,Y6,Y7,Y8,Y9,YA,zA,wN]
 refine X01 (Xhj a) rfl ?_
 simp only [↓X03,wA,↓reduceIte,reduceIte,reduceCtorEq,Y1,Y2,Y3,Y4,Y5,Y6,Y7,Y8,Y9,YA,zA,wN]
 refine X01 (Xhj b) rfl ?_
 simp only [↓X03,wA,↓reduceIte,reduceIte,reduceCtorEq,Y1,Y2,Y3,Y4,Y5,Y6,Y7,Y8,Y9,YA,zA,wN]
 refine ⟨fun h=>X0r rfl rfl (X08 _) ?_,fun h=>⟨fun h2=>X0r rfl rfl (X08 _) ?_,fun h2=>X0r rfl rfl (X08 _) ?_⟩⟩
 ·rw [Int.sign_eq_neg_one_of_neg (by omega)]; rfl
 ·rw [Int.sign_eq_one_of_pos (by omega)]; rfl
 ·rw [show a - b=0 by omega]; rfl
theorem Xrb {a b:List Int} (ha:dig a) (hb:dig b) (hl:a.length=b.length) {i:Nat} (hi:i<a.length) (he:a.drop (i+1)=b.drop (i+1)) (hne:a.getD i 0≠b.getD i 0) :
  (val a - val b).sign=(a.getD i 0 - b.getD i 0).sign:=by
 rw [X1X a i (by omega),X1X b i (by omega),X2G a i hi,X2G b i (by omega),he]
 have h1:=X0H (X1m ha i)
 have h2:=X0H (X1m hb i)
 have h3:=X43 (X1m ha i)
 have h4:=X43 (X1m hb i)
 have e1:(a.take i).length=i:=by rw [List.length_take]; omega
 have e2:(b.take i).length=i:=by rw [List.length_take]; omega
 rw [e1] at h3
 rw [e2] at h4
 generalize val (a.take i)=p at *
 generalize val (b.take i)=q at *
 generalize val (b.drop (i+1))=r at *
 generalize a.getD i 0=x at *
 generalize b.getD i 0=y at *
 have hp:=X2J i
 generalize pw i=P at *
 have e:p+P*(x+1000000000*r) - (q+P*(y+1000000000*r))=(p - q)+P*(x - y):=by grind
 rw [e]
 rcases Int.lt_or_gt_of_ne hne with h | h
 ·rw [Int.sign_eq_neg_one_of_neg (show x - y<0 by omega)]
  have:P*(x - y)≤P*(-1):=Int.mul_le_mul_of_nonneg_left (by omega) (by omega)
  exact Int.sign_eq_neg_one_of_neg (by omega)
 ·rw [Int.sign_eq_one_of_pos (show 0<x - y by omega)]
  have:P*1≤P*(x - y):=Int.mul_le_mul_of_nonneg_left (by omega) (by omega)
  exact Int.sign_eq_one_of_pos (by omega)
theorem X7h {a b:List Int} (ha:X5x a) (hb:X5x b) (h:a.length<b.length):val a<val b:=by
 have h1:=X43 ha.1
 have hne:b≠[]:=fun e=>by rw [e] at h; simp at h
 have h2:=X6l hb hne
 have h3:=X73 (show a.length≤b.length - 1 by omega)
 omega
theorem X8F {a b:List Int} (hl:a.length=b.length) {i:Nat} (hi:i<a.length) (he:a.drop (i+1)=b.drop (i+1)) (h:a.getD i 0=b.getD i 0):a.drop i=b.drop i:=by
 have hi2:i<b.length:=by omega
 rw [List.drop_eq_getElem_cons hi,List.drop_eq_getElem_cons hi2,he]
 rw [List.getD_eq_getElem?_getD,List.getElem?_eq_getElem hi,List.getD_eq_getElem?_getD,List.getElem?_eq_getElem hi2] at h
 simp only [Option.getD_some] at h
 rw [h]
theorem X6m (a b:List Int) (ha:X5x a) (hb:X5x b) (la:a.length<4611686018427387904):Fn Tryz.prog 215 [X0f a,X0f b] (I (val a - val b).sign):=by
 have hc:a.length≠b.length→Fn Tryz.prog 249 [I a.length,I b.length] (I (val a - val b).sign):=fun h=>by
  have e:((a.length:Int) - b.length).sign=(val a - val b).sign:=by
   rcases Nat.lt_or_gt_of_ne h with h' | h'
   ·have:=X7h ha hb h'
    rw [Int.sign_eq_neg_one_of_neg (by omega),Int.sign_eq_neg_one_of_neg (by omega)]
   ·have:=X7h hb ha h'
    rw [Int.sign_eq_one_of_pos (by omega),Int.sign_eq_one_of_pos (by omega)]
  rw [← e]; exact Xl0 _ _
 refine Fq Tryz.call215 Tryz.func215 6 [] [] [] (by simp [wS0]) (X00 1000 ?_); simp (config:={ maxSteps:=2000000 }) only [AS.start,↓X03,wA,seval,zA,wN]
 refine ⟨fun h=>X01 (hc h) rfl ?_,fun hl=>?_⟩
 ·simp only [↓X03,wA,seval,zA,wN]
  exact X0r rfl rfl (X08 _) rfl
 refine X0d (fun k:Nat=>⟨6,[],[X0f a,X0f b,.any,.any,I 0,I ((k:Int) - 1)],[],[]⟩) (fun k=>k≤a.length∧a.drop k=b.drop k) (fun k=>k) a.length ⟨by omega,by rw [List.drop_length,hl,List.drop_length]⟩
  ?_ ?_
 ·have w0:IntKind.i64.wrap ((a.length:Int) - 1)=(a.length:Int) - 1:=by rw [IntKind.wrap_i64]; omega
  rw [w0]
  exact (X09 rfl (by simp [zA,wN,X0p,X0f,X8p,X2R,sl1,I]) (by simp [X0q]) rfl)
 rintro k ⟨hk,he⟩ next
 cases k with
 | zero =>
  refine X00 1000 ?_
  have e0:(0≤((0:Nat):Int) - 1)=False:=eq_false (by omega)
  have e1:((0:Int)≤0 - 1)=False:=eq_false (by omega)
  simp only [e0,e1,↓X03,wA,seval,zA,wN]
  refine X0r rfl rfl (X08 _) ?_
  rw [List.drop_zero,List.drop_zero] at he
  rw [he,Int.sub_self]; rfl
 | succ k =>
  have e1:((k+1:Nat):Int) - 1=(k:Int):=by omega
  have w1:IntKind.i64.wrap ((k:Int) - 1)=(k:Int) - 1:=by rw [IntKind.wrap_i64]; omega
  have e2:((k:Int)<a.length)=True:=eq_true (by omega)
  have e3:(k<a.length)=True:=eq_true (by omega)
  have e4:(k<b.length)=True:=eq_true (by omega)
  have hcm:a.getD k 0≠b.getD k 0→Fn Tryz.prog 249 [I (a.getD k 0),I (b.getD k 0)] (I (val a - val b).sign):=fun h=>by
   rw [Xrb ha.1 hb.1 hl (by omega) he h]; exact Xl0 _ _
  refine X00 1000 ?_
  simp only [e1,w1,e3,e4,↓X03,wA,seval,zA,wN]
  refine ⟨fun h=>X01 (hcm h) rfl ?_,fun h=>next k _ ⟨by omega,X8F hl (by omega) he h⟩ (by omega) (X09 rfl (by simp [zA,wN,X0p,X0f,X8p,X2R,sl1,I]) (by simp [X0q]) rfl)⟩
  simp only [↓X03,wA,seval,zA,wN]
  exact X0r rfl rfl (X08 _) rfl
theorem Xa0 (n:Int) (h:X51 n):Fn Tryz.prog 148 [I n] (zA n):=by
 obtain ⟨R,hR⟩:∃ R,R=zA n:=⟨_,rfl⟩
 have sR:Settled R:=hR▸X0y _
 unfold X51 at h
 have c1:n<0→Fn Tryz.prog 207 [.bool (decide (n<0)),.int .u64 (IntKind.u64.wrap (0 - IntKind.u64.wrap n))] R:=fun h1=>by
  have e:IntKind.u64.wrap (0 - IntKind.u64.wrap n) = -n:=by rw [IntKind.wrap_u64,IntKind.wrap_u64]; omega
  have e2:sgn (decide (n<0)) (-n)=n:=by unfold sgn; rw [if_pos (decide_eq_true h1)]; omega
  have:=X35 (decide (n<0)) (-n) (by omega) (by omega)
  rw [e2] at this
  rw [e,hR]; exact this
 have c2:¬ n<0→Fn Tryz.prog 207 [.bool (decide (n<0)),.int .u64 (IntKind.u64.wrap n)] R:=fun h1=>by
  have e:IntKind.u64.wrap n=n:=by rw [IntKind.wrap_u64]; omega
  have e2:sgn (decide (n<0)) n=n:=by unfold sgn; rw [if_neg (by simp; omega)]
  have:=X35 (decide (n<0)) n (by omega) (by omega)
  rw [e2] at this
  rw [e,hR]; exact this
 rw [← hR]
 refine Fq Tryz.call148 Tryz.func148 4 [] [] [] (by simp [wS0]) (X00 1000 ?_); simp (config:={ maxSteps:=2000000 }) only [AS.start,↓X03,wA,seval,zA,wN]
 refine ⟨fun h1=>X01 (c1 h1) rfl ?_,fun h1=>X01 (c2 h1) rfl ?_⟩
 ·simp only [hR,↓X03,wA,seval,zA,wN]
  exact X15 rfl X12 rfl rfl rfl hR sR ⟨Weak.rfl' _,Weak.rfl' _,trivial⟩
 ·simp only [hR,↓X03,wA,seval,zA,wN]
  exact X15 rfl X12 rfl rfl rfl hR sR ⟨Weak.rfl' _,Weak.rfl' _,trivial⟩
end
end Go.Ab.N
