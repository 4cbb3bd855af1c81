/- Contracts of functions, for every argument that fits. -/
import Derived.Test.YtcmfnmceomhgcaaGreatAb4
import Derived.Test.YtcmfnmceomhgcaaGreatRows
import Derived.KernelRfl
set_option linter.unusedSimpArgs false
set_option linter.unusedVariables false
open Nat renaming reducePow → Y1, reduceLT → Y2, reduceLeDiff → Y3, reduceEqDiff → Y4, reduceAdd → Y5, reduceMul → Y6, reduceSub → Y7, reduceBEq → Y8, reduceDiv → Y9, reduceMod → YA
namespace Go.Ab.N
open Go.Ab
open Classical
noncomputable section
def pw:Nat→Int
 | 0=>1
 | n+1=>1000000000*pw n
theorem Jk:∀ n,0<pw n
 | 0=>by simp [pw]
 | n+1=>by have:=Jk n; simp only [pw]; omega
theorem Dj (m n:Nat):pw (m+n)=pw m*pw n:=by
 induction m with
 | zero=>simp [pw]
 | succ m ih=>rw [show m+1+n=(m+n)+1 by omega]; simp only [pw]; rw [ih,Int.mul_assoc]
theorem Cj {m n:Nat} (h:m≤n):pw m≤pw n:=by
 obtain ⟨k,rfl⟩:=Nat.exists_eq_add_of_le h
 induction k with
 | zero=>exact Int.le_refl _
 | succ k ih =>
  have h1:=ih (by omega)
  have h2:=Jk (m+k)
  rw [show m+(k+1)=(m+k)+1 by omega]
  simp only [pw]; omega
def val:List Int→Int
 | []=>0
 | d :: l=>d+1000000000*val l
def Q4 (d:Int):Prop:=0≤d∧d<1000000000
def Jh (l:List Int):Prop:=∀ d∈l,Q4 d
def Ah (l:List Int):Prop:=Jh l∧(l≠[]→l.getD (l.length - 1) 0≠0)
theorem Cd:Jh []:=fun _ h=>by cases h
theorem KW {d:Int} {l:List Int}:Jh (d :: l)↔Q4 d∧Jh l:=by unfold Jh; simp
theorem Ik {l m:List Int}:Jh (l ++ m)↔Jh l∧Jh m:=by
 unfold Jh
 constructor
 ·exact fun h=>⟨fun d hd=>h d (List.mem_append_left _ hd),fun d hd=>h d (List.mem_append_right _ hd)⟩
 ·rintro ⟨h1,h2⟩ d hd
  rcases List.mem_append.1 hd with h | h
  ·exact h1 d h
  ·exact h2 d h
theorem Jp {l:List Int} (h:Jh l) (i:Nat):Q4 (l.getD i 0):=by
 by_cases hi:i<l.length
 ·exact h _ (G7 hi)
 ·rw [List.getD_eq_getElem?_getD,List.getElem?_eq_none (by omega)]; exact ⟨by simp,by simp⟩
theorem QD {l:List Int} (h:Jh l) (n:Nat):Jh (l.take n):=fun d hd=>h d (List.mem_of_mem_take hd)
theorem Nh {l:List Int} (h:∀ i,i<l.length→Q4 (l.getD i 0)):Jh l:=by
 intro d hd
 obtain ⟨i,hi,rfl⟩:=List.getElem_of_mem hd
 have:=h i hi
 rwa [List.getD_eq_getElem?_getD,List.getElem?_eq_getElem hi] at this
theorem Q1 {l:List Int} (h:Jh l):0≤val l:=by
 induction l with
 | nil=>exact Int.le_refl 0
 | cons d l ih =>
  obtain ⟨h1,h2⟩:=KW.1 h
  have:=ih h2
  simp only [val]; unfold Q4 at h1; omega
theorem Zz {l:List Int} (h:Jh l):val l<pw l.length:=by
 induction l with
 | nil=>simp [val,pw]
 | cons d l ih =>
  obtain ⟨h1,h2⟩:=KW.1 h
  have:=ih h2
  simp only [val,List.length_cons,pw]; unfold Q4 at h1; omega
theorem Pk (l m:List Int):val (l ++ m)=val l+pw l.length*val m:=by
 induction l with
 | nil=>simp [val,pw]
 | cons d l ih =>
  simp only [List.cons_append,val,List.length_cons,pw]
  rw [ih,Int.mul_add,Int.mul_assoc]; omega
theorem Eu (l:List Int) (x:Int):val (l ++ [x])=val l+pw l.length*x:=by
 rw [Pk]; simp [val]
theorem Jg (l:List Int) (i:Nat) (h:i<l.length):val (l.take (i+1))=val (l.take i)+pw i*l.getD i 0:=by
 rw [Mw l 0 i h,Eu,List.length_take,Nat.min_eq_left (by omega)]
theorem EU (n:Nat):val (List.replicate n 0)=0:=by
 induction n with
 | zero=>rfl
 | succ n ih=>simp [List.replicate_succ,val,ih]
theorem CH {l:List Int} (h:Ah l) (hne:l≠[]):pw (l.length - 1)≤val l:=by
 have hl:=h.2 hne
 have hlen:0<l.length:=List.length_pos_iff.2 hne
 have e:=Jg l (l.length - 1) (by omega)
 rw [show l.length - 1+1=l.length by omega,List.take_length] at e
 have h1:=Q1 (QD h.1 (l.length - 1))
 have h2:=Jp h.1 (l.length - 1)
 have h3:=Jk (l.length - 1)
 have h4:pw (l.length - 1)*1≤pw (l.length - 1)*l.getD (l.length - 1) 0:=Int.mul_le_mul_of_nonneg_left (by unfold Q4 at h2; omega) (by omega)
 omega
theorem IB:∀ {a b:List Int},Jh a→Jh b→a.length=b.length→val a=val b→a=b
 | [],[],_,_,_,_=>rfl
 | [],_ :: _,_,_,h,_=>by simp at h
 | _ :: _,[],_,_,h,_=>by simp at h
 | x :: a,y :: b,ha,hb,hl,hv=>by
  obtain ⟨h1,h2⟩:=KW.1 ha
  obtain ⟨h3,h4⟩:=KW.1 hb
  simp only [val] at hv
  unfold Q4 at h1 h3
  have hxy:x=y:=by omega
  have hv':val a=val b:=by omega
  rw [hxy,IB h2 h4 (by simpa using hl) hv']
theorem Yj {a b:List Int} (ha:Ah a) (hb:Ah b) (h:val a=val b):a=b:=by
 have key:∀ {a b:List Int},Ah a→Ah b→val a=val b→a.length≤b.length→a=b:=by
  intro a b ha hb h hl
  by_cases e:a.length=b.length
  ·exact IB ha.1 hb.1 e h
  ·exfalso
   have hne:b≠[]:=fun e'=>by
    have:b.length=0:=by rw [e']; rfl
    omega
   have h1:=CH hb hne
   have h2:=Zz ha.1
   have h3:=Cj (show a.length≤b.length - 1 by omega)
   omega
 rcases Nat.le_total a.length b.length with hl | hl
 ·exact key ha hb h hl
 ·exact (key hb ha h.symm hl).symm
def X9 (n:Nat):List Int:=if h:n=0 then [] else ((n % 1000000000:Nat):Int) :: X9 (n / 1000000000)
termination_by n
decreasing_by omega
theorem Qj:X9 0=[]:=by rw [X9]; simp
theorem B9 {n:Nat} (h:n≠0):X9 n=((n % 1000000000:Nat):Int) :: X9 (n / 1000000000):=by rw [X9]; simp [h]
theorem Xx (n:Nat):val (X9 n)=n:=by
 induction n using Nat.strongRecOn with
 | ind n ih =>
  by_cases h:n=0
  ·subst h; rw [Qj]; rfl
  ·rw [B9 h]
   simp only [val]
   rw [ih (n / 1000000000) (by omega)]; omega
theorem XG (n:Nat):Jh (X9 n):=by
 induction n using Nat.strongRecOn with
 | ind n ih =>
  by_cases h:n=0
  ·subst h; rw [Qj]; exact Cd
  ·rw [B9 h]
   exact KW.2 ⟨⟨by omega,by omega⟩,ih _ (by omega)⟩
theorem Il {n:Nat} (h:n≠0):X9 n≠[]:=by rw [B9 h]; simp
theorem OI {n:Nat}:X9 n=[]↔n=0:=⟨fun h=>Classical.byContradiction fun e=>Il e h,fun h=>by rw [h]; exact Qj⟩
theorem XR (n:Nat):Ah (X9 n):=by
 refine ⟨XG n,?_⟩
 induction n using Nat.strongRecOn with
 | ind n ih =>
  intro hne
  by_cases h:n=0
  ·subst h; exact absurd Qj hne
  ·rw [B9 h]
   by_cases h2:n / 1000000000=0
   ·rw [h2,Qj]; simp; omega
   ·have hn:=Il h2
    have:=ih (n / 1000000000) (by omega) hn
    obtain ⟨k,hk⟩:∃ k,(X9 (n / 1000000000)).length=k+1:=⟨(X9 (n / 1000000000)).length - 1,by have:=List.length_pos_iff.2 hn; omega⟩
    simp only [List.length_cons,hk,Nat.add_sub_cancel] at this ⊢
    simpa using this
theorem AX {l:List Int} (h:Ah l):X9 (val l).toNat=l:=by
 refine Yj (XR _) h ?_
 rw [Xx]
 have:=Q1 h.1
 omega
theorem oS {l:List Int} (h:Jh l):((val l).toNat:Int)=val l:=Int.toNat_of_nonneg (Q1 h)
def Ar (l:List Int):Nat→Nat
 | 0=>0
 | n+1=>if l.getD n 0=0 then Ar l n else n+1
theorem Wz (l:List Int):∀ n,Ar l n≤n
 | 0=>Nat.le_refl _
 | n+1=>by
  simp only [Ar]
  split
  ·exact Nat.le_succ_of_le (Wz l n)
  ·exact Nat.le_refl _
theorem ST {l:List Int}:∀ n,n≤l.length→val (l.take (Ar l n))=val (l.take n)
 | 0,_=>rfl
 | n+1,h=>by
  simp only [Ar]
  split
  ·rename_i e
   rw [ST n (by omega),Jg l n h,e]; simp
  ·rfl
theorem UV {l:List Int} (h:Jh l) (n:Nat) (hn:n≤l.length):Ah (l.take (Ar l n)):=by
 refine ⟨QD h _,fun hne=>?_⟩
 induction n with
 | zero=>simp [Ar] at hne
 | succ n ih =>
  simp only [Ar] at hne ⊢
  split
  ·rename_i e; rw [if_pos e] at hne; exact ih (by omega) hne
  ·rename_i e
   rw [List.length_take,Nat.min_eq_left hn,Nat.add_sub_cancel,Bz l 0 n (n+1) (by omega)]
   exact e
theorem bg {l:List Int} (h:Jh l):l.take (Ar l l.length)=X9 (val l).toNat:=by
 have h1:=UV h l.length (Nat.le_refl _)
 rw [← AX h1,ST _ (Nat.le_refl _),List.take_length]
def sm (f:Nat→Int):Nat→Int
 | 0=>0
 | n+1=>sm f n+pw n*f n
def B5 (f:Nat→Int) (n:Nat):List Int:=(List.range n).map f
theorem Qb (f:Nat→Int) (n:Nat):(B5 f n).length=n:=by simp [B5]
theorem Er (f:Nat→Int) (n:Nat):B5 f (n+1)=B5 f n ++ [f n]:=by simp [B5,List.range_succ]
theorem Cx (f:Nat→Int) (n i:Nat) (h:i<n):(B5 f n).getD i 0=f i:=by simp [B5,List.getD_eq_getElem?_getD,h]
theorem KJ {f f':Nat→Int} {n:Nat} (h:∀ k,k<n→f k=f' k):B5 f n=B5 f' n:=List.map_congr_left fun k hk=>h k (by simpa using hk)
theorem GM (f:Nat→Int):∀ n,val (B5 f n)=sm f n
 | 0=>rfl
 | n+1=>by rw [Er,Eu,Qb,GM f n]; rfl
theorem Wp (l:List Int):∀ n,n≤l.length→sm (fun i=>l.getD i 0) n=val (l.take n)
 | 0,_=>rfl
 | n+1,h=>by rw [Jg l n h,← Wp l n (by omega)]; rfl
theorem sZ (l:List Int) (n:Nat) (h:l.length≤n):sm (fun i=>l.getD i 0) n=val l:=by
 obtain ⟨k,rfl⟩:=Nat.exists_eq_add_of_le h
 induction k with
 | zero=>rw [Nat.add_zero,Wp l _ (Nat.le_refl _),List.take_length]
 | succ k ih =>
  rw [show l.length+(k+1)=(l.length+k)+1 by omega]
  simp only [sm]
  rw [ih (by omega)]
  have:l.getD (l.length+k) 0=0:=by rw [List.getD_eq_getElem?_getD,List.getElem?_eq_none (by omega)]; rfl
  rw [this]; simp
theorem Da {f:Nat→Int} {n:Nat} (h:∀ i,i<n→Q4 (f i)):Jh (B5 f n):=by
 refine Nh fun i hi=>?_
 rw [Qb] at hi
 rw [Cx _ _ _ hi]; exact h i hi
def Qi (a b:Nat→Int):Nat→Int
 | 0=>0
 | i+1=>if 1000000000≤a i+b i+Qi a b i then 1 else 0
def Ax (a b:Nat→Int) (i:Nat):Int:=if 1000000000≤a i+b i+Qi a b i then a i+b i+Qi a b i - 1000000000 else a i+b i+Qi a b i
theorem DS (a b:Nat→Int):∀ i,Qi a b i=0∨Qi a b i=1
 | 0=>.inl rfl
 | i+1=>by simp only [Qi]; split <;> simp
theorem PA {a b:Nat→Int} {i:Nat} (ha:Q4 (a i)) (hb:Q4 (b i)):Q4 (Ax a b i):=by
 have:=DS a b i
 unfold Q4 at *
 unfold Ax
 split <;> omega
theorem Oh (a b:Nat→Int):∀ n,sm (Ax a b) n+pw n*Qi a b n=sm a n+sm b n
 | 0=>by simp [sm,Qi]
 | n+1=>by
  have ih:=Oh a b n
  have e:Ax a b n+1000000000*Qi a b (n+1)=a n+b n+Qi a b n:=by
   simp only [Ax,Qi]
   split <;> omega
  simp only [sm,pw]
  have:pw n*(Ax a b n+1000000000*Qi a b (n+1))=pw n*(a n+b n+Qi a b n):=by rw [e]
  grind
def JG (a b:Nat→Int):Nat→Int
 | 0=>0
 | i+1=>if a i - b i - JG a b i<0 then 1 else 0
def Bn (a b:Nat→Int) (i:Nat):Int:=if a i - b i - JG a b i<0 then a i - b i - JG a b i+1000000000 else a i - b i - JG a b i
theorem GI (a b:Nat→Int):∀ i,JG a b i=0∨JG a b i=1
 | 0=>.inl rfl
 | i+1=>by simp only [JG]; split <;> simp
theorem SI {a b:Nat→Int} {i:Nat} (ha:Q4 (a i)) (hb:Q4 (b i)):Q4 (Bn a b i):=by
 have:=GI a b i
 unfold Q4 at *
 unfold Bn
 split <;> omega
theorem Pf (a b:Nat→Int):∀ n,sm (Bn a b) n - pw n*JG a b n=sm a n - sm b n
 | 0=>by simp [sm,JG]
 | n+1=>by
  have ih:=Pf a b n
  have e:Bn a b n - 1000000000*JG a b (n+1)=a n - b n - JG a b n:=by
   simp only [Bn,JG]
   split <;> omega
  simp only [sm,pw]
  have:pw n*(Bn a b n - 1000000000*JG a b (n+1))=pw n*(a n - b n - JG a b n):=by rw [e]
  grind
theorem qo {f:Nat→Int}:∀ {n:Nat},(∀ i,i<n→Q4 (f i))→0≤sm f n∧sm f n<pw n
 | 0,_=>by simp [sm,pw]
 | n+1,h=>by
  obtain ⟨h1,h2⟩:=qo (n:=n) fun i hi=>h i (by omega)
  have h3:=h n (by omega)
  have h4:=Jk n
  unfold Q4 at h3
  have h5:pw n*f n≤pw n*999999999:=Int.mul_le_mul_of_nonneg_left (by omega) (by omega)
  have h6:0≤pw n*f n:=Int.mul_nonneg (by omega) h3.1
  simp only [sm,pw]; omega
theorem Wt {a b:Nat→Int} {n:Nat} (ha:∀ i,i<n→Q4 (a i)) (hb:∀ i,i<n→Q4 (b i)) (h:sm b n≤sm a n):JG a b n=0:=by
 have h1:=Pf a b n
 have h2:=(qo (f:=Bn a b) (n:=n) fun i hi=>SI (ha i hi) (hb i hi)).2
 rcases GI a b n with e | e
 ·exact e
 ·rw [e] at h1; omega
theorem Qw (l:List Int) (i j:Nat) (x:Int) (hi:i<l.length):(l.set i x).getD j 0=if j=i then x else l.getD j 0:=by
 simp only [List.getD_eq_getElem?_getD,List.getElem?_set]
 by_cases h:i=j
 ·subst h; simp [hi]
 ·simp [h,Ne.symm h]
theorem Cs:∀ (l:List Int) (i:Nat) (x:Int),i<l.length→val (l.set i x)=val l+pw i*(x - l.getD i 0)
 | [],_,_,h=>by simp at h
 | d :: l,0,x,_=>by simp [val,pw]; omega
 | d :: l,i+1,x,h=>by
  have ih:=Cs l i x (by simpa using h)
  simp only [List.set_cons_succ,val,pw,List.getD_cons_succ]
  rw [ih,Int.mul_add,Int.mul_assoc]; omega
theorem EA {l:List Int} (h:Jh l) (i:Nat) {x:Int} (hx:Q4 x):Jh (l.set i x):=fun d hd=>by
 rcases List.mem_or_eq_of_mem_set hd with e | e
 ·exact h d e
 ·rw [e]; exact hx
theorem BJ {x y:Int} (hx:Q4 x) (hy:Q4 y):0≤x*y∧x*y≤999999998000000001:=by
 unfold Q4 at hx hy
 have h1:0≤x*y:=Int.mul_nonneg hx.1 hy.1
 have h2:x*y≤999999999*y:=Int.mul_le_mul_of_nonneg_right (by omega) hy.1
 omega
theorem Kh (l:List Int) (i:Nat) (h:i<l.length):val (l.drop i)=l.getD i 0+1000000000*val (l.drop (i+1)):=by
 rw [List.drop_eq_getElem_cons h]
 simp only [val]
 rw [List.getD_eq_getElem?_getD,List.getElem?_eq_getElem h]; rfl
theorem Jn (l:List Int) (i:Nat) (h:i≤l.length):val l=val (l.take i)+pw i*val (l.drop i):=by
 conv=>lhs; rw [← List.take_append_drop i l]
 rw [Pk,List.length_take,Nat.min_eq_left h]
def Kt (a:Nat→Int) (k:Int):Nat→Int
 | 0=>0
 | i+1=>(a i*k+Kt a k i) / 1000000000
def FA (a:Nat→Int) (k:Int) (i:Nat):Int:=(a i*k+Kt a k i) % 1000000000
theorem CM {a:Nat→Int} {k:Int} (ha:∀ i,Q4 (a i)) (hk:Q4 k):∀ i,Q4 (Kt a k i)
 | 0=>⟨by simp [Kt],by simp [Kt]⟩
 | i+1=>by
  have h1:=CM ha hk i
  have h2:=BJ (ha i) hk
  simp only [Kt]; unfold Q4 at *; omega
theorem iK {a:Nat→Int} {k:Int} (ha:∀ i,Q4 (a i)) (hk:Q4 k) (i:Nat):Q4 (FA a k i):=by
 unfold FA Q4; omega
theorem VS (a:Nat→Int) (k:Int):∀ n,sm (FA a k) n+pw n*Kt a k n=sm a n*k
 | 0=>by simp [sm,Kt]
 | n+1=>by
  have ih:=VS a k n
  have e:FA a k n+1000000000*Kt a k (n+1)=a n*k+Kt a k n:=by
   simp only [FA,Kt]; omega
  have e2:pw n*(FA a k n+1000000000*Kt a k (n+1))=pw n*(a n*k+Kt a k n):=by rw [e]
  simp only [sm,pw]
  grind
def JP (a:List Int) (b:Int) (i:Nat):Int:=val (a.drop i) % b
def Am (a:List Int) (b:Int) (i:Nat):Int:=(JP a b (i+1)*1000000000+a.getD i 0) / b
theorem Hr (a:List Int) (b:Int) (i:Nat) (h:i<a.length):JP a b i=(JP a b (i+1)*1000000000+a.getD i 0) % b:=by
 unfold JP
 rw [Kh a i h]
 rw [Int.add_comm,Int.mul_comm,Int.add_emod,Int.mul_emod]
 conv=>rhs; rw [Int.add_emod,Int.mul_emod,Int.emod_emod_of_dvd _ (Int.dvd_refl b)]
theorem Me (a:List Int) (b:Int):JP a b a.length=0:=by unfold JP; simp [val]
theorem Ed {a:List Int} {b:Int} (ha:Jh a) (hb:0<b) (i:Nat):Q4 (Am a b i):=by
 have h1:=Int.emod_nonneg (val (a.drop (i+1))) (show b≠0 by omega)
 have h2:=Int.emod_lt_of_pos (val (a.drop (i+1))) hb
 have h3:=Jp ha i
 unfold Q4 at *
 unfold Am JP
 refine ⟨Int.ediv_nonneg (by omega) (by omega),Int.ediv_lt_of_lt_mul hb ?_⟩
 omega
theorem Wd {a:List Int} {b:Int} (hb:0<b):∀ i,i≤a.length→val (a.drop (a.length - i))=b*val ((B5 (Am a b) a.length).drop (a.length - i))+JP a b (a.length - i)
 | 0,_=>by
  have e:(B5 (Am a b) a.length).drop a.length=[]:=by rw [List.drop_eq_nil_iff,Qb]; exact Nat.le_refl _
  simp [e,Me,val]
 | i+1,h=>by
  have ih:=Wd (a:=a) hb i (by omega)
  obtain ⟨k,hk⟩:∃ k,a.length - (i+1)=k:=⟨_,rfl⟩
  have hk1:a.length - i=k+1:=by omega
  rw [hk1] at ih
  rw [hk]
  rw [Kh a k (by omega),Kh (B5 (Am a b) a.length) k (by rw [Qb]; omega),Cx _ _ _ (show k<a.length by omega)]
  have e:=Int.mul_ediv_add_emod (JP a b (k+1)*1000000000+a.getD k 0) b
  have e2:=Hr a b k (by omega)
  have e3:Am a b k=(JP a b (k+1)*1000000000+a.getD k 0) / b:=rfl
  rw [← e3,← e2] at e
  grind
theorem P4 {a:List Int} {b:Int} (hb:0<b):val a=b*val (B5 (Am a b) a.length)+JP a b 0:=by
 have:=Wd (a:=a) hb a.length (Nat.le_refl _)
 simpa using this
def zA (z:Int):AV:=.agg [.bool (decide (z<0)),X8 (X9 z.natAbs)]
theorem XE (z:Int):Settled (zA z):=QB (by simp [Xb,X5])
theorem pT:(!(true == false))=true:=Go.Ab.nrfl rfl
theorem pS:(!(false == true))=true:=Go.Ab.nrfl rfl
theorem pU:(!(true == true))=false:=Go.Ab.nrfl rfl
theorem pR:(!(false == false))=false:=Go.Ab.nrfl rfl
set_option linter.defProp false in
def wN:=And.intro pT (And.intro pS (And.intro pU pR))
def Kx (neg:Bool) (v:Int):Int:=if neg=true then -v else v
theorem digs_len_zero {n:Nat}:(X9 n).length=0↔n=0:=by rw [List.length_eq_zero_iff,OI]
theorem pV {l:List Int} (h:Jh l) (neg:Bool):zA (Kx neg (val l))=.agg [.bool (neg && decide (Ar l l.length≠0)),X8 (l.take (Ar l l.length))]:=by
 have h0:=Q1 h
 have e1:(Kx neg (val l)).natAbs=(val l).toNat:=by unfold Kx; split <;> omega
 have e2:=bg h
 have hle:=Wz l l.length
 have e3:Ar l l.length=0↔val l=0:=by
  have h1:(l.take (Ar l l.length)).length=Ar l l.length:=by rw [List.length_take,Nat.min_eq_left hle]
  rw [← h1,e2,digs_len_zero]; omega
 unfold zA
 rw [e1,e2]
 congr 3
 unfold Kx
 have h0':¬ val l<0:=by omega
 cases neg
 ·simp [h0']
 ·have:-val l<0↔¬ Ar l l.length=0:=by rw [e3]; omega
  simp only [if_true,Bool.true_and,decide_eq_decide]
  exact this
theorem G1 {d:Nat} (h0:d≠0) (h:d<1000000000):X9 d=[(d:Int)]:=by
 rw [B9 h0,show d / 1000000000=0 by omega,Qj,show d % 1000000000=d by omega]
theorem R7 {d:Nat} (h0:1000000000≤d) (h:d<1000000000000000000):X9 d=[((d % 1000000000:Nat):Int),((d / 1000000000:Nat):Int)]:=by
 rw [B9 (by omega),G1 (by omega) (by omega)]
theorem TU {d:Nat} (h0:1000000000000000000≤d) (h:d<18446744073709551616) :
  X9 d=[((d % 1000000000:Nat):Int),((d / 1000000000 % 1000000000:Nat):Int),((d / 1000000000 / 1000000000:Nat):Int)]:=by
 rw [B9 (by omega),R7 (by omega) (by omega)]
def dg (l:List Int):Nat→Int:=fun i=>l.getD i 0
theorem Q9 {l:List Int} (h:Jh l) (i:Nat):Q4 (dg l i):=Jp h i
theorem H6 {l:List Int} {i:Nat} (h:l.length≤i):dg l i=0:=by unfold dg; rw [List.getD_eq_getElem?_getD,List.getElem?_eq_none h]; rfl
theorem Eo (l:List Int) (n:Nat) (h:l.length≤n):sm (dg l) n=val l:=sZ l n h
def A5 (a b:List Int) (n:Nat):List Int:=B5 (Ax (dg a) (dg b)) n ++ [Qi (dg a) (dg b) n]
theorem NL (a b:List Int) (n:Nat) (ha:a.length≤n) (hb:b.length≤n):val (A5 a b n)=val a+val b:=by
 unfold A5
 rw [Eu,Qb,GM,Oh,Eo a n ha,Eo b n hb]
theorem NK {a b:List Int} (ha:Jh a) (hb:Jh b) (n:Nat):Jh (A5 a b n):=by
 unfold A5
 refine Ik.2 ⟨Da fun i _=>PA (Q9 ha i) (Q9 hb i),KW.2 ⟨?_,Cd⟩⟩
 have:=DS (dg a) (dg b) n
 unfold Q4; omega
theorem EL (a b:List Int) (n:Nat):(A5 a b n).length=n+1:=by simp [A5,Qb]
def Zv (a b:List Int):List Int:=B5 (Bn (dg a) (dg b)) a.length
theorem BO {a b:List Int} (ha:Jh a) (hb:Jh b) (hl:b.length≤a.length) (h:val b≤val a):val (Zv a b)=val a - val b:=by
 unfold Zv
 have e:=Wt (n:=a.length) (fun i _=>Q9 ha i) (fun i _=>Q9 hb i) (by rw [Eo b _ hl,Eo a _ (Nat.le_refl _)]; exact h)
 have e2:=Pf (dg a) (dg b) a.length
 rw [e,Eo a _ (Nat.le_refl _),Eo b _ hl] at e2
 rw [GM]; omega
theorem BN {a b:List Int} (ha:Jh a) (hb:Jh b):Jh (Zv a b):=Da fun i _=>SI (Q9 ha i) (Q9 hb i)
def J1 (a b:List Int) (i:Nat):List Int:=B5 (fun j=>if j<i then Bn (dg a) (dg b) j else if j=i then dg a j - JG (dg a) (dg b) i else dg a j) a.length
theorem jN (l:List Int):B5 (dg l) l.length=l:=by
 refine List.ext_getElem (by simp [B5]) fun i h1 h2=>?_
 simp [B5,dg,List.getD_eq_getElem?_getD,h2]
theorem RE (a b:List Int):J1 a b 0=a:=by
 unfold J1
 conv=>rhs; rw [← jN a]
 refine KJ fun k _=>?_
 rw [if_neg (by omega)]
 split
 ·simp [JG]
 ·rfl
theorem Um (a b:List Int):J1 a b a.length=Zv a b:=KJ fun k hk=>by rw [if_pos hk]
theorem Bg (f:Nat→Int) (n k:Nat) (x:Int) (h:k<n):(B5 f n).set k x=B5 (fun q=>if q=k then x else f q) n:=by
 refine List.ext_getElem (by simp [B5]) fun q h1 h2=>?_
 have hq:q<n:=by simpa [Qb] using h2
 by_cases e:k=q
 ·subst e; simp [B5]
 ·simp [B5,List.getElem_set,e,Ne.symm e]
end
end Go.Ab.N
namespace Go.Ab.N
open Go Go.Ab
open Classical
noncomputable section
theorem Bh {l m:List AV} (h:WeakL l m):Weak (.agg l) (.agg m):=fun c v hv=>by
 cases hv with
 | agg vs _ hs hr =>
  have:=(kB h) c (.tuple vs) (.tup vs _ hs hr)
  cases this with
  | tup _ _ hs' hr'=>exact .agg vs m hs' hr'
theorem Qt (f:Nat→AV) (t:Bool):Weak (.sl 0 0 f t) (X8 []):=KE rfl (Nat.le_refl _) fun j hj=>by exact absurd hj (Nat.not_lt_zero j)
theorem BF {n:Nat} {L:List AV} {l:List Int} {t:Bool} (hn:n=l.length) (h:L=l.map I):Weak (.sl n n (Xh L) t) (X8 l):=by
 subst hn; subst h; exact kw l t
theorem H4 (L:List AV):∀ n off,off+n=L.length→Qv (Xh L) off 0 n=L.drop off:=by
 have key:∀ n off j,off+j+n=L.length→Qv (Xh L) off j n=L.drop (off+j):=by
  intro n
  induction n with
  | zero=>intro off j h; rw [List.drop_eq_nil_iff.2 (by omega)]; rfl
  | succ n ih =>
   intro off j h
   rw [List.drop_eq_getElem_cons (by omega)]
   simp only [Qv]
   rw [ih off (j+1) (by omega)]
   congr 1
   show L.getD (off+j) .any=_
   rw [List.getD_eq_getElem?_getD,List.getElem?_eq_getElem (by omega)]; rfl
 intro n off h
 rw [key n off 0 (by omega)]; rfl
theorem Cv {P:Program} {fn:Func} {str hcs:List Nat} {r:AV} {s:AS} {t u id ver n:Nat} {L:List AV} (hr:fn.results=#[.cell t u]) (hk:C6 P u=some (some n)) (hs:s.get t=.ref id ver 0)
  (ho:s.h[id]?=some (.row ver n (Xh L))) (hn:L.length=n) (h:Zq s.h (.agg L) r):RetOk (Jq P fn str hcs r) s:=by
 subst hn
 refine Gv (v:=.agg L) hr ?_ h
 rw [hs,AW,hk,JS,ho,JT,aB,H4 L _ _ (by omega)]
 simp [Q2]
theorem Q5 {P:Program} {fn:Func} {str hcs:List Nat} {r:AV} {s:AS} {t u id ver n:Nat} {L M:List AV} (hr:fn.results=#[.cell t u]) (hk:C6 P u=some (some n)) (hs:s.get t=.ref id ver 0)
  (ho:s.h[id]?=some (.row ver n (Xh L))) (hn:L.length=n) (e:r=.agg M) (hset:Settled r) (h:WeakL L M):RetOk (Jq P fn str hcs r) s:=by
 refine Cv hr hk hs ho hn ?_
 subst e
 exact XC hset (Bh h)
end
end Go.Ab.N
namespace Go.Ab.N
open Go Go.RowKit Go.Proofs
theorem uP:C6 Tryz.prog 3=some none:=by kernel_rfl
theorem tf:KD Tryz.prog 3=some 1:=by kernel_rfl
theorem ib:VM Tryz.prog 3=some .i64:=by kernel_rfl
theorem tE:Q7 Tryz.prog 3=some [.int .i64 0]:=by kernel_rfl
theorem vT:C6 Tryz.prog 4=some none:=by kernel_rfl
theorem tg:KD Tryz.prog 4=some 1:=by kernel_rfl
theorem rj:IW Tryz.prog 4=true:=by kernel_rfl
theorem tF:Q7 Tryz.prog 4=some [.bool false]:=by kernel_rfl
theorem uN:C6 Tryz.prog 22=some none:=by kernel_rfl
theorem oH:KD Tryz.prog 22=some 1:=by kernel_rfl
theorem uA:As Tryz.prog 22=some (3,1,8):=by kernel_rfl
theorem uO:C6 Tryz.prog 23=some none:=by kernel_rfl
theorem uB:As Tryz.prog 23=some (30,8,128):=by kernel_rfl
theorem XW:C6 Tryz.prog 26=some (some 2):=by kernel_rfl
theorem oI:KD Tryz.prog 26=some 2:=by kernel_rfl
theorem mK:C5 Tryz.prog 26 0=some (0,1,none):=by kernel_rfl
theorem lP:Qu Tryz.prog 26 0=some (0,1):=by kernel_rfl
theorem mL:C5 Tryz.prog 26 1=some (1,1,none):=by kernel_rfl
theorem lQ:Qu Tryz.prog 26 1=some (1,1):=by kernel_rfl
theorem ue:Af Tryz.prog 26=true:=by kernel_rfl
theorem pa:Q7 Tryz.prog 26=some [.bool false,.sl 0 0 (fun _=>.any) true]:=by kernel_rfl
theorem XS:C6 Tryz.prog 28=some (some 4):=by kernel_rfl
theorem Pg:KD Tryz.prog 28=some 4:=by kernel_rfl
theorem mM:C5 Tryz.prog 28 0=some (0,2,some 2):=by kernel_rfl
theorem lS:Qu Tryz.prog 28 0=some (0,2):=by kernel_rfl
theorem mN:C5 Tryz.prog 28 1=some (2,2,some 2):=by kernel_rfl
theorem lU:Qu Tryz.prog 28 1=some (2,2):=by kernel_rfl
theorem ug:Af Tryz.prog 28=true:=by kernel_rfl
theorem GQ:Q7 Tryz.prog 28=some [.bool false,.sl 0 0 (fun _=>.any) true,.bool false,.sl 0 0 (fun _=>.any) true]:=by kernel_rfl
theorem J5:C6 Tryz.prog 30=some (some 8):=by kernel_rfl
theorem DC:KD Tryz.prog 30=some 8:=by kernel_rfl
theorem mO:C5 Tryz.prog 30 0=some (0,4,some 4):=by kernel_rfl
theorem lV:Qu Tryz.prog 30 0=some (0,4):=by kernel_rfl
theorem mP:C5 Tryz.prog 30 1=some (4,4,some 4):=by kernel_rfl
theorem lW:Qu Tryz.prog 30 1=some (4,4):=by kernel_rfl
theorem uh:Af Tryz.prog 30=true:=by kernel_rfl
theorem pb:Q7 Tryz.prog 30=some [.bool false,.sl 0 0 (fun _=>.any) true,.bool false,.sl 0 0 (fun _=>.any) true,.bool false,.sl 0 0 (fun _=>.any) true,.bool false,.sl 0 0 (fun _=>.any) true]:=by kernel_rfl
theorem HO:C6 Tryz.prog 32=some (some 32):=by kernel_rfl
theorem Ph:KD Tryz.prog 32=some 32:=by kernel_rfl
theorem mQ:C5 Tryz.prog 32 0=some (0,8,some 8):=by kernel_rfl
theorem lX:Qu Tryz.prog 32 0=some (0,8):=by kernel_rfl
theorem mR:C5 Tryz.prog 32 1=some (8,8,some 8):=by kernel_rfl
theorem lY:Qu Tryz.prog 32 1=some (8,8):=by kernel_rfl
theorem mS:C5 Tryz.prog 32 2=some (16,8,some 8):=by kernel_rfl
theorem lZ:Qu Tryz.prog 32 2=some (16,8):=by kernel_rfl
theorem mT:C5 Tryz.prog 32 3=some (24,4,some 4):=by kernel_rfl
theorem m7:Qu Tryz.prog 32 3=some (24,4):=by kernel_rfl
theorem mU:C5 Tryz.prog 32 4=some (28,4,some 4):=by kernel_rfl
theorem m8:Qu Tryz.prog 32 4=some (28,4):=by kernel_rfl
theorem uk:Af Tryz.prog 32=true:=by kernel_rfl
theorem pc:Q7 Tryz.prog 32=some [.bool false,.sl 0 0 (fun _=>.any) true,.bool false,.sl 0 0 (fun _=>.any) true,.bool false,.sl 0 0 (fun _=>.any) true,.bool false,.sl 0 0 (fun _=>.any) true,.bool false,.sl 0 0 (fun _=>.any) true,.bool false,.sl 0 0 (fun _=>.any) true,.bool false,.sl 0 0 (fun _=>.any) true,.bool false,.sl 0 0 (fun _=>.any) true,.bool false,.sl 0 0 (fun _=>.any) true,.bool false,.sl 0 0 (fun _=>.any) true,.bool false,.sl 0 0 (fun _=>.any) true,.bool false,.sl 0 0 (fun _=>.any) true,.bool false,.sl 0 0 (fun _=>.any) true,.bool false,.sl 0 0 (fun _=>.any) true,.bool false,.sl 0 0 (fun _=>.any) true,.bool false,.sl 0 0 (fun _=>.any) true]:=by kernel_rfl
theorem uC:As Tryz.prog 35=some (32,32,512):=by kernel_rfl
theorem VO:C6 Tryz.prog 43=some (some 20):=by kernel_rfl
theorem oJ:KD Tryz.prog 43=some 20:=by kernel_rfl
theorem mV:C5 Tryz.prog 43 0=some (0,8,some 8):=by kernel_rfl
theorem m9:Qu Tryz.prog 43 0=some (0,8):=by kernel_rfl
theorem mW:C5 Tryz.prog 43 1=some (8,4,some 4):=by kernel_rfl
theorem ma:Qu Tryz.prog 43 1=some (8,4):=by kernel_rfl
theorem mX:C5 Tryz.prog 43 2=some (12,4,some 4):=by kernel_rfl
theorem mb:Qu Tryz.prog 43 2=some (12,4):=by kernel_rfl
theorem mY:C5 Tryz.prog 43 3=some (16,4,some 4):=by kernel_rfl
theorem mc:Qu Tryz.prog 43 3=some (16,4):=by kernel_rfl
theorem ul:Af Tryz.prog 43=true:=by kernel_rfl
theorem pf:Q7 Tryz.prog 43=some [.bool false,.sl 0 0 (fun _=>.any) true,.bool false,.sl 0 0 (fun _=>.any) true,.bool false,.sl 0 0 (fun _=>.any) true,.bool false,.sl 0 0 (fun _=>.any) true,.bool false,.sl 0 0 (fun _=>.any) true,.bool false,.sl 0 0 (fun _=>.any) true,.bool false,.sl 0 0 (fun _=>.any) true,.bool false,.sl 0 0 (fun _=>.any) true,.bool false,.sl 0 0 (fun _=>.any) true,.bool false,.sl 0 0 (fun _=>.any) true]:=by kernel_rfl
theorem uQ:C6 Tryz.prog 49=some none:=by kernel_rfl
theorem uD:As Tryz.prog 49=some (56,8,128):=by kernel_rfl
theorem pg:Q7 Tryz.prog 49=some [.sl 0 0 (fun _=>.any) true]:=by kernel_rfl
theorem mZ:C5 Tryz.prog 56 0=some (0,4,some 4):=by kernel_rfl
theorem md:Qu Tryz.prog 56 0=some (0,4):=by kernel_rfl
theorem nc:C5 Tryz.prog 56 1=some (4,4,some 4):=by kernel_rfl
theorem me:Qu Tryz.prog 56 1=some (4,4):=by kernel_rfl
theorem um:Af Tryz.prog 56=true:=by kernel_rfl
theorem ph:Q7 Tryz.prog 56=some [.bool false,.sl 0 0 (fun _=>.any) true,.bool false,.sl 0 0 (fun _=>.any) true,.bool false,.sl 0 0 (fun _=>.any) true,.bool false,.sl 0 0 (fun _=>.any) true]:=by kernel_rfl
theorem uE:As Tryz.prog 60=some (49,1,24):=by kernel_rfl
theorem pH:C6 Tryz.prog 85=some none:=by kernel_rfl
theorem oL:KD Tryz.prog 85=some 1:=by kernel_rfl
theorem fJ:As Tryz.prog 85=some (131,5,88):=by kernel_rfl
theorem pJ:C6 Tryz.prog 86=some none:=by kernel_rfl
theorem oM:KD Tryz.prog 86=some 1:=by kernel_rfl
theorem jD:Hw Tryz.prog 86=true:=by kernel_rfl
theorem HF:As Tryz.prog 86=some (28,4,64):=by kernel_rfl
theorem pi:Q7 Tryz.prog 86=some [.sl 0 0 (fun _=>.any) true]:=by kernel_rfl
theorem pK:C6 Tryz.prog 88=some (some 3):=by kernel_rfl
theorem oN:KD Tryz.prog 88=some 3:=by kernel_rfl
theorem nd:C5 Tryz.prog 88 0=some (0,1,none):=by kernel_rfl
theorem mf:Qu Tryz.prog 88 0=some (0,1):=by kernel_rfl
theorem ng:C5 Tryz.prog 88 1=some (1,1,none):=by kernel_rfl
theorem nh:C5 Tryz.prog 88 2=some (2,1,none):=by kernel_rfl
theorem mg:Qu Tryz.prog 88 2=some (2,1):=by kernel_rfl
theorem un:Af Tryz.prog 88=true:=by kernel_rfl
theorem pj:Q7 Tryz.prog 88=some [.int .i64 0,.sl 0 0 (fun _=>.any) true,.sl 0 0 (fun _=>.any) true]:=by kernel_rfl
theorem pL:C6 Tryz.prog 91=some (some 7):=by kernel_rfl
theorem oO:KD Tryz.prog 91=some 7:=by kernel_rfl
theorem nl:C5 Tryz.prog 91 0=some (0,1,none):=by kernel_rfl
theorem mh:Qu Tryz.prog 91 0=some (0,1):=by kernel_rfl
theorem nm:C5 Tryz.prog 91 1=some (1,1,none):=by kernel_rfl
theorem mi:Qu Tryz.prog 91 1=some (1,1):=by kernel_rfl
theorem mj:Qu Tryz.prog 91 2=some (2,1):=by kernel_rfl
theorem no:C5 Tryz.prog 91 3=some (3,4,some 4):=by kernel_rfl
theorem ml:Qu Tryz.prog 91 3=some (3,4):=by kernel_rfl
theorem uq:Af Tryz.prog 91=true:=by kernel_rfl
theorem pk:Q7 Tryz.prog 91=some [.int .i64 0,.sl 0 0 (fun _=>.any) true,.sl 0 0 (fun _=>.any) true,.bool false,.sl 0 0 (fun _=>.any) true,.bool false,.sl 0 0 (fun _=>.any) true]:=by kernel_rfl
theorem Ga:C6 Tryz.prog 99=some (some 8):=by kernel_rfl
theorem oP:KD Tryz.prog 99=some 8:=by kernel_rfl
theorem np:C5 Tryz.prog 99 0=some (0,4,some 4):=by kernel_rfl
theorem mq:Qu Tryz.prog 99 0=some (0,4):=by kernel_rfl
theorem nq:C5 Tryz.prog 99 1=some (4,4,some 4):=by kernel_rfl
theorem mr:Qu Tryz.prog 99 1=some (4,4):=by kernel_rfl
theorem ur:Af Tryz.prog 99=true:=by kernel_rfl
theorem pm:Q7 Tryz.prog 99=some [.bool false,.sl 0 0 (fun _=>.any) true,.bool false,.sl 0 0 (fun _=>.any) true,.bool false,.sl 0 0 (fun _=>.any) true,.bool false,.sl 0 0 (fun _=>.any) true]:=by kernel_rfl
theorem im:C6 Tryz.prog 101=some (some 16):=by kernel_rfl
theorem jQ:KD Tryz.prog 101=some 16:=by kernel_rfl
theorem gh:C5 Tryz.prog 101 0=some (0,8,some 8):=by kernel_rfl
theorem eD:Qu Tryz.prog 101 0=some (0,8):=by kernel_rfl
theorem gk:C5 Tryz.prog 101 1=some (8,8,some 8):=by kernel_rfl
theorem eE:Qu Tryz.prog 101 1=some (8,8):=by kernel_rfl
theorem re:Af Tryz.prog 101=true:=by kernel_rfl
theorem kG:Q7 Tryz.prog 101=some [.bool false,.sl 0 0 (fun _=>.any) true,.bool false,.sl 0 0 (fun _=>.any) true,.bool false,.sl 0 0 (fun _=>.any) true,.bool false,.sl 0 0 (fun _=>.any) true,.bool false,.sl 0 0 (fun _=>.any) true,.bool false,.sl 0 0 (fun _=>.any) true,.bool false,.sl 0 0 (fun _=>.any) true,.bool false,.sl 0 0 (fun _=>.any) true]:=by kernel_rfl
theorem ru:As Tryz.prog 105=some (108,24,384):=by kernel_rfl
theorem rU:C6 Tryz.prog 108=some (some 24):=by kernel_rfl
theorem jR:KD Tryz.prog 108=some 24:=by kernel_rfl
theorem gn:C5 Tryz.prog 108 0=some (0,8,some 8):=by kernel_rfl
theorem eF:Qu Tryz.prog 108 0=some (0,8):=by kernel_rfl
theorem go:C5 Tryz.prog 108 1=some (8,8,some 8):=by kernel_rfl
theorem eG:Qu Tryz.prog 108 1=some (8,8):=by kernel_rfl
theorem gq:C5 Tryz.prog 108 2=some (16,8,some 8):=by kernel_rfl
theorem eH:Qu Tryz.prog 108 2=some (16,8):=by kernel_rfl
theorem rf:Af Tryz.prog 108=true:=by kernel_rfl
theorem kH:Q7 Tryz.prog 108=some [.bool false,.sl 0 0 (fun _=>.any) true,.bool false,.sl 0 0 (fun _=>.any) true,.bool false,.sl 0 0 (fun _=>.any) true,.bool false,.sl 0 0 (fun _=>.any) true,.bool false,.sl 0 0 (fun _=>.any) true,.bool false,.sl 0 0 (fun _=>.any) true,.bool false,.sl 0 0 (fun _=>.any) true,.bool false,.sl 0 0 (fun _=>.any) true,.bool false,.sl 0 0 (fun _=>.any) true,.bool false,.sl 0 0 (fun _=>.any) true,.bool false,.sl 0 0 (fun _=>.any) true,.bool false,.sl 0 0 (fun _=>.any) true]:=by kernel_rfl
theorem rV:C6 Tryz.prog 131=some (some 5):=by kernel_rfl
theorem jS:KD Tryz.prog 131=some 5:=by kernel_rfl
theorem gr:C5 Tryz.prog 131 0=some (0,1,none):=by kernel_rfl
theorem PU:Qu Tryz.prog 131 0=some (0,1):=by kernel_rfl
theorem gu:C5 Tryz.prog 131 1=some (1,4,some 4):=by kernel_rfl
theorem PV:Qu Tryz.prog 131 1=some (1,4):=by kernel_rfl
theorem ez:Af Tryz.prog 131=true:=by kernel_rfl
theorem MA:Q7 Tryz.prog 131=some [.sl 0 0 (fun _=>.any) true,.bool false,.sl 0 0 (fun _=>.any) true,.bool false,.sl 0 0 (fun _=>.any) true]:=by kernel_rfl
theorem rW:C6 Tryz.prog 142=some none:=by kernel_rfl
theorem jT:KD Tryz.prog 142=some 1:=by kernel_rfl
theorem ry:As Tryz.prog 142=some (86,1,24):=by kernel_rfl
theorem io:C6 Tryz.prog 145=some none:=by kernel_rfl
theorem jU:KD Tryz.prog 145=some 1:=by kernel_rfl
theorem kI:Q7 Tryz.prog 145=some [.nil]:=by kernel_rfl
theorem gv:C5 Tryz.prog 148 0=some (0,1,none):=by kernel_rfl
theorem eI:Qu Tryz.prog 148 0=some (0,1):=by kernel_rfl
theorem gw:C5 Tryz.prog 148 1=some (1,1,none):=by kernel_rfl
theorem eJ:Qu Tryz.prog 148 1=some (1,1):=by kernel_rfl
theorem gx:C5 Tryz.prog 148 2=some (2,1,none):=by kernel_rfl
theorem eK:Qu Tryz.prog 148 2=some (2,1):=by kernel_rfl
theorem gy:C5 Tryz.prog 148 3=some (3,1,none):=by kernel_rfl
theorem gD:C5 Tryz.prog 148 4=some (4,1,none):=by kernel_rfl
theorem gE:C5 Tryz.prog 148 5=some (5,1,none):=by kernel_rfl
theorem rg:Af Tryz.prog 148=true:=by kernel_rfl
theorem kJ:Q7 Tryz.prog 148=some [.int .i64 0,.int .i64 0,.int .i64 0,.sl 0 0 (fun _=>.any) true,.sl 0 0 (fun _=>.any) true,.sl 0 0 (fun _=>.any) true]:=by kernel_rfl
theorem rz:As Tryz.prog 155=none:=by kernel_rfl
theorem eP:Qu Tryz.prog 155 0=some (0,1):=by kernel_rfl
theorem eQ:Qu Tryz.prog 155 1=some (1,1):=by kernel_rfl
theorem rh:Af Tryz.prog 155=true:=by kernel_rfl
theorem qY:bU Tryz.prog 155=some (2,1,none):=by kernel_rfl
theorem kK:Q7 Tryz.prog 155=some [.int .i64 0,.int .i64 0]:=by kernel_rfl
theorem rA:As Tryz.prog 156=some (155,2,16):=by kernel_rfl
theorem rX:C6 Tryz.prog 172=some none:=by kernel_rfl
theorem jV:KD Tryz.prog 172=some 1:=by kernel_rfl
theorem kM:Q7 Tryz.prog 172=some [.nilfn]:=by kernel_rfl
theorem rP:VM Tryz.prog 185=some .u64:=by kernel_rfl
theorem rY:C6 Tryz.prog 198=some (some 3):=by kernel_rfl
theorem jW:KD Tryz.prog 198=some 3:=by kernel_rfl
theorem rB:As Tryz.prog 198=none:=by kernel_rfl
theorem eU:Qu Tryz.prog 198 0=some (0,1):=by kernel_rfl
theorem eW:Qu Tryz.prog 198 1=some (1,1):=by kernel_rfl
theorem eX:Qu Tryz.prog 198 2=some (2,1):=by kernel_rfl
theorem ri:Af Tryz.prog 198=true:=by kernel_rfl
theorem qZ:bU Tryz.prog 198=some (3,1,none):=by kernel_rfl
theorem kN:Q7 Tryz.prog 198=some [.int .i64 0,.int .i64 0,.int .i64 0]:=by kernel_rfl
theorem rC:As Tryz.prog 199=some (198,3,24):=by kernel_rfl
theorem rQ:VM Tryz.prog 214=some .u64:=by kernel_rfl
theorem mixed:Tryz.prog.follows .mixedOrders=true:=by kernel_rfl
theorem Fq {f:FuncId} {fn:Func} {body:Code} {args:List AV} {r:AV} (he:BG Tryz.prog f) (hf:Tryz.prog.funcs[f]?=some fn) (n0:Nat) (hid str hcs:List Nat) (hs:∀ a∈args,Settled a) (h:Run (Jq Tryz.prog fn str hcs r) [.code body] (AS.start n0 hid args [])) (hb:fn.body=some body:=by rfl) (hok:QA fn.ntmps str hcs body=true:=by kernel_rfl) (hlen:args.length≤fn.ntmps:=by exact Nat.le_of_ble_eq_true rfl):Fn Tryz.prog f args r:=Fn.intro he hf hb mixed n0 hid str hcs hok hlen hs h
set_option linter.defProp false in
def Pl:=And.intro @uP <| And.intro @tf <| And.intro @ib <| And.intro @tE <| And.intro @vT <| And.intro @tg <| And.intro @rj <| And.intro @tF <| And.intro @uN <| And.intro @oH <| And.intro @uA <| And.intro @uO <| And.intro @uB <| And.intro @XW <| And.intro @oI <| And.intro @mK <| And.intro @lP <| And.intro @mL <| And.intro @lQ <| And.intro @ue <| And.intro @pa <| And.intro @XS <| And.intro @Pg <| And.intro @mM <| And.intro @lS <| And.intro @mN <| And.intro @lU <| And.intro @ug <| And.intro @GQ <| And.intro @J5 <| And.intro @DC <| And.intro @mO <| And.intro @lV <| And.intro @mP <| And.intro @lW <| And.intro @uh <| And.intro @pb <| And.intro @HO <| And.intro @Ph <| And.intro @mQ <| And.intro @lX <| And.intro @mR <| And.intro @lY <| And.intro @mS <| And.intro @lZ <| And.intro @mT <| And.intro @m7 <| And.intro @mU <| And.intro @m8 <| And.intro @uk <| And.intro @pc <| And.intro @uC <| And.intro @VO <| And.intro @oJ <| And.intro @mV <| And.intro @m9 <| And.intro @mW <| And.intro @ma <| And.intro @mX <| And.intro @mb <| And.intro @mY <| And.intro @mc <| And.intro @ul <| And.intro @pf <| And.intro @uQ <| And.intro @uD <| And.intro @pg <| And.intro @mZ <| And.intro @md <| And.intro @nc <| And.intro @me <| And.intro @um <| And.intro @ph <| And.intro @uE <| And.intro @pH <| And.intro @oL <| And.intro @fJ <| And.intro @pJ <| And.intro @oM <| And.intro @jD <| And.intro @HF <| And.intro @pi <| And.intro @pK <| And.intro @oN <| And.intro @nd <| And.intro @mf <| And.intro @ng <| And.intro @nh <| And.intro @mg <| And.intro @un <| And.intro @pj <| And.intro @pL <| And.intro @oO <| And.intro @nl <| And.intro @mh <| And.intro @nm <| And.intro @mi <| And.intro @mj <| And.intro @no <| And.intro @ml <| And.intro @uq <| And.intro @pk <| And.intro @Ga <| And.intro @oP <| And.intro @np <| And.intro @mq <| And.intro @nq <| And.intro @mr <| And.intro @ur <| And.intro @pm <| And.intro @im <| And.intro @jQ <| And.intro @gh <| And.intro @eD <| And.intro @gk <| And.intro @eE <| And.intro @re <| And.intro @kG <| And.intro @ru <| And.intro @rU <| And.intro @jR <| And.intro @gn <| And.intro @eF <| And.intro @go <| And.intro @eG <| And.intro @gq <| And.intro @eH <| And.intro @rf <| And.intro @kH <| And.intro @rV <| And.intro @jS <| And.intro @gr <| And.intro @PU <| And.intro @gu <| And.intro @PV <| And.intro @ez <| And.intro @MA <| And.intro @rW <| And.intro @jT <| And.intro @ry <| And.intro @io <| And.intro @jU <| And.intro @kI <| And.intro @gv <| And.intro @eI <| And.intro @gw <| And.intro @eJ <| And.intro @gx <| And.intro @eK <| And.intro @gy <| And.intro @gD <| And.intro @gE <| And.intro @rg <| And.intro @kJ <| And.intro @rz <| And.intro @eP <| And.intro @eQ <| And.intro @rh <| And.intro @qY <| And.intro @kK <| And.intro @rA <| And.intro @rX <| And.intro @jV <| And.intro @kM <| And.intro @rP <| And.intro @rY <| And.intro @jW <| And.intro @rB <| And.intro @eU <| And.intro @eW <| And.intro @eX <| And.intro @ri <| And.intro @qZ <| And.intro @kN <| And.intro @rC <| @rQ
set_option linter.defProp false in
def wA:=And.intro @vt <| And.intro @vp <| And.intro @vo <| And.intro @beq_self_eq_true.{0} <| And.intro @ite_true.{1} <| And.intro @ite_false.{1} <| And.intro @false_implies <| And.intro @true_implies <| And.intro @implies_true.{1} <| And.intro @implies_true.{0} <| And.intro @eq_self.{1} <| And.intro @ne_eq.{1} <| @Pl
theorem Xm {X:Env} {k:List Item} {s:AS} (h:QI (CA s) fun s=>vc X 1000 k s):Run X k s:=XK 1000 h
theorem C7 {m:Nat} {s s':AS} (h3:Xo s.sl s'.sl) (h5:s.h=s'.h) (h1:s'.n0=s.n0:=by rfl) (h4:Xw s.tm s'.tm:=by simp [Xw]):Sub m s s':=Xk h1 h3 h4 h5
theorem sS {b m:Nat} {s s':AS} (h3:Xo s.sl s'.sl) (h5:s.h.take m=s'.h) (h6:∀ a∈s'.sl,Ju m a) (h8:∀ o∈s'.h,Qc m o) (h7:∀ p∈s'.tm,Ju m p.2:=by simp [XM]) (h4:Xw s.tm s'.tm:=by simp [Xw]) (h1:s'.n0=s.n0:=by rfl) (hbm:b≤m:=by exact Nat.zero_le _):Sub b s s':=XI hbm h1 h3 h4 h5 h6 h7 h8
end Go.Ab.N
namespace Go.Ab.N
open Go Go.RowKit Go.Proofs
noncomputable section
set_option maxRecDepth 10000
set_option maxHeartbeats 2000000
open Classical
def iO (neg:Bool) (l:List Int):AV:=.agg [.bool (neg && decide (Ar l l.length≠0)),X8 (l.take (Ar l l.length))]
theorem Kn (neg:Bool) (l:List Int):Settled (iO neg l):=QB (by simp [Xb,X5])
theorem uU (neg:Bool) (d:List Int) (hl:d.length<4611686018427387904):Fn Tryz.prog 182 [.bool neg,X8 d] (iO neg d):=by
 refine Fq Tryz.call182 Tryz.func182 6 [] [] [] (by simp [Xb,Xa,Kl,Jw,X5,Km,XE,Kn,Jm]) (Xm ?_); simp (maxSteps:=999999) only [AS.start,↓X4,wA,seval,zA,wN]
 refine Xl (fun n:Nat=>⟨6,[],[.bool neg,X8 d,.any,.any,.ref 0 0 0,I n],[],[.row 0 2 (Xh [.bool false,.sl 0 0 (fun _=>.any) true])]⟩) (fun n=>n≤d.length∧Ar d d.length=Ar d n) (fun n=>n) d.length ⟨by omega,rfl⟩
  (C7 (by simp [zA,wN,Xo,X8,CL,Cc,Qr,I]) rfl) ?_
 rintro n ⟨hn,ht⟩ next
 cases n with
 | zero =>
  refine Xm ?_
  simp only [Int.lt_irrefl,↓X4,wA,seval,zA,wN]
  refine Gv (v:=.agg [.bool false,.sl 0 0 (fun _=>.any) false]) rfl (by simp [AS.get,Ql,XW,rd,Qv,Xh,Eb]) ?_
  have e:iO neg d=.agg [.bool false,X8 []]:=by unfold iO; rw [ht]; simp [Ar]
  rw [e]
  exact Gy ⟨Q6 (X5 _) rfl,XC (Xb _) (Qt _ _),trivial⟩
 | succ n =>
  have e0:(0<((n+1:Nat):Int))=True:=eq_true (by omega)
  have e1:(((n+1:Nat):Int)=0)=False:=eq_false (by omega)
  have w1:IntKind.i64.wrap (((n+1:Nat):Int) - 1)=(n:Int):=by rw [IntKind.wrap_i64]; omega
  have e2:(n<d.length)=True:=eq_true (by omega)
  refine Xm ?_
  simp only [e0,e1,e2,w1,↓X4,wA,seval,zA,wN]
  refine ⟨fun h0=>next n _ ⟨by omega,by rw [ht]; simp only [Ar]; rw [if_pos h0]⟩ (by omega) (C7 (by simp [zA,wN,Xo,X8,CL,Cc,Qr,I]) rfl),fun h0=>⟨by omega,?_⟩⟩
  have ht2:Ar d d.length=n+1:=by rw [ht]; simp only [Ar]; rw [if_neg h0]
  have e:iO neg d=.agg [.bool neg,X8 (d.take (n+1))]:=by unfold iO; rw [ht2]; simp
  have hlen:(d.take (n+1)).length=n+1:=by rw [List.length_take]; omega
  rw [e]
  refine Gv (v:=.agg [.bool neg,.sl (n+1) (n+1) (fun j=>.int .i64 (d.getD j 0)) false]) rfl ?_ ?_
  ·have m1:min (n+1) d.length=n+1:=by omega
   simp [AS.get,Ql,XW,rd,Qv,Xh,Eb,m1]
  ·refine Gy ⟨Q6 (X5 _) rfl,XC (Xb _) (GN _ hlen.symm (by omega) fun j hj=>?_),trivial⟩
   rw [hlen] at hj
   rw [Bz d 0 j (n+1) hj]; rfl
set_option linter.defProp false in
def K5:=And.intro @Xb (And.intro @Xa (And.intro @Kl (And.intro @Jw (And.intro @X5 (And.intro @Km (And.intro @XE (And.intro @Kn @Jm)))))))
theorem kF (neg:Bool) {u:Int} (h:0≤u):zA (Kx neg u)=.agg [.bool (neg && decide (u≠0)),X8 (X9 u.toNat)]:=by
 unfold zA
 have e1:(Kx neg u).natAbs=u.toNat:=by unfold Kx; split <;> omega
 rw [e1]
 congr 3
 unfold Kx
 have h0':¬ u<0:=by omega
 cases neg
 ·simp [h0']
 ·have:-u<0↔¬ u=0:=by omega
  simp only [if_true,Bool.true_and,decide_eq_decide,ne_eq]
  exact this
def U (n:Int):AV:=.int .u64 n
theorem Z6 (neg:Bool) (u:Int) (h0:0≤u) (h1:u<18446744073709551616):Fn Tryz.prog 181 [.bool neg,.int .u64 u] (zA (Kx neg u)):=by
 obtain ⟨R,hR⟩:∃ R,R=zA (Kx neg u):=⟨_,rfl⟩
 have eR:=hR.trans (kF neg h0)
 have sR:Settled R:=hR▸XE _
 have b1:u≠0→(neg && decide (u≠0))=neg:=fun h=>by simp [h]
 have w1:IntKind.i64.wrap (u.tmod 1000000000)=u % 1000000000:=by rw [IntKind.wrap_i64,Int.tmod_eq_emod_of_nonneg h0]; omega
 have w2:IntKind.u64.wrap (u.tdiv 1000000000)=u / 1000000000:=by rw [IntKind.wrap_u64,Int.tdiv_eq_ediv_of_nonneg h0]; omega
 have h2:0≤u / 1000000000:=by omega
 have w3:IntKind.i64.wrap (u / 1000000000)=u / 1000000000:=by rw [IntKind.wrap_i64]; omega
 have w4:IntKind.i64.wrap ((u / 1000000000).tmod 1000000000)=u / 1000000000 % 1000000000:=by rw [IntKind.wrap_i64,Int.tmod_eq_emod_of_nonneg h2]; omega
 have w5:IntKind.u64.wrap ((u / 1000000000).tdiv 1000000000)=u / 1000000000 / 1000000000:=by rw [IntKind.wrap_u64,Int.tdiv_eq_ediv_of_nonneg h2]; omega
 have w6:IntKind.i64.wrap (u / 1000000000 / 1000000000)=u / 1000000000 / 1000000000:=by rw [IntKind.wrap_i64]; omega
 rw [← hR]
 refine Fq Tryz.call181 Tryz.func181 6 [] [] [] (by simp [K5]) (Xm ?_); simp (maxSteps:=999999) only [AS.start,↓X4,wA,↓reduceIte,reduceIte,reduceCtorEq,Y1,Y2,Y3,Y4,Y5,Y6,Y7,Y8,Y9,YA,zA,wN]
 simp only [w1,w2,w3,w4,w5,w6]
 refine ⟨fun a=>?_,fun a0=>⟨fun a1=>?_,fun a1=>⟨fun a2=>⟨by omega,by omega,?_⟩,fun a2=>⟨by omega,by omega,by omega,by omega,by omega,?_⟩⟩⟩⟩
 ·rw [a,show (neg && decide ((0:Int)≠0))=false by simp,show (0:Int).toNat=0 from rfl,Qj] at eR
  exact Q5 rfl XW rfl rfl rfl eR sR ⟨Weak.rfl' _,Qt _ _,trivial⟩
 ·have w0:IntKind.i64.wrap u=u:=by rw [IntKind.wrap_i64]; omega
  rw [b1 a0,G1 (by omega) (by omega),Int.toNat_of_nonneg h0] at eR
  rw [w0]
  exact Q5 rfl XW rfl rfl rfl eR sR ⟨Weak.rfl' _,BF rfl rfl,trivial⟩
 ·rw [b1 a0,R7 (by omega) (by omega)] at eR
  have e1:((u.toNat % 1000000000:Nat):Int)=u % 1000000000:=by omega
  have e2:((u.toNat / 1000000000:Nat):Int)=u / 1000000000:=by omega
  rw [e1,e2] at eR
  exact Q5 rfl XW rfl rfl rfl eR sR ⟨Weak.rfl' _,BF rfl rfl,trivial⟩
 ·rw [b1 a0,TU (by omega) (by omega)] at eR
  have e1:((u.toNat % 1000000000:Nat):Int)=u % 1000000000:=by omega
  have e2:((u.toNat / 1000000000 % 1000000000:Nat):Int)=u / 1000000000 % 1000000000:=by omega
  have e3:((u.toNat / 1000000000 / 1000000000:Nat):Int)=u / 1000000000 / 1000000000:=by omega
  rw [e1,e2,e3] at eR
  exact Q5 rfl XW rfl rfl rfl eR sR ⟨Weak.rfl' _,BF rfl rfl,trivial⟩
theorem OV (z:Int):Fn Tryz.prog 187 [zA z] (zA (-z)):=by
 have e:(-z).natAbs=z.natAbs:=by omega
 have e0:z.natAbs=0↔z=0:=by omega
 have e1:(X9 z.natAbs).length=0↔z=0:=digs_len_zero.trans e0
 refine Fq Tryz.call187 Tryz.func187 3 [] [] [] (by simp [K5]) (Xm ?_); simp (maxSteps:=999999) only [AS.start,↓X4,wA,↓reduceIte,reduceIte,reduceCtorEq,Y1,Y2,Y3,Y4,Y5,Y6,Y7,Y8,Y9,YA,zA,wN]
 refine ⟨fun h=>Q5 rfl XW rfl rfl rfl rfl (XE _) ?_,fun h=>Q5 rfl XW rfl rfl rfl rfl (XE _) ?_⟩
 ·rw [e]
  have:decide (-z<0)=decide (0<((X9 z.natAbs).length:Int)):=by rw [decide_eq_decide]; omega
  rw [this]
  exact ⟨Weak.rfl' _,Weak.rfl' _,trivial⟩
 ·rw [e,show decide (-z<0)=false from decide_eq_false (by omega)]
  exact ⟨Weak.rfl' _,Weak.rfl' _,trivial⟩
theorem oy (z:Int):Fn Tryz.prog 191 [zA z] (I z.sign):=by
 have e0:z.natAbs=0↔z=0:=by omega
 have e1:(X9 z.natAbs).length=0↔z=0:=digs_len_zero.trans e0
 refine Fq Tryz.call191 Tryz.func191 4 [] [] [] (by simp [K5]) (Xm ?_); simp (maxSteps:=999999) only [AS.start,↓X4,wA,↓reduceIte,reduceIte,reduceCtorEq,Y1,Y2,Y3,Y4,Y5,Y6,Y7,Y8,Y9,YA,zA,wN]
 refine ⟨fun h=>Xp rfl rfl (Xa _) ?_,fun h=>⟨fun h2=>Xp rfl rfl (Xa _) ?_,fun h2=>Xp rfl rfl (Xa _) ?_⟩⟩
 ·rw [Int.sign_eq_neg_one_of_neg h]; rfl
 ·rw [e1.1 (by omega)]; rfl
 ·rw [Int.sign_eq_one_of_pos (by omega)]; rfl
theorem Pi (d:List Int) (h:Jh d):Fn Tryz.prog 223 [X8 d] (.tup [I (if d.length≤2 then val d else 0),.bool (decide (d.length≤2))]):=by
 have k2:¬ d.length≤2→I 0=I (if d.length≤2 then val d else 0)∧AV.bool false=.bool (decide (d.length≤2)):=fun h=>by simp [h]
 have k1:d.length≤2→∀ x,x=val d→I x=I (if d.length≤2 then val d else 0)∧AV.bool true=.bool (decide (d.length≤2)):=fun h x hx=>by simp [h,hx]
 refine Fq Tryz.call223 Tryz.func223 4 [5] [] [] (by simp [K5]) (Xm ?_); simp (maxSteps:=999999) only [AS.start,↓X4,wA,↓reduceIte,reduceIte,reduceCtorEq,Y1,Y2,Y3,Y4,Y5,Y6,Y7,Y8,Y9,YA,zA,wN]
 have fin:∀ {s:AS} {x:Int},s.get 2=I x→s.get 3=.bool true→d.length≤2→x=val d→RetOk (Jq Tryz.prog Tryz.f223 [] [] (.tup [I (if d.length≤2 then val d else 0),.bool (decide (d.length≤2))])) s:=fun h1 h2 hl hx =>
  jj rfl h1 h2 (Xa _) (X5 _) (k1 hl _ hx).1 (k1 hl _ hx).2
 refine ⟨fun a=>fin rfl rfl (by omega) ?_,fun a0=>⟨fun a=>⟨by omega,by omega,fin rfl rfl (by omega) ?_⟩,fun a1=>⟨fun a=>⟨⟨by omega,by omega⟩,by omega,by omega,by omega,fin rfl rfl (by omega) ?_⟩,fun a2=>jj rfl rfl rfl (Xa _) (X5 _) (k2 (by omega)).1 (k2 (by omega)).2⟩⟩⟩
 ·obtain rfl:d=[]:=List.length_eq_zero_iff.1 (by omega)
  rfl
 ·obtain ⟨x,rfl⟩:=List.length_eq_one_iff.1 (show d.length=1 by omega)
  simp [val]
 ·obtain ⟨x,y,rfl⟩:∃ x y,d=[x,y]:=by
   match d,a with
   | [x,y],_=>exact ⟨x,y,rfl⟩
   | [],h=>exact absurd h (by simp)
   | [_],h=>exact absurd h (by simp)
   | _ :: _ :: _ :: _,h=>exact absurd h (by simp; omega)
  have h1:=h x (by simp)
  have h2:=h y (by simp)
  unfold Q4 at h1 h2
  simp only [List.getD_cons_zero,List.getD_cons_succ,val,IntKind.wrap_i64]
  omega
theorem Rx (a:Int):Fn Tryz.prog 240 [I a] (.bool false):=by
 refine Fq Tryz.call240 Tryz.func240 3 [] [] [] (by simp [K5]) (Xm ?_); simp (maxSteps:=999999) only [AS.start,↓X4,wA,↓reduceIte,reduceIte,reduceCtorEq,Y1,Y2,Y3,Y4,Y5,Y6,Y7,Y8,Y9,YA,zA,wN]
 exact Xp rfl rfl (X5 _) rfl
theorem Vm (a b:Int):Fn Tryz.prog 225 [I a,I b] (I (a - b).sign):=by
 refine Fq Tryz.call225 Tryz.func225 7 [] [] [] (by simp [K5]) (Xm ?_); simp (maxSteps:=999999) only [AS.start,↓X4,wA,↓reduceIte,reduceIte,reduceCtorEq,Y1,Y2,Y3,Y4,Y5,Y6,Y7,Y8,Y9,YA,zA,wN]
 refine X2 (Rx a) rfl ?_
 simp only [↓X4,wA,↓reduceIte,reduceIte,reduceCtorEq,Y1,Y2,Y3,Y4,Y5,Y6,Y7,Y8,Y9,YA,zA,wN]
 refine X2 (Rx b) rfl ?_
 simp only [↓X4,wA,↓reduceIte,reduceIte,reduceCtorEq,Y1,Y2,Y3,Y4,Y5,Y6,Y7,Y8,Y9,YA,zA,wN]
 refine ⟨fun h=>Xp rfl rfl (Xa _) ?_,fun h=>⟨fun h2=>Xp rfl rfl (Xa _) ?_,fun h2=>Xp rfl rfl (Xa _) ?_⟩⟩
 ·rw [Int.sign_eq_neg_one_of_neg (by omega)]; rfl
 ·rw [Int.sign_eq_one_of_pos (by omega)]; rfl
 ·rw [show a - b=0 by omega]; rfl
theorem fo {a b:List Int} (ha:Jh a) (hb:Jh b) (hl:a.length=b.length) {i:Nat} (hi:i<a.length) (he:a.drop (i+1)=b.drop (i+1)) (hne:a.getD i 0≠b.getD i 0) :
  (val a - val b).sign=(a.getD i 0 - b.getD i 0).sign:=by
 rw [Jn a i (by omega),Jn b i (by omega),Kh a i hi,Kh b i (by omega),he]
 have h1:=Q1 (QD ha i)
 have h2:=Q1 (QD hb i)
 have h3:=Zz (QD ha i)
 have h4:=Zz (QD hb i)
 have e1:(a.take i).length=i:=by rw [List.length_take]; omega
 have e2:(b.take i).length=i:=by rw [List.length_take]; omega
 rw [e1] at h3
 rw [e2] at h4
 generalize val (a.take i)=p at *
 generalize val (b.take i)=q at *
 generalize val (b.drop (i+1))=r at *
 generalize a.getD i 0=x at *
 generalize b.getD i 0=y at *
 have hp:=Jk i
 generalize pw i=P at *
 have e:p+P*(x+1000000000*r) - (q+P*(y+1000000000*r))=(p - q)+P*(x - y):=by grind
 rw [e]
 rcases Int.lt_or_gt_of_ne hne with h | h
 ·rw [Int.sign_eq_neg_one_of_neg (show x - y<0 by omega)]
  have:P*(x - y)≤P*(-1):=Int.mul_le_mul_of_nonneg_left (by omega) (by omega)
  exact Int.sign_eq_neg_one_of_neg (by omega)
 ·rw [Int.sign_eq_one_of_pos (show 0<x - y by omega)]
  have:P*1≤P*(x - y):=Int.mul_le_mul_of_nonneg_left (by omega) (by omega)
  exact Int.sign_eq_one_of_pos (by omega)
theorem DV {a b:List Int} (ha:Ah a) (hb:Ah b) (h:a.length<b.length):val a<val b:=by
 have h1:=Zz ha.1
 have hne:b≠[]:=fun e=>by rw [e] at h; simp at h
 have h2:=CH hb hne
 have h3:=Cj (show a.length≤b.length - 1 by omega)
 omega
theorem G3 {a b:List Int} (hl:a.length=b.length) {i:Nat} (hi:i<a.length) (he:a.drop (i+1)=b.drop (i+1)) (h:a.getD i 0=b.getD i 0):a.drop i=b.drop i:=by
 have hi2:i<b.length:=by omega
 rw [List.drop_eq_getElem_cons hi,List.drop_eq_getElem_cons hi2,he]
 rw [List.getD_eq_getElem?_getD,List.getElem?_eq_getElem hi,List.getD_eq_getElem?_getD,List.getElem?_eq_getElem hi2] at h
 simp only [Option.getD_some] at h
 rw [h]
theorem D7 (a b:List Int) (ha:Ah a) (hb:Ah b) (la:a.length<4611686018427387904):Fn Tryz.prog 189 [X8 a,X8 b] (I (val a - val b).sign):=by
 have hc:a.length≠b.length→Fn Tryz.prog 225 [I a.length,I b.length] (I (val a - val b).sign):=fun h=>by
  have e:((a.length:Int) - b.length).sign=(val a - val b).sign:=by
   rcases Nat.lt_or_gt_of_ne h with h' | h'
   ·have:=DV ha hb h'
    rw [Int.sign_eq_neg_one_of_neg (by omega),Int.sign_eq_neg_one_of_neg (by omega)]
   ·have:=DV hb ha h'
    rw [Int.sign_eq_one_of_pos (by omega),Int.sign_eq_one_of_pos (by omega)]
  rw [← e]; exact Vm _ _
 refine Fq Tryz.call189 Tryz.func189 6 [] [] [] (by simp [K5]) (Xm ?_); simp (maxSteps:=999999) only [AS.start,↓X4,wA,seval,zA,wN]
 refine ⟨fun h=>X2 (hc h) rfl ?_,fun hl=>?_⟩
 ·simp only [↓X4,wA,seval,zA,wN]
  exact Xp rfl rfl (Xa _) rfl
 refine Xl (fun k:Nat=>⟨6,[],[X8 a,X8 b,.any,.any,I 0,I ((k:Int) - 1)],[],[]⟩) (fun k=>k≤a.length∧a.drop k=b.drop k) (fun k=>k) a.length ⟨by omega,by rw [List.drop_length,hl,List.drop_length]⟩
  ?_ ?_
 ·have w0:IntKind.i64.wrap ((a.length:Int) - 1)=(a.length:Int) - 1:=by rw [IntKind.wrap_i64]; omega
  rw [w0]
  exact (C7 (by simp [zA,wN,Xo,X8,CL,Cc,Qr,I]) rfl)
 rintro k ⟨hk,he⟩ next
 cases k with
 | zero =>
  refine Xm ?_
  have e0:(0≤((0:Nat):Int) - 1)=False:=eq_false (by omega)
  have e1:((0:Int)≤0 - 1)=False:=eq_false (by omega)
  simp only [e0,e1,↓X4,wA,seval,zA,wN]
  refine Xp rfl rfl (Xa _) ?_
  rw [List.drop_zero,List.drop_zero] at he
  rw [he,Int.sub_self]; rfl
 | succ k =>
  have e1:((k+1:Nat):Int) - 1=(k:Int):=by omega
  have w1:IntKind.i64.wrap ((k:Int) - 1)=(k:Int) - 1:=by rw [IntKind.wrap_i64]; omega
  have e2:((k:Int)<a.length)=True:=eq_true (by omega)
  have e3:(k<a.length)=True:=eq_true (by omega)
  have e4:(k<b.length)=True:=eq_true (by omega)
  have hcm:a.getD k 0≠b.getD k 0→Fn Tryz.prog 225 [I (a.getD k 0),I (b.getD k 0)] (I (val a - val b).sign):=fun h=>by
   rw [fo ha.1 hb.1 hl (by omega) he h]; exact Vm _ _
  refine Xm ?_
  simp only [e1,w1,e3,e4,↓X4,wA,seval,zA,wN]
  refine ⟨fun h=>X2 (hcm h) rfl ?_,fun h=>next k _ ⟨by omega,G3 hl (by omega) he h⟩ (by omega) (C7 (by simp [zA,wN,Xo,X8,CL,Cc,Qr,I]) rfl)⟩
  simp only [↓X4,wA,seval,zA,wN]
  exact Xp rfl rfl (Xa _) rfl
theorem FC (n:Int) (h:Ze n):Fn Tryz.prog 112 [I n] (zA n):=by
 obtain ⟨R,hR⟩:∃ R,R=zA n:=⟨_,rfl⟩
 have sR:Settled R:=hR▸XE _
 unfold Ze at h
 have c1:n<0→Fn Tryz.prog 181 [.bool (decide (n<0)),.int .u64 (IntKind.u64.wrap (0 - IntKind.u64.wrap n))] R:=fun h1=>by
  have e:IntKind.u64.wrap (0 - IntKind.u64.wrap n) = -n:=by rw [IntKind.wrap_u64,IntKind.wrap_u64]; omega
  have e2:Kx (decide (n<0)) (-n)=n:=by unfold Kx; rw [if_pos (decide_eq_true h1)]; omega
  have:=Z6 (decide (n<0)) (-n) (by omega) (by omega)
  rw [e2] at this
  rw [e,hR]; exact this
 have c2:¬ n<0→Fn Tryz.prog 181 [.bool (decide (n<0)),.int .u64 (IntKind.u64.wrap n)] R:=fun h1=>by
  have e:IntKind.u64.wrap n=n:=by rw [IntKind.wrap_u64]; omega
  have e2:Kx (decide (n<0)) n=n:=by unfold Kx; rw [if_neg (by simp; omega)]
  have:=Z6 (decide (n<0)) n (by omega) (by omega)
  rw [e2] at this
  rw [e,hR]; exact this
 rw [← hR]
 refine Fq Tryz.call112 Tryz.func112 4 [] [] [] (by simp [K5]) (Xm ?_); simp (maxSteps:=999999) only [AS.start,↓X4,wA,seval,zA,wN]
 refine ⟨fun h1=>X2 (c1 h1) rfl ?_,fun h1=>X2 (c2 h1) rfl ?_⟩
 ·simp only [hR,↓X4,wA,seval,zA,wN]
  exact Q5 rfl XW rfl rfl rfl hR sR ⟨Weak.rfl' _,Weak.rfl' _,trivial⟩
 ·simp only [hR,↓X4,wA,seval,zA,wN]
  exact Q5 rfl XW rfl rfl rfl hR sR ⟨Weak.rfl' _,Weak.rfl' _,trivial⟩
end
end Go.Ab.N
