/- Own texts. -/
import Derived.Test.YtefjhgcndhepeaaGreatAb4
import Derived.Test.YtefjhgcndhepeaaGreatRows
import Derived.KernelRfl
set_option linter.unusedSimpArgs false
set_option linter.unusedVariables false
open Nat renaming reducePow → Y1, reduceLT → Y2, reduceLeDiff → Y3, reduceEqDiff → Y4, reduceAdd → Y5, reduceMul → Y6, reduceSub → Y7, reduceBEq → Y8, reduceDiv → Y9, reduceMod → YA
namespace Go.Ab.N
open Go.Ab
open Classical
noncomputable section
def pw:Nat→Int
 | 0=>1
 | n+1=>1000000000*pw n
theorem K1:∀ n,0<pw n
 | 0=>by simp [pw]
 | n+1=>by have:=K1 n; simp only [pw]; omega
theorem Fz (m n:Nat):pw (m+n)=pw m*pw n:=by
 induction m with
 | zero=>simp [pw]
 | succ m ih=>rw [show m+1+n=(m+n)+1 by omega]; simp only [pw]; rw [ih,Int.mul_assoc]
theorem D8 {m n:Nat} (h:m≤n):pw m≤pw n:=by
 obtain ⟨k,rfl⟩:=Nat.exists_eq_add_of_le h
 induction k with
 | zero=>exact Int.le_refl _
 | succ k ih =>
  have h1:=ih (by omega)
  have h2:=K1 (m+k)
  rw [show m+(k+1)=(m+k)+1 by omega]
  simp only [pw]; omega
def val:List Int→Int
 | []=>0
 | d :: l=>d+1000000000*val l
def Q6 (d:Int):Prop:=0≤d∧d<1000000000
def Jt (l:List Int):Prop:=∀ d∈l,Q6 d
def Ad (l:List Int):Prop:=Jt l∧(l≠[]→l.getD (l.length - 1) 0≠0)
theorem C6:Jt []:=fun _ h=>by cases h
theorem Z2 {d:Int} {l:List Int}:Jt (d :: l)↔Q6 d∧Jt l:=by unfold Jt; simp
theorem Io {l m:List Int}:Jt (l ++ m)↔Jt l∧Jt m:=by
 unfold Jt
 constructor
 ·exact fun h=>⟨fun d hd=>h d (List.mem_append_left _ hd),fun d hd=>h d (List.mem_append_right _ hd)⟩
 ·rintro ⟨h1,h2⟩ d hd
  rcases List.mem_append.1 hd with h | h
  ·exact h1 d h
  ·exact h2 d h
theorem JD {l:List Int} (h:Jt l) (i:Nat):Q6 (l.getD i 0):=by
 by_cases hi:i<l.length
 ·exact h _ (QS hi)
 ·rw [List.getD_eq_getElem?_getD,List.getElem?_eq_none (by omega)]; exact ⟨by simp,by simp⟩
theorem QM {l:List Int} (h:Jt l) (n:Nat):Jt (l.take n):=fun d hd=>h d (List.mem_of_mem_take hd)
theorem Nc {l:List Int} (h:∀ i,i<l.length→Q6 (l.getD i 0)):Jt l:=by
 intro d hd
 obtain ⟨i,hi,rfl⟩:=List.getElem_of_mem hd
 have:=h i hi
 rwa [List.getD_eq_getElem?_getD,List.getElem?_eq_getElem hi] at this
theorem Q0 {l:List Int} (h:Jt l):0≤val l:=by
 induction l with
 | nil=>exact Int.le_refl 0
 | cons d l ih =>
  obtain ⟨h1,h2⟩:=Z2.1 h
  have:=ih h2
  simp only [val]; unfold Q6 at h1; omega
theorem ZB {l:List Int} (h:Jt l):val l<pw l.length:=by
 induction l with
 | nil=>simp [val,pw]
 | cons d l ih =>
  obtain ⟨h1,h2⟩:=Z2.1 h
  have:=ih h2
  simp only [val,List.length_cons,pw]; unfold Q6 at h1; omega
theorem Pq (l m:List Int):val (l ++ m)=val l+pw l.length*val m:=by
 induction l with
 | nil=>simp [val,pw]
 | cons d l ih =>
  simp only [List.cons_append,val,List.length_cons,pw]
  rw [ih,Int.mul_add,Int.mul_assoc]; omega
theorem Eh (l:List Int) (x:Int):val (l ++ [x])=val l+pw l.length*x:=by
 rw [Pq]; simp [val]
theorem Js (l:List Int) (i:Nat) (h:i<l.length):val (l.take (i+1))=val (l.take i)+pw i*l.getD i 0:=by
 rw [Q3 l 0 i h,Eh,List.length_take,Nat.min_eq_left (by omega)]
theorem EO (n:Nat):val (List.replicate n 0)=0:=by
 induction n with
 | zero=>rfl
 | succ n ih=>simp [List.replicate_succ,val,ih]
theorem Cw {l:List Int} (h:Ad l) (hne:l≠[]):pw (l.length - 1)≤val l:=by
 have hl:=h.2 hne
 have hlen:0<l.length:=List.length_pos_iff.2 hne
 have e:=Js l (l.length - 1) (by omega)
 rw [show l.length - 1+1=l.length by omega,List.take_length] at e
 have h1:=Q0 (QM h.1 (l.length - 1))
 have h2:=JD h.1 (l.length - 1)
 have h3:=K1 (l.length - 1)
 have h4:pw (l.length - 1)*1≤pw (l.length - 1)*l.getD (l.length - 1) 0:=Int.mul_le_mul_of_nonneg_left (by unfold Q6 at h2; omega) (by omega)
 omega
theorem IM:∀ {a b:List Int},Jt a→Jt b→a.length=b.length→val a=val b→a=b
 | [],[],_,_,_,_=>rfl
 | [],_ :: _,_,_,h,_=>by simp at h
 | _ :: _,[],_,_,h,_=>by simp at h
 | x :: a,y :: b,ha,hb,hl,hv=>by
  obtain ⟨h1,h2⟩:=Z2.1 ha
  obtain ⟨h3,h4⟩:=Z2.1 hb
  simp only [val] at hv
  unfold Q6 at h1 h3
  have hxy:x=y:=by omega
  have hv':val a=val b:=by omega
  rw [hxy,IM h2 h4 (by simpa using hl) hv']
theorem ae {a b:List Int} (ha:Ad a) (hb:Ad b) (h:val a=val b):a=b:=by
 have key:∀ {a b:List Int},Ad a→Ad b→val a=val b→a.length≤b.length→a=b:=by
  intro a b ha hb h hl
  by_cases e:a.length=b.length
  ·exact IM ha.1 hb.1 e h
  ·exfalso
   have hne:b≠[]:=fun e'=>by
    have:b.length=0:=by rw [e']; rfl
    omega
   have h1:=Cw hb hne
   have h2:=ZB ha.1
   have h3:=D8 (show a.length≤b.length - 1 by omega)
   omega
 rcases Nat.le_total a.length b.length with hl | hl
 ·exact key ha hb h hl
 ·exact (key hb ha h.symm hl).symm
def X8 (n:Nat):List Int:=if h:n=0 then [] else ((n % 1000000000:Nat):Int) :: X8 (n / 1000000000)
termination_by n
decreasing_by omega
theorem Q1:X8 0=[]:=by rw [X8]; simp
theorem AP {n:Nat} (h:n≠0):X8 n=((n % 1000000000:Nat):Int) :: X8 (n / 1000000000):=by rw [X8]; simp [h]
theorem XC (n:Nat):val (X8 n)=n:=by
 induction n using Nat.strongRecOn with
 | ind n ih =>
  by_cases h:n=0
  ·subst h; rw [Q1]; rfl
  ·rw [AP h]
   simp only [val]
   rw [ih (n / 1000000000) (by omega)]; omega
theorem XL (n:Nat):Jt (X8 n):=by
 induction n using Nat.strongRecOn with
 | ind n ih =>
  by_cases h:n=0
  ·subst h; rw [Q1]; exact C6
  ·rw [AP h]
   exact Z2.2 ⟨⟨by omega,by omega⟩,ih _ (by omega)⟩
theorem Ip {n:Nat} (h:n≠0):X8 n≠[]:=by rw [AP h]; simp
theorem OI {n:Nat}:X8 n=[]↔n=0:=⟨fun h=>Classical.byContradiction fun e=>Ip e h,fun h=>by rw [h]; exact Q1⟩
theorem XT (n:Nat):Ad (X8 n):=by
 refine ⟨XL n,?_⟩
 induction n using Nat.strongRecOn with
 | ind n ih =>
  intro hne
  by_cases h:n=0
  ·subst h; exact absurd Q1 hne
  ·rw [AP h]
   by_cases h2:n / 1000000000=0
   ·rw [h2,Q1]; simp; omega
   ·have hn:=Ip h2
    have:=ih (n / 1000000000) (by omega) hn
    obtain ⟨k,hk⟩:∃ k,(X8 (n / 1000000000)).length=k+1:=⟨(X8 (n / 1000000000)).length - 1,by have:=List.length_pos_iff.2 hn; omega⟩
    simp only [List.length_cons,hk,Nat.add_sub_cancel] at this ⊢
    simpa using this
theorem AL {l:List Int} (h:Ad l):X8 (val l).toNat=l:=by
 refine ae (XT _) h ?_
 rw [XC]
 have:=Q0 h.1
 omega
theorem pt {l:List Int} (h:Jt l):((val l).toNat:Int)=val l:=Int.toNat_of_nonneg (Q0 h)
def An (l:List Int):Nat→Nat
 | 0=>0
 | n+1=>if l.getD n 0=0 then An l n else n+1
theorem WV (l:List Int):∀ n,An l n≤n
 | 0=>Nat.le_refl _
 | n+1=>by
  simp only [An]
  split
  ·exact Nat.le_succ_of_le (WV l n)
  ·exact Nat.le_refl _
theorem Tf {l:List Int}:∀ n,n≤l.length→val (l.take (An l n))=val (l.take n)
 | 0,_=>rfl
 | n+1,h=>by
  simp only [An]
  split
  ·rename_i e
   rw [Tf n (by omega),Js l n h,e]; simp
  ·rfl
theorem Vw {l:List Int} (h:Jt l) (n:Nat) (hn:n≤l.length):Ad (l.take (An l n)):=by
 refine ⟨QM h _,fun hne=>?_⟩
 induction n with
 | zero=>simp [An] at hne
 | succ n ih =>
  simp only [An] at hne ⊢
  split
  ·rename_i e; rw [if_pos e] at hne; exact ih (by omega) hne
  ·rename_i e
   rw [List.length_take,Nat.min_eq_left hn,Nat.add_sub_cancel,Bt l 0 n (n+1) (by omega)]
   exact e
theorem dk {l:List Int} (h:Jt l):l.take (An l l.length)=X8 (val l).toNat:=by
 have h1:=Vw h l.length (Nat.le_refl _)
 rw [← AL h1,Tf _ (Nat.le_refl _),List.take_length]
def sm (f:Nat→Int):Nat→Int
 | 0=>0
 | n+1=>sm f n+pw n*f n
def AM (f:Nat→Int) (n:Nat):List Int:=(List.range n).map f
theorem Qd (f:Nat→Int) (n:Nat):(AM f n).length=n:=by simp [AM]
theorem Eg (f:Nat→Int) (n:Nat):AM f (n+1)=AM f n ++ [f n]:=by simp [AM,List.range_succ]
theorem Cq (f:Nat→Int) (n i:Nat) (h:i<n):(AM f n).getD i 0=f i:=by simp [AM,List.getD_eq_getElem?_getD,h]
theorem KS {f f':Nat→Int} {n:Nat} (h:∀ k,k<n→f k=f' k):AM f n=AM f' n:=List.map_congr_left fun k hk=>h k (by simpa using hk)
theorem GN (f:Nat→Int):∀ n,val (AM f n)=sm f n
 | 0=>rfl
 | n+1=>by rw [Eg,Eh,Qd,GN f n]; rfl
theorem WO (l:List Int):∀ n,n≤l.length→sm (fun i=>l.getD i 0) n=val (l.take n)
 | 0,_=>rfl
 | n+1,h=>by rw [Js l n h,← WO l n (by omega)]; rfl
theorem te (l:List Int) (n:Nat) (h:l.length≤n):sm (fun i=>l.getD i 0) n=val l:=by
 obtain ⟨k,rfl⟩:=Nat.exists_eq_add_of_le h
 induction k with
 | zero=>rw [Nat.add_zero,WO l _ (Nat.le_refl _),List.take_length]
 | succ k ih =>
  rw [show l.length+(k+1)=(l.length+k)+1 by omega]
  simp only [sm]
  rw [ih (by omega)]
  have:l.getD (l.length+k) 0=0:=by rw [List.getD_eq_getElem?_getD,List.getElem?_eq_none (by omega)]; rfl
  rw [this]; simp
theorem CV {f:Nat→Int} {n:Nat} (h:∀ i,i<n→Q6 (f i)):Jt (AM f n):=by
 refine Nc fun i hi=>?_
 rw [Qd] at hi
 rw [Cq _ _ _ hi]; exact h i hi
def Qh (a b:Nat→Int):Nat→Int
 | 0=>0
 | i+1=>if 1000000000≤a i+b i+Qh a b i then 1 else 0
def Ax (a b:Nat→Int) (i:Nat):Int:=if 1000000000≤a i+b i+Qh a b i then a i+b i+Qh a b i - 1000000000 else a i+b i+Qh a b i
theorem DA (a b:Nat→Int):∀ i,Qh a b i=0∨Qh a b i=1
 | 0=>.inl rfl
 | i+1=>by simp only [Qh]; split <;> simp
theorem Pz {a b:Nat→Int} {i:Nat} (ha:Q6 (a i)) (hb:Q6 (b i)):Q6 (Ax a b i):=by
 have:=DA a b i
 unfold Q6 at *
 unfold Ax
 split <;> omega
theorem Oj (a b:Nat→Int):∀ n,sm (Ax a b) n+pw n*Qh a b n=sm a n+sm b n
 | 0=>by simp [sm,Qh]
 | n+1=>by
  have ih:=Oj a b n
  have e:Ax a b n+1000000000*Qh a b (n+1)=a n+b n+Qh a b n:=by
   simp only [Ax,Qh]
   split <;> omega
  simp only [sm,pw]
  have:pw n*(Ax a b n+1000000000*Qh a b (n+1))=pw n*(a n+b n+Qh a b n):=by rw [e]
  grind
def JY (a b:Nat→Int):Nat→Int
 | 0=>0
 | i+1=>if a i - b i - JY a b i<0 then 1 else 0
def Bd (a b:Nat→Int) (i:Nat):Int:=if a i - b i - JY a b i<0 then a i - b i - JY a b i+1000000000 else a i - b i - JY a b i
theorem GI (a b:Nat→Int):∀ i,JY a b i=0∨JY a b i=1
 | 0=>.inl rfl
 | i+1=>by simp only [JY]; split <;> simp
theorem Ta {a b:Nat→Int} {i:Nat} (ha:Q6 (a i)) (hb:Q6 (b i)):Q6 (Bd a b i):=by
 have:=GI a b i
 unfold Q6 at *
 unfold Bd
 split <;> omega
theorem Pj (a b:Nat→Int):∀ n,sm (Bd a b) n - pw n*JY a b n=sm a n - sm b n
 | 0=>by simp [sm,JY]
 | n+1=>by
  have ih:=Pj a b n
  have e:Bd a b n - 1000000000*JY a b (n+1)=a n - b n - JY a b n:=by
   simp only [Bd,JY]
   split <;> omega
  simp only [sm,pw]
  have:pw n*(Bd a b n - 1000000000*JY a b (n+1))=pw n*(a n - b n - JY a b n):=by rw [e]
  grind
theorem qv {f:Nat→Int}:∀ {n:Nat},(∀ i,i<n→Q6 (f i))→0≤sm f n∧sm f n<pw n
 | 0,_=>by simp [sm,pw]
 | n+1,h=>by
  obtain ⟨h1,h2⟩:=qv (n:=n) fun i hi=>h i (by omega)
  have h3:=h n (by omega)
  have h4:=K1 n
  unfold Q6 at h3
  have h5:pw n*f n≤pw n*999999999:=Int.mul_le_mul_of_nonneg_left (by omega) (by omega)
  have h6:0≤pw n*f n:=Int.mul_nonneg (by omega) h3.1
  simp only [sm,pw]; omega
theorem WQ {a b:Nat→Int} {n:Nat} (ha:∀ i,i<n→Q6 (a i)) (hb:∀ i,i<n→Q6 (b i)) (h:sm b n≤sm a n):JY a b n=0:=by
 have h1:=Pj a b n
 have h2:=(qv (f:=Bd a b) (n:=n) fun i hi=>Ta (ha i hi) (hb i hi)).2
 rcases GI a b n with e | e
 ·exact e
 ·rw [e] at h1; omega
theorem QA (l:List Int) (i j:Nat) (x:Int) (hi:i<l.length):(l.set i x).getD j 0=if j=i then x else l.getD j 0:=by
 simp only [List.getD_eq_getElem?_getD,List.getElem?_set]
 by_cases h:i=j
 ·subst h; simp [hi]
 ·simp [h,Ne.symm h]
theorem Ci:∀ (l:List Int) (i:Nat) (x:Int),i<l.length→val (l.set i x)=val l+pw i*(x - l.getD i 0)
 | [],_,_,h=>by simp at h
 | d :: l,0,x,_=>by simp [val,pw]; omega
 | d :: l,i+1,x,h=>by
  have ih:=Ci l i x (by simpa using h)
  simp only [List.set_cons_succ,val,pw,List.getD_cons_succ]
  rw [ih,Int.mul_add,Int.mul_assoc]; omega
theorem Er {l:List Int} (h:Jt l) (i:Nat) {x:Int} (hx:Q6 x):Jt (l.set i x):=fun d hd=>by
 rcases List.mem_or_eq_of_mem_set hd with e | e
 ·exact h d e
 ·rw [e]; exact hx
theorem BC {x y:Int} (hx:Q6 x) (hy:Q6 y):0≤x*y∧x*y≤999999998000000001:=by
 unfold Q6 at hx hy
 have h1:0≤x*y:=Int.mul_nonneg hx.1 hy.1
 have h2:x*y≤999999999*y:=Int.mul_le_mul_of_nonneg_right (by omega) hy.1
 omega
theorem Kw (l:List Int) (i:Nat) (h:i<l.length):val (l.drop i)=l.getD i 0+1000000000*val (l.drop (i+1)):=by
 rw [List.drop_eq_getElem_cons h]
 simp only [val]
 rw [List.getD_eq_getElem?_getD,List.getElem?_eq_getElem h]; rfl
theorem JC (l:List Int) (i:Nat) (h:i≤l.length):val l=val (l.take i)+pw i*val (l.drop i):=by
 conv=>lhs; rw [← List.take_append_drop i l]
 rw [Pq,List.length_take,Nat.min_eq_left h]
def KD (a:Nat→Int) (k:Int):Nat→Int
 | 0=>0
 | i+1=>(a i*k+KD a k i) / 1000000000
def Fu (a:Nat→Int) (k:Int) (i:Nat):Int:=(a i*k+KD a k i) % 1000000000
theorem CC {a:Nat→Int} {k:Int} (ha:∀ i,Q6 (a i)) (hk:Q6 k):∀ i,Q6 (KD a k i)
 | 0=>⟨by simp [KD],by simp [KD]⟩
 | i+1=>by
  have h1:=CC ha hk i
  have h2:=BC (ha i) hk
  simp only [KD]; unfold Q6 at *; omega
theorem j9 {a:Nat→Int} {k:Int} (ha:∀ i,Q6 (a i)) (hk:Q6 k) (i:Nat):Q6 (Fu a k i):=by
 unfold Fu Q6; omega
theorem Wp (a:Nat→Int) (k:Int):∀ n,sm (Fu a k) n+pw n*KD a k n=sm a n*k
 | 0=>by simp [sm,KD]
 | n+1=>by
  have ih:=Wp a k n
  have e:Fu a k n+1000000000*KD a k (n+1)=a n*k+KD a k n:=by
   simp only [Fu,KD]; omega
  have e2:pw n*(Fu a k n+1000000000*KD a k (n+1))=pw n*(a n*k+KD a k n):=by rw [e]
  simp only [sm,pw]
  grind
def K8 (a:List Int) (b:Int) (i:Nat):Int:=val (a.drop i) % b
def Ak (a:List Int) (b:Int) (i:Nat):Int:=(K8 a b (i+1)*1000000000+a.getD i 0) / b
theorem Hk (a:List Int) (b:Int) (i:Nat) (h:i<a.length):K8 a b i=(K8 a b (i+1)*1000000000+a.getD i 0) % b:=by
 unfold K8
 rw [Kw a i h]
 rw [Int.add_comm,Int.mul_comm,Int.add_emod,Int.mul_emod]
 conv=>rhs; rw [Int.add_emod,Int.mul_emod,Int.emod_emod_of_dvd _ (Int.dvd_refl b)]
theorem LZ (a:List Int) (b:Int):K8 a b a.length=0:=by unfold K8; simp [val]
theorem DZ {a:List Int} {b:Int} (ha:Jt a) (hb:0<b) (i:Nat):Q6 (Ak a b i):=by
 have h1:=Int.emod_nonneg (val (a.drop (i+1))) (show b≠0 by omega)
 have h2:=Int.emod_lt_of_pos (val (a.drop (i+1))) hb
 have h3:=JD ha i
 unfold Q6 at *
 unfold Ak K8
 refine ⟨Int.ediv_nonneg (by omega) (by omega),Int.ediv_lt_of_lt_mul hb ?_⟩
 omega
theorem WF {a:List Int} {b:Int} (hb:0<b):∀ i,i≤a.length→val (a.drop (a.length - i))=b*val ((AM (Ak a b) a.length).drop (a.length - i))+K8 a b (a.length - i)
 | 0,_=>by
  have e:(AM (Ak a b) a.length).drop a.length=[]:=by rw [List.drop_eq_nil_iff,Qd]; exact Nat.le_refl _
  simp [e,LZ,val]
 | i+1,h=>by
  have ih:=WF (a:=a) hb i (by omega)
  obtain ⟨k,hk⟩:∃ k,a.length - (i+1)=k:=⟨_,rfl⟩
  have hk1:a.length - i=k+1:=by omega
  rw [hk1] at ih
  rw [hk]
  rw [Kw a k (by omega),Kw (AM (Ak a b) a.length) k (by rw [Qd]; omega),Cq _ _ _ (show k<a.length by omega)]
  have e:=Int.mul_ediv_add_emod (K8 a b (k+1)*1000000000+a.getD k 0) b
  have e2:=Hk a b k (by omega)
  have e3:Ak a b k=(K8 a b (k+1)*1000000000+a.getD k 0) / b:=rfl
  rw [← e3,← e2] at e
  grind
theorem P4 {a:List Int} {b:Int} (hb:0<b):val a=b*val (AM (Ak a b) a.length)+K8 a b 0:=by
 have:=WF (a:=a) hb a.length (Nat.le_refl _)
 simpa using this
def zA (z:Int):AV:=.agg [.bool (decide (z<0)),X7 (X8 z.natAbs)]
theorem XK (z:Int):Settled (zA z):=Qn (by simp [X6,X2])
theorem qf:(!(true == false))=true:=Go.Ab.nrfl rfl
theorem qc:(!(false == true))=true:=Go.Ab.nrfl rfl
theorem qg:(!(true == true))=false:=Go.Ab.nrfl rfl
theorem q9:(!(false == false))=false:=Go.Ab.nrfl rfl
set_option linter.defProp false in
def wN:=And.intro qf (And.intro qc (And.intro qg q9))
def KI (neg:Bool) (v:Int):Int:=if neg=true then -v else v
theorem digs_len_zero {n:Nat}:(X8 n).length=0↔n=0:=by rw [List.length_eq_zero_iff,OI]
theorem qi {l:List Int} (h:Jt l) (neg:Bool):zA (KI neg (val l))=.agg [.bool (neg && decide (An l l.length≠0)),X7 (l.take (An l l.length))]:=by
 have h0:=Q0 h
 have e1:(KI neg (val l)).natAbs=(val l).toNat:=by unfold KI; split <;> omega
 have e2:=dk h
 have hle:=WV l l.length
 have e3:An l l.length=0↔val l=0:=by
  have h1:(l.take (An l l.length)).length=An l l.length:=by rw [List.length_take,Nat.min_eq_left hle]
  rw [← h1,e2,digs_len_zero]; omega
 unfold zA
 rw [e1,e2]
 congr 3
 unfold KI
 have h0':¬ val l<0:=by omega
 cases neg
 ·simp [h0']
 ·have:-val l<0↔¬ An l l.length=0:=by rw [e3]; omega
  simp only [if_true,Bool.true_and,decide_eq_decide]
  exact this
theorem Li {d:Nat} (h0:d≠0) (h:d<1000000000):X8 d=[(d:Int)]:=by
 rw [AP h0,show d / 1000000000=0 by omega,Q1,show d % 1000000000=d by omega]
theorem Rf {d:Nat} (h0:1000000000≤d) (h:d<1000000000000000000):X8 d=[((d % 1000000000:Nat):Int),((d / 1000000000:Nat):Int)]:=by
 rw [AP (by omega),Li (by omega) (by omega)]
theorem Uv {d:Nat} (h0:1000000000000000000≤d) (h:d<18446744073709551616) :
  X8 d=[((d % 1000000000:Nat):Int),((d / 1000000000 % 1000000000:Nat):Int),((d / 1000000000 / 1000000000:Nat):Int)]:=by
 rw [AP (by omega),Rf (by omega) (by omega)]
def dg (l:List Int):Nat→Int:=fun i=>l.getD i 0
theorem Qc {l:List Int} (h:Jt l) (i:Nat):Q6 (dg l i):=JD h i
theorem H7 {l:List Int} {i:Nat} (h:l.length≤i):dg l i=0:=by unfold dg; rw [List.getD_eq_getElem?_getD,List.getElem?_eq_none h]; rfl
theorem Ed (l:List Int) (n:Nat) (h:l.length≤n):sm (dg l) n=val l:=te l n h
def ZY (a b:List Int) (n:Nat):List Int:=AM (Ax (dg a) (dg b)) n ++ [Qh (dg a) (dg b) n]
theorem NQ (a b:List Int) (n:Nat) (ha:a.length≤n) (hb:b.length≤n):val (ZY a b n)=val a+val b:=by
 unfold ZY
 rw [Eh,Qd,GN,Oj,Ed a n ha,Ed b n hb]
theorem NP {a b:List Int} (ha:Jt a) (hb:Jt b) (n:Nat):Jt (ZY a b n):=by
 unfold ZY
 refine Io.2 ⟨CV fun i _=>Pz (Qc ha i) (Qc hb i),Z2.2 ⟨?_,C6⟩⟩
 have:=DA (dg a) (dg b) n
 unfold Q6; omega
theorem EE (a b:List Int) (n:Nat):(ZY a b n).length=n+1:=by simp [ZY,Qd]
def Zy (a b:List Int):List Int:=AM (Bd (dg a) (dg b)) a.length
theorem BG {a b:List Int} (ha:Jt a) (hb:Jt b) (hl:b.length≤a.length) (h:val b≤val a):val (Zy a b)=val a - val b:=by
 unfold Zy
 have e:=WQ (n:=a.length) (fun i _=>Qc ha i) (fun i _=>Qc hb i) (by rw [Ed b _ hl,Ed a _ (Nat.le_refl _)]; exact h)
 have e2:=Pj (dg a) (dg b) a.length
 rw [e,Ed a _ (Nat.le_refl _),Ed b _ hl] at e2
 rw [GN]; omega
theorem BF {a b:List Int} (ha:Jt a) (hb:Jt b):Jt (Zy a b):=CV fun i _=>Ta (Qc ha i) (Qc hb i)
def Jg (a b:List Int) (i:Nat):List Int:=AM (fun j=>if j<i then Bd (dg a) (dg b) j else if j=i then dg a j - JY (dg a) (dg b) i else dg a j) a.length
theorem kc (l:List Int):AM (dg l) l.length=l:=by
 refine List.ext_getElem (by simp [AM]) fun i h1 h2=>?_
 simp [AM,dg,List.getD_eq_getElem?_getD,h2]
theorem S6 (a b:List Int):Jg a b 0=a:=by
 unfold Jg
 conv=>rhs; rw [← kc a]
 refine KS fun k _=>?_
 rw [if_neg (by omega)]
 split
 ·simp [JY]
 ·rfl
theorem UR (a b:List Int):Jg a b a.length=Zy a b:=KS fun k hk=>by rw [if_pos hk]
theorem B8 (f:Nat→Int) (n k:Nat) (x:Int) (h:k<n):(AM f n).set k x=AM (fun q=>if q=k then x else f q) n:=by
 refine List.ext_getElem (by simp [AM]) fun q h1 h2=>?_
 have hq:q<n:=by simpa [Qd] using h2
 by_cases e:k=q
 ·subst e; simp [AM]
 ·simp [AM,List.getElem_set,e,Ne.symm e]
end
end Go.Ab.N
namespace Go.Ab.N
open Go Go.Ab
open Classical
noncomputable section
theorem XO {l m:List AV} (h:WeakL l m):Weak (.agg l) (.agg m):=fun c v hv=>by
 cases hv with
 | agg vs _ hs hr =>
  have:=(kG h) c (.tuple vs) (.tup vs _ hs hr)
  cases this with
  | tup _ _ hs' hr'=>exact .agg vs m hs' hr'
theorem Qo (f:Nat→AV) (t:Bool):Weak (.sl 0 0 f t) (X7 []):=Aq rfl (Nat.le_refl _) fun j hj=>by exact absurd hj (Nat.not_lt_zero j)
theorem A6 {n:Nat} {L:List AV} {l:List Int} {t:Bool} (hn:n=l.length) (h:L=l.map I):Weak (.sl n n (Xn L) t) (X7 l):=by
 subst hn; subst h; exact GR l t
theorem N9 (L:List AV):∀ n off,off+n=L.length→Qp (Xn L) off 0 n=L.drop off:=by
 have key:∀ n off j,off+j+n=L.length→Qp (Xn L) off j n=L.drop (off+j):=by
  intro n
  induction n with
  | zero=>intro off j h; rw [List.drop_eq_nil_iff.2 (by omega)]; rfl
  | succ n ih =>
   intro off j h
   rw [List.drop_eq_getElem_cons (by omega)]
   simp only [Qp]
   rw [ih off (j+1) (by omega)]
   congr 1
   show L.getD (off+j) .any=_
   rw [List.getD_eq_getElem?_getD,List.getElem?_eq_getElem (by omega)]; rfl
 intro n off h
 rw [key n off 0 (by omega)]; rfl
theorem sW {P:Program} {fn:Func} {str hcs:List Nat} {r:AV} {s:AS} {t u id ver n:Nat} {L:List AV} (hr:fn.results=#[.cell t u]) (hk:C8 P u=some (some n)) (hs:s.get t=.ref id ver 0)
  (ho:s.h[id]?=some (.row ver n (Xn L))) (hn:L.length=n) (h:JR s.h (.agg L) r):RetOk (QJ P fn str hcs r) s:=by
 subst hn
 refine BO (v:=.agg L) hr ?_ h
 rw [hs,Ou,hk,Fb,ho,Fc,sN,N9 L _ _ (by omega)]
 simp [Qi]
theorem Qg {P:Program} {fn:Func} {str hcs:List Nat} {r:AV} {s:AS} {t u id ver n:Nat} {L M:List AV} (hr:fn.results=#[.cell t u]) (hk:C8 P u=some (some n)) (hs:s.get t=.ref id ver 0)
  (ho:s.h[id]?=some (.row ver n (Xn L))) (hn:L.length=n) (e:r=.agg M) (hset:Settled r) (h:WeakL L M):RetOk (QJ P fn str hcs r) s:=by
 refine sW hr hk hs ho hn ?_
 subst e
 exact Xr hset (XO h)
end
end Go.Ab.N
namespace Go.Ab.N
open Go Go.RowKit Go.Proofs
theorem vQ:C8 Tryz.prog 3=some none:=by kernel_rfl
theorem th:Zr Tryz.prog 3=some 1:=by kernel_rfl
theorem vO:aW Tryz.prog 3=some .i64:=by kernel_rfl
theorem tD:QN Tryz.prog 3=some [.int .i64 0]:=by kernel_rfl
theorem vR:C8 Tryz.prog 4=some none:=by kernel_rfl
theorem ti:Zr Tryz.prog 4=some 1:=by kernel_rfl
theorem rq:L9 Tryz.prog 4=true:=by kernel_rfl
theorem tE:QN Tryz.prog 4=some [.bool false]:=by kernel_rfl
theorem uE:C8 Tryz.prog 22=some none:=by kernel_rfl
theorem p8:Zr Tryz.prog 22=some 1:=by kernel_rfl
theorem pY:Bb Tryz.prog 22=some (3,1,8):=by kernel_rfl
theorem uF:C8 Tryz.prog 23=some none:=by kernel_rfl
theorem un:Bb Tryz.prog 23=some (110,2,16):=by kernel_rfl
theorem uG:C8 Tryz.prog 24=some none:=by kernel_rfl
theorem p9:Zr Tryz.prog 24=some 1:=by kernel_rfl
theorem uo:Bb Tryz.prog 24=some (4,1,1):=by kernel_rfl
theorem XV:C8 Tryz.prog 26=some (some 2):=by kernel_rfl
theorem pc:Zr Tryz.prog 26=some 2:=by kernel_rfl
theorem mX:Cs Tryz.prog 26 0=some (0,1,none):=by kernel_rfl
theorem lP:QO Tryz.prog 26 0=some (0,1):=by kernel_rfl
theorem mY:Cs Tryz.prog 26 1=some (1,1,none):=by kernel_rfl
theorem lQ:QO Tryz.prog 26 1=some (1,1):=by kernel_rfl
theorem u9:Bg Tryz.prog 26=true:=by kernel_rfl
theorem pF:QN Tryz.prog 26=some [.bool false,.sl 0 0 (fun _=>.any) true]:=by kernel_rfl
theorem Qa:C8 Tryz.prog 28=some (some 4):=by kernel_rfl
theorem pf:Zr Tryz.prog 28=some 4:=by kernel_rfl
theorem mZ:Cs Tryz.prog 28 0=some (0,2,some 2):=by kernel_rfl
theorem lS:QO Tryz.prog 28 0=some (0,2):=by kernel_rfl
theorem nc:Cs Tryz.prog 28 1=some (2,2,some 2):=by kernel_rfl
theorem lU:QO Tryz.prog 28 1=some (2,2):=by kernel_rfl
theorem ua:Bg Tryz.prog 28=true:=by kernel_rfl
theorem pG:QN Tryz.prog 28=some [.bool false,.sl 0 0 (fun _=>.any) true,.bool false,.sl 0 0 (fun _=>.any) true]:=by kernel_rfl
theorem Ge:C8 Tryz.prog 30=some (some 25):=by kernel_rfl
theorem pg:Zr Tryz.prog 30=some 25:=by kernel_rfl
theorem lV:QO Tryz.prog 30 0=some (0,1):=by kernel_rfl
theorem nd:Cs Tryz.prog 30 1=some (1,1,none):=by kernel_rfl
theorem lX:QO Tryz.prog 30 1=some (1,1):=by kernel_rfl
theorem nh:Cs Tryz.prog 30 2=some (2,1,none):=by kernel_rfl
theorem lY:QO Tryz.prog 30 2=some (2,1):=by kernel_rfl
theorem nk:Cs Tryz.prog 30 3=some (3,1,none):=by kernel_rfl
theorem lZ:QO Tryz.prog 30 3=some (3,1):=by kernel_rfl
theorem nl:Cs Tryz.prog 30 4=some (4,1,none):=by kernel_rfl
theorem ma:QO Tryz.prog 30 4=some (4,1):=by kernel_rfl
theorem nm:Cs Tryz.prog 30 5=some (5,4,some 4):=by kernel_rfl
theorem mb:QO Tryz.prog 30 5=some (5,4):=by kernel_rfl
theorem nn:Cs Tryz.prog 30 6=some (9,4,some 4):=by kernel_rfl
theorem mc:QO Tryz.prog 30 6=some (9,4):=by kernel_rfl
theorem np:Cs Tryz.prog 30 7=some (13,4,some 4):=by kernel_rfl
theorem md:QO Tryz.prog 30 7=some (13,4):=by kernel_rfl
theorem nq:Cs Tryz.prog 30 8=some (17,4,some 4):=by kernel_rfl
theorem me:QO Tryz.prog 30 8=some (17,4):=by kernel_rfl
theorem ns:Cs Tryz.prog 30 9=some (21,4,some 4):=by kernel_rfl
theorem mf:QO Tryz.prog 30 9=some (21,4):=by kernel_rfl
theorem ub:Bg Tryz.prog 30=true:=by kernel_rfl
theorem pH:QN Tryz.prog 30=some [.int .i64 0,.int .i64 0,.sl 0 0 (fun _=>.any) true,.sl 0 0 (fun _=>.any) true,.sl 0 0 (fun _=>.any) true,.bool false,.sl 0 0 (fun _=>.any) true,.bool false,.sl 0 0 (fun _=>.any) true,.bool false,.sl 0 0 (fun _=>.any) true,.bool false,.sl 0 0 (fun _=>.any) true,.bool false,.sl 0 0 (fun _=>.any) true,.bool false,.sl 0 0 (fun _=>.any) true,.bool false,.sl 0 0 (fun _=>.any) true,.bool false,.sl 0 0 (fun _=>.any) true,.bool false,.sl 0 0 (fun _=>.any) true,.bool false,.sl 0 0 (fun _=>.any) true]:=by kernel_rfl
theorem uq:Bb Tryz.prog 35=some (28,4,64):=by kernel_rfl
theorem C9:C8 Tryz.prog 48=some (some 8):=by kernel_rfl
theorem ph:Zr Tryz.prog 48=some 8:=by kernel_rfl
theorem nt:Cs Tryz.prog 48 0=some (0,4,some 4):=by kernel_rfl
theorem mg:QO Tryz.prog 48 0=some (0,4):=by kernel_rfl
theorem nu:Cs Tryz.prog 48 1=some (4,4,some 4):=by kernel_rfl
theorem mh:QO Tryz.prog 48 1=some (4,4):=by kernel_rfl
theorem uc:Bg Tryz.prog 48=true:=by kernel_rfl
theorem pI:QN Tryz.prog 48=some [.bool false,.sl 0 0 (fun _=>.any) true,.bool false,.sl 0 0 (fun _=>.any) true,.bool false,.sl 0 0 (fun _=>.any) true,.bool false,.sl 0 0 (fun _=>.any) true]:=by kernel_rfl
theorem Ju:C8 Tryz.prog 50=some (some 8):=by kernel_rfl
theorem pi:Zr Tryz.prog 50=some 8:=by kernel_rfl
theorem nv:Cs Tryz.prog 50 0=some (0,4,some 4):=by kernel_rfl
theorem mi:QO Tryz.prog 50 0=some (0,4):=by kernel_rfl
theorem nw:Cs Tryz.prog 50 1=some (4,4,some 4):=by kernel_rfl
theorem mj:QO Tryz.prog 50 1=some (4,4):=by kernel_rfl
theorem ud:Bg Tryz.prog 50=true:=by kernel_rfl
theorem pJ:QN Tryz.prog 50=some [.bool false,.sl 0 0 (fun _=>.any) true,.bool false,.sl 0 0 (fun _=>.any) true,.bool false,.sl 0 0 (fun _=>.any) true,.bool false,.sl 0 0 (fun _=>.any) true]:=by kernel_rfl
theorem RU:C8 Tryz.prog 52=some (some 29):=by kernel_rfl
theorem pj:Zr Tryz.prog 52=some 29:=by kernel_rfl
theorem ny:Cs Tryz.prog 52 0=some (0,1,none):=by kernel_rfl
theorem ml:QO Tryz.prog 52 0=some (0,1):=by kernel_rfl
theorem nz:Cs Tryz.prog 52 1=some (1,1,none):=by kernel_rfl
theorem mm:QO Tryz.prog 52 1=some (1,1):=by kernel_rfl
theorem nA:Cs Tryz.prog 52 2=some (2,1,none):=by kernel_rfl
theorem mn:QO Tryz.prog 52 2=some (2,1):=by kernel_rfl
theorem nC:Cs Tryz.prog 52 3=some (3,1,none):=by kernel_rfl
theorem mo:QO Tryz.prog 52 3=some (3,1):=by kernel_rfl
theorem nD:Cs Tryz.prog 52 4=some (4,1,none):=by kernel_rfl
theorem mq:QO Tryz.prog 52 4=some (4,1):=by kernel_rfl
theorem nE:Cs Tryz.prog 52 5=some (5,8,some 8):=by kernel_rfl
theorem mr:QO Tryz.prog 52 5=some (5,8):=by kernel_rfl
theorem nF:Cs Tryz.prog 52 6=some (13,8,some 8):=by kernel_rfl
theorem nG:Cs Tryz.prog 52 7=some (21,8,some 8):=by kernel_rfl
theorem ue:Bg Tryz.prog 52=true:=by kernel_rfl
theorem pK:QN Tryz.prog 52=some [.int .i64 0,.int .i64 0,.int .i64 0,.int .i64 0,.int .i64 0,.bool false,.sl 0 0 (fun _=>.any) true,.bool false,.sl 0 0 (fun _=>.any) true,.bool false,.sl 0 0 (fun _=>.any) true,.bool false,.sl 0 0 (fun _=>.any) true,.bool false,.sl 0 0 (fun _=>.any) true,.bool false,.sl 0 0 (fun _=>.any) true,.bool false,.sl 0 0 (fun _=>.any) true,.bool false,.sl 0 0 (fun _=>.any) true,.bool false,.sl 0 0 (fun _=>.any) true,.bool false,.sl 0 0 (fun _=>.any) true,.bool false,.sl 0 0 (fun _=>.any) true,.bool false,.sl 0 0 (fun _=>.any) true]:=by kernel_rfl
theorem Wj:C8 Tryz.prog 54=some (some 79):=by kernel_rfl
theorem pk:Zr Tryz.prog 54=some 79:=by kernel_rfl
theorem nH:Cs Tryz.prog 54 0=some (0,25,some 25):=by kernel_rfl
theorem ms:QO Tryz.prog 54 0=some (0,25):=by kernel_rfl
theorem nI:Cs Tryz.prog 54 1=some (25,25,some 25):=by kernel_rfl
theorem mu:QO Tryz.prog 54 1=some (25,25):=by kernel_rfl
theorem nJ:Cs Tryz.prog 54 2=some (50,29,some 29):=by kernel_rfl
theorem uf:Bg Tryz.prog 54=true:=by kernel_rfl
theorem pL:QN Tryz.prog 54=some [.int .i64 0,.int .i64 0,.sl 0 0 (fun _=>.any) true,.sl 0 0 (fun _=>.any) true,.sl 0 0 (fun _=>.any) true,.bool false,.sl 0 0 (fun _=>.any) true,.bool false,.sl 0 0 (fun _=>.any) true,.bool false,.sl 0 0 (fun _=>.any) true,.bool false,.sl 0 0 (fun _=>.any) true,.bool false,.sl 0 0 (fun _=>.any) true,.bool false,.sl 0 0 (fun _=>.any) true,.bool false,.sl 0 0 (fun _=>.any) true,.bool false,.sl 0 0 (fun _=>.any) true,.bool false,.sl 0 0 (fun _=>.any) true,.bool false,.sl 0 0 (fun _=>.any) true,.int .i64 0,.int .i64 0,.sl 0 0 (fun _=>.any) true,.sl 0 0 (fun _=>.any) true,.sl 0 0 (fun _=>.any) true,.bool false,.sl 0 0 (fun _=>.any) true,.bool false,.sl 0 0 (fun _=>.any) true,.bool false,.sl 0 0 (fun _=>.any) true,.bool false,.sl 0 0 (fun _=>.any) true,.bool false,.sl 0 0 (fun _=>.any) true,.bool false,.sl 0 0 (fun _=>.any) true,.bool false,.sl 0 0 (fun _=>.any) true,.bool false,.sl 0 0 (fun _=>.any) true,.bool false,.sl 0 0 (fun _=>.any) true,.bool false,.sl 0 0 (fun _=>.any) true,.int .i64 0,.int .i64 0,.int .i64 0,.int .i64 0,.int .i64 0,.bool false,.sl 0 0 (fun _=>.any) true,.bool false,.sl 0 0 (fun _=>.any) true,.bool false,.sl 0 0 (fun _=>.any) true,.bool false,.sl 0 0 (fun _=>.any) true,.bool false,.sl 0 0 (fun _=>.any) true,.bool false,.sl 0 0 (fun _=>.any) true,.bool false,.sl 0 0 (fun _=>.any) true,.bool false,.sl 0 0 (fun _=>.any) true,.bool false,.sl 0 0 (fun _=>.any) true,.bool false,.sl 0 0 (fun _=>.any) true,.bool false,.sl 0 0 (fun _=>.any) true,.bool false,.sl 0 0 (fun _=>.any) true]:=by kernel_rfl
theorem uH:C8 Tryz.prog 57=some none:=by kernel_rfl
theorem pm:Zr Tryz.prog 57=some 1:=by kernel_rfl
theorem ur:Bb Tryz.prog 57=some (52,29,424):=by kernel_rfl
theorem pM:QN Tryz.prog 57=some [.sl 0 0 (fun _=>.any) true]:=by kernel_rfl
theorem uI:C8 Tryz.prog 81=some none:=by kernel_rfl
theorem po:Zr Tryz.prog 81=some 1:=by kernel_rfl
theorem ut:Bb Tryz.prog 81=some (50,8,128):=by kernel_rfl
theorem pN:QN Tryz.prog 81=some [.sl 0 0 (fun _=>.any) true]:=by kernel_rfl
theorem uJ:C8 Tryz.prog 84=some (some 16):=by kernel_rfl
theorem pq:Zr Tryz.prog 84=some 16:=by kernel_rfl
theorem nK:Cs Tryz.prog 84 0=some (0,8,some 8):=by kernel_rfl
theorem mv:QO Tryz.prog 84 0=some (0,8):=by kernel_rfl
theorem nM:Cs Tryz.prog 84 1=some (8,8,some 8):=by kernel_rfl
theorem mw:QO Tryz.prog 84 1=some (8,8):=by kernel_rfl
theorem ug:Bg Tryz.prog 84=true:=by kernel_rfl
theorem pO:QN Tryz.prog 84=some [.bool false,.sl 0 0 (fun _=>.any) true,.bool false,.sl 0 0 (fun _=>.any) true,.bool false,.sl 0 0 (fun _=>.any) true,.bool false,.sl 0 0 (fun _=>.any) true,.bool false,.sl 0 0 (fun _=>.any) true,.bool false,.sl 0 0 (fun _=>.any) true,.bool false,.sl 0 0 (fun _=>.any) true,.bool false,.sl 0 0 (fun _=>.any) true]:=by kernel_rfl
theorem iI:C8 Tryz.prog 110=some (some 2):=by kernel_rfl
theorem kg:Zr Tryz.prog 110=some 2:=by kernel_rfl
theorem gY:Cs Tryz.prog 110 0=some (0,1,none):=by kernel_rfl
theorem fG:QO Tryz.prog 110 0=some (0,1):=by kernel_rfl
theorem gZ:Cs Tryz.prog 110 1=some (1,1,none):=by kernel_rfl
theorem fH:QO Tryz.prog 110 1=some (1,1):=by kernel_rfl
theorem rk:Bg Tryz.prog 110=true:=by kernel_rfl
theorem kM:QN Tryz.prog 110=some [.int .i64 0,.int .i64 0]:=by kernel_rfl
theorem sd:C8 Tryz.prog 122=some (some 2):=by kernel_rfl
theorem kh:Zr Tryz.prog 122=some 2:=by kernel_rfl
theorem rF:Bb Tryz.prog 122=none:=by kernel_rfl
theorem fI:QO Tryz.prog 122 0=some (0,1):=by kernel_rfl
theorem fJ:QO Tryz.prog 122 1=some (1,1):=by kernel_rfl
theorem rl:Bg Tryz.prog 122=true:=by kernel_rfl
theorem rc:YN Tryz.prog 122=some (2,1,none):=by kernel_rfl
theorem kN:QN Tryz.prog 122=some [.int .i64 0,.int .i64 0]:=by kernel_rfl
theorem rG:Bb Tryz.prog 123=some (122,2,16):=by kernel_rfl
theorem rH:Bb Tryz.prog 148=some (48,8,128):=by kernel_rfl
theorem rZ:aW Tryz.prog 187=some .u64:=by kernel_rfl
theorem se:C8 Tryz.prog 191=some none:=by kernel_rfl
theorem rI:Bb Tryz.prog 191=some (81,1,24):=by kernel_rfl
theorem s8:aW Tryz.prog 197=some .u64:=by kernel_rfl
theorem rJ:Bb Tryz.prog 241=some (244,3,24):=by kernel_rfl
theorem iJ:C8 Tryz.prog 244=some (some 3):=by kernel_rfl
theorem ki:Zr Tryz.prog 244=some 3:=by kernel_rfl
theorem rK:Bb Tryz.prog 244=none:=by kernel_rfl
theorem fK:QO Tryz.prog 244 0=some (0,1):=by kernel_rfl
theorem fL:QO Tryz.prog 244 1=some (1,1):=by kernel_rfl
theorem fM:QO Tryz.prog 244 2=some (2,1):=by kernel_rfl
theorem rn:Bg Tryz.prog 244=true:=by kernel_rfl
theorem re:YN Tryz.prog 244=some (3,1,none):=by kernel_rfl
theorem kO:QN Tryz.prog 244=some [.int .i64 0,.int .i64 0,.int .i64 0]:=by kernel_rfl
theorem sf:C8 Tryz.prog 249=some none:=by kernel_rfl
theorem i9:Cs Tryz.prog 252 0=some (0,1,none):=by kernel_rfl
theorem fN:QO Tryz.prog 252 0=some (0,1):=by kernel_rfl
theorem ia:Cs Tryz.prog 252 1=some (1,1,none):=by kernel_rfl
theorem rp:Bg Tryz.prog 252=true:=by kernel_rfl
theorem kP:QN Tryz.prog 252=some [.sl 0 0 (fun _=>.any) true,.sl 0 0 (fun _=>.any) true]:=by kernel_rfl
theorem OO:C8 Tryz.prog 255=some (some 1):=by kernel_rfl
theorem kj:Zr Tryz.prog 255=some 1:=by kernel_rfl
theorem ib:Cs Tryz.prog 255 0=some (0,1,none):=by kernel_rfl
theorem kQ:QN Tryz.prog 255=some [.sl 0 0 (fun _=>.any) true]:=by kernel_rfl
theorem mixed:Tryz.prog.follows .mixedOrders=true:=by kernel_rfl
theorem Fq {f:FuncId} {fn:Func} {body:Code} {args:List AV} {r:AV} (he:A7 Tryz.prog f) (hf:Tryz.prog.funcs[f]?=some fn) (n0:Nat) (hid str hcs:List Nat) (hs:∀ a∈args,Settled a) (h:Run (QJ Tryz.prog fn str hcs r) [.code body] (AS.start n0 hid args [])) (hb:fn.body=some body:=by rfl) (hok:Qq fn.ntmps str hcs body=true:=by kernel_rfl) (hlen:args.length≤fn.ntmps:=by exact Nat.le_of_ble_eq_true rfl):Fn Tryz.prog f args r:=Fn.intro he hf hb mixed n0 hid str hcs hok hlen hs h
set_option linter.defProp false in
def tB:=And.intro @vQ <| And.intro @th <| And.intro @vO <| And.intro @tD <| And.intro @vR <| And.intro @ti <| And.intro @rq <| And.intro @tE <| And.intro @uE <| And.intro @p8 <| And.intro @pY <| And.intro @uF <| And.intro @un <| And.intro @uG <| And.intro @p9 <| And.intro @uo <| And.intro @XV <| And.intro @pc <| And.intro @mX <| And.intro @lP <| And.intro @mY <| And.intro @lQ <| And.intro @u9 <| And.intro @pF <| And.intro @Qa <| And.intro @pf <| And.intro @mZ <| And.intro @lS <| And.intro @nc <| And.intro @lU <| And.intro @ua <| And.intro @pG <| And.intro @Ge <| And.intro @pg <| And.intro @lV <| And.intro @nd <| And.intro @lX <| And.intro @nh <| And.intro @lY <| And.intro @nk <| And.intro @lZ <| And.intro @nl <| And.intro @ma <| And.intro @nm <| And.intro @mb <| And.intro @nn <| And.intro @mc <| And.intro @np <| And.intro @md <| And.intro @nq <| And.intro @me <| And.intro @ns <| And.intro @mf <| And.intro @ub <| And.intro @pH <| And.intro @uq <| And.intro @C9 <| And.intro @ph <| And.intro @nt <| And.intro @mg <| And.intro @nu <| And.intro @mh <| And.intro @uc <| And.intro @pI <| And.intro @Ju <| And.intro @pi <| And.intro @nv <| And.intro @mi <| And.intro @nw <| And.intro @mj <| And.intro @ud <| And.intro @pJ <| And.intro @RU <| And.intro @pj <| And.intro @ny <| And.intro @ml <| And.intro @nz <| And.intro @mm <| And.intro @nA <| And.intro @mn <| And.intro @nC <| And.intro @mo <| And.intro @nD <| And.intro @mq <| And.intro @nE <| And.intro @mr <| And.intro @nF <| And.intro @nG <| And.intro @ue <| And.intro @pK <| And.intro @Wj <| And.intro @pk <| And.intro @nH <| And.intro @ms <| And.intro @nI <| And.intro @mu <| And.intro @nJ <| And.intro @uf <| And.intro @pL <| And.intro @uH <| And.intro @pm <| And.intro @ur <| And.intro @pM <| And.intro @uI <| And.intro @po <| And.intro @ut <| And.intro @pN <| And.intro @uJ <| And.intro @pq <| And.intro @nK <| And.intro @mv <| And.intro @nM <| And.intro @mw <| And.intro @ug <| And.intro @pO <| And.intro @iI <| And.intro @kg <| And.intro @gY <| And.intro @fG <| And.intro @gZ <| And.intro @fH <| And.intro @rk <| And.intro @kM <| And.intro @sd <| And.intro @kh <| And.intro @rF <| And.intro @fI <| And.intro @fJ <| And.intro @rl <| And.intro @rc <| And.intro @kN <| And.intro @rG <| And.intro @rH <| And.intro @rZ <| And.intro @se <| And.intro @rI <| And.intro @s8 <| And.intro @rJ <| And.intro @iJ <| And.intro @ki <| And.intro @rK <| And.intro @fK <| And.intro @fL <| And.intro @fM <| And.intro @rn <| And.intro @re <| And.intro @kO <| And.intro @sf <| And.intro @i9 <| And.intro @fN <| And.intro @ia <| And.intro @rp <| And.intro @kP <| And.intro @OO <| And.intro @kj <| And.intro @ib <| @kQ
set_option linter.defProp false in
def wA:=And.intro @vk <| And.intro @vg <| And.intro @vf <| And.intro @beq_self_eq_true.{0} <| And.intro @ite_true.{1} <| And.intro @ite_false.{1} <| And.intro @false_implies <| And.intro @true_implies <| And.intro @implies_true.{1} <| And.intro @implies_true.{0} <| And.intro @eq_self.{1} <| And.intro @ne_eq.{1} <| @tB
theorem Xl {X:Env} {k:List Item} {s:AS} (h:QF (BZ s) fun s=>vc X 1000 k s):Run X k s:=Hv 1000 h
theorem Jm {m:Nat} {s s':AS} (h3:Xf s.sl s'.sl) (h5:s.h=s'.h) (h1:s'.n0=s.n0:=by rfl) (h4:Xq s.tm s'.tm:=by simp [Xq]):Sub m s s':=Xi h1 h3 h4 h5
theorem dK {b m:Nat} {s s':AS} (h3:Xf s.sl s'.sl) (h5:s.h.take m=s'.h) (h6:∀ a∈s'.sl,JO m a) (h8:∀ o∈s'.h,XI m o) (h7:∀ p∈s'.tm,JO m p.2:=by simp [XA]) (h4:Xq s.tm s'.tm:=by simp [Xq]) (h1:s'.n0=s.n0:=by rfl) (hbm:b≤m:=by exact Nat.zero_le _):Sub b s s':=XE hbm h1 h3 h4 h5 h6 h7 h8
end Go.Ab.N
namespace Go.Ab.N
open Go Go.RowKit Go.Proofs
noncomputable section
set_option maxRecDepth 10000
set_option maxHeartbeats 2000000
open Classical
def jd (neg:Bool) (l:List Int):AV:=.agg [.bool (neg && decide (An l l.length≠0)),X7 (l.take (An l l.length))]
theorem Kd (neg:Bool) (l:List Int):Settled (jd neg l):=Qn (by simp [X6,X2])
theorem uO (neg:Bool) (d:List Int) (hl:d.length<4611686018427387904):Fn Tryz.prog 208 [.bool neg,X7 d] (jd neg d):=by
 refine Fq Tryz.call208 Tryz.func208 6 [] [] [] (by simp [X6,X9,K9,Jr,X2,Kc,XK,Kd,Jw]) (Xl ?_); simp (maxSteps:=999999) only [AS.start,↓X1,wA,seval,zA,wN]
 refine Xe (fun n:Nat=>⟨6,[],[.bool neg,X7 d,.any,.any,.ref 0 0 0,I n],[],[.row 0 2 (Xn [.bool false,.sl 0 0 (fun _=>.any) true])]⟩) (fun n=>n≤d.length∧An d d.length=An d n) (fun n=>n) d.length ⟨by omega,rfl⟩
  (Jm (by simp [zA,wN,Xf,X7,CA,A9,Qu,I]) rfl) ?_
 rintro n ⟨hn,ht⟩ next
 cases n with
 | zero =>
  refine Xl ?_
  simp only [Int.lt_irrefl,↓X1,wA,seval,zA,wN]
  refine BO (v:=.agg [.bool false,.sl 0 0 (fun _=>.any) false]) rfl (by simp [AS.get,JP,XV,rd,Qp,Xn,Af]) ?_
  have e:jd neg d=.agg [.bool false,X7 []]:=by unfold jd; rw [ht]; simp [An]
  rw [e]
  exact ZK ⟨QL (X2 _) rfl,Xr (X6 _) (Qo _ _),trivial⟩
 | succ n =>
  have e0:(0<((n+1:Nat):Int))=True:=eq_true (by omega)
  have e1:(((n+1:Nat):Int)=0)=False:=eq_false (by omega)
  have w1:IntKind.i64.wrap (((n+1:Nat):Int) - 1)=(n:Int):=by rw [IntKind.wrap_i64]; omega
  have e2:(n<d.length)=True:=eq_true (by omega)
  refine Xl ?_
  simp only [e0,e1,e2,w1,↓X1,wA,seval,zA,wN]
  refine ⟨fun h0=>next n _ ⟨by omega,by rw [ht]; simp only [An]; rw [if_pos h0]⟩ (by omega) (Jm (by simp [zA,wN,Xf,X7,CA,A9,Qu,I]) rfl),fun h0=>⟨by omega,?_⟩⟩
  have ht2:An d d.length=n+1:=by rw [ht]; simp only [An]; rw [if_neg h0]
  have e:jd neg d=.agg [.bool neg,X7 (d.take (n+1))]:=by unfold jd; rw [ht2]; simp
  have hlen:(d.take (n+1)).length=n+1:=by rw [List.length_take]; omega
  rw [e]
  refine BO (v:=.agg [.bool neg,.sl (n+1) (n+1) (fun j=>.int .i64 (d.getD j 0)) false]) rfl ?_ ?_
  ·have m1:min (n+1) d.length=n+1:=by omega
   simp [AS.get,JP,XV,rd,Qp,Xn,Af,m1]
  ·refine ZK ⟨QL (X2 _) rfl,Xr (X6 _) (GQ _ hlen.symm (by omega) fun j hj=>?_),trivial⟩
   rw [hlen] at hj
   rw [Bt d 0 j (n+1) hj]; rfl
set_option linter.defProp false in
def Kn:=And.intro @X6 (And.intro @X9 (And.intro @K9 (And.intro @Jr (And.intro @X2 (And.intro @Kc (And.intro @XK (And.intro @Kd @Jw)))))))
theorem kL (neg:Bool) {u:Int} (h:0≤u):zA (KI neg u)=.agg [.bool (neg && decide (u≠0)),X7 (X8 u.toNat)]:=by
 unfold zA
 have e1:(KI neg u).natAbs=u.toNat:=by unfold KI; split <;> omega
 rw [e1]
 congr 3
 unfold KI
 have h0':¬ u<0:=by omega
 cases neg
 ·simp [h0']
 ·have:-u<0↔¬ u=0:=by omega
  simp only [if_true,Bool.true_and,decide_eq_decide,ne_eq]
  exact this
def U (n:Int):AV:=.int .u64 n
theorem Zf (neg:Bool) (u:Int) (h0:0≤u) (h1:u<18446744073709551616):Fn Tryz.prog 207 [.bool neg,.int .u64 u] (zA (KI neg u)):=by
 obtain ⟨R,hR⟩:∃ R,R=zA (KI neg u):=⟨_,rfl⟩
 have eR:=hR.trans (kL neg h0)
 have sR:Settled R:=hR▸XK _
 have b1:u≠0→(neg && decide (u≠0))=neg:=fun h=>by simp [h]
 have w1:IntKind.i64.wrap (u.tmod 1000000000)=u % 1000000000:=by rw [IntKind.wrap_i64,Int.tmod_eq_emod_of_nonneg h0]; omega
 have w2:IntKind.u64.wrap (u.tdiv 1000000000)=u / 1000000000:=by rw [IntKind.wrap_u64,Int.tdiv_eq_ediv_of_nonneg h0]; omega
 have h2:0≤u / 1000000000:=by omega
 have w3:IntKind.i64.wrap (u / 1000000000)=u / 1000000000:=by rw [IntKind.wrap_i64]; omega
 have w4:IntKind.i64.wrap ((u / 1000000000).tmod 1000000000)=u / 1000000000 % 1000000000:=by rw [IntKind.wrap_i64,Int.tmod_eq_emod_of_nonneg h2]; omega
 have w5:IntKind.u64.wrap ((u / 1000000000).tdiv 1000000000)=u / 1000000000 / 1000000000:=by rw [IntKind.wrap_u64,Int.tdiv_eq_ediv_of_nonneg h2]; omega
 have w6:IntKind.i64.wrap (u / 1000000000 / 1000000000)=u / 1000000000 / 1000000000:=by rw [IntKind.wrap_i64]; omega
 rw [← hR]
 refine Fq Tryz.call207 Tryz.func207 6 [] [] [] (by simp [Kn]) (Xl ?_); simp (maxSteps:=999999) only [AS.start,↓X1,wA,↓reduceIte,reduceIte,reduceCtorEq,Y1,Y2,Y3,Y4,Y5,Y6,Y7,Y8,Y9,YA,zA,wN]
 simp only [w1,w2,w3,w4,w5,w6]
 refine ⟨fun a=>?_,fun a0=>⟨fun a1=>?_,fun a1=>⟨fun a2=>⟨by omega,by omega,?_⟩,fun a2=>⟨by omega,by omega,by omega,by omega,by omega,?_⟩⟩⟩⟩
 ·rw [a,show (neg && decide ((0:Int)≠0))=false by simp,show (0:Int).toNat=0 from rfl,Q1] at eR
  exact Qg rfl XV rfl rfl rfl eR sR ⟨Weak.rfl' _,Qo _ _,trivial⟩
 ·have w0:IntKind.i64.wrap u=u:=by rw [IntKind.wrap_i64]; omega
  rw [b1 a0,Li (by omega) (by omega),Int.toNat_of_nonneg h0] at eR
  rw [w0]
  exact Qg rfl XV rfl rfl rfl eR sR ⟨Weak.rfl' _,A6 rfl rfl,trivial⟩
 ·rw [b1 a0,Rf (by omega) (by omega)] at eR
  have e1:((u.toNat % 1000000000:Nat):Int)=u % 1000000000:=by omega
  have e2:((u.toNat / 1000000000:Nat):Int)=u / 1000000000:=by omega
  rw [e1,e2] at eR
  exact Qg rfl XV rfl rfl rfl eR sR ⟨Weak.rfl' _,A6 rfl rfl,trivial⟩
 ·rw [b1 a0,Uv (by omega) (by omega)] at eR
  have e1:((u.toNat % 1000000000:Nat):Int)=u % 1000000000:=by omega
  have e2:((u.toNat / 1000000000 % 1000000000:Nat):Int)=u / 1000000000 % 1000000000:=by omega
  have e3:((u.toNat / 1000000000 / 1000000000:Nat):Int)=u / 1000000000 / 1000000000:=by omega
  rw [e1,e2,e3] at eR
  exact Qg rfl XV rfl rfl rfl eR sR ⟨Weak.rfl' _,A6 rfl rfl,trivial⟩
theorem OS (z:Int):Fn Tryz.prog 196 [zA z] (zA (-z)):=by
 have e:(-z).natAbs=z.natAbs:=by omega
 have e0:z.natAbs=0↔z=0:=by omega
 have e1:(X8 z.natAbs).length=0↔z=0:=digs_len_zero.trans e0
 refine Fq Tryz.call196 Tryz.func196 3 [] [] [] (by simp [Kn]) (Xl ?_); simp (maxSteps:=999999) only [AS.start,↓X1,wA,↓reduceIte,reduceIte,reduceCtorEq,Y1,Y2,Y3,Y4,Y5,Y6,Y7,Y8,Y9,YA,zA,wN]
 refine ⟨fun h=>Qg rfl XV rfl rfl rfl rfl (XK _) ?_,fun h=>Qg rfl XV rfl rfl rfl rfl (XK _) ?_⟩
 ·rw [e]
  have:decide (-z<0)=decide (0<((X8 z.natAbs).length:Int)):=by rw [decide_eq_decide]; omega
  rw [this]
  exact ⟨Weak.rfl' _,Weak.rfl' _,trivial⟩
 ·rw [e,show decide (-z<0)=false from decide_eq_false (by omega)]
  exact ⟨Weak.rfl' _,Weak.rfl' _,trivial⟩
theorem oU (z:Int):Fn Tryz.prog 155 [zA z] (I z.sign):=by
 have e0:z.natAbs=0↔z=0:=by omega
 have e1:(X8 z.natAbs).length=0↔z=0:=digs_len_zero.trans e0
 refine Fq Tryz.call155 Tryz.func155 4 [] [] [] (by simp [Kn]) (Xl ?_); simp (maxSteps:=999999) only [AS.start,↓X1,wA,↓reduceIte,reduceIte,reduceCtorEq,Y1,Y2,Y3,Y4,Y5,Y6,Y7,Y8,Y9,YA,zA,wN]
 refine ⟨fun h=>Xt rfl rfl (X9 _) ?_,fun h=>⟨fun h2=>Xt rfl rfl (X9 _) ?_,fun h2=>Xt rfl rfl (X9 _) ?_⟩⟩
 ·rw [Int.sign_eq_neg_one_of_neg h]; rfl
 ·rw [e1.1 (by omega)]; rfl
 ·rw [Int.sign_eq_one_of_pos (by omega)]; rfl
theorem Pn (d:List Int) (h:Jt d):Fn Tryz.prog 226 [X7 d] (.tup [I (if d.length≤2 then val d else 0),.bool (decide (d.length≤2))]):=by
 have k2:¬ d.length≤2→I 0=I (if d.length≤2 then val d else 0)∧AV.bool false=.bool (decide (d.length≤2)):=fun h=>by simp [h]
 have k1:d.length≤2→∀ x,x=val d→I x=I (if d.length≤2 then val d else 0)∧AV.bool true=.bool (decide (d.length≤2)):=fun h x hx=>by simp [h,hx]
 refine Fq Tryz.call226 Tryz.func226 4 [5] [] [] (by simp [Kn]) (Xl ?_); simp (maxSteps:=999999) only [AS.start,↓X1,wA,↓reduceIte,reduceIte,reduceCtorEq,Y1,Y2,Y3,Y4,Y5,Y6,Y7,Y8,Y9,YA,zA,wN]
 have fin:∀ {s:AS} {x:Int},s.get 2=I x→s.get 3=.bool true→d.length≤2→x=val d→RetOk (QJ Tryz.prog Tryz.f226 [] [] (.tup [I (if d.length≤2 then val d else 0),.bool (decide (d.length≤2))])) s:=fun h1 h2 hl hx =>
  SK rfl h1 h2 (X9 _) (X2 _) (k1 hl _ hx).1 (k1 hl _ hx).2
 refine ⟨fun a=>fin rfl rfl (by omega) ?_,fun a0=>⟨fun a=>⟨by omega,by omega,fin rfl rfl (by omega) ?_⟩,fun a1=>⟨fun a=>⟨⟨by omega,by omega⟩,by omega,by omega,by omega,fin rfl rfl (by omega) ?_⟩,fun a2=>SK rfl rfl rfl (X9 _) (X2 _) (k2 (by omega)).1 (k2 (by omega)).2⟩⟩⟩
 ·obtain rfl:d=[]:=List.length_eq_zero_iff.1 (by omega)
  rfl
 ·obtain ⟨x,rfl⟩:=List.length_eq_one_iff.1 (show d.length=1 by omega)
  simp [val]
 ·obtain ⟨x,y,rfl⟩:∃ x y,d=[x,y]:=by
   match d,a with
   | [x,y],_=>exact ⟨x,y,rfl⟩
   | [],h=>exact absurd h (by simp)
   | [_],h=>exact absurd h (by simp)
   | _ :: _ :: _ :: _,h=>exact absurd h (by simp; omega)
  have h1:=h x (by simp)
  have h2:=h y (by simp)
  unfold Q6 at h1 h2
  simp only [List.getD_cons_zero,List.getD_cons_succ,val,IntKind.wrap_i64]
  omega
theorem RP (a:Int):Fn Tryz.prog 267 [I a] (.bool false):=by
 refine Fq Tryz.call267 Tryz.func267 3 [] [] [] (by simp [Kn]) (Xl ?_); simp (maxSteps:=999999) only [AS.start,↓X1,wA,↓reduceIte,reduceIte,reduceCtorEq,Y1,Y2,Y3,Y4,Y5,Y6,Y7,Y8,Y9,YA,zA,wN]
 exact Xt rfl rfl (X2 _) rfl
theorem VY (a b:Int):Fn Tryz.prog 249 [I a,I b] (I (a - b).sign):=by
 refine Fq Tryz.call249 Tryz.func249 7 [] [] [] (by simp [Kn]) (Xl ?_); simp (maxSteps:=999999) only [AS.start,↓X1,wA,↓reduceIte,reduceIte,reduceCtorEq,Y1,Y2,Y3,Y4,Y5,Y6,Y7,Y8,Y9,YA,zA,wN]
 refine X0 (RP a) rfl ?_
 simp only [↓X1,wA,↓reduceIte,reduceIte,reduceCtorEq,Y1,Y2,Y3,Y4,Y5,Y6,Y7,Y8,Y9,YA,zA,wN]
 refine X0 (RP b) rfl ?_
 simp only [↓X1,wA,↓reduceIte,reduceIte,reduceCtorEq,Y1,Y2,Y3,Y4,Y5,Y6,Y7,Y8,Y9,YA,zA,wN]
 refine ⟨fun h=>Xt rfl rfl (X9 _) ?_,fun h=>⟨fun h2=>Xt rfl rfl (X9 _) ?_,fun h2=>Xt rfl rfl (X9 _) ?_⟩⟩
 ·rw [Int.sign_eq_neg_one_of_neg (by omega)]; rfl
 ·rw [Int.sign_eq_one_of_pos (by omega)]; rfl
 ·rw [show a - b=0 by omega]; rfl
theorem gc {a b:List Int} (ha:Jt a) (hb:Jt b) (hl:a.length=b.length) {i:Nat} (hi:i<a.length) (he:a.drop (i+1)=b.drop (i+1)) (hne:a.getD i 0≠b.getD i 0) :
  (val a - val b).sign=(a.getD i 0 - b.getD i 0).sign:=by
 rw [JC a i (by omega),JC b i (by omega),Kw a i hi,Kw b i (by omega),he]
 have h1:=Q0 (QM ha i)
 have h2:=Q0 (QM hb i)
 have h3:=ZB (QM ha i)
 have h4:=ZB (QM hb i)
 have e1:(a.take i).length=i:=by rw [List.length_take]; omega
 have e2:(b.take i).length=i:=by rw [List.length_take]; omega
 rw [e1] at h3
 rw [e2] at h4
 generalize val (a.take i)=p at *
 generalize val (b.take i)=q at *
 generalize val (b.drop (i+1))=r at *
 generalize a.getD i 0=x at *
 generalize b.getD i 0=y at *
 have hp:=K1 i
 generalize pw i=P at *
 have e:p+P*(x+1000000000*r) - (q+P*(y+1000000000*r))=(p - q)+P*(x - y):=by grind
 rw [e]
 rcases Int.lt_or_gt_of_ne hne with h | h
 ·rw [Int.sign_eq_neg_one_of_neg (show x - y<0 by omega)]
  have:P*(x - y)≤P*(-1):=Int.mul_le_mul_of_nonneg_left (by omega) (by omega)
  exact Int.sign_eq_neg_one_of_neg (by omega)
 ·rw [Int.sign_eq_one_of_pos (show 0<x - y by omega)]
  have:P*1≤P*(x - y):=Int.mul_le_mul_of_nonneg_left (by omega) (by omega)
  exact Int.sign_eq_one_of_pos (by omega)
theorem DF {a b:List Int} (ha:Ad a) (hb:Ad b) (h:a.length<b.length):val a<val b:=by
 have h1:=ZB ha.1
 have hne:b≠[]:=fun e=>by rw [e] at h; simp at h
 have h2:=Cw hb hne
 have h3:=D8 (show a.length≤b.length - 1 by omega)
 omega
theorem FZ {a b:List Int} (hl:a.length=b.length) {i:Nat} (hi:i<a.length) (he:a.drop (i+1)=b.drop (i+1)) (h:a.getD i 0=b.getD i 0):a.drop i=b.drop i:=by
 have hi2:i<b.length:=by omega
 rw [List.drop_eq_getElem_cons hi,List.drop_eq_getElem_cons hi2,he]
 rw [List.getD_eq_getElem?_getD,List.getElem?_eq_getElem hi,List.getD_eq_getElem?_getD,List.getElem?_eq_getElem hi2] at h
 simp only [Option.getD_some] at h
 rw [h]
theorem CT (a b:List Int) (ha:Ad a) (hb:Ad b) (la:a.length<4611686018427387904):Fn Tryz.prog 215 [X7 a,X7 b] (I (val a - val b).sign):=by
 have hc:a.length≠b.length→Fn Tryz.prog 249 [I a.length,I b.length] (I (val a - val b).sign):=fun h=>by
  have e:((a.length:Int) - b.length).sign=(val a - val b).sign:=by
   rcases Nat.lt_or_gt_of_ne h with h' | h'
   ·have:=DF ha hb h'
    rw [Int.sign_eq_neg_one_of_neg (by omega),Int.sign_eq_neg_one_of_neg (by omega)]
   ·have:=DF hb ha h'
    rw [Int.sign_eq_one_of_pos (by omega),Int.sign_eq_one_of_pos (by omega)]
  rw [← e]; exact VY _ _
 refine Fq Tryz.call215 Tryz.func215 6 [] [] [] (by simp [Kn]) (Xl ?_); simp (maxSteps:=999999) only [AS.start,↓X1,wA,seval,zA,wN]
 refine ⟨fun h=>X0 (hc h) rfl ?_,fun hl=>?_⟩
 ·simp only [↓X1,wA,seval,zA,wN]
  exact Xt rfl rfl (X9 _) rfl
 refine Xe (fun k:Nat=>⟨6,[],[X7 a,X7 b,.any,.any,I 0,I ((k:Int) - 1)],[],[]⟩) (fun k=>k≤a.length∧a.drop k=b.drop k) (fun k=>k) a.length ⟨by omega,by rw [List.drop_length,hl,List.drop_length]⟩
  ?_ ?_
 ·have w0:IntKind.i64.wrap ((a.length:Int) - 1)=(a.length:Int) - 1:=by rw [IntKind.wrap_i64]; omega
  rw [w0]
  exact (Jm (by simp [zA,wN,Xf,X7,CA,A9,Qu,I]) rfl)
 rintro k ⟨hk,he⟩ next
 cases k with
 | zero =>
  refine Xl ?_
  have e0:(0≤((0:Nat):Int) - 1)=False:=eq_false (by omega)
  have e1:((0:Int)≤0 - 1)=False:=eq_false (by omega)
  simp only [e0,e1,↓X1,wA,seval,zA,wN]
  refine Xt rfl rfl (X9 _) ?_
  rw [List.drop_zero,List.drop_zero] at he
  rw [he,Int.sub_self]; rfl
 | succ k =>
  have e1:((k+1:Nat):Int) - 1=(k:Int):=by omega
  have w1:IntKind.i64.wrap ((k:Int) - 1)=(k:Int) - 1:=by rw [IntKind.wrap_i64]; omega
  have e2:((k:Int)<a.length)=True:=eq_true (by omega)
  have e3:(k<a.length)=True:=eq_true (by omega)
  have e4:(k<b.length)=True:=eq_true (by omega)
  have hcm:a.getD k 0≠b.getD k 0→Fn Tryz.prog 249 [I (a.getD k 0),I (b.getD k 0)] (I (val a - val b).sign):=fun h=>by
   rw [gc ha.1 hb.1 hl (by omega) he h]; exact VY _ _
  refine Xl ?_
  simp only [e1,w1,e3,e4,↓X1,wA,seval,zA,wN]
  refine ⟨fun h=>X0 (hcm h) rfl ?_,fun h=>next k _ ⟨by omega,FZ hl (by omega) he h⟩ (by omega) (Jm (by simp [zA,wN,Xf,X7,CA,A9,Qu,I]) rfl)⟩
  simp only [↓X1,wA,seval,zA,wN]
  exact Xt rfl rfl (X9 _) rfl
theorem Fx (n:Int) (h:KM n):Fn Tryz.prog 148 [I n] (zA n):=by
 obtain ⟨R,hR⟩:∃ R,R=zA n:=⟨_,rfl⟩
 have sR:Settled R:=hR▸XK _
 unfold KM at h
 have c1:n<0→Fn Tryz.prog 207 [.bool (decide (n<0)),.int .u64 (IntKind.u64.wrap (0 - IntKind.u64.wrap n))] R:=fun h1=>by
  have e:IntKind.u64.wrap (0 - IntKind.u64.wrap n) = -n:=by rw [IntKind.wrap_u64,IntKind.wrap_u64]; omega
  have e2:KI (decide (n<0)) (-n)=n:=by unfold KI; rw [if_pos (decide_eq_true h1)]; omega
  have:=Zf (decide (n<0)) (-n) (by omega) (by omega)
  rw [e2] at this
  rw [e,hR]; exact this
 have c2:¬ n<0→Fn Tryz.prog 207 [.bool (decide (n<0)),.int .u64 (IntKind.u64.wrap n)] R:=fun h1=>by
  have e:IntKind.u64.wrap n=n:=by rw [IntKind.wrap_u64]; omega
  have e2:KI (decide (n<0)) n=n:=by unfold KI; rw [if_neg (by simp; omega)]
  have:=Zf (decide (n<0)) n (by omega) (by omega)
  rw [e2] at this
  rw [e,hR]; exact this
 rw [← hR]
 refine Fq Tryz.call148 Tryz.func148 4 [] [] [] (by simp [Kn]) (Xl ?_); simp (maxSteps:=999999) only [AS.start,↓X1,wA,seval,zA,wN]
 refine ⟨fun h1=>X0 (c1 h1) rfl ?_,fun h1=>X0 (c2 h1) rfl ?_⟩
 ·simp only [hR,↓X1,wA,seval,zA,wN]
  exact Qg rfl XV rfl rfl rfl hR sR ⟨Weak.rfl' _,Weak.rfl' _,trivial⟩
 ·simp only [hR,↓X1,wA,seval,zA,wN]
  exact Qg rfl XV rfl rfl rfl hR sR ⟨Weak.rfl' _,Weak.rfl' _,trivial⟩
end
end Go.Ab.N
