/- Contracts of functions of these chapters, for every argument that fits, and what they need. -/
import Derived.Test.YtefjhgcndhepeaaGreatAb4
import Derived.Test.YtefjhgcndhepeaaGreatRows
import Derived.KernelRfl
set_option linter.unusedSimpArgs false
set_option linter.unusedVariables false
open Nat renaming reducePow → Y1, reduceLT → Y2, reduceLeDiff → Y3, reduceEqDiff → Y4, reduceAdd → Y5, reduceMul → Y6, reduceSub → Y7, reduceBEq → Y8, reduceDiv → Y9, reduceMod → YA
namespace Go.Ab.N
open Go.Ab
open Classical
noncomputable section
def pw:Nat→Int
 | 0=>1
 | n+1=>1000000000*pw n
theorem JE:∀ n,0<pw n
 | 0=>by simp [pw]
 | n+1=>by have:=JE n; simp only [pw]; omega
theorem EE (m n:Nat):pw (m+n)=pw m*pw n:=by
 induction m with
 | zero=>simp [pw]
 | succ m ih=>rw [show m+1+n=(m+n)+1 by omega]; simp only [pw]; rw [ih,Int.mul_assoc]
theorem Cr {m n:Nat} (h:m≤n):pw m≤pw n:=by
 obtain ⟨k,rfl⟩:=Nat.exists_eq_add_of_le h
 induction k with
 | zero=>exact Int.le_refl _
 | succ k ih =>
  have h1:=ih (by omega)
  have h2:=JE (m+k)
  rw [show m+(k+1)=(m+k)+1 by omega]
  simp only [pw]; omega
def val:List Int→Int
 | []=>0
 | d :: l=>d+1000000000*val l
def XZ (d:Int):Prop:=0≤d∧d<1000000000
def Jf (l:List Int):Prop:=∀ d∈l,XZ d
def Zw (l:List Int):Prop:=Jf l∧(l≠[]→l.getD (l.length - 1) 0≠0)
theorem Bi:Jf []:=fun _ h=>by cases h
theorem Kz {d:Int} {l:List Int}:Jf (d :: l)↔XZ d∧Jf l:=by unfold Jf; simp
theorem Hk {l m:List Int}:Jf (l ++ m)↔Jf l∧Jf m:=by
 unfold Jf
 constructor
 ·exact fun h=>⟨fun d hd=>h d (List.mem_append_left _ hd),fun d hd=>h d (List.mem_append_right _ hd)⟩
 ·rintro ⟨h1,h2⟩ d hd
  rcases List.mem_append.1 hd with h | h
  ·exact h1 d h
  ·exact h2 d h
theorem Jl {l:List Int} (h:Jf l) (i:Nat):XZ (l.getD i 0):=by
 by_cases hi:i<l.length
 ·exact h _ (JI hi)
 ·rw [List.getD_eq_getElem?_getD,List.getElem?_eq_none (by omega)]; exact ⟨by simp,by simp⟩
theorem QA {l:List Int} (h:Jf l) (n:Nat):Jf (l.take n):=fun d hd=>h d (List.mem_of_mem_take hd)
theorem LZ {l:List Int} (h:∀ i,i<l.length→XZ (l.getD i 0)):Jf l:=by
 intro d hd
 obtain ⟨i,hi,rfl⟩:=List.getElem_of_mem hd
 have:=h i hi
 rwa [List.getD_eq_getElem?_getD,List.getElem?_eq_getElem hi] at this
theorem XS {l:List Int} (h:Jf l):0≤val l:=by
 induction l with
 | nil=>exact Int.le_refl 0
 | cons d l ih =>
  obtain ⟨h1,h2⟩:=Kz.1 h
  have:=ih h2
  simp only [val]; unfold XZ at h1; omega
theorem KW {l:List Int} (h:Jf l):val l<pw l.length:=by
 induction l with
 | nil=>simp [val,pw]
 | cons d l ih =>
  obtain ⟨h1,h2⟩:=Kz.1 h
  have:=ih h2
  simp only [val,List.length_cons,pw]; unfold XZ at h1; omega
theorem NX (l m:List Int):val (l ++ m)=val l+pw l.length*val m:=by
 induction l with
 | nil=>simp [val,pw]
 | cons d l ih =>
  simp only [List.cons_append,val,List.length_cons,pw]
  rw [ih,Int.mul_add,Int.mul_assoc]; omega
theorem Dt (l:List Int) (x:Int):val (l ++ [x])=val l+pw l.length*x:=by
 rw [NX]; simp [val]
theorem Je (l:List Int) (i:Nat) (h:i<l.length):val (l.take (i+1))=val (l.take i)+pw i*l.getD i 0:=by
 rw [QJ l 0 i h,Dt,List.length_take,Nat.min_eq_left (by omega)]
theorem DQ (n:Nat):val (List.replicate n 0)=0:=by
 induction n with
 | zero=>rfl
 | succ n ih=>simp [List.replicate_succ,val,ih]
theorem BO {l:List Int} (h:Zw l) (hne:l≠[]):pw (l.length - 1)≤val l:=by
 have hl:=h.2 hne
 have hlen:0<l.length:=List.length_pos_iff.2 hne
 have e:=Je l (l.length - 1) (by omega)
 rw [show l.length - 1+1=l.length by omega,List.take_length] at e
 have h1:=XS (QA h.1 (l.length - 1))
 have h2:=Jl h.1 (l.length - 1)
 have h3:=JE (l.length - 1)
 have h4:pw (l.length - 1)*1≤pw (l.length - 1)*l.getD (l.length - 1) 0:=Int.mul_le_mul_of_nonneg_left (by unfold XZ at h2; omega) (by omega)
 omega
theorem HF:∀ {a b:List Int},Jf a→Jf b→a.length=b.length→val a=val b→a=b
 | [],[],_,_,_,_=>rfl
 | [],_ :: _,_,_,h,_=>by simp at h
 | _ :: _,[],_,_,h,_=>by simp at h
 | x :: a,y :: b,ha,hb,hl,hv=>by
  obtain ⟨h1,h2⟩:=Kz.1 ha
  obtain ⟨h3,h4⟩:=Kz.1 hb
  simp only [val] at hv
  unfold XZ at h1 h3
  have hxy:x=y:=by omega
  have hv':val a=val b:=by omega
  rw [hxy,HF h2 h4 (by simpa using hl) hv']
theorem W4 {a b:List Int} (ha:Zw a) (hb:Zw b) (h:val a=val b):a=b:=by
 have key:∀ {a b:List Int},Zw a→Zw b→val a=val b→a.length≤b.length→a=b:=by
  intro a b ha hb h hl
  by_cases e:a.length=b.length
  ·exact HF ha.1 hb.1 e h
  ·exfalso
   have hne:b≠[]:=fun e'=>by
    have:b.length=0:=by rw [e']; rfl
    omega
   have h1:=BO hb hne
   have h2:=KW ha.1
   have h3:=Cr (show a.length≤b.length - 1 by omega)
   omega
 rcases Nat.le_total a.length b.length with hl | hl
 ·exact key ha hb h hl
 ·exact (key hb ha h.symm hl).symm
def X9 (n:Nat):List Int:=if h:n=0 then [] else ((n % 1000000000:Nat):Int) :: X9 (n / 1000000000)
termination_by n
decreasing_by omega
theorem XX:X9 0=[]:=by rw [X9]; simp
theorem A7 {n:Nat} (h:n≠0):X9 n=((n % 1000000000:Nat):Int) :: X9 (n / 1000000000):=by rw [X9]; simp [h]
theorem Xx (n:Nat):val (X9 n)=n:=by
 induction n using Nat.strongRecOn with
 | ind n ih =>
  by_cases h:n=0
  ·subst h; rw [XX]; rfl
  ·rw [A7 h]
   simp only [val]
   rw [ih (n / 1000000000) (by omega)]; omega
theorem XF (n:Nat):Jf (X9 n):=by
 induction n using Nat.strongRecOn with
 | ind n ih =>
  by_cases h:n=0
  ·subst h; rw [XX]; exact Bi
  ·rw [A7 h]
   exact Kz.2 ⟨⟨by omega,by omega⟩,ih _ (by omega)⟩
theorem Hl {n:Nat} (h:n≠0):X9 n≠[]:=by rw [A7 h]; simp
theorem Nn {n:Nat}:X9 n=[]↔n=0:=⟨fun h=>Classical.byContradiction fun e=>Hl e h,fun h=>by rw [h]; exact XX⟩
theorem XK (n:Nat):Zw (X9 n):=by
 refine ⟨XF n,?_⟩
 induction n using Nat.strongRecOn with
 | ind n ih =>
  intro hne
  by_cases h:n=0
  ·subst h; exact absurd XX hne
  ·rw [A7 h]
   by_cases h2:n / 1000000000=0
   ·rw [h2,XX]; simp; omega
   ·have hn:=Hl h2
    have:=ih (n / 1000000000) (by omega) hn
    obtain ⟨k,hk⟩:∃ k,(X9 (n / 1000000000)).length=k+1:=⟨(X9 (n / 1000000000)).length - 1,by have:=List.length_pos_iff.2 hn; omega⟩
    simp only [List.length_cons,hk,Nat.add_sub_cancel] at this ⊢
    simpa using this
theorem A4 {l:List Int} (h:Zw l):X9 (val l).toNat=l:=by
 refine W4 (XK _) h ?_
 rw [Xx]
 have:=XS h.1
 omega
theorem mo {l:List Int} (h:Jf l):((val l).toNat:Int)=val l:=Int.toNat_of_nonneg (XS h)
def ZG (l:List Int):Nat→Nat
 | 0=>0
 | n+1=>if l.getD n 0=0 then ZG l n else n+1
theorem V8 (l:List Int):∀ n,ZG l n≤n
 | 0=>Nat.le_refl _
 | n+1=>by
  simp only [ZG]
  split
  ·exact Nat.le_succ_of_le (V8 l n)
  ·exact Nat.le_refl _
theorem Rv {l:List Int}:∀ n,n≤l.length→val (l.take (ZG l n))=val (l.take n)
 | 0,_=>rfl
 | n+1,h=>by
  simp only [ZG]
  split
  ·rename_i e
   rw [Rv n (by omega),Je l n h,e]; simp
  ·rfl
theorem TE {l:List Int} (h:Jf l) (n:Nat) (hn:n≤l.length):Zw (l.take (ZG l n)):=by
 refine ⟨QA h _,fun hne=>?_⟩
 induction n with
 | zero=>simp [ZG] at hne
 | succ n ih =>
  simp only [ZG] at hne ⊢
  split
  ·rename_i e; rw [if_pos e] at hne; exact ih (by omega) hne
  ·rename_i e
   rw [List.length_take,Nat.min_eq_left hn,Nat.add_sub_cancel,Aw l 0 n (n+1) (by omega)]
   exact e
theorem YH {l:List Int} (h:Jf l):l.take (ZG l l.length)=X9 (val l).toNat:=by
 have h1:=TE h l.length (Nat.le_refl _)
 rw [← A4 h1,Rv _ (Nat.le_refl _),List.take_length]
def sm (f:Nat→Int):Nat→Int
 | 0=>0
 | n+1=>sm f n+pw n*f n
def A5 (f:Nat→Int) (n:Nat):List Int:=(List.range n).map f
theorem Q4 (f:Nat→Int) (n:Nat):(A5 f n).length=n:=by simp [A5]
theorem Ds (f:Nat→Int) (n:Nat):A5 f (n+1)=A5 f n ++ [f n]:=by simp [A5,List.range_succ]
theorem BG (f:Nat→Int) (n i:Nat) (h:i<n):(A5 f n).getD i 0=f i:=by simp [A5,List.getD_eq_getElem?_getD,h]
theorem Kq {f f':Nat→Int} {n:Nat} (h:∀ k,k<n→f k=f' k):A5 f n=A5 f' n:=List.map_congr_left fun k hk=>h k (by simpa using hk)
theorem FO (f:Nat→Int):∀ n,val (A5 f n)=sm f n
 | 0=>rfl
 | n+1=>by rw [Ds,Dt,Q4,FO f n]; rfl
theorem V0 (l:List Int):∀ n,n≤l.length→sm (fun i=>l.getD i 0) n=val (l.take n)
 | 0,_=>rfl
 | n+1,h=>by rw [Je l n h,← V0 l n (by omega)]; rfl
theorem pU (l:List Int) (n:Nat) (h:l.length≤n):sm (fun i=>l.getD i 0) n=val l:=by
 obtain ⟨k,rfl⟩:=Nat.exists_eq_add_of_le h
 induction k with
 | zero=>rw [Nat.add_zero,V0 l _ (Nat.le_refl _),List.take_length]
 | succ k ih =>
  rw [show l.length+(k+1)=(l.length+k)+1 by omega]
  simp only [sm]
  rw [ih (by omega)]
  have:l.getD (l.length+k) 0=0:=by rw [List.getD_eq_getElem?_getD,List.getElem?_eq_none (by omega)]; rfl
  rw [this]; simp
theorem Cj {f:Nat→Int} {n:Nat} (h:∀ i,i<n→XZ (f i)):Jf (A5 f n):=by
 refine LZ fun i hi=>?_
 rw [Q4] at hi
 rw [BG _ _ _ hi]; exact h i hi
def Q8 (a b:Nat→Int):Nat→Int
 | 0=>0
 | i+1=>if 1000000000≤a i+b i+Q8 a b i then 1 else 0
def ZN (a b:Nat→Int) (i:Nat):Int:=if 1000000000≤a i+b i+Q8 a b i then a i+b i+Q8 a b i - 1000000000 else a i+b i+Q8 a b i
theorem CP (a b:Nat→Int):∀ i,Q8 a b i=0∨Q8 a b i=1
 | 0=>.inl rfl
 | i+1=>by simp only [Q8]; split <;> simp
theorem O8 {a b:Nat→Int} {i:Nat} (ha:XZ (a i)) (hb:XZ (b i)):XZ (ZN a b i):=by
 have:=CP a b i
 unfold XZ at *
 unfold ZN
 split <;> omega
theorem MZ (a b:Nat→Int):∀ n,sm (ZN a b) n+pw n*Q8 a b n=sm a n+sm b n
 | 0=>by simp [sm,Q8]
 | n+1=>by
  have ih:=MZ a b n
  have e:ZN a b n+1000000000*Q8 a b (n+1)=a n+b n+Q8 a b n:=by
   simp only [ZN,Q8]
   split <;> omega
  simp only [sm,pw]
  have:pw n*(ZN a b n+1000000000*Q8 a b (n+1))=pw n*(a n+b n+Q8 a b n):=by rw [e]
  grind
def JB (a b:Nat→Int):Nat→Int
 | 0=>0
 | i+1=>if a i - b i - JB a b i<0 then 1 else 0
def Al (a b:Nat→Int) (i:Nat):Int:=if a i - b i - JB a b i<0 then a i - b i - JB a b i+1000000000 else a i - b i - JB a b i
theorem FH (a b:Nat→Int):∀ i,JB a b i=0∨JB a b i=1
 | 0=>.inl rfl
 | i+1=>by simp only [JB]; split <;> simp
theorem Rq {a b:Nat→Int} {i:Nat} (ha:XZ (a i)) (hb:XZ (b i)):XZ (Al a b i):=by
 have:=FH a b i
 unfold XZ at *
 unfold Al
 split <;> omega
theorem NS (a b:Nat→Int):∀ n,sm (Al a b) n - pw n*JB a b n=sm a n - sm b n
 | 0=>by simp [sm,JB]
 | n+1=>by
  have ih:=NS a b n
  have e:Al a b n - 1000000000*JB a b (n+1)=a n - b n - JB a b n:=by
   simp only [Al,JB]
   split <;> omega
  simp only [sm,pw]
  have:pw n*(Al a b n - 1000000000*JB a b (n+1))=pw n*(a n - b n - JB a b n):=by rw [e]
  grind
theorem nq {f:Nat→Int}:∀ {n:Nat},(∀ i,i<n→XZ (f i))→0≤sm f n∧sm f n<pw n
 | 0,_=>by simp [sm,pw]
 | n+1,h=>by
  obtain ⟨h1,h2⟩:=nq (n:=n) fun i hi=>h i (by omega)
  have h3:=h n (by omega)
  have h4:=JE n
  unfold XZ at h3
  have h5:pw n*f n≤pw n*999999999:=Int.mul_le_mul_of_nonneg_left (by omega) (by omega)
  have h6:0≤pw n*f n:=Int.mul_nonneg (by omega) h3.1
  simp only [sm,pw]; omega
theorem V3 {a b:Nat→Int} {n:Nat} (ha:∀ i,i<n→XZ (a i)) (hb:∀ i,i<n→XZ (b i)) (h:sm b n≤sm a n):JB a b n=0:=by
 have h1:=NS a b n
 have h2:=(nq (f:=Al a b) (n:=n) fun i hi=>Rq (ha i hi) (hb i hi)).2
 rcases FH a b n with e | e
 ·exact e
 ·rw [e] at h1; omega
theorem Qp (l:List Int) (i j:Nat) (x:Int) (hi:i<l.length):(l.set i x).getD j 0=if j=i then x else l.getD j 0:=by
 simp only [List.getD_eq_getElem?_getD,List.getElem?_set]
 by_cases h:i=j
 ·subst h; simp [hi]
 ·simp [h,Ne.symm h]
theorem Bw:∀ (l:List Int) (i:Nat) (x:Int),i<l.length→val (l.set i x)=val l+pw i*(x - l.getD i 0)
 | [],_,_,h=>by simp at h
 | d :: l,0,x,_=>by simp [val,pw]; omega
 | d :: l,i+1,x,h=>by
  have ih:=Bw l i x (by simpa using h)
  simp only [List.set_cons_succ,val,pw,List.getD_cons_succ]
  rw [ih,Int.mul_add,Int.mul_assoc]; omega
theorem DA {l:List Int} (h:Jf l) (i:Nat) {x:Int} (hx:XZ x):Jf (l.set i x):=fun d hd=>by
 rcases List.mem_or_eq_of_mem_set hd with e | e
 ·exact h d e
 ·rw [e]; exact hx
theorem AE {x y:Int} (hx:XZ x) (hy:XZ y):0≤x*y∧x*y≤999999998000000001:=by
 unfold XZ at hx hy
 have h1:0≤x*y:=Int.mul_nonneg hx.1 hy.1
 have h2:x*y≤999999999*y:=Int.mul_le_mul_of_nonneg_right (by omega) hy.1
 omega
theorem K7 (l:List Int) (i:Nat) (h:i<l.length):val (l.drop i)=l.getD i 0+1000000000*val (l.drop (i+1)):=by
 rw [List.drop_eq_getElem_cons h]
 simp only [val]
 rw [List.getD_eq_getElem?_getD,List.getElem?_eq_getElem h]; rfl
theorem Jk (l:List Int) (i:Nat) (h:i≤l.length):val l=val (l.take i)+pw i*val (l.drop i):=by
 conv=>lhs; rw [← List.take_append_drop i l]
 rw [NX,List.length_take,Nat.min_eq_left h]
def Kh (a:Nat→Int) (k:Int):Nat→Int
 | 0=>0
 | i+1=>(a i*k+Kh a k i) / 1000000000
def Ex (a:Nat→Int) (k:Int) (i:Nat):Int:=(a i*k+Kh a k i) % 1000000000
theorem BZ {a:Nat→Int} {k:Int} (ha:∀ i,XZ (a i)) (hk:XZ k):∀ i,XZ (Kh a k i)
 | 0=>⟨by simp [Kh],by simp [Kh]⟩
 | i+1=>by
  have h1:=BZ ha hk i
  have h2:=AE (ha i) hk
  simp only [Kh]; unfold XZ at *; omega
theorem fj {a:Nat→Int} {k:Int} (ha:∀ i,XZ (a i)) (hk:XZ k) (i:Nat):XZ (Ex a k i):=by
 unfold Ex XZ; omega
theorem Ux (a:Nat→Int) (k:Int):∀ n,sm (Ex a k) n+pw n*Kh a k n=sm a n*k
 | 0=>by simp [sm,Kh]
 | n+1=>by
  have ih:=Ux a k n
  have e:Ex a k n+1000000000*Kh a k (n+1)=a n*k+Kh a k n:=by
   simp only [Ex,Kh]; omega
  have e2:pw n*(Ex a k n+1000000000*Kh a k (n+1))=pw n*(a n*k+Kh a k n):=by rw [e]
  simp only [sm,pw]
  grind
def JK (a:List Int) (b:Int) (i:Nat):Int:=val (a.drop i) % b
def ZC (a:List Int) (b:Int) (i:Nat):Int:=(JK a b (i+1)*1000000000+a.getD i 0) / b
theorem Gh (a:List Int) (b:Int) (i:Nat) (h:i<a.length):JK a b i=(JK a b (i+1)*1000000000+a.getD i 0) % b:=by
 unfold JK
 rw [K7 a i h]
 rw [Int.add_comm,Int.mul_comm,Int.add_emod,Int.mul_emod]
 conv=>rhs; rw [Int.add_emod,Int.mul_emod,Int.emod_emod_of_dvd _ (Int.dvd_refl b)]
theorem IH (a:List Int) (b:Int):JK a b a.length=0:=by unfold JK; simp [val]
theorem Di {a:List Int} {b:Int} (ha:Jf a) (hb:0<b) (i:Nat):XZ (ZC a b i):=by
 have h1:=Int.emod_nonneg (val (a.drop (i+1))) (show b≠0 by omega)
 have h2:=Int.emod_lt_of_pos (val (a.drop (i+1))) hb
 have h3:=Jl ha i
 unfold XZ at *
 unfold ZC JK
 refine ⟨Int.ediv_nonneg (by omega) (by omega),Int.ediv_lt_of_lt_mul hb ?_⟩
 omega
theorem UQ {a:List Int} {b:Int} (hb:0<b):∀ i,i≤a.length→val (a.drop (a.length - i))=b*val ((A5 (ZC a b) a.length).drop (a.length - i))+JK a b (a.length - i)
 | 0,_=>by
  have e:(A5 (ZC a b) a.length).drop a.length=[]:=by rw [List.drop_eq_nil_iff,Q4]; exact Nat.le_refl _
  simp [e,IH,val]
 | i+1,h=>by
  have ih:=UQ (a:=a) hb i (by omega)
  obtain ⟨k,hk⟩:∃ k,a.length - (i+1)=k:=⟨_,rfl⟩
  have hk1:a.length - i=k+1:=by omega
  rw [hk1] at ih
  rw [hk]
  rw [K7 a k (by omega),K7 (A5 (ZC a b) a.length) k (by rw [Q4]; omega),BG _ _ _ (show k<a.length by omega)]
  have e:=Int.mul_ediv_add_emod (JK a b (k+1)*1000000000+a.getD k 0) b
  have e2:=Gh a b k (by omega)
  have e3:ZC a b k=(JK a b (k+1)*1000000000+a.getD k 0) / b:=rfl
  rw [← e3,← e2] at e
  grind
theorem NH {a:List Int} {b:Int} (hb:0<b):val a=b*val (A5 (ZC a b) a.length)+JK a b 0:=by
 have:=UQ (a:=a) hb a.length (Nat.le_refl _)
 simpa using this
def zA (z:Int):AV:=.agg [.bool (decide (z<0)),X6 (X9 z.natAbs)]
theorem XB (z:Int):Settled (zA z):=Qj (by simp [X5,X3])
theorem mW:(!(true == false))=true:=Go.Ab.nrfl rfl
theorem mV:(!(false == true))=true:=Go.Ab.nrfl rfl
theorem mX:(!(true == true))=false:=Go.Ab.nrfl rfl
theorem mU:(!(false == false))=false:=Go.Ab.nrfl rfl
set_option linter.defProp false in
def wN:=And.intro mW (And.intro mV (And.intro mX mU))
def Km (neg:Bool) (v:Int):Int:=if neg=true then -v else v
theorem digs_len_zero {n:Nat}:(X9 n).length=0↔n=0:=by rw [List.length_eq_zero_iff,Nn]
theorem mZ {l:List Int} (h:Jf l) (neg:Bool):zA (Km neg (val l))=.agg [.bool (neg && decide (ZG l l.length≠0)),X6 (l.take (ZG l l.length))]:=by
 have h0:=XS h
 have e1:(Km neg (val l)).natAbs=(val l).toNat:=by unfold Km; split <;> omega
 have e2:=YH h
 have hle:=V8 l l.length
 have e3:ZG l l.length=0↔val l=0:=by
  have h1:(l.take (ZG l l.length)).length=ZG l l.length:=by rw [List.length_take,Nat.min_eq_left hle]
  rw [← h1,e2,digs_len_zero]; omega
 unfold zA
 rw [e1,e2]
 congr 3
 unfold Km
 have h0':¬ val l<0:=by omega
 cases neg
 ·simp [h0']
 ·have:-val l<0↔¬ ZG l l.length=0:=by rw [e3]; omega
  simp only [if_true,Bool.true_and,decide_eq_decide]
  exact this
theorem I4 {d:Nat} (h0:d≠0) (h:d<1000000000):X9 d=[(d:Int)]:=by
 rw [A7 h0,show d / 1000000000=0 by omega,XX,show d % 1000000000=d by omega]
theorem OK {d:Nat} (h0:1000000000≤d) (h:d<1000000000000000000):X9 d=[((d % 1000000000:Nat):Int),((d / 1000000000:Nat):Int)]:=by
 rw [A7 (by omega),I4 (by omega) (by omega)]
theorem SI {d:Nat} (h0:1000000000000000000≤d) (h:d<18446744073709551616) :
  X9 d=[((d % 1000000000:Nat):Int),((d / 1000000000 % 1000000000:Nat):Int),((d / 1000000000 / 1000000000:Nat):Int)]:=by
 rw [A7 (by omega),OK (by omega) (by omega)]
def dg (l:List Int):Nat→Int:=fun i=>l.getD i 0
theorem Q3 {l:List Int} (h:Jf l) (i:Nat):XZ (dg l i):=Jl h i
theorem G6 {l:List Int} {i:Nat} (h:l.length≤i):dg l i=0:=by unfold dg; rw [List.getD_eq_getElem?_getD,List.getElem?_eq_none h]; rfl
theorem Dq (l:List Int) (n:Nat) (h:l.length≤n):sm (dg l) n=val l:=pU l n h
def Zj (a b:List Int) (n:Nat):List Int:=A5 (ZN (dg a) (dg b)) n ++ [Q8 (dg a) (dg b) n]
theorem My (a b:List Int) (n:Nat) (ha:a.length≤n) (hb:b.length≤n):val (Zj a b n)=val a+val b:=by
 unfold Zj
 rw [Dt,Q4,FO,MZ,Dq a n ha,Dq b n hb]
theorem Mx {a b:List Int} (ha:Jf a) (hb:Jf b) (n:Nat):Jf (Zj a b n):=by
 unfold Zj
 refine Hk.2 ⟨Cj fun i _=>O8 (Q3 ha i) (Q3 hb i),Kz.2 ⟨?_,Bi⟩⟩
 have:=CP (dg a) (dg b) n
 unfold XZ; omega
theorem DG (a b:List Int) (n:Nat):(Zj a b n).length=n+1:=by simp [Zj,Q4]
def KU (a b:List Int):List Int:=A5 (Al (dg a) (dg b)) a.length
theorem AJ {a b:List Int} (ha:Jf a) (hb:Jf b) (hl:b.length≤a.length) (h:val b≤val a):val (KU a b)=val a - val b:=by
 unfold KU
 have e:=V3 (n:=a.length) (fun i _=>Q3 ha i) (fun i _=>Q3 hb i) (by rw [Dq b _ hl,Dq a _ (Nat.le_refl _)]; exact h)
 have e2:=NS (dg a) (dg b) a.length
 rw [e,Dq a _ (Nat.le_refl _),Dq b _ hl] at e2
 rw [FO]; omega
theorem AH {a b:List Int} (ha:Jf a) (hb:Jf b):Jf (KU a b):=Cj fun i _=>Rq (Q3 ha i) (Q3 hb i)
def J5 (a b:List Int) (i:Nat):List Int:=A5 (fun j=>if j<i then Al (dg a) (dg b) j else if j=i then dg a j - JB (dg a) (dg b) i else dg a j) a.length
theorem gw (l:List Int):A5 (dg l) l.length=l:=by
 refine List.ext_getElem (by simp [A5]) fun i h1 h2=>?_
 simp [A5,dg,List.getD_eq_getElem?_getD,h2]
theorem Ps (a b:List Int):J5 a b 0=a:=by
 unfold J5
 conv=>rhs; rw [← gw a]
 refine Kq fun k _=>?_
 rw [if_neg (by omega)]
 split
 ·simp [JB]
 ·rfl
theorem T7 (a b:List Int):J5 a b a.length=KU a b:=Kq fun k hk=>by rw [if_pos hk]
theorem Ag (f:Nat→Int) (n k:Nat) (x:Int) (h:k<n):(A5 f n).set k x=A5 (fun q=>if q=k then x else f q) n:=by
 refine List.ext_getElem (by simp [A5]) fun q h1 h2=>?_
 have hq:q<n:=by simpa [Q4] using h2
 by_cases e:k=q
 ·subst e; simp [A5]
 ·simp [A5,List.getElem_set,e,Ne.symm e]
end
end Go.Ab.N
namespace Go.Ab.N
open Go Go.Ab
open Classical
noncomputable section
theorem XT {l m:List AV} (h:WeakL l m):Weak (.agg l) (.agg m):=fun c v hv=>by
 cases hv with
 | agg vs _ hs hr =>
  have:=(ib h) c (.tuple vs) (.tup vs _ hs hr)
  cases this with
  | tup _ _ hs' hr'=>exact .agg vs m hs' hr'
theorem Qe (f:Nat→AV) (t:Bool):Weak (.sl 0 0 f t) (X6 []):=Z9 rfl (Nat.le_refl _) fun j hj=>by exact absurd hj (Nat.not_lt_zero j)
theorem Zp {n:Nat} {L:List AV} {l:List Int} {t:Bool} (hn:n=l.length) (h:L=l.map I):Weak (.sl n n (Xo L) t) (X6 l):=by
 subst hn; subst h; exact FS l t
theorem LW (L:List AV):∀ n off,off+n=L.length→Qw (Xo L) off 0 n=L.drop off:=by
 have key:∀ n off j,off+j+n=L.length→Qw (Xo L) off j n=L.drop (off+j):=by
  intro n
  induction n with
  | zero=>intro off j h; rw [List.drop_eq_nil_iff.2 (by omega)]; rfl
  | succ n ih =>
   intro off j h
   rw [List.drop_eq_getElem_cons (by omega)]
   simp only [Qw]
   rw [ih off (j+1) (by omega)]
   congr 1
   show L.getD (off+j) .any=_
   rw [List.getD_eq_getElem?_getD,List.getElem?_eq_getElem (by omega)]; rfl
 intro n off h
 rw [key n off 0 (by omega)]; rfl
theorem pP {P:Program} {fn:Func} {str hcs:List Nat} {r:AV} {s:AS} {t u id ver n:Nat} {L:List AV} (hr:fn.results=#[.cell t u]) (hk:BA P u=some (some n)) (hs:s.get t=.ref id ver 0)
  (ho:s.h[id]?=some (.row ver n (Xo L))) (hn:L.length=n) (h:Jt s.h (.agg L) r):RetOk (QX P fn str hcs r) s:=by
 subst hn
 refine Fx (v:=.agg L) hr ?_ h
 rw [hs,N7,hk,Ei,ho,Ej,pK,LW L _ _ (by omega)]
 simp [Q9]
theorem Q6 {P:Program} {fn:Func} {str hcs:List Nat} {r:AV} {s:AS} {t u id ver n:Nat} {L M:List AV} (hr:fn.results=#[.cell t u]) (hk:BA P u=some (some n)) (hs:s.get t=.ref id ver 0)
  (ho:s.h[id]?=some (.row ver n (Xo L))) (hn:L.length=n) (e:r=.agg M) (hset:Settled r) (h:WeakL L M):RetOk (QX P fn str hcs r) s:=by
 refine pP hr hk hs ho hn ?_
 subst e
 exact Xu hset (XT h)
end
end Go.Ab.N
namespace Go.Ab.N
open Go Go.RowKit Go.Proofs
theorem so:BA Tryz.prog 3=some none:=by kernel_rfl
theorem pY:Z7 Tryz.prog 3=some 1:=by kernel_rfl
theorem sk:WF Tryz.prog 3=some .i64:=by kernel_rfl
theorem qm:QE Tryz.prog 3=some [.int .i64 0]:=by kernel_rfl
theorem sq:BA Tryz.prog 4=some none:=by kernel_rfl
theorem pZ:Z7 Tryz.prog 4=some 1:=by kernel_rfl
theorem ov:HU Tryz.prog 4=true:=by kernel_rfl
theorem qo:QE Tryz.prog 4=some [.bool false]:=by kernel_rfl
theorem rq:BA Tryz.prog 22=some none:=by kernel_rfl
theorem mb:Z7 Tryz.prog 22=some 1:=by kernel_rfl
theorem mP:Aj Tryz.prog 22=some (3,1,8):=by kernel_rfl
theorem rr:BA Tryz.prog 23=some none:=by kernel_rfl
theorem r7:Aj Tryz.prog 23=some (110,2,16):=by kernel_rfl
theorem rs:BA Tryz.prog 24=some none:=by kernel_rfl
theorem mc:Z7 Tryz.prog 24=some 1:=by kernel_rfl
theorem r8:Aj Tryz.prog 24=some (4,1,1):=by kernel_rfl
theorem XM:BA Tryz.prog 26=some (some 2):=by kernel_rfl
theorem md:Z7 Tryz.prog 26=some 2:=by kernel_rfl
theorem ki:BT Tryz.prog 26 0=some (0,1,none):=by kernel_rfl
theorem jf:QG Tryz.prog 26 0=some (0,1):=by kernel_rfl
theorem kj:BT Tryz.prog 26 1=some (1,1,none):=by kernel_rfl
theorem jg:QG Tryz.prog 26 1=some (1,1):=by kernel_rfl
theorem qP:Am Tryz.prog 26=true:=by kernel_rfl
theorem mw:QE Tryz.prog 26=some [.bool false,.sl 0 0 (fun _=>.any) true]:=by kernel_rfl
theorem Qc:BA Tryz.prog 28=some (some 4):=by kernel_rfl
theorem me:Z7 Tryz.prog 28=some 4:=by kernel_rfl
theorem kl:BT Tryz.prog 28 0=some (0,2,some 2):=by kernel_rfl
theorem jh:QG Tryz.prog 28 0=some (0,2):=by kernel_rfl
theorem ko:BT Tryz.prog 28 1=some (2,2,some 2):=by kernel_rfl
theorem ji:QG Tryz.prog 28 1=some (2,2):=by kernel_rfl
theorem qQ:Am Tryz.prog 28=true:=by kernel_rfl
theorem my:QE Tryz.prog 28=some [.bool false,.sl 0 0 (fun _=>.any) true,.bool false,.sl 0 0 (fun _=>.any) true]:=by kernel_rfl
theorem Fb:BA Tryz.prog 30=some (some 25):=by kernel_rfl
theorem mf:Z7 Tryz.prog 30=some 25:=by kernel_rfl
theorem jj:QG Tryz.prog 30 0=some (0,1):=by kernel_rfl
theorem kp:BT Tryz.prog 30 1=some (1,1,none):=by kernel_rfl
theorem jk:QG Tryz.prog 30 1=some (1,1):=by kernel_rfl
theorem kq:BT Tryz.prog 30 2=some (2,1,none):=by kernel_rfl
theorem jl:QG Tryz.prog 30 2=some (2,1):=by kernel_rfl
theorem kr:BT Tryz.prog 30 3=some (3,1,none):=by kernel_rfl
theorem jm:QG Tryz.prog 30 3=some (3,1):=by kernel_rfl
theorem ks:BT Tryz.prog 30 4=some (4,1,none):=by kernel_rfl
theorem jn:QG Tryz.prog 30 4=some (4,1):=by kernel_rfl
theorem ku:BT Tryz.prog 30 5=some (5,4,some 4):=by kernel_rfl
theorem jo:QG Tryz.prog 30 5=some (5,4):=by kernel_rfl
theorem kv:BT Tryz.prog 30 6=some (9,4,some 4):=by kernel_rfl
theorem jp:QG Tryz.prog 30 6=some (9,4):=by kernel_rfl
theorem kw:BT Tryz.prog 30 7=some (13,4,some 4):=by kernel_rfl
theorem jq:QG Tryz.prog 30 7=some (13,4):=by kernel_rfl
theorem kx:BT Tryz.prog 30 8=some (17,4,some 4):=by kernel_rfl
theorem jr:QG Tryz.prog 30 8=some (17,4):=by kernel_rfl
theorem ky:BT Tryz.prog 30 9=some (21,4,some 4):=by kernel_rfl
theorem js:QG Tryz.prog 30 9=some (21,4):=by kernel_rfl
theorem qR:Am Tryz.prog 30=true:=by kernel_rfl
theorem mz:QE Tryz.prog 30=some [.int .i64 0,.int .i64 0,.sl 0 0 (fun _=>.any) true,.sl 0 0 (fun _=>.any) true,.sl 0 0 (fun _=>.any) true,.bool false,.sl 0 0 (fun _=>.any) true,.bool false,.sl 0 0 (fun _=>.any) true,.bool false,.sl 0 0 (fun _=>.any) true,.bool false,.sl 0 0 (fun _=>.any) true,.bool false,.sl 0 0 (fun _=>.any) true,.bool false,.sl 0 0 (fun _=>.any) true,.bool false,.sl 0 0 (fun _=>.any) true,.bool false,.sl 0 0 (fun _=>.any) true,.bool false,.sl 0 0 (fun _=>.any) true,.bool false,.sl 0 0 (fun _=>.any) true]:=by kernel_rfl
theorem r9:Aj Tryz.prog 35=some (28,4,64):=by kernel_rfl
theorem D9:BA Tryz.prog 48=some (some 8):=by kernel_rfl
theorem mg:Z7 Tryz.prog 48=some 8:=by kernel_rfl
theorem kz:BT Tryz.prog 48 0=some (0,4,some 4):=by kernel_rfl
theorem jt:QG Tryz.prog 48 0=some (0,4):=by kernel_rfl
theorem kA:BT Tryz.prog 48 1=some (4,4,some 4):=by kernel_rfl
theorem ju:QG Tryz.prog 48 1=some (4,4):=by kernel_rfl
theorem qS:Am Tryz.prog 48=true:=by kernel_rfl
theorem mA:QE Tryz.prog 48=some [.bool false,.sl 0 0 (fun _=>.any) true,.bool false,.sl 0 0 (fun _=>.any) true,.bool false,.sl 0 0 (fun _=>.any) true,.bool false,.sl 0 0 (fun _=>.any) true]:=by kernel_rfl
theorem JD:BA Tryz.prog 50=some (some 8):=by kernel_rfl
theorem mh:Z7 Tryz.prog 50=some 8:=by kernel_rfl
theorem kB:BT Tryz.prog 50 0=some (0,4,some 4):=by kernel_rfl
theorem jv:QG Tryz.prog 50 0=some (0,4):=by kernel_rfl
theorem kC:BT Tryz.prog 50 1=some (4,4,some 4):=by kernel_rfl
theorem jw:QG Tryz.prog 50 1=some (4,4):=by kernel_rfl
theorem qT:Am Tryz.prog 50=true:=by kernel_rfl
theorem mB:QE Tryz.prog 50=some [.bool false,.sl 0 0 (fun _=>.any) true,.bool false,.sl 0 0 (fun _=>.any) true,.bool false,.sl 0 0 (fun _=>.any) true,.bool false,.sl 0 0 (fun _=>.any) true]:=by kernel_rfl
theorem mS:BA Tryz.prog 52=some (some 29):=by kernel_rfl
theorem mi:Z7 Tryz.prog 52=some 29:=by kernel_rfl
theorem kD:BT Tryz.prog 52 0=some (0,1,none):=by kernel_rfl
theorem kE:BT Tryz.prog 52 1=some (1,1,none):=by kernel_rfl
theorem jx:QG Tryz.prog 52 1=some (1,1):=by kernel_rfl
theorem kF:BT Tryz.prog 52 2=some (2,1,none):=by kernel_rfl
theorem jy:QG Tryz.prog 52 2=some (2,1):=by kernel_rfl
theorem kG:BT Tryz.prog 52 3=some (3,1,none):=by kernel_rfl
theorem jz:QG Tryz.prog 52 3=some (3,1):=by kernel_rfl
theorem kH:BT Tryz.prog 52 4=some (4,1,none):=by kernel_rfl
theorem jA:QG Tryz.prog 52 4=some (4,1):=by kernel_rfl
theorem kI:BT Tryz.prog 52 5=some (5,8,some 8):=by kernel_rfl
theorem jB:QG Tryz.prog 52 5=some (5,8):=by kernel_rfl
theorem kJ:BT Tryz.prog 52 6=some (13,8,some 8):=by kernel_rfl
theorem kK:BT Tryz.prog 52 7=some (21,8,some 8):=by kernel_rfl
theorem qU:Am Tryz.prog 52=true:=by kernel_rfl
theorem mC:QE Tryz.prog 52=some [.int .i64 0,.int .i64 0,.int .i64 0,.int .i64 0,.int .i64 0,.bool false,.sl 0 0 (fun _=>.any) true,.bool false,.sl 0 0 (fun _=>.any) true,.bool false,.sl 0 0 (fun _=>.any) true,.bool false,.sl 0 0 (fun _=>.any) true,.bool false,.sl 0 0 (fun _=>.any) true,.bool false,.sl 0 0 (fun _=>.any) true,.bool false,.sl 0 0 (fun _=>.any) true,.bool false,.sl 0 0 (fun _=>.any) true,.bool false,.sl 0 0 (fun _=>.any) true,.bool false,.sl 0 0 (fun _=>.any) true,.bool false,.sl 0 0 (fun _=>.any) true,.bool false,.sl 0 0 (fun _=>.any) true]:=by kernel_rfl
theorem Uq:BA Tryz.prog 54=some (some 79):=by kernel_rfl
theorem mj:Z7 Tryz.prog 54=some 79:=by kernel_rfl
theorem kL:BT Tryz.prog 54 0=some (0,25,some 25):=by kernel_rfl
theorem jC:QG Tryz.prog 54 0=some (0,25):=by kernel_rfl
theorem kM:BT Tryz.prog 54 1=some (25,25,some 25):=by kernel_rfl
theorem jD:QG Tryz.prog 54 1=some (25,25):=by kernel_rfl
theorem kN:BT Tryz.prog 54 2=some (50,29,some 29):=by kernel_rfl
theorem qV:Am Tryz.prog 54=true:=by kernel_rfl
theorem mD:QE Tryz.prog 54=some [.int .i64 0,.int .i64 0,.sl 0 0 (fun _=>.any) true,.sl 0 0 (fun _=>.any) true,.sl 0 0 (fun _=>.any) true,.bool false,.sl 0 0 (fun _=>.any) true,.bool false,.sl 0 0 (fun _=>.any) true,.bool false,.sl 0 0 (fun _=>.any) true,.bool false,.sl 0 0 (fun _=>.any) true,.bool false,.sl 0 0 (fun _=>.any) true,.bool false,.sl 0 0 (fun _=>.any) true,.bool false,.sl 0 0 (fun _=>.any) true,.bool false,.sl 0 0 (fun _=>.any) true,.bool false,.sl 0 0 (fun _=>.any) true,.bool false,.sl 0 0 (fun _=>.any) true,.int .i64 0,.int .i64 0,.sl 0 0 (fun _=>.any) true,.sl 0 0 (fun _=>.any) true,.sl 0 0 (fun _=>.any) true,.bool false,.sl 0 0 (fun _=>.any) true,.bool false,.sl 0 0 (fun _=>.any) true,.bool false,.sl 0 0 (fun _=>.any) true,.bool false,.sl 0 0 (fun _=>.any) true,.bool false,.sl 0 0 (fun _=>.any) true,.bool false,.sl 0 0 (fun _=>.any) true,.bool false,.sl 0 0 (fun _=>.any) true,.bool false,.sl 0 0 (fun _=>.any) true,.bool false,.sl 0 0 (fun _=>.any) true,.bool false,.sl 0 0 (fun _=>.any) true,.int .i64 0,.int .i64 0,.int .i64 0,.int .i64 0,.int .i64 0,.bool false,.sl 0 0 (fun _=>.any) true,.bool false,.sl 0 0 (fun _=>.any) true,.bool false,.sl 0 0 (fun _=>.any) true,.bool false,.sl 0 0 (fun _=>.any) true,.bool false,.sl 0 0 (fun _=>.any) true,.bool false,.sl 0 0 (fun _=>.any) true,.bool false,.sl 0 0 (fun _=>.any) true,.bool false,.sl 0 0 (fun _=>.any) true,.bool false,.sl 0 0 (fun _=>.any) true,.bool false,.sl 0 0 (fun _=>.any) true,.bool false,.sl 0 0 (fun _=>.any) true,.bool false,.sl 0 0 (fun _=>.any) true]:=by kernel_rfl
theorem rt:BA Tryz.prog 57=some none:=by kernel_rfl
theorem ml:Z7 Tryz.prog 57=some 1:=by kernel_rfl
theorem rc:Aj Tryz.prog 57=some (52,29,424):=by kernel_rfl
theorem mE:QE Tryz.prog 57=some [.sl 0 0 (fun _=>.any) true]:=by kernel_rfl
theorem ru:BA Tryz.prog 81=some none:=by kernel_rfl
theorem mm:Z7 Tryz.prog 81=some 1:=by kernel_rfl
theorem re:Aj Tryz.prog 81=some (50,8,128):=by kernel_rfl
theorem mF:QE Tryz.prog 81=some [.sl 0 0 (fun _=>.any) true]:=by kernel_rfl
theorem ry:BA Tryz.prog 84=some (some 16):=by kernel_rfl
theorem mn:Z7 Tryz.prog 84=some 16:=by kernel_rfl
theorem kO:BT Tryz.prog 84 0=some (0,8,some 8):=by kernel_rfl
theorem jE:QG Tryz.prog 84 0=some (0,8):=by kernel_rfl
theorem kP:BT Tryz.prog 84 1=some (8,8,some 8):=by kernel_rfl
theorem jF:QG Tryz.prog 84 1=some (8,8):=by kernel_rfl
theorem qW:Am Tryz.prog 84=true:=by kernel_rfl
theorem mG:QE Tryz.prog 84=some [.bool false,.sl 0 0 (fun _=>.any) true,.bool false,.sl 0 0 (fun _=>.any) true,.bool false,.sl 0 0 (fun _=>.any) true,.bool false,.sl 0 0 (fun _=>.any) true,.bool false,.sl 0 0 (fun _=>.any) true,.bool false,.sl 0 0 (fun _=>.any) true,.bool false,.sl 0 0 (fun _=>.any) true,.bool false,.sl 0 0 (fun _=>.any) true]:=by kernel_rfl
theorem eE:BA Tryz.prog 110=some (some 2):=by kernel_rfl
theorem gD:Z7 Tryz.prog 110=some 2:=by kernel_rfl
theorem dS:BT Tryz.prog 110 0=some (0,1,none):=by kernel_rfl
theorem bP:QG Tryz.prog 110 0=some (0,1):=by kernel_rfl
theorem dT:BT Tryz.prog 110 1=some (1,1,none):=by kernel_rfl
theorem bQ:QG Tryz.prog 110 1=some (1,1):=by kernel_rfl
theorem oo:Am Tryz.prog 110=true:=by kernel_rfl
theorem ij:QE Tryz.prog 110=some [.int .i64 0,.int .i64 0]:=by kernel_rfl
theorem pf:BA Tryz.prog 122=some (some 2):=by kernel_rfl
theorem gE:Z7 Tryz.prog 122=some 2:=by kernel_rfl
theorem oG:Aj Tryz.prog 122=none:=by kernel_rfl
theorem bS:QG Tryz.prog 122 0=some (0,1):=by kernel_rfl
theorem bU:QG Tryz.prog 122 1=some (1,1):=by kernel_rfl
theorem oq:Am Tryz.prog 122=true:=by kernel_rfl
theorem oa:VS Tryz.prog 122=some (2,1,none):=by kernel_rfl
theorem il:QE Tryz.prog 122=some [.int .i64 0,.int .i64 0]:=by kernel_rfl
theorem oH:Aj Tryz.prog 123=some (122,2,16):=by kernel_rfl
theorem oI:Aj Tryz.prog 148=some (48,8,128):=by kernel_rfl
theorem oY:WF Tryz.prog 187=some .u64:=by kernel_rfl
theorem pg:BA Tryz.prog 191=some none:=by kernel_rfl
theorem oJ:Aj Tryz.prog 191=some (81,1,24):=by kernel_rfl
theorem oZ:WF Tryz.prog 197=some .u64:=by kernel_rfl
theorem oK:Aj Tryz.prog 241=some (244,3,24):=by kernel_rfl
theorem eF:BA Tryz.prog 244=some (some 3):=by kernel_rfl
theorem gF:Z7 Tryz.prog 244=some 3:=by kernel_rfl
theorem oL:Aj Tryz.prog 244=none:=by kernel_rfl
theorem bV:QG Tryz.prog 244 0=some (0,1):=by kernel_rfl
theorem bX:QG Tryz.prog 244 1=some (1,1):=by kernel_rfl
theorem bY:QG Tryz.prog 244 2=some (2,1):=by kernel_rfl
theorem ot:Am Tryz.prog 244=true:=by kernel_rfl
theorem oc:VS Tryz.prog 244=some (3,1,none):=by kernel_rfl
theorem im:QE Tryz.prog 244=some [.int .i64 0,.int .i64 0,.int .i64 0]:=by kernel_rfl
theorem ph:BA Tryz.prog 249=some none:=by kernel_rfl
theorem dU:BT Tryz.prog 252 0=some (0,1,none):=by kernel_rfl
theorem bZ:QG Tryz.prog 252 0=some (0,1):=by kernel_rfl
theorem dV:BT Tryz.prog 252 1=some (1,1,none):=by kernel_rfl
theorem ou:Am Tryz.prog 252=true:=by kernel_rfl
theorem io:QE Tryz.prog 252=some [.sl 0 0 (fun _=>.any) true,.sl 0 0 (fun _=>.any) true]:=by kernel_rfl
theorem mixed:Tryz.prog.follows .mixedOrders=true:=by kernel_rfl
theorem Fq {f:FuncId} {fn:Func} {body:Code} {args:List AV} {r:AV} (he:Ah Tryz.prog f) (hf:Tryz.prog.funcs[f]?=some fn) (n0:Nat) (hid str hcs:List Nat) (hs:∀ a∈args,Settled a) (h:Run (QX Tryz.prog fn str hcs r) [.code body] (AS.start n0 hid args [])) (hb:fn.body=some body:=by rfl) (hok:Qn fn.ntmps str hcs body=true:=by kernel_rfl) (hlen:args.length≤fn.ntmps:=by exact Nat.le_of_ble_eq_true rfl):Fn Tryz.prog f args r:=Fn.intro he hf hb mixed n0 hid str hcs hok hlen hs h
set_option linter.defProp false in
def ql:=And.intro @so <| And.intro @pY <| And.intro @sk <| And.intro @qm <| And.intro @sq <| And.intro @pZ <| And.intro @ov <| And.intro @qo <| And.intro @rq <| And.intro @mb <| And.intro @mP <| And.intro @rr <| And.intro @r7 <| And.intro @rs <| And.intro @mc <| And.intro @r8 <| And.intro @XM <| And.intro @md <| And.intro @ki <| And.intro @jf <| And.intro @kj <| And.intro @jg <| And.intro @qP <| And.intro @mw <| And.intro @Qc <| And.intro @me <| And.intro @kl <| And.intro @jh <| And.intro @ko <| And.intro @ji <| And.intro @qQ <| And.intro @my <| And.intro @Fb <| And.intro @mf <| And.intro @jj <| And.intro @kp <| And.intro @jk <| And.intro @kq <| And.intro @jl <| And.intro @kr <| And.intro @jm <| And.intro @ks <| And.intro @jn <| And.intro @ku <| And.intro @jo <| And.intro @kv <| And.intro @jp <| And.intro @kw <| And.intro @jq <| And.intro @kx <| And.intro @jr <| And.intro @ky <| And.intro @js <| And.intro @qR <| And.intro @mz <| And.intro @r9 <| And.intro @D9 <| And.intro @mg <| And.intro @kz <| And.intro @jt <| And.intro @kA <| And.intro @ju <| And.intro @qS <| And.intro @mA <| And.intro @JD <| And.intro @mh <| And.intro @kB <| And.intro @jv <| And.intro @kC <| And.intro @jw <| And.intro @qT <| And.intro @mB <| And.intro @mS <| And.intro @mi <| And.intro @kD <| And.intro @kE <| And.intro @jx <| And.intro @kF <| And.intro @jy <| And.intro @kG <| And.intro @jz <| And.intro @kH <| And.intro @jA <| And.intro @kI <| And.intro @jB <| And.intro @kJ <| And.intro @kK <| And.intro @qU <| And.intro @mC <| And.intro @Uq <| And.intro @mj <| And.intro @kL <| And.intro @jC <| And.intro @kM <| And.intro @jD <| And.intro @kN <| And.intro @qV <| And.intro @mD <| And.intro @rt <| And.intro @ml <| And.intro @rc <| And.intro @mE <| And.intro @ru <| And.intro @mm <| And.intro @re <| And.intro @mF <| And.intro @ry <| And.intro @mn <| And.intro @kO <| And.intro @jE <| And.intro @kP <| And.intro @jF <| And.intro @qW <| And.intro @mG <| And.intro @eE <| And.intro @gD <| And.intro @dS <| And.intro @bP <| And.intro @dT <| And.intro @bQ <| And.intro @oo <| And.intro @ij <| And.intro @pf <| And.intro @gE <| And.intro @oG <| And.intro @bS <| And.intro @bU <| And.intro @oq <| And.intro @oa <| And.intro @il <| And.intro @oH <| And.intro @oI <| And.intro @oY <| And.intro @pg <| And.intro @oJ <| And.intro @oZ <| And.intro @oK <| And.intro @eF <| And.intro @gF <| And.intro @oL <| And.intro @bV <| And.intro @bX <| And.intro @bY <| And.intro @ot <| And.intro @oc <| And.intro @im <| And.intro @ph <| And.intro @dU <| And.intro @bZ <| And.intro @dV <| And.intro @ou <| @io
set_option linter.defProp false in
def wA:=And.intro @rS <| And.intro @rR <| And.intro @rQ <| And.intro @beq_self_eq_true.{0} <| And.intro @ite_true.{1} <| And.intro @ite_false.{1} <| And.intro @false_implies <| And.intro @true_implies <| And.intro @implies_true.{1} <| And.intro @implies_true.{0} <| And.intro @eq_self.{1} <| And.intro @ne_eq.{1} <| @ql
end Go.Ab.N
namespace Go.Ab.N
open Go Go.RowKit Go.Proofs
noncomputable section
set_option maxRecDepth 10000
set_option maxHeartbeats 2000000
open Classical
def fo (neg:Bool) (l:List Int):AV:=.agg [.bool (neg && decide (ZG l l.length≠0)),X6 (l.take (ZG l l.length))]
theorem JN (neg:Bool) (l:List Int):Settled (fo neg l):=Qj (by simp [X5,X3])
theorem rA (neg:Bool) (d:List Int) (hl:d.length<4611686018427387904):Fn Tryz.prog 208 [.bool neg,X6 d] (fo neg d):=by
 refine Fq Tryz.call208 Tryz.func208 6 [] [] [] (by simp [X5,Xa,JL,Jd,X3,JM,XB,JN,Jh]) (X1 1000 ?_); simp (config:={ maxSteps:=2000000 }) only [AS.start,↓X2,wA,seval,zA,wN]
 refine Xf (fun n:Nat=>⟨6,[],[.bool neg,X6 d,.any,.any,.ref 0 0 0,I n],[],[.row 0 2 (Xo [.bool false,.sl 0 0 (fun _=>.any) true])]⟩) (fun n=>n≤d.length∧ZG d d.length=ZG d n) (fun n=>n) d.length ⟨by omega,rfl⟩
  (Xb rfl (by simp [zA,wN,Xi,X6,BW,Zt,Qi,I]) (by simp [Xj]) rfl) ?_
 rintro n ⟨hn,ht⟩ next
 cases n with
 | zero =>
  refine X1 1000 ?_
  simp only [Int.lt_irrefl,↓X2,wA,seval,zA,wN]
  refine Fx (v:=.agg [.bool false,.sl 0 0 (fun _=>.any) false]) rfl (by simp [AS.get,JH,XM,rd,Qw,Xo,C2]) ?_
  have e:fo neg d=.agg [.bool false,X6 []]:=by unfold fo; rw [ht]; simp [ZG]
  rw [e]
  exact B5 ⟨QD (X3 _) rfl,Xu (X5 _) (Qe _ _),trivial⟩
 | succ n =>
  have e0:(0<((n+1:Nat):Int))=True:=eq_true (by omega)
  have e1:(((n+1:Nat):Int)=0)=False:=eq_false (by omega)
  have w1:IntKind.i64.wrap (((n+1:Nat):Int) - 1)=(n:Int):=by rw [IntKind.wrap_i64]; omega
  have e2:(n<d.length)=True:=eq_true (by omega)
  refine X1 1000 ?_
  simp only [e0,e1,e2,w1,↓X2,wA,seval,zA,wN]
  refine ⟨fun h0=>next n _ ⟨by omega,by rw [ht]; simp only [ZG]; rw [if_pos h0]⟩ (by omega) (Xb rfl (by simp [zA,wN,Xi,X6,BW,Zt,Qi,I]) (by simp [Xj]) rfl),fun h0=>⟨by omega,?_⟩⟩
  have ht2:ZG d d.length=n+1:=by rw [ht]; simp only [ZG]; rw [if_neg h0]
  have e:fo neg d=.agg [.bool neg,X6 (d.take (n+1))]:=by unfold fo; rw [ht2]; simp
  have hlen:(d.take (n+1)).length=n+1:=by rw [List.length_take]; omega
  rw [e]
  refine Fx (v:=.agg [.bool neg,.sl (n+1) (n+1) (fun j=>.int .i64 (d.getD j 0)) false]) rfl ?_ ?_
  ·have m1:min (n+1) d.length=n+1:=by omega
   simp [AS.get,JH,XM,rd,Qw,Xo,C2,m1]
  ·refine B5 ⟨QD (X3 _) rfl,Xu (X5 _) (FQ _ hlen.symm (by omega) fun j hj=>?_),trivial⟩
   rw [hlen] at hj
   rw [Aw d 0 j (n+1) hj]; rfl
set_option linter.defProp false in
def JZ:=And.intro @X5 (And.intro @Xa (And.intro @JL (And.intro @Jd (And.intro @X3 (And.intro @JM (And.intro @XB (And.intro @JN @Jh)))))))
theorem ii (neg:Bool) {u:Int} (h:0≤u):zA (Km neg u)=.agg [.bool (neg && decide (u≠0)),X6 (X9 u.toNat)]:=by
 unfold zA
 have e1:(Km neg u).natAbs=u.toNat:=by unfold Km; split <;> omega
 rw [e1]
 congr 3
 unfold Km
 have h0':¬ u<0:=by omega
 cases neg
 ·simp [h0']
 ·have:-u<0↔¬ u=0:=by omega
  simp only [if_true,Bool.true_and,decide_eq_decide,ne_eq]
  exact this
def U (n:Int):AV:=.int .u64 n
theorem KI (neg:Bool) (u:Int) (h0:0≤u) (h1:u<18446744073709551616):Fn Tryz.prog 207 [.bool neg,.int .u64 u] (zA (Km neg u)):=by
 obtain ⟨R,hR⟩:∃ R,R=zA (Km neg u):=⟨_,rfl⟩
 have eR:=hR.trans (ii neg h0)
 have sR:Settled R:=hR▸XB _
 have b1:u≠0→(neg && decide (u≠0))=neg:=fun h=>by simp [h]
 have w1:IntKind.i64.wrap (u.tmod 1000000000)=u % 1000000000:=by rw [IntKind.wrap_i64,Int.tmod_eq_emod_of_nonneg h0]; omega
 have w2:IntKind.u64.wrap (u.tdiv 1000000000)=u / 1000000000:=by rw [IntKind.wrap_u64,Int.tdiv_eq_ediv_of_nonneg h0]; omega
 have h2:0≤u / 1000000000:=by omega
 have w3:IntKind.i64.wrap (u / 1000000000)=u / 1000000000:=by rw [IntKind.wrap_i64]; omega
 have w4:IntKind.i64.wrap ((u / 1000000000).tmod 1000000000)=u / 1000000000 % 1000000000:=by rw [IntKind.wrap_i64,Int.tmod_eq_emod_of_nonneg h2]; omega
 have w5:IntKind.u64.wrap ((u / 1000000000).tdiv 1000000000)=u / 1000000000 / 1000000000:=by rw [IntKind.wrap_u64,Int.tdiv_eq_ediv_of_nonneg h2]; omega
 have w6:IntKind.i64.wrap (u / 1000000000 / 1000000000)=u / 1000000000 / 1000000000:=by rw [IntKind.wrap_i64]; omega
 rw [← hR]
 refine Fq Tryz.call207 Tryz.func207 6 [] [] [] (by simp [JZ]) (X1 1000 ?_); simp (config:={ maxSteps:=2000000 }) only [AS.start,↓X2,wA,↓reduceIte,reduceIte,reduceCtorEq,Y1,Y2,Y3,Y4,Y5,Y6,Y7,Y8,Y9,YA,zA,wN]
 simp only [w1,w2,w3,w4,w5,w6]
 refine ⟨fun a=>?_,fun a0=>⟨fun a1=>?_,fun a1=>⟨fun a2=>⟨by omega,by omega,?_⟩,fun a2=>⟨by omega,by omega,by omega,by omega,by omega,?_⟩⟩⟩⟩
 ·rw [a,show (neg && decide ((0:Int)≠0))=false by simp,show (0:Int).toNat=0 from rfl,XX] at eR
  exact Q6 rfl XM rfl rfl rfl eR sR ⟨Weak.rfl' _,Qe _ _,trivial⟩
 ·have w0:IntKind.i64.wrap u=u:=by rw [IntKind.wrap_i64]; omega
  rw [b1 a0,I4 (by omega) (by omega),Int.toNat_of_nonneg h0] at eR
  rw [w0]
  exact Q6 rfl XM rfl rfl rfl eR sR ⟨Weak.rfl' _,Zp rfl rfl,trivial⟩
 ·rw [b1 a0,OK (by omega) (by omega)] at eR
  have e1:((u.toNat % 1000000000:Nat):Int)=u % 1000000000:=by omega
  have e2:((u.toNat / 1000000000:Nat):Int)=u / 1000000000:=by omega
  rw [e1,e2] at eR
  exact Q6 rfl XM rfl rfl rfl eR sR ⟨Weak.rfl' _,Zp rfl rfl,trivial⟩
 ·rw [b1 a0,SI (by omega) (by omega)] at eR
  have e1:((u.toNat % 1000000000:Nat):Int)=u % 1000000000:=by omega
  have e2:((u.toNat / 1000000000 % 1000000000:Nat):Int)=u / 1000000000 % 1000000000:=by omega
  have e3:((u.toNat / 1000000000 / 1000000000:Nat):Int)=u / 1000000000 / 1000000000:=by omega
  rw [e1,e2,e3] at eR
  exact Q6 rfl XM rfl rfl rfl eR sR ⟨Weak.rfl' _,Zp rfl rfl,trivial⟩
theorem Nw (z:Int):Fn Tryz.prog 196 [zA z] (zA (-z)):=by
 have e:(-z).natAbs=z.natAbs:=by omega
 have e0:z.natAbs=0↔z=0:=by omega
 have e1:(X9 z.natAbs).length=0↔z=0:=digs_len_zero.trans e0
 refine Fq Tryz.call196 Tryz.func196 3 [] [] [] (by simp [JZ]) (X1 1000 ?_); simp (config:={ maxSteps:=2000000 }) only [AS.start,↓X2,wA,↓reduceIte,reduceIte,reduceCtorEq,Y1,Y2,Y3,Y4,Y5,Y6,Y7,Y8,Y9,YA,zA,wN]
 refine ⟨fun h=>Q6 rfl XM rfl rfl rfl rfl (XB _) ?_,fun h=>Q6 rfl XM rfl rfl rfl rfl (XB _) ?_⟩
 ·rw [e]
  have:decide (-z<0)=decide (0<((X9 z.natAbs).length:Int)):=by rw [decide_eq_decide]; omega
  rw [this]
  exact ⟨Weak.rfl' _,Weak.rfl' _,trivial⟩
 ·rw [e,show decide (-z<0)=false from decide_eq_false (by omega)]
  exact ⟨Weak.rfl' _,Weak.rfl' _,trivial⟩
theorem lO (z:Int):Fn Tryz.prog 155 [zA z] (I z.sign):=by
 have e0:z.natAbs=0↔z=0:=by omega
 have e1:(X9 z.natAbs).length=0↔z=0:=digs_len_zero.trans e0
 refine Fq Tryz.call155 Tryz.func155 4 [] [] [] (by simp [JZ]) (X1 1000 ?_); simp (config:={ maxSteps:=2000000 }) only [AS.start,↓X2,wA,↓reduceIte,reduceIte,reduceCtorEq,Y1,Y2,Y3,Y4,Y5,Y6,Y7,Y8,Y9,YA,zA,wN]
 refine ⟨fun h=>Xt rfl rfl (Xa _) ?_,fun h=>⟨fun h2=>Xt rfl rfl (Xa _) ?_,fun h2=>Xt rfl rfl (Xa _) ?_⟩⟩
 ·rw [Int.sign_eq_neg_one_of_neg h]; rfl
 ·rw [e1.1 (by omega)]; rfl
 ·rw [Int.sign_eq_one_of_pos (by omega)]; rfl
theorem NV (d:List Int) (h:Jf d):Fn Tryz.prog 226 [X6 d] (.tup [I (if d.length≤2 then val d else 0),.bool (decide (d.length≤2))]):=by
 have k2:¬ d.length≤2→I 0=I (if d.length≤2 then val d else 0)∧AV.bool false=.bool (decide (d.length≤2)):=fun h=>by simp [h]
 have k1:d.length≤2→∀ x,x=val d→I x=I (if d.length≤2 then val d else 0)∧AV.bool true=.bool (decide (d.length≤2)):=fun h x hx=>by simp [h,hx]
 refine Fq Tryz.call226 Tryz.func226 4 [5] [] [] (by simp [JZ]) (X1 1000 ?_); simp (config:={ maxSteps:=2000000 }) only [AS.start,↓X2,wA,↓reduceIte,reduceIte,reduceCtorEq,Y1,Y2,Y3,Y4,Y5,Y6,Y7,Y8,Y9,YA,zA,wN]
 have fin:∀ {s:AS} {x:Int},s.get 2=I x→s.get 3=.bool true→d.length≤2→x=val d→RetOk (QX Tryz.prog Tryz.f226 [] [] (.tup [I (if d.length≤2 then val d else 0),.bool (decide (d.length≤2))])) s:=fun h1 h2 hl hx =>
  PZ rfl h1 h2 (Xa _) (X3 _) (k1 hl _ hx).1 (k1 hl _ hx).2
 refine ⟨fun a=>fin rfl rfl (by omega) ?_,fun a0=>⟨fun a=>⟨by omega,by omega,fin rfl rfl (by omega) ?_⟩,fun a1=>⟨fun a=>⟨⟨by omega,by omega⟩,by omega,by omega,by omega,fin rfl rfl (by omega) ?_⟩,fun a2=>PZ rfl rfl rfl (Xa _) (X3 _) (k2 (by omega)).1 (k2 (by omega)).2⟩⟩⟩
 ·obtain rfl:d=[]:=List.length_eq_zero_iff.1 (by omega)
  rfl
 ·obtain ⟨x,rfl⟩:=List.length_eq_one_iff.1 (show d.length=1 by omega)
  simp [val]
 ·obtain ⟨x,y,rfl⟩:∃ x y,d=[x,y]:=by
   match d,a with
   | [x,y],_=>exact ⟨x,y,rfl⟩
   | [],h=>exact absurd h (by simp)
   | [_],h=>exact absurd h (by simp)
   | _ :: _ :: _ :: _,h=>exact absurd h (by simp; omega)
  have h1:=h x (by simp)
  have h2:=h y (by simp)
  unfold XZ at h1 h2
  simp only [List.getD_cons_zero,List.getD_cons_succ,val,IntKind.wrap_i64]
  omega
theorem Ph (a:Int):Fn Tryz.prog 267 [I a] (.bool false):=by
 refine Fq Tryz.call267 Tryz.func267 3 [] [] [] (by simp [JZ]) (X1 1000 ?_); simp (config:={ maxSteps:=2000000 }) only [AS.start,↓X2,wA,↓reduceIte,reduceIte,reduceCtorEq,Y1,Y2,Y3,Y4,Y5,Y6,Y7,Y8,Y9,YA,zA,wN]
 exact Xt rfl rfl (X3 _) rfl
theorem U6 (a b:Int):Fn Tryz.prog 249 [I a,I b] (I (a - b).sign):=by
 refine Fq Tryz.call249 Tryz.func249 7 [] [] [] (by simp [JZ]) (X1 1000 ?_); simp (config:={ maxSteps:=2000000 }) only [AS.start,↓X2,wA,↓reduceIte,reduceIte,reduceCtorEq,Y1,Y2,Y3,Y4,Y5,Y6,Y7,Y8,Y9,YA,zA,wN]
 refine X0 (Ph a) rfl ?_
 simp only [↓X2,wA,↓reduceIte,reduceIte,reduceCtorEq,Y1,Y2,Y3,Y4,Y5,Y6,Y7,Y8,Y9,YA,zA,wN]
 refine X0 (Ph b) rfl ?_
 simp only [↓X2,wA,↓reduceIte,reduceIte,reduceCtorEq,Y1,Y2,Y3,Y4,Y5,Y6,Y7,Y8,Y9,YA,zA,wN]
 refine ⟨fun h=>Xt rfl rfl (Xa _) ?_,fun h=>⟨fun h2=>Xt rfl rfl (Xa _) ?_,fun h2=>Xt rfl rfl (Xa _) ?_⟩⟩
 ·rw [Int.sign_eq_neg_one_of_neg (by omega)]; rfl
 ·rw [Int.sign_eq_one_of_pos (by omega)]; rfl
 ·rw [show a - b=0 by omega]; rfl
theorem cN {a b:List Int} (ha:Jf a) (hb:Jf b) (hl:a.length=b.length) {i:Nat} (hi:i<a.length) (he:a.drop (i+1)=b.drop (i+1)) (hne:a.getD i 0≠b.getD i 0) :
  (val a - val b).sign=(a.getD i 0 - b.getD i 0).sign:=by
 rw [Jk a i (by omega),Jk b i (by omega),K7 a i hi,K7 b i (by omega),he]
 have h1:=XS (QA ha i)
 have h2:=XS (QA hb i)
 have h3:=KW (QA ha i)
 have h4:=KW (QA hb i)
 have e1:(a.take i).length=i:=by rw [List.length_take]; omega
 have e2:(b.take i).length=i:=by rw [List.length_take]; omega
 rw [e1] at h3
 rw [e2] at h4
 generalize val (a.take i)=p at *
 generalize val (b.take i)=q at *
 generalize val (b.drop (i+1))=r at *
 generalize a.getD i 0=x at *
 generalize b.getD i 0=y at *
 have hp:=JE i
 generalize pw i=P at *
 have e:p+P*(x+1000000000*r) - (q+P*(y+1000000000*r))=(p - q)+P*(x - y):=by grind
 rw [e]
 rcases Int.lt_or_gt_of_ne hne with h | h
 ·rw [Int.sign_eq_neg_one_of_neg (show x - y<0 by omega)]
  have:P*(x - y)≤P*(-1):=Int.mul_le_mul_of_nonneg_left (by omega) (by omega)
  exact Int.sign_eq_neg_one_of_neg (by omega)
 ·rw [Int.sign_eq_one_of_pos (show 0<x - y by omega)]
  have:P*1≤P*(x - y):=Int.mul_le_mul_of_nonneg_left (by omega) (by omega)
  exact Int.sign_eq_one_of_pos (by omega)
theorem CU {a b:List Int} (ha:Zw a) (hb:Zw b) (h:a.length<b.length):val a<val b:=by
 have h1:=KW ha.1
 have hne:b≠[]:=fun e=>by rw [e] at h; simp at h
 have h2:=BO hb hne
 have h3:=Cr (show a.length≤b.length - 1 by omega)
 omega
theorem F2 {a b:List Int} (hl:a.length=b.length) {i:Nat} (hi:i<a.length) (he:a.drop (i+1)=b.drop (i+1)) (h:a.getD i 0=b.getD i 0):a.drop i=b.drop i:=by
 have hi2:i<b.length:=by omega
 rw [List.drop_eq_getElem_cons hi,List.drop_eq_getElem_cons hi2,he]
 rw [List.getD_eq_getElem?_getD,List.getElem?_eq_getElem hi,List.getD_eq_getElem?_getD,List.getElem?_eq_getElem hi2] at h
 simp only [Option.getD_some] at h
 rw [h]
theorem Cg (a b:List Int) (ha:Zw a) (hb:Zw b) (la:a.length<4611686018427387904):Fn Tryz.prog 215 [X6 a,X6 b] (I (val a - val b).sign):=by
 have hc:a.length≠b.length→Fn Tryz.prog 249 [I a.length,I b.length] (I (val a - val b).sign):=fun h=>by
  have e:((a.length:Int) - b.length).sign=(val a - val b).sign:=by
   rcases Nat.lt_or_gt_of_ne h with h' | h'
   ·have:=CU ha hb h'
    rw [Int.sign_eq_neg_one_of_neg (by omega),Int.sign_eq_neg_one_of_neg (by omega)]
   ·have:=CU hb ha h'
    rw [Int.sign_eq_one_of_pos (by omega),Int.sign_eq_one_of_pos (by omega)]
  rw [← e]; exact U6 _ _
 refine Fq Tryz.call215 Tryz.func215 6 [] [] [] (by simp [JZ]) (X1 1000 ?_); simp (config:={ maxSteps:=2000000 }) only [AS.start,↓X2,wA,seval,zA,wN]
 refine ⟨fun h=>X0 (hc h) rfl ?_,fun hl=>?_⟩
 ·simp only [↓X2,wA,seval,zA,wN]
  exact Xt rfl rfl (Xa _) rfl
 refine Xf (fun k:Nat=>⟨6,[],[X6 a,X6 b,.any,.any,I 0,I ((k:Int) - 1)],[],[]⟩) (fun k=>k≤a.length∧a.drop k=b.drop k) (fun k=>k) a.length ⟨by omega,by rw [List.drop_length,hl,List.drop_length]⟩
  ?_ ?_
 ·have w0:IntKind.i64.wrap ((a.length:Int) - 1)=(a.length:Int) - 1:=by rw [IntKind.wrap_i64]; omega
  rw [w0]
  exact (Xb rfl (by simp [zA,wN,Xi,X6,BW,Zt,Qi,I]) (by simp [Xj]) rfl)
 rintro k ⟨hk,he⟩ next
 cases k with
 | zero =>
  refine X1 1000 ?_
  have e0:(0≤((0:Nat):Int) - 1)=False:=eq_false (by omega)
  have e1:((0:Int)≤0 - 1)=False:=eq_false (by omega)
  simp only [e0,e1,↓X2,wA,seval,zA,wN]
  refine Xt rfl rfl (Xa _) ?_
  rw [List.drop_zero,List.drop_zero] at he
  rw [he,Int.sub_self]; rfl
 | succ k =>
  have e1:((k+1:Nat):Int) - 1=(k:Int):=by omega
  have w1:IntKind.i64.wrap ((k:Int) - 1)=(k:Int) - 1:=by rw [IntKind.wrap_i64]; omega
  have e2:((k:Int)<a.length)=True:=eq_true (by omega)
  have e3:(k<a.length)=True:=eq_true (by omega)
  have e4:(k<b.length)=True:=eq_true (by omega)
  have hcm:a.getD k 0≠b.getD k 0→Fn Tryz.prog 249 [I (a.getD k 0),I (b.getD k 0)] (I (val a - val b).sign):=fun h=>by
   rw [cN ha.1 hb.1 hl (by omega) he h]; exact U6 _ _
  refine X1 1000 ?_
  simp only [e1,w1,e3,e4,↓X2,wA,seval,zA,wN]
  refine ⟨fun h=>X0 (hcm h) rfl ?_,fun h=>next k _ ⟨by omega,F2 hl (by omega) he h⟩ (by omega) (Xb rfl (by simp [zA,wN,Xi,X6,BW,Zt,Qi,I]) (by simp [Xj]) rfl)⟩
  simp only [↓X2,wA,seval,zA,wN]
  exact Xt rfl rfl (Xa _) rfl
theorem Ez (n:Int) (h:Kg n):Fn Tryz.prog 148 [I n] (zA n):=by
 obtain ⟨R,hR⟩:∃ R,R=zA n:=⟨_,rfl⟩
 have sR:Settled R:=hR▸XB _
 unfold Kg at h
 have c1:n<0→Fn Tryz.prog 207 [.bool (decide (n<0)),.int .u64 (IntKind.u64.wrap (0 - IntKind.u64.wrap n))] R:=fun h1=>by
  have e:IntKind.u64.wrap (0 - IntKind.u64.wrap n) = -n:=by rw [IntKind.wrap_u64,IntKind.wrap_u64]; omega
  have e2:Km (decide (n<0)) (-n)=n:=by unfold Km; rw [if_pos (decide_eq_true h1)]; omega
  have:=KI (decide (n<0)) (-n) (by omega) (by omega)
  rw [e2] at this
  rw [e,hR]; exact this
 have c2:¬ n<0→Fn Tryz.prog 207 [.bool (decide (n<0)),.int .u64 (IntKind.u64.wrap n)] R:=fun h1=>by
  have e:IntKind.u64.wrap n=n:=by rw [IntKind.wrap_u64]; omega
  have e2:Km (decide (n<0)) n=n:=by unfold Km; rw [if_neg (by simp; omega)]
  have:=KI (decide (n<0)) n (by omega) (by omega)
  rw [e2] at this
  rw [e,hR]; exact this
 rw [← hR]
 refine Fq Tryz.call148 Tryz.func148 4 [] [] [] (by simp [JZ]) (X1 1000 ?_); simp (config:={ maxSteps:=2000000 }) only [AS.start,↓X2,wA,seval,zA,wN]
 refine ⟨fun h1=>X0 (c1 h1) rfl ?_,fun h1=>X0 (c2 h1) rfl ?_⟩
 ·simp only [hR,↓X2,wA,seval,zA,wN]
  exact Q6 rfl XM rfl rfl rfl hR sR ⟨Weak.rfl' _,Weak.rfl' _,trivial⟩
 ·simp only [hR,↓X2,wA,seval,zA,wN]
  exact Q6 rfl XM rfl rfl rfl hR sR ⟨Weak.rfl' _,Weak.rfl' _,trivial⟩
end
end Go.Ab.N
