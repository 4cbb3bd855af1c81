/- Contracts of functions of these chapters, for every argument that fits, and what they need. -/
import Derived.Test.YtefjhgcndhepeaaGreatAb4
import Derived.Test.YtefjhgcndhepeaaGreatRows
import Derived.KernelRfl
set_option linter.unusedSimpArgs false
set_option linter.unusedVariables false
open Nat renaming reducePow → Y1, reduceLT → Y2, reduceLeDiff → Y3, reduceEqDiff → Y4, reduceAdd → Y5, reduceMul → Y6, reduceSub → Y7, reduceBEq → Y8, reduceDiv → Y9, reduceMod → YA
namespace Go.Ab.N
open Go.Ab
open Classical
noncomputable section
def pw:Nat→Int
 | 0=>1
 | n+1=>1000000000*pw n
theorem Jx:∀ n,0<pw n
 | 0=>by simp [pw]
 | n+1=>by have:=Jx n; simp only [pw]; omega
theorem Ek (m n:Nat):pw (m+n)=pw m*pw n:=by
 induction m with
 | zero=>simp [pw]
 | succ m ih=>rw [show m+1+n=(m+n)+1 by omega]; simp only [pw]; rw [ih,Int.mul_assoc]
theorem C0 {m n:Nat} (h:m≤n):pw m≤pw n:=by
 obtain ⟨k,rfl⟩:=Nat.exists_eq_add_of_le h
 induction k with
 | zero=>exact Int.le_refl _
 | succ k ih =>
  have h1:=ih (by omega)
  have h2:=Jx (m+k)
  rw [show m+(k+1)=(m+k)+1 by omega]
  simp only [pw]; omega
def val:List Int→Int
 | []=>0
 | d :: l=>d+1000000000*val l
def XR (d:Int):Prop:=0≤d∧d<1000000000
def Ja (l:List Int):Prop:=∀ d∈l,XR d
def Zd (l:List Int):Prop:=Ja l∧(l≠[]→l.getD (l.length - 1) 0≠0)
theorem AN:Ja []:=fun _ h=>by cases h
theorem Kq {d:Int} {l:List Int}:Ja (d :: l)↔XR d∧Ja l:=by unfold Ja; simp
theorem H5 {l m:List Int}:Ja (l ++ m)↔Ja l∧Ja m:=by
 unfold Ja
 constructor
 ·exact fun h=>⟨fun d hd=>h d (List.mem_append_left _ hd),fun d hd=>h d (List.mem_append_right _ hd)⟩
 ·rintro ⟨h1,h2⟩ d hd
  rcases List.mem_append.1 hd with h | h
  ·exact h1 d h
  ·exact h2 d h
theorem Jh {l:List Int} (h:Ja l) (i:Nat):XR (l.getD i 0):=by
 by_cases hi:i<l.length
 ·exact h _ (Jr hi)
 ·rw [List.getD_eq_getElem?_getD,List.getElem?_eq_none (by omega)]; exact ⟨by simp,by simp⟩
theorem Qw {l:List Int} (h:Ja l) (n:Nat):Ja (l.take n):=fun d hd=>h d (List.mem_of_mem_take hd)
theorem LP {l:List Int} (h:∀ i,i<l.length→XR (l.getD i 0)):Ja l:=by
 intro d hd
 obtain ⟨i,hi,rfl⟩:=List.getElem_of_mem hd
 have:=h i hi
 rwa [List.getD_eq_getElem?_getD,List.getElem?_eq_getElem hi] at this
theorem XO {l:List Int} (h:Ja l):0≤val l:=by
 induction l with
 | nil=>exact Int.le_refl 0
 | cons d l ih =>
  obtain ⟨h1,h2⟩:=Kq.1 h
  have:=ih h2
  simp only [val]; unfold XR at h1; omega
theorem KL {l:List Int} (h:Ja l):val l<pw l.length:=by
 induction l with
 | nil=>simp [val,pw]
 | cons d l ih =>
  obtain ⟨h1,h2⟩:=Kq.1 h
  have:=ih h2
  simp only [val,List.length_cons,pw]; unfold XR at h1; omega
theorem NO (l m:List Int):val (l ++ m)=val l+pw l.length*val m:=by
 induction l with
 | nil=>simp [val,pw]
 | cons d l ih =>
  simp only [List.cons_append,val,List.length_cons,pw]
  rw [ih,Int.mul_add,Int.mul_assoc]; omega
theorem Dc (l:List Int) (x:Int):val (l ++ [x])=val l+pw l.length*x:=by
 rw [NO]; simp [val]
theorem J9 (l:List Int) (i:Nat) (h:i<l.length):val (l.take (i+1))=val (l.take i)+pw i*l.getD i 0:=by
 rw [QE l 0 i h,Dc,List.length_take,Nat.min_eq_left (by omega)]
theorem DA (n:Nat):val (List.replicate n 0)=0:=by
 induction n with
 | zero=>rfl
 | succ n ih=>simp [List.replicate_succ,val,ih]
theorem Bq {l:List Int} (h:Zd l) (hne:l≠[]):pw (l.length - 1)≤val l:=by
 have hl:=h.2 hne
 have hlen:0<l.length:=List.length_pos_iff.2 hne
 have e:=J9 l (l.length - 1) (by omega)
 rw [show l.length - 1+1=l.length by omega,List.take_length] at e
 have h1:=XO (Qw h.1 (l.length - 1))
 have h2:=Jh h.1 (l.length - 1)
 have h3:=Jx (l.length - 1)
 have h4:pw (l.length - 1)*1≤pw (l.length - 1)*l.getD (l.length - 1) 0:=Int.mul_le_mul_of_nonneg_left (by unfold XR at h2; omega) (by omega)
 omega
theorem Hr:∀ {a b:List Int},Ja a→Ja b→a.length=b.length→val a=val b→a=b
 | [],[],_,_,_,_=>rfl
 | [],_ :: _,_,_,h,_=>by simp at h
 | _ :: _,[],_,_,h,_=>by simp at h
 | x :: a,y :: b,ha,hb,hl,hv=>by
  obtain ⟨h1,h2⟩:=Kq.1 ha
  obtain ⟨h3,h4⟩:=Kq.1 hb
  simp only [val] at hv
  unfold XR at h1 h3
  have hxy:x=y:=by omega
  have hv':val a=val b:=by omega
  rw [hxy,Hr h2 h4 (by simpa using hl) hv']
theorem VK {a b:List Int} (ha:Zd a) (hb:Zd b) (h:val a=val b):a=b:=by
 have key:∀ {a b:List Int},Zd a→Zd b→val a=val b→a.length≤b.length→a=b:=by
  intro a b ha hb h hl
  by_cases e:a.length=b.length
  ·exact Hr ha.1 hb.1 e h
  ·exfalso
   have hne:b≠[]:=fun e'=>by
    have:b.length=0:=by rw [e']; rfl
    omega
   have h1:=Bq hb hne
   have h2:=KL ha.1
   have h3:=C0 (show a.length≤b.length - 1 by omega)
   omega
 rcases Nat.le_total a.length b.length with hl | hl
 ·exact key ha hb h hl
 ·exact (key hb ha h.symm hl).symm
def X8 (n:Nat):List Int:=if h:n=0 then [] else ((n % 1000000000:Nat):Int) :: X8 (n / 1000000000)
termination_by n
decreasing_by omega
theorem XQ:X8 0=[]:=by rw [X8]; simp
theorem ZN {n:Nat} (h:n≠0):X8 n=((n % 1000000000:Nat):Int) :: X8 (n / 1000000000):=by rw [X8]; simp [h]
theorem Xu (n:Nat):val (X8 n)=n:=by
 induction n using Nat.strongRecOn with
 | ind n ih =>
  by_cases h:n=0
  ·subst h; rw [XQ]; rfl
  ·rw [ZN h]
   simp only [val]
   rw [ih (n / 1000000000) (by omega)]; omega
theorem XB (n:Nat):Ja (X8 n):=by
 induction n using Nat.strongRecOn with
 | ind n ih =>
  by_cases h:n=0
  ·subst h; rw [XQ]; exact AN
  ·rw [ZN h]
   exact Kq.2 ⟨⟨by omega,by omega⟩,ih _ (by omega)⟩
theorem H6 {n:Nat} (h:n≠0):X8 n≠[]:=by rw [ZN h]; simp
theorem Ng {n:Nat}:X8 n=[]↔n=0:=⟨fun h=>Classical.byContradiction fun e=>H6 e h,fun h=>by rw [h]; exact XQ⟩
theorem XJ (n:Nat):Zd (X8 n):=by
 refine ⟨XB n,?_⟩
 induction n using Nat.strongRecOn with
 | ind n ih =>
  intro hne
  by_cases h:n=0
  ·subst h; exact absurd XQ hne
  ·rw [ZN h]
   by_cases h2:n / 1000000000=0
   ·rw [h2,XQ]; simp; omega
   ·have hn:=H6 h2
    have:=ih (n / 1000000000) (by omega) hn
    obtain ⟨k,hk⟩:∃ k,(X8 (n / 1000000000)).length=k+1:=⟨(X8 (n / 1000000000)).length - 1,by have:=List.length_pos_iff.2 hn; omega⟩
    simp only [List.length_cons,hk,Nat.add_sub_cancel] at this ⊢
    simpa using this
theorem ZK {l:List Int} (h:Zd l):X8 (val l).toNat=l:=by
 refine VK (XJ _) h ?_
 rw [Xu]
 have:=XO h.1
 omega
theorem lD {l:List Int} (h:Ja l):((val l).toNat:Int)=val l:=Int.toNat_of_nonneg (XO h)
def Zl (l:List Int):Nat→Nat
 | 0=>0
 | n+1=>if l.getD n 0=0 then Zl l n else n+1
theorem UO (l:List Int):∀ n,Zl l n≤n
 | 0=>Nat.le_refl _
 | n+1=>by
  simp only [Zl]
  split
  ·exact Nat.le_succ_of_le (UO l n)
  ·exact Nat.le_refl _
theorem Rj {l:List Int}:∀ n,n≤l.length→val (l.take (Zl l n))=val (l.take n)
 | 0,_=>rfl
 | n+1,h=>by
  simp only [Zl]
  split
  ·rename_i e
   rw [Rj n (by omega),J9 l n h,e]; simp
  ·rfl
theorem Tq {l:List Int} (h:Ja l) (n:Nat) (hn:n≤l.length):Zd (l.take (Zl l n)):=by
 refine ⟨Qw h _,fun hne=>?_⟩
 induction n with
 | zero=>simp [Zl] at hne
 | succ n ih =>
  simp only [Zl] at hne ⊢
  split
  ·rename_i e; rw [if_pos e] at hne; exact ih (by omega) hne
  ·rename_i e
   rw [List.length_take,Nat.min_eq_left hn,Nat.add_sub_cancel,Ag l 0 n (n+1) (by omega)]
   exact e
theorem Yj {l:List Int} (h:Ja l):l.take (Zl l l.length)=X8 (val l).toNat:=by
 have h1:=Tq h l.length (Nat.le_refl _)
 rw [← ZK h1,Rj _ (Nat.le_refl _),List.take_length]
def sm (f:Nat→Int):Nat→Int
 | 0=>0
 | n+1=>sm f n+pw n*f n
def ZL (f:Nat→Int) (n:Nat):List Int:=(List.range n).map f
theorem XY (f:Nat→Int) (n:Nat):(ZL f n).length=n:=by simp [ZL]
theorem Db (f:Nat→Int) (n:Nat):ZL f (n+1)=ZL f n ++ [f n]:=by simp [ZL,List.range_succ]
theorem Bi (f:Nat→Int) (n i:Nat) (h:i<n):(ZL f n).getD i 0=f i:=by simp [ZL,List.getD_eq_getElem?_getD,h]
theorem Kg {f f':Nat→Int} {n:Nat} (h:∀ k,k<n→f k=f' k):ZL f n=ZL f' n:=List.map_congr_left fun k hk=>h k (by simpa using hk)
theorem Fw (f:Nat→Int):∀ n,val (ZL f n)=sm f n
 | 0=>rfl
 | n+1=>by rw [Db,Dc,XY,Fw f n]; rfl
theorem UH (l:List Int):∀ n,n≤l.length→sm (fun i=>l.getD i 0) n=val (l.take n)
 | 0,_=>rfl
 | n+1,h=>by rw [J9 l n h,← UH l n (by omega)]; rfl
theorem oZ (l:List Int) (n:Nat) (h:l.length≤n):sm (fun i=>l.getD i 0) n=val l:=by
 obtain ⟨k,rfl⟩:=Nat.exists_eq_add_of_le h
 induction k with
 | zero=>rw [Nat.add_zero,UH l _ (Nat.le_refl _),List.take_length]
 | succ k ih =>
  rw [show l.length+(k+1)=(l.length+k)+1 by omega]
  simp only [sm]
  rw [ih (by omega)]
  have:l.getD (l.length+k) 0=0:=by rw [List.getD_eq_getElem?_getD,List.getElem?_eq_none (by omega)]; rfl
  rw [this]; simp
theorem BO {f:Nat→Int} {n:Nat} (h:∀ i,i<n→XR (f i)):Ja (ZL f n):=by
 refine LP fun i hi=>?_
 rw [XY] at hi
 rw [Bi _ _ _ hi]; exact h i hi
def Q1 (a b:Nat→Int):Nat→Int
 | 0=>0
 | i+1=>if 1000000000≤a i+b i+Q1 a b i then 1 else 0
def Zs (a b:Nat→Int) (i:Nat):Int:=if 1000000000≤a i+b i+Q1 a b i then a i+b i+Q1 a b i - 1000000000 else a i+b i+Q1 a b i
theorem Cs (a b:Nat→Int):∀ i,Q1 a b i=0∨Q1 a b i=1
 | 0=>.inl rfl
 | i+1=>by simp only [Q1]; split <;> simp
theorem NX {a b:Nat→Int} {i:Nat} (ha:XR (a i)) (hb:XR (b i)):XR (Zs a b i):=by
 have:=Cs a b i
 unfold XR at *
 unfold Zs
 split <;> omega
theorem MT (a b:Nat→Int):∀ n,sm (Zs a b) n+pw n*Q1 a b n=sm a n+sm b n
 | 0=>by simp [sm,Q1]
 | n+1=>by
  have ih:=MT a b n
  have e:Zs a b n+1000000000*Q1 a b (n+1)=a n+b n+Q1 a b n:=by
   simp only [Zs,Q1]
   split <;> omega
  simp only [sm,pw]
  have:pw n*(Zs a b n+1000000000*Q1 a b (n+1))=pw n*(a n+b n+Q1 a b n):=by rw [e]
  grind
def Jv (a b:Nat→Int):Nat→Int
 | 0=>0
 | i+1=>if a i - b i - Jv a b i<0 then 1 else 0
def A6 (a b:Nat→Int) (i:Nat):Int:=if a i - b i - Jv a b i<0 then a i - b i - Jv a b i+1000000000 else a i - b i - Jv a b i
theorem Fp (a b:Nat→Int):∀ i,Jv a b i=0∨Jv a b i=1
 | 0=>.inl rfl
 | i+1=>by simp only [Jv]; split <;> simp
theorem Re {a b:Nat→Int} {i:Nat} (ha:XR (a i)) (hb:XR (b i)):XR (A6 a b i):=by
 have:=Fp a b i
 unfold XR at *
 unfold A6
 split <;> omega
theorem NJ (a b:Nat→Int):∀ n,sm (A6 a b) n - pw n*Jv a b n=sm a n - sm b n
 | 0=>by simp [sm,Jv]
 | n+1=>by
  have ih:=NJ a b n
  have e:A6 a b n - 1000000000*Jv a b (n+1)=a n - b n - Jv a b n:=by
   simp only [A6,Jv]
   split <;> omega
  simp only [sm,pw]
  have:pw n*(A6 a b n - 1000000000*Jv a b (n+1))=pw n*(a n - b n - Jv a b n):=by rw [e]
  grind
theorem mz {f:Nat→Int}:∀ {n:Nat},(∀ i,i<n→XR (f i))→0≤sm f n∧sm f n<pw n
 | 0,_=>by simp [sm,pw]
 | n+1,h=>by
  obtain ⟨h1,h2⟩:=mz (n:=n) fun i hi=>h i (by omega)
  have h3:=h n (by omega)
  have h4:=Jx n
  unfold XR at h3
  have h5:pw n*f n≤pw n*999999999:=Int.mul_le_mul_of_nonneg_left (by omega) (by omega)
  have h6:0≤pw n*f n:=Int.mul_nonneg (by omega) h3.1
  simp only [sm,pw]; omega
theorem UJ {a b:Nat→Int} {n:Nat} (ha:∀ i,i<n→XR (a i)) (hb:∀ i,i<n→XR (b i)) (h:sm b n≤sm a n):Jv a b n=0:=by
 have h1:=NJ a b n
 have h2:=(mz (f:=A6 a b) (n:=n) fun i hi=>Re (ha i hi) (hb i hi)).2
 rcases Fp a b n with e | e
 ·exact e
 ·rw [e] at h1; omega
theorem Qk (l:List Int) (i j:Nat) (x:Int) (hi:i<l.length):(l.set i x).getD j 0=if j=i then x else l.getD j 0:=by
 simp only [List.getD_eq_getElem?_getD,List.getElem?_set]
 by_cases h:i=j
 ·subst h; simp [hi]
 ·simp [h,Ne.symm h]
theorem B8:∀ (l:List Int) (i:Nat) (x:Int),i<l.length→val (l.set i x)=val l+pw i*(x - l.getD i 0)
 | [],_,_,h=>by simp at h
 | d :: l,0,x,_=>by simp [val,pw]; omega
 | d :: l,i+1,x,h=>by
  have ih:=B8 l i x (by simpa using h)
  simp only [List.set_cons_succ,val,pw,List.getD_cons_succ]
  rw [ih,Int.mul_add,Int.mul_assoc]; omega
theorem Di {l:List Int} (h:Ja l) (i:Nat) {x:Int} (hx:XR x):Ja (l.set i x):=fun d hd=>by
 rcases List.mem_or_eq_of_mem_set hd with e | e
 ·exact h d e
 ·rw [e]; exact hx
theorem Am {x y:Int} (hx:XR x) (hy:XR y):0≤x*y∧x*y≤999999998000000001:=by
 unfold XR at hx hy
 have h1:0≤x*y:=Int.mul_nonneg hx.1 hy.1
 have h2:x*y≤999999999*y:=Int.mul_le_mul_of_nonneg_right (by omega) hy.1
 omega
theorem JW (l:List Int) (i:Nat) (h:i<l.length):val (l.drop i)=l.getD i 0+1000000000*val (l.drop (i+1)):=by
 rw [List.drop_eq_getElem_cons h]
 simp only [val]
 rw [List.getD_eq_getElem?_getD,List.getElem?_eq_getElem h]; rfl
theorem Jg (l:List Int) (i:Nat) (h:i≤l.length):val l=val (l.take i)+pw i*val (l.drop i):=by
 conv=>lhs; rw [← List.take_append_drop i l]
 rw [NO,List.length_take,Nat.min_eq_left h]
def K6 (a:Nat→Int) (k:Int):Nat→Int
 | 0=>0
 | i+1=>(a i*k+K6 a k i) / 1000000000
def Eg (a:Nat→Int) (k:Int) (i:Nat):Int:=(a i*k+K6 a k i) % 1000000000
theorem Bx {a:Nat→Int} {k:Int} (ha:∀ i,XR (a i)) (hk:XR k):∀ i,XR (K6 a k i)
 | 0=>⟨by simp [K6],by simp [K6]⟩
 | i+1=>by
  have h1:=Bx ha hk i
  have h2:=Am (ha i) hk
  simp only [K6]; unfold XR at *; omega
theorem ei {a:Nat→Int} {k:Int} (ha:∀ i,XR (a i)) (hk:XR k) (i:Nat):XR (Eg a k i):=by
 unfold Eg XR; omega
theorem Ue (a:Nat→Int) (k:Int):∀ n,sm (Eg a k) n+pw n*K6 a k n=sm a n*k
 | 0=>by simp [sm,K6]
 | n+1=>by
  have ih:=Ue a k n
  have e:Eg a k n+1000000000*K6 a k (n+1)=a n*k+K6 a k n:=by
   simp only [Eg,K6]; omega
  have e2:pw n*(Eg a k n+1000000000*K6 a k (n+1))=pw n*(a n*k+K6 a k n):=by rw [e]
  simp only [sm,pw]
  grind
def JC (a:List Int) (b:Int) (i:Nat):Int:=val (a.drop i) % b
def Zi (a:List Int) (b:Int) (i:Nat):Int:=(JC a b (i+1)*1000000000+a.getD i 0) / b
theorem G2 (a:List Int) (b:Int) (i:Nat) (h:i<a.length):JC a b i=(JC a b (i+1)*1000000000+a.getD i 0) % b:=by
 unfold JC
 rw [JW a i h]
 rw [Int.add_comm,Int.mul_comm,Int.add_emod,Int.mul_emod]
 conv=>rhs; rw [Int.add_emod,Int.mul_emod,Int.emod_emod_of_dvd _ (Int.dvd_refl b)]
theorem Iu (a:List Int) (b:Int):JC a b a.length=0:=by unfold JC; simp [val]
theorem CW {a:List Int} {b:Int} (ha:Ja a) (hb:0<b) (i:Nat):XR (Zi a b i):=by
 have h1:=Int.emod_nonneg (val (a.drop (i+1))) (show b≠0 by omega)
 have h2:=Int.emod_lt_of_pos (val (a.drop (i+1))) hb
 have h3:=Jh ha i
 unfold XR at *
 unfold Zi JC
 refine ⟨Int.ediv_nonneg (by omega) (by omega),Int.ediv_lt_of_lt_mul hb ?_⟩
 omega
theorem Uw {a:List Int} {b:Int} (hb:0<b):∀ i,i≤a.length→val (a.drop (a.length - i))=b*val ((ZL (Zi a b) a.length).drop (a.length - i))+JC a b (a.length - i)
 | 0,_=>by
  have e:(ZL (Zi a b) a.length).drop a.length=[]:=by rw [List.drop_eq_nil_iff,XY]; exact Nat.le_refl _
  simp [e,Iu,val]
 | i+1,h=>by
  have ih:=Uw (a:=a) hb i (by omega)
  obtain ⟨k,hk⟩:∃ k,a.length - (i+1)=k:=⟨_,rfl⟩
  have hk1:a.length - i=k+1:=by omega
  rw [hk1] at ih
  rw [hk]
  rw [JW a k (by omega),JW (ZL (Zi a b) a.length) k (by rw [XY]; omega),Bi _ _ _ (show k<a.length by omega)]
  have e:=Int.mul_ediv_add_emod (JC a b (k+1)*1000000000+a.getD k 0) b
  have e2:=G2 a b k (by omega)
  have e3:Zi a b k=(JC a b (k+1)*1000000000+a.getD k 0) / b:=rfl
  rw [← e3,← e2] at e
  grind
theorem Nw {a:List Int} {b:Int} (hb:0<b):val a=b*val (ZL (Zi a b) a.length)+JC a b 0:=by
 have:=Uw (a:=a) hb a.length (Nat.le_refl _)
 simpa using this
def zA (z:Int):AV:=.agg [.bool (decide (z<0)),X6 (X8 z.natAbs)]
theorem Xy (z:Int):Settled (zA z):=Qd (by simp [X4,X3])
theorem mj:(!(true == false))=true:=Go.Ab.nrfl rfl
theorem mi:(!(false == true))=true:=Go.Ab.nrfl rfl
theorem ml:(!(true == true))=false:=Go.Ab.nrfl rfl
theorem mh:(!(false == false))=false:=Go.Ab.nrfl rfl
set_option linter.defProp false in
def wN:=And.intro mj (And.intro mi (And.intro ml mh))
def Kb (neg:Bool) (v:Int):Int:=if neg=true then -v else v
theorem digs_len_zero {n:Nat}:(X8 n).length=0↔n=0:=by rw [List.length_eq_zero_iff,Ng]
theorem mn {l:List Int} (h:Ja l) (neg:Bool):zA (Kb neg (val l))=.agg [.bool (neg && decide (Zl l l.length≠0)),X6 (l.take (Zl l l.length))]:=by
 have h0:=XO h
 have e1:(Kb neg (val l)).natAbs=(val l).toNat:=by unfold Kb; split <;> omega
 have e2:=Yj h
 have hle:=UO l l.length
 have e3:Zl l l.length=0↔val l=0:=by
  have h1:(l.take (Zl l l.length)).length=Zl l l.length:=by rw [List.length_take,Nat.min_eq_left hle]
  rw [← h1,e2,digs_len_zero]; omega
 unfold zA
 rw [e1,e2]
 congr 3
 unfold Kb
 have h0':¬ val l<0:=by omega
 cases neg
 ·simp [h0']
 ·have:-val l<0↔¬ Zl l l.length=0:=by rw [e3]; omega
  simp only [if_true,Bool.true_and,decide_eq_decide]
  exact this
theorem HS {d:Nat} (h0:d≠0) (h:d<1000000000):X8 d=[(d:Int)]:=by
 rw [ZN h0,show d / 1000000000=0 by omega,XQ,show d % 1000000000=d by omega]
theorem Oy {d:Nat} (h0:1000000000≤d) (h:d<1000000000000000000):X8 d=[((d % 1000000000:Nat):Int),((d / 1000000000:Nat):Int)]:=by
 rw [ZN (by omega),HS (by omega) (by omega)]
theorem Sv {d:Nat} (h0:1000000000000000000≤d) (h:d<18446744073709551616) :
  X8 d=[((d % 1000000000:Nat):Int),((d / 1000000000 % 1000000000:Nat):Int),((d / 1000000000 / 1000000000:Nat):Int)]:=by
 rw [ZN (by omega),Oy (by omega) (by omega)]
def dg (l:List Int):Nat→Int:=fun i=>l.getD i 0
theorem XX {l:List Int} (h:Ja l) (i:Nat):XR (dg l i):=Jh h i
theorem FM {l:List Int} {i:Nat} (h:l.length≤i):dg l i=0:=by unfold dg; rw [List.getD_eq_getElem?_getD,List.getElem?_eq_none h]; rfl
theorem D8 (l:List Int) (n:Nat) (h:l.length≤n):sm (dg l) n=val l:=oZ l n h
def Z3 (a b:List Int) (n:Nat):List Int:=ZL (Zs (dg a) (dg b)) n ++ [Q1 (dg a) (dg b) n]
theorem Ms (a b:List Int) (n:Nat) (ha:a.length≤n) (hb:b.length≤n):val (Z3 a b n)=val a+val b:=by
 unfold Z3
 rw [Dc,XY,Fw,MT,D8 a n ha,D8 b n hb]
theorem Mr {a b:List Int} (ha:Ja a) (hb:Ja b) (n:Nat):Ja (Z3 a b n):=by
 unfold Z3
 refine H5.2 ⟨BO fun i _=>NX (XX ha i) (XX hb i),Kq.2 ⟨?_,AN⟩⟩
 have:=Cs (dg a) (dg b) n
 unfold XR; omega
theorem Do (a b:List Int) (n:Nat):(Z3 a b n).length=n+1:=by simp [Z3,XY]
def KJ (a b:List Int):List Int:=ZL (A6 (dg a) (dg b)) a.length
theorem Ar {a b:List Int} (ha:Ja a) (hb:Ja b) (hl:b.length≤a.length) (h:val b≤val a):val (KJ a b)=val a - val b:=by
 unfold KJ
 have e:=UJ (n:=a.length) (fun i _=>XX ha i) (fun i _=>XX hb i) (by rw [D8 b _ hl,D8 a _ (Nat.le_refl _)]; exact h)
 have e2:=NJ (dg a) (dg b) a.length
 rw [e,D8 a _ (Nat.le_refl _),D8 b _ hl] at e2
 rw [Fw]; omega
theorem Aq {a b:List Int} (ha:Ja a) (hb:Ja b):Ja (KJ a b):=BO fun i _=>Re (XX ha i) (XX hb i)
def QZ (a b:List Int) (i:Nat):List Int:=ZL (fun j=>if j<i then A6 (dg a) (dg b) j else if j=i then dg a j - Jv (dg a) (dg b) i else dg a j) a.length
theorem fP (l:List Int):ZL (dg l) l.length=l:=by
 refine List.ext_getElem (by simp [ZL]) fun i h1 h2=>?_
 simp [ZL,dg,List.getD_eq_getElem?_getD,h2]
theorem Pi (a b:List Int):QZ a b 0=a:=by
 unfold QZ
 conv=>rhs; rw [← fP a]
 refine Kg fun k _=>?_
 rw [if_neg (by omega)]
 split
 ·simp [Jv]
 ·rfl
theorem SU (a b:List Int):QZ a b a.length=KJ a b:=Kg fun k hk=>by rw [if_pos hk]
theorem ZX (f:Nat→Int) (n k:Nat) (x:Int) (h:k<n):(ZL f n).set k x=ZL (fun q=>if q=k then x else f q) n:=by
 refine List.ext_getElem (by simp [ZL]) fun q h1 h2=>?_
 have hq:q<n:=by simpa [XY] using h2
 by_cases e:k=q
 ·subst e; simp [ZL]
 ·simp [ZL,List.getElem_set,e,Ne.symm e]
end
end Go.Ab.N
namespace Go.Ab.N
open Go Go.Ab
open Classical
noncomputable section
theorem Qi {l m:List AV} (h:WeakL l m):Weak (.agg l) (.agg m):=fun c v hv=>by
 cases hv with
 | agg vs _ hs hr =>
  have:=(gx h) c (.tuple vs) (.tup vs _ hs hr)
  cases this with
  | tup _ _ hs' hr'=>exact .agg vs m hs' hr'
theorem Q6 (f:Nat→AV) (t:Bool):Weak (.sl 0 0 f t) (X6 []):=ZY rfl (Nat.le_refl _) fun j hj=>by exact absurd hj (Nat.not_lt_zero j)
theorem Z7 {n:Nat} {L:List AV} {l:List Int} {t:Bool} (hn:n=l.length) (h:L=l.map I):Weak (.sl n n (Xn L) t) (X6 l):=by
 subst hn; subst h; exact FA l t
theorem LL (L:List AV):∀ n off,off+n=L.length→Qr (Xn L) off 0 n=L.drop off:=by
 have key:∀ n off j,off+j+n=L.length→Qr (Xn L) off j n=L.drop (off+j):=by
  intro n
  induction n with
  | zero=>intro off j h; rw [List.drop_eq_nil_iff.2 (by omega)]; rfl
  | succ n ih =>
   intro off j h
   rw [List.drop_eq_getElem_cons (by omega)]
   simp only [Qr]
   rw [ih off (j+1) (by omega)]
   congr 1
   show L.getD (off+j) .any=_
   rw [List.getD_eq_getElem?_getD,List.getElem?_eq_getElem (by omega)]; rfl
 intro n off h
 rw [key n off 0 (by omega)]; rfl
theorem oU {P:Program} {fn:Func} {str hcs:List Nat} {r:AV} {s:AS} {t u id ver n:Nat} {L:List AV} (hr:fn.results=#[.cell t u]) (hk:Bb P u=some (some n)) (hs:s.get t=.ref id ver 0)
  (ho:s.h[id]?=some (.row ver n (Xn L))) (hn:L.length=n) (h:Jn s.h (.agg L) r):RetOk (J4 P fn str hcs r) s:=by
 subst hn
 refine Ff (v:=.agg L) hr ?_ h
 rw [hs,N1,hk,DY,ho,DZ,oP,LL L _ _ (by omega)]
 simp [Q2]
theorem Q0 {P:Program} {fn:Func} {str hcs:List Nat} {r:AV} {s:AS} {t u id ver n:Nat} {L M:List AV} (hr:fn.results=#[.cell t u]) (hk:Bb P u=some (some n)) (hs:s.get t=.ref id ver 0)
  (ho:s.h[id]?=some (.row ver n (Xn L))) (hn:L.length=n) (e:r=.agg M) (hset:Settled r) (h:WeakL L M):RetOk (J4 P fn str hcs r) s:=by
 refine oU hr hk hs ho hn ?_
 subst e
 exact XG hset (Qi h)
end
end Go.Ab.N
namespace Go.Ab.N
open Go Go.RowKit Go.Proofs
theorem rt:Bb Tryz.prog 3=some none:=by kernel_rfl
theorem p8:KU Tryz.prog 3=some 1:=by kernel_rfl
theorem rr:Wn Tryz.prog 3=some .i64:=by kernel_rfl
theorem pq:Qz Tryz.prog 3=some [.int .i64 0]:=by kernel_rfl
theorem ru:Bb Tryz.prog 4=some none:=by kernel_rfl
theorem p9:KU Tryz.prog 4=some 1:=by kernel_rfl
theorem nD:HH Tryz.prog 4=true:=by kernel_rfl
theorem pr:Qz Tryz.prog 4=some [.bool false]:=by kernel_rfl
theorem qy:Bb Tryz.prog 22=some none:=by kernel_rfl
theorem lj:KU Tryz.prog 22=some 1:=by kernel_rfl
theorem md:A3 Tryz.prog 22=some (3,1,8):=by kernel_rfl
theorem qz:Bb Tryz.prog 23=some none:=by kernel_rfl
theorem qg:A3 Tryz.prog 23=some (110,2,16):=by kernel_rfl
theorem qB:Bb Tryz.prog 24=some none:=by kernel_rfl
theorem lk:KU Tryz.prog 24=some 1:=by kernel_rfl
theorem qi:A3 Tryz.prog 24=some (4,1,1):=by kernel_rfl
theorem XL:Bb Tryz.prog 26=some (some 2):=by kernel_rfl
theorem ll:KU Tryz.prog 26=some 2:=by kernel_rfl
theorem jE:Bv Tryz.prog 26 0=some (0,1,none):=by kernel_rfl
theorem iF:QB Tryz.prog 26 0=some (0,1):=by kernel_rfl
theorem jF:Bv Tryz.prog 26 1=some (1,1,none):=by kernel_rfl
theorem iG:QB Tryz.prog 26 1=some (1,1):=by kernel_rfl
theorem pS:A7 Tryz.prog 26=true:=by kernel_rfl
theorem lJ:Qz Tryz.prog 26=some [.bool false,.sl 0 0 (fun _=>.any) true]:=by kernel_rfl
theorem Q8:Bb Tryz.prog 28=some (some 4):=by kernel_rfl
theorem lm:KU Tryz.prog 28=some 4:=by kernel_rfl
theorem jG:Bv Tryz.prog 28 0=some (0,2,some 2):=by kernel_rfl
theorem iH:QB Tryz.prog 28 0=some (0,2):=by kernel_rfl
theorem jH:Bv Tryz.prog 28 1=some (2,2,some 2):=by kernel_rfl
theorem iI:QB Tryz.prog 28 1=some (2,2):=by kernel_rfl
theorem pT:A7 Tryz.prog 28=true:=by kernel_rfl
theorem lK:Qz Tryz.prog 28=some [.bool false,.sl 0 0 (fun _=>.any) true,.bool false,.sl 0 0 (fun _=>.any) true]:=by kernel_rfl
theorem EY:Bb Tryz.prog 30=some (some 25):=by kernel_rfl
theorem ln:KU Tryz.prog 30=some 25:=by kernel_rfl
theorem iJ:QB Tryz.prog 30 0=some (0,1):=by kernel_rfl
theorem jI:Bv Tryz.prog 30 1=some (1,1,none):=by kernel_rfl
theorem iK:QB Tryz.prog 30 1=some (1,1):=by kernel_rfl
theorem jJ:Bv Tryz.prog 30 2=some (2,1,none):=by kernel_rfl
theorem iL:QB Tryz.prog 30 2=some (2,1):=by kernel_rfl
theorem jK:Bv Tryz.prog 30 3=some (3,1,none):=by kernel_rfl
theorem iM:QB Tryz.prog 30 3=some (3,1):=by kernel_rfl
theorem jL:Bv Tryz.prog 30 4=some (4,1,none):=by kernel_rfl
theorem iN:QB Tryz.prog 30 4=some (4,1):=by kernel_rfl
theorem jM:Bv Tryz.prog 30 5=some (5,4,some 4):=by kernel_rfl
theorem iO:QB Tryz.prog 30 5=some (5,4):=by kernel_rfl
theorem jN:Bv Tryz.prog 30 6=some (9,4,some 4):=by kernel_rfl
theorem iP:QB Tryz.prog 30 6=some (9,4):=by kernel_rfl
theorem jO:Bv Tryz.prog 30 7=some (13,4,some 4):=by kernel_rfl
theorem iQ:QB Tryz.prog 30 7=some (13,4):=by kernel_rfl
theorem jP:Bv Tryz.prog 30 8=some (17,4,some 4):=by kernel_rfl
theorem iR:QB Tryz.prog 30 8=some (17,4):=by kernel_rfl
theorem jQ:Bv Tryz.prog 30 9=some (21,4,some 4):=by kernel_rfl
theorem iS:QB Tryz.prog 30 9=some (21,4):=by kernel_rfl
theorem pU:A7 Tryz.prog 30=true:=by kernel_rfl
theorem lM:Qz Tryz.prog 30=some [.int .i64 0,.int .i64 0,.sl 0 0 (fun _=>.any) true,.sl 0 0 (fun _=>.any) true,.sl 0 0 (fun _=>.any) true,.bool false,.sl 0 0 (fun _=>.any) true,.bool false,.sl 0 0 (fun _=>.any) true,.bool false,.sl 0 0 (fun _=>.any) true,.bool false,.sl 0 0 (fun _=>.any) true,.bool false,.sl 0 0 (fun _=>.any) true,.bool false,.sl 0 0 (fun _=>.any) true,.bool false,.sl 0 0 (fun _=>.any) true,.bool false,.sl 0 0 (fun _=>.any) true,.bool false,.sl 0 0 (fun _=>.any) true,.bool false,.sl 0 0 (fun _=>.any) true]:=by kernel_rfl
theorem qj:A3 Tryz.prog 35=some (28,4,64):=by kernel_rfl
theorem M6:Bb Tryz.prog 48=some (some 8):=by kernel_rfl
theorem ls:KU Tryz.prog 48=some 8:=by kernel_rfl
theorem jR:Bv Tryz.prog 48 0=some (0,4,some 4):=by kernel_rfl
theorem iT:QB Tryz.prog 48 0=some (0,4):=by kernel_rfl
theorem jS:Bv Tryz.prog 48 1=some (4,4,some 4):=by kernel_rfl
theorem iU:QB Tryz.prog 48 1=some (4,4):=by kernel_rfl
theorem pV:A7 Tryz.prog 48=true:=by kernel_rfl
theorem lN:Qz Tryz.prog 48=some [.bool false,.sl 0 0 (fun _=>.any) true,.bool false,.sl 0 0 (fun _=>.any) true,.bool false,.sl 0 0 (fun _=>.any) true,.bool false,.sl 0 0 (fun _=>.any) true]:=by kernel_rfl
theorem Ko:Bb Tryz.prog 50=some (some 8):=by kernel_rfl
theorem lu:KU Tryz.prog 50=some 8:=by kernel_rfl
theorem jT:Bv Tryz.prog 50 0=some (0,4,some 4):=by kernel_rfl
theorem iV:QB Tryz.prog 50 0=some (0,4):=by kernel_rfl
theorem jU:Bv Tryz.prog 50 1=some (4,4,some 4):=by kernel_rfl
theorem iW:QB Tryz.prog 50 1=some (4,4):=by kernel_rfl
theorem pW:A7 Tryz.prog 50=true:=by kernel_rfl
theorem lO:Qz Tryz.prog 50=some [.bool false,.sl 0 0 (fun _=>.any) true,.bool false,.sl 0 0 (fun _=>.any) true,.bool false,.sl 0 0 (fun _=>.any) true,.bool false,.sl 0 0 (fun _=>.any) true]:=by kernel_rfl
theorem qD:Bb Tryz.prog 52=some (some 29):=by kernel_rfl
theorem lx:KU Tryz.prog 52=some 29:=by kernel_rfl
theorem jV:Bv Tryz.prog 52 0=some (0,1,none):=by kernel_rfl
theorem jW:Bv Tryz.prog 52 1=some (1,1,none):=by kernel_rfl
theorem iX:QB Tryz.prog 52 1=some (1,1):=by kernel_rfl
theorem jX:Bv Tryz.prog 52 2=some (2,1,none):=by kernel_rfl
theorem iY:QB Tryz.prog 52 2=some (2,1):=by kernel_rfl
theorem jY:Bv Tryz.prog 52 3=some (3,1,none):=by kernel_rfl
theorem iZ:QB Tryz.prog 52 3=some (3,1):=by kernel_rfl
theorem jZ:Bv Tryz.prog 52 4=some (4,1,none):=by kernel_rfl
theorem j8:QB Tryz.prog 52 4=some (4,1):=by kernel_rfl
theorem ka:Bv Tryz.prog 52 5=some (5,8,some 8):=by kernel_rfl
theorem j9:QB Tryz.prog 52 5=some (5,8):=by kernel_rfl
theorem kc:Bv Tryz.prog 52 6=some (13,8,some 8):=by kernel_rfl
theorem ke:Bv Tryz.prog 52 7=some (21,8,some 8):=by kernel_rfl
theorem pX:A7 Tryz.prog 52=true:=by kernel_rfl
theorem lP:Qz Tryz.prog 52=some [.int .i64 0,.int .i64 0,.int .i64 0,.int .i64 0,.int .i64 0,.bool false,.sl 0 0 (fun _=>.any) true,.bool false,.sl 0 0 (fun _=>.any) true,.bool false,.sl 0 0 (fun _=>.any) true,.bool false,.sl 0 0 (fun _=>.any) true,.bool false,.sl 0 0 (fun _=>.any) true,.bool false,.sl 0 0 (fun _=>.any) true,.bool false,.sl 0 0 (fun _=>.any) true,.bool false,.sl 0 0 (fun _=>.any) true,.bool false,.sl 0 0 (fun _=>.any) true,.bool false,.sl 0 0 (fun _=>.any) true,.bool false,.sl 0 0 (fun _=>.any) true,.bool false,.sl 0 0 (fun _=>.any) true]:=by kernel_rfl
theorem U8:Bb Tryz.prog 54=some (some 79):=by kernel_rfl
theorem lz:KU Tryz.prog 54=some 79:=by kernel_rfl
theorem kf:Bv Tryz.prog 54 0=some (0,25,some 25):=by kernel_rfl
theorem ja:QB Tryz.prog 54 0=some (0,25):=by kernel_rfl
theorem kg:Bv Tryz.prog 54 1=some (25,25,some 25):=by kernel_rfl
theorem jb:QB Tryz.prog 54 1=some (25,25):=by kernel_rfl
theorem kh:Bv Tryz.prog 54 2=some (50,29,some 29):=by kernel_rfl
theorem pY:A7 Tryz.prog 54=true:=by kernel_rfl
theorem lQ:Qz Tryz.prog 54=some [.int .i64 0,.int .i64 0,.sl 0 0 (fun _=>.any) true,.sl 0 0 (fun _=>.any) true,.sl 0 0 (fun _=>.any) true,.bool false,.sl 0 0 (fun _=>.any) true,.bool false,.sl 0 0 (fun _=>.any) true,.bool false,.sl 0 0 (fun _=>.any) true,.bool false,.sl 0 0 (fun _=>.any) true,.bool false,.sl 0 0 (fun _=>.any) true,.bool false,.sl 0 0 (fun _=>.any) true,.bool false,.sl 0 0 (fun _=>.any) true,.bool false,.sl 0 0 (fun _=>.any) true,.bool false,.sl 0 0 (fun _=>.any) true,.bool false,.sl 0 0 (fun _=>.any) true,.int .i64 0,.int .i64 0,.sl 0 0 (fun _=>.any) true,.sl 0 0 (fun _=>.any) true,.sl 0 0 (fun _=>.any) true,.bool false,.sl 0 0 (fun _=>.any) true,.bool false,.sl 0 0 (fun _=>.any) true,.bool false,.sl 0 0 (fun _=>.any) true,.bool false,.sl 0 0 (fun _=>.any) true,.bool false,.sl 0 0 (fun _=>.any) true,.bool false,.sl 0 0 (fun _=>.any) true,.bool false,.sl 0 0 (fun _=>.any) true,.bool false,.sl 0 0 (fun _=>.any) true,.bool false,.sl 0 0 (fun _=>.any) true,.bool false,.sl 0 0 (fun _=>.any) true,.int .i64 0,.int .i64 0,.int .i64 0,.int .i64 0,.int .i64 0,.bool false,.sl 0 0 (fun _=>.any) true,.bool false,.sl 0 0 (fun _=>.any) true,.bool false,.sl 0 0 (fun _=>.any) true,.bool false,.sl 0 0 (fun _=>.any) true,.bool false,.sl 0 0 (fun _=>.any) true,.bool false,.sl 0 0 (fun _=>.any) true,.bool false,.sl 0 0 (fun _=>.any) true,.bool false,.sl 0 0 (fun _=>.any) true,.bool false,.sl 0 0 (fun _=>.any) true,.bool false,.sl 0 0 (fun _=>.any) true,.bool false,.sl 0 0 (fun _=>.any) true,.bool false,.sl 0 0 (fun _=>.any) true]:=by kernel_rfl
theorem qE:Bb Tryz.prog 57=some none:=by kernel_rfl
theorem lA:KU Tryz.prog 57=some 1:=by kernel_rfl
theorem qk:A3 Tryz.prog 57=some (52,29,424):=by kernel_rfl
theorem lS:Qz Tryz.prog 57=some [.sl 0 0 (fun _=>.any) true]:=by kernel_rfl
theorem qF:Bb Tryz.prog 81=some none:=by kernel_rfl
theorem lB:KU Tryz.prog 81=some 1:=by kernel_rfl
theorem ql:A3 Tryz.prog 81=some (50,8,128):=by kernel_rfl
theorem lU:Qz Tryz.prog 81=some [.sl 0 0 (fun _=>.any) true]:=by kernel_rfl
theorem qG:Bb Tryz.prog 84=some (some 16):=by kernel_rfl
theorem lC:KU Tryz.prog 84=some 16:=by kernel_rfl
theorem ki:Bv Tryz.prog 84 0=some (0,8,some 8):=by kernel_rfl
theorem jc:QB Tryz.prog 84 0=some (0,8):=by kernel_rfl
theorem kj:Bv Tryz.prog 84 1=some (8,8,some 8):=by kernel_rfl
theorem jd:QB Tryz.prog 84 1=some (8,8):=by kernel_rfl
theorem pZ:A7 Tryz.prog 84=true:=by kernel_rfl
theorem lV:Qz Tryz.prog 84=some [.bool false,.sl 0 0 (fun _=>.any) true,.bool false,.sl 0 0 (fun _=>.any) true,.bool false,.sl 0 0 (fun _=>.any) true,.bool false,.sl 0 0 (fun _=>.any) true,.bool false,.sl 0 0 (fun _=>.any) true,.bool false,.sl 0 0 (fun _=>.any) true,.bool false,.sl 0 0 (fun _=>.any) true,.bool false,.sl 0 0 (fun _=>.any) true]:=by kernel_rfl
theorem dK:Bb Tryz.prog 110=some (some 2):=by kernel_rfl
theorem fS:KU Tryz.prog 110=some 2:=by kernel_rfl
theorem d9:Bv Tryz.prog 110 0=some (0,1,none):=by kernel_rfl
theorem aP:QB Tryz.prog 110 0=some (0,1):=by kernel_rfl
theorem dc:Bv Tryz.prog 110 1=some (1,1,none):=by kernel_rfl
theorem aQ:QB Tryz.prog 110 1=some (1,1):=by kernel_rfl
theorem ny:A7 Tryz.prog 110=true:=by kernel_rfl
theorem gF:Qz Tryz.prog 110=some [.int .i64 0,.int .i64 0]:=by kernel_rfl
theorem ov:Bb Tryz.prog 122=some (some 2):=by kernel_rfl
theorem fT:KU Tryz.prog 122=some 2:=by kernel_rfl
theorem nM:A3 Tryz.prog 122=none:=by kernel_rfl
theorem aR:QB Tryz.prog 122 0=some (0,1):=by kernel_rfl
theorem aS:QB Tryz.prog 122 1=some (1,1):=by kernel_rfl
theorem nz:A7 Tryz.prog 122=true:=by kernel_rfl
theorem np:Vy Tryz.prog 122=some (2,1,none):=by kernel_rfl
theorem gG:Qz Tryz.prog 122=some [.int .i64 0,.int .i64 0]:=by kernel_rfl
theorem nN:A3 Tryz.prog 123=some (122,2,16):=by kernel_rfl
theorem nO:A3 Tryz.prog 148=some (48,8,128):=by kernel_rfl
theorem og:Wn Tryz.prog 187=some .u64:=by kernel_rfl
theorem ow:Bb Tryz.prog 191=some none:=by kernel_rfl
theorem nP:A3 Tryz.prog 191=some (81,1,24):=by kernel_rfl
theorem oh:Wn Tryz.prog 197=some .u64:=by kernel_rfl
theorem nQ:A3 Tryz.prog 241=some (244,3,24):=by kernel_rfl
theorem dM:Bb Tryz.prog 244=some (some 3):=by kernel_rfl
theorem fU:KU Tryz.prog 244=some 3:=by kernel_rfl
theorem nR:A3 Tryz.prog 244=none:=by kernel_rfl
theorem aT:QB Tryz.prog 244 0=some (0,1):=by kernel_rfl
theorem aU:QB Tryz.prog 244 1=some (1,1):=by kernel_rfl
theorem aV:QB Tryz.prog 244 2=some (2,1):=by kernel_rfl
theorem nA:A7 Tryz.prog 244=true:=by kernel_rfl
theorem nq:Vy Tryz.prog 244=some (3,1,none):=by kernel_rfl
theorem gH:Qz Tryz.prog 244=some [.int .i64 0,.int .i64 0,.int .i64 0]:=by kernel_rfl
theorem ox:Bb Tryz.prog 249=some none:=by kernel_rfl
theorem dd:Bv Tryz.prog 252 0=some (0,1,none):=by kernel_rfl
theorem aW:QB Tryz.prog 252 0=some (0,1):=by kernel_rfl
theorem de:Bv Tryz.prog 252 1=some (1,1,none):=by kernel_rfl
theorem nC:A7 Tryz.prog 252=true:=by kernel_rfl
theorem gI:Qz Tryz.prog 252=some [.sl 0 0 (fun _=>.any) true,.sl 0 0 (fun _=>.any) true]:=by kernel_rfl
theorem mixed:Tryz.prog.follows .mixedOrders=true:=by kernel_rfl
theorem Fq {f:FuncId} {fn:Func} {body:Code} {args:List AV} {r:AV} (he:ZZ Tryz.prog f) (hf:Tryz.prog.funcs[f]?=some fn) (n0:Nat) (hid str hcs:List Nat) (hs:∀ a∈args,Settled a) (h:Run (J4 Tryz.prog fn str hcs r) [.code body] (AS.start n0 hid args [])) (hb:fn.body=some body:=by rfl) (hok:Qj fn.ntmps str hcs body=true:=by kernel_rfl) (hlen:args.length≤fn.ntmps:=by exact Nat.le_of_ble_eq_true rfl):Fn Tryz.prog f args r:=Fn.intro he hf hb mixed n0 hid str hcs hok hlen hs h
set_option linter.defProp false in
def po:=And.intro @rt <| And.intro @p8 <| And.intro @rr <| And.intro @pq <| And.intro @ru <| And.intro @p9 <| And.intro @nD <| And.intro @pr <| And.intro @qy <| And.intro @lj <| And.intro @md <| And.intro @qz <| And.intro @qg <| And.intro @qB <| And.intro @lk <| And.intro @qi <| And.intro @XL <| And.intro @ll <| And.intro @jE <| And.intro @iF <| And.intro @jF <| And.intro @iG <| And.intro @pS <| And.intro @lJ <| And.intro @Q8 <| And.intro @lm <| And.intro @jG <| And.intro @iH <| And.intro @jH <| And.intro @iI <| And.intro @pT <| And.intro @lK <| And.intro @EY <| And.intro @ln <| And.intro @iJ <| And.intro @jI <| And.intro @iK <| And.intro @jJ <| And.intro @iL <| And.intro @jK <| And.intro @iM <| And.intro @jL <| And.intro @iN <| And.intro @jM <| And.intro @iO <| And.intro @jN <| And.intro @iP <| And.intro @jO <| And.intro @iQ <| And.intro @jP <| And.intro @iR <| And.intro @jQ <| And.intro @iS <| And.intro @pU <| And.intro @lM <| And.intro @qj <| And.intro @M6 <| And.intro @ls <| And.intro @jR <| And.intro @iT <| And.intro @jS <| And.intro @iU <| And.intro @pV <| And.intro @lN <| And.intro @Ko <| And.intro @lu <| And.intro @jT <| And.intro @iV <| And.intro @jU <| And.intro @iW <| And.intro @pW <| And.intro @lO <| And.intro @qD <| And.intro @lx <| And.intro @jV <| And.intro @jW <| And.intro @iX <| And.intro @jX <| And.intro @iY <| And.intro @jY <| And.intro @iZ <| And.intro @jZ <| And.intro @j8 <| And.intro @ka <| And.intro @j9 <| And.intro @kc <| And.intro @ke <| And.intro @pX <| And.intro @lP <| And.intro @U8 <| And.intro @lz <| And.intro @kf <| And.intro @ja <| And.intro @kg <| And.intro @jb <| And.intro @kh <| And.intro @pY <| And.intro @lQ <| And.intro @qE <| And.intro @lA <| And.intro @qk <| And.intro @lS <| And.intro @qF <| And.intro @lB <| And.intro @ql <| And.intro @lU <| And.intro @qG <| And.intro @lC <| And.intro @ki <| And.intro @jc <| And.intro @kj <| And.intro @jd <| And.intro @pZ <| And.intro @lV <| And.intro @dK <| And.intro @fS <| And.intro @d9 <| And.intro @aP <| And.intro @dc <| And.intro @aQ <| And.intro @ny <| And.intro @gF <| And.intro @ov <| And.intro @fT <| And.intro @nM <| And.intro @aR <| And.intro @aS <| And.intro @nz <| And.intro @np <| And.intro @gG <| And.intro @nN <| And.intro @nO <| And.intro @og <| And.intro @ow <| And.intro @nP <| And.intro @oh <| And.intro @nQ <| And.intro @dM <| And.intro @fU <| And.intro @nR <| And.intro @aT <| And.intro @aU <| And.intro @aV <| And.intro @nA <| And.intro @nq <| And.intro @gH <| And.intro @ox <| And.intro @dd <| And.intro @aW <| And.intro @de <| And.intro @nC <| @gI
set_option linter.defProp false in
def wA:=And.intro @r5 <| And.intro @qZ <| And.intro @qY <| And.intro @beq_self_eq_true.{0} <| And.intro @ite_true.{1} <| And.intro @ite_false.{1} <| And.intro @false_implies <| And.intro @true_implies <| And.intro @implies_true.{1} <| And.intro @implies_true.{0} <| And.intro @eq_self.{1} <| And.intro @ne_eq.{1} <| @po
end Go.Ab.N
namespace Go.Ab.N
open Go Go.RowKit Go.Proofs
noncomputable section
set_option maxRecDepth 10000
set_option maxHeartbeats 2000000
open Classical
def eu (neg:Bool) (l:List Int):AV:=.agg [.bool (neg && decide (Zl l l.length≠0)),X6 (l.take (Zl l l.length))]
theorem JG (neg:Bool) (l:List Int):Settled (eu neg l):=Qd (by simp [X4,X3])
theorem qI (neg:Bool) (d:List Int) (hl:d.length<4611686018427387904):Fn Tryz.prog 208 [.bool neg,X6 d] (eu neg d):=by
 refine Fq Tryz.call208 Tryz.func208 6 [] [] [] (by simp [X4,Xa,JE,J8,X3,JF,Xy,JG,Jc]) (X0 1000 ?_); simp (config:={ maxSteps:=2000000 }) only [AS.start,↓X2,wA,seval,zA,wN]
 refine Xf (fun n:Nat=>⟨6,[],[.bool neg,X6 d,.any,.any,.ref 0 0 0,I n],[],[.row 0 2 (Xn [.bool false,.sl 0 0 (fun _=>.any) true])]⟩) (fun n=>n≤d.length∧Zl d d.length=Zl d n) (fun n=>n) d.length ⟨by omega,rfl⟩
  (Xb rfl (by simp [zA,wN,Xh,X6,Bw,KN,Qb,I]) (by simp [Xi]) rfl) ?_
 rintro n ⟨hn,ht⟩ next
 cases n with
 | zero =>
  refine X0 1000 ?_
  simp only [Int.lt_irrefl,↓X2,wA,seval,zA,wN]
  refine Ff (v:=.agg [.bool false,.sl 0 0 (fun _=>.any) false]) rfl (by simp [AS.get,Jz,XL,rd,Qr,Xn,BB]) ?_
  have e:eu neg d=.agg [.bool false,X6 []]:=by unfold eu; rw [ht]; simp [Zl]
  rw [e]
  exact Az ⟨Qy (X3 _) rfl,XG (X4 _) (Q6 _ _),trivial⟩
 | succ n =>
  have e0:(0<((n+1:Nat):Int))=True:=eq_true (by omega)
  have e1:(((n+1:Nat):Int)=0)=False:=eq_false (by omega)
  have w1:IntKind.i64.wrap (((n+1:Nat):Int) - 1)=(n:Int):=by rw [IntKind.wrap_i64]; omega
  have e2:(n<d.length)=True:=eq_true (by omega)
  refine X0 1000 ?_
  simp only [e0,e1,e2,w1,↓X2,wA,seval,zA,wN]
  refine ⟨fun h0=>next n _ ⟨by omega,by rw [ht]; simp only [Zl]; rw [if_pos h0]⟩ (by omega) (Xb rfl (by simp [zA,wN,Xh,X6,Bw,KN,Qb,I]) (by simp [Xi]) rfl),fun h0=>⟨by omega,?_⟩⟩
  have ht2:Zl d d.length=n+1:=by rw [ht]; simp only [Zl]; rw [if_neg h0]
  have e:eu neg d=.agg [.bool neg,X6 (d.take (n+1))]:=by unfold eu; rw [ht2]; simp
  have hlen:(d.take (n+1)).length=n+1:=by rw [List.length_take]; omega
  rw [e]
  refine Ff (v:=.agg [.bool neg,.sl (n+1) (n+1) (fun j=>.int .i64 (d.getD j 0)) false]) rfl ?_ ?_
  ·have m1:min (n+1) d.length=n+1:=by omega
   simp [AS.get,Jz,XL,rd,Qr,Xn,BB,m1]
  ·refine Az ⟨Qy (X3 _) rfl,XG (X4 _) (Fz _ hlen.symm (by omega) fun j hj=>?_),trivial⟩
   rw [hlen] at hj
   rw [Ag d 0 j (n+1) hj]; rfl
set_option linter.defProp false in
def JN:=And.intro @X4 (And.intro @Xa (And.intro @JE (And.intro @J8 (And.intro @X3 (And.intro @JF (And.intro @Xy (And.intro @JG @Jc)))))))
theorem gE (neg:Bool) {u:Int} (h:0≤u):zA (Kb neg u)=.agg [.bool (neg && decide (u≠0)),X6 (X8 u.toNat)]:=by
 unfold zA
 have e1:(Kb neg u).natAbs=u.toNat:=by unfold Kb; split <;> omega
 rw [e1]
 congr 3
 unfold Kb
 have h0':¬ u<0:=by omega
 cases neg
 ·simp [h0']
 ·have:-u<0↔¬ u=0:=by omega
  simp only [if_true,Bool.true_and,decide_eq_decide,ne_eq]
  exact this
def U (n:Int):AV:=.int .u64 n
theorem Kz (neg:Bool) (u:Int) (h0:0≤u) (h1:u<18446744073709551616):Fn Tryz.prog 207 [.bool neg,.int .u64 u] (zA (Kb neg u)):=by
 obtain ⟨R,hR⟩:∃ R,R=zA (Kb neg u):=⟨_,rfl⟩
 have eR:=hR.trans (gE neg h0)
 have sR:Settled R:=hR▸Xy _
 have b1:u≠0→(neg && decide (u≠0))=neg:=fun h=>by simp [h]
 have w1:IntKind.i64.wrap (u.tmod 1000000000)=u % 1000000000:=by rw [IntKind.wrap_i64,Int.tmod_eq_emod_of_nonneg h0]; omega
 have w2:IntKind.u64.wrap (u.tdiv 1000000000)=u / 1000000000:=by rw [IntKind.wrap_u64,Int.tdiv_eq_ediv_of_nonneg h0]; omega
 have h2:0≤u / 1000000000:=by omega
 have w3:IntKind.i64.wrap (u / 1000000000)=u / 1000000000:=by rw [IntKind.wrap_i64]; omega
 have w4:IntKind.i64.wrap ((u / 1000000000).tmod 1000000000)=u / 1000000000 % 1000000000:=by rw [IntKind.wrap_i64,Int.tmod_eq_emod_of_nonneg h2]; omega
 have w5:IntKind.u64.wrap ((u / 1000000000).tdiv 1000000000)=u / 1000000000 / 1000000000:=by rw [IntKind.wrap_u64,Int.tdiv_eq_ediv_of_nonneg h2]; omega
 have w6:IntKind.i64.wrap (u / 1000000000 / 1000000000)=u / 1000000000 / 1000000000:=by rw [IntKind.wrap_i64]; omega
 rw [← hR]
 refine Fq Tryz.call207 Tryz.func207 6 [] [] [] (by simp [JN]) (X0 1000 ?_); simp (config:={ maxSteps:=2000000 }) only [AS.start,↓X2,wA,↓reduceIte,reduceIte,reduceCtorEq,Y1,Y2,Y3,Y4,Y5,Y6,Y7,Y8,Y9,YA,zA,wN]
 simp only [w1,w2,w3,w4,w5,w6]
 refine ⟨fun a=>?_,fun a0=>⟨fun a1=>?_,fun a1=>⟨fun a2=>⟨by omega,by omega,?_⟩,fun a2=>⟨by omega,by omega,by omega,by omega,by omega,?_⟩⟩⟩⟩
 ·rw [a,show (neg && decide ((0:Int)≠0))=false by simp,show (0:Int).toNat=0 from rfl,XQ] at eR
  exact Q0 rfl XL rfl rfl rfl eR sR ⟨Weak.rfl' _,Q6 _ _,trivial⟩
 ·have w0:IntKind.i64.wrap u=u:=by rw [IntKind.wrap_i64]; omega
  rw [b1 a0,HS (by omega) (by omega),Int.toNat_of_nonneg h0] at eR
  rw [w0]
  exact Q0 rfl XL rfl rfl rfl eR sR ⟨Weak.rfl' _,Z7 rfl rfl,trivial⟩
 ·rw [b1 a0,Oy (by omega) (by omega)] at eR
  have e1:((u.toNat % 1000000000:Nat):Int)=u % 1000000000:=by omega
  have e2:((u.toNat / 1000000000:Nat):Int)=u / 1000000000:=by omega
  rw [e1,e2] at eR
  exact Q0 rfl XL rfl rfl rfl eR sR ⟨Weak.rfl' _,Z7 rfl rfl,trivial⟩
 ·rw [b1 a0,Sv (by omega) (by omega)] at eR
  have e1:((u.toNat % 1000000000:Nat):Int)=u % 1000000000:=by omega
  have e2:((u.toNat / 1000000000 % 1000000000:Nat):Int)=u / 1000000000 % 1000000000:=by omega
  have e3:((u.toNat / 1000000000 / 1000000000:Nat):Int)=u / 1000000000 / 1000000000:=by omega
  rw [e1,e2,e3] at eR
  exact Q0 rfl XL rfl rfl rfl eR sR ⟨Weak.rfl' _,Z7 rfl rfl,trivial⟩
theorem Nm (z:Int):Fn Tryz.prog 196 [zA z] (zA (-z)):=by
 have e:(-z).natAbs=z.natAbs:=by omega
 have e0:z.natAbs=0↔z=0:=by omega
 have e1:(X8 z.natAbs).length=0↔z=0:=digs_len_zero.trans e0
 refine Fq Tryz.call196 Tryz.func196 3 [] [] [] (by simp [JN]) (X0 1000 ?_); simp (config:={ maxSteps:=2000000 }) only [AS.start,↓X2,wA,↓reduceIte,reduceIte,reduceCtorEq,Y1,Y2,Y3,Y4,Y5,Y6,Y7,Y8,Y9,YA,zA,wN]
 refine ⟨fun h=>Q0 rfl XL rfl rfl rfl rfl (Xy _) ?_,fun h=>Q0 rfl XL rfl rfl rfl rfl (Xy _) ?_⟩
 ·rw [e]
  have:decide (-z<0)=decide (0<((X8 z.natAbs).length:Int)):=by rw [decide_eq_decide]; omega
  rw [this]
  exact ⟨Weak.rfl' _,Weak.rfl' _,trivial⟩
 ·rw [e,show decide (-z<0)=false from decide_eq_false (by omega)]
  exact ⟨Weak.rfl' _,Weak.rfl' _,trivial⟩
theorem l6 (z:Int):Fn Tryz.prog 155 [zA z] (I z.sign):=by
 have e0:z.natAbs=0↔z=0:=by omega
 have e1:(X8 z.natAbs).length=0↔z=0:=digs_len_zero.trans e0
 refine Fq Tryz.call155 Tryz.func155 4 [] [] [] (by simp [JN]) (X0 1000 ?_); simp (config:={ maxSteps:=2000000 }) only [AS.start,↓X2,wA,↓reduceIte,reduceIte,reduceCtorEq,Y1,Y2,Y3,Y4,Y5,Y6,Y7,Y8,Y9,YA,zA,wN]
 refine ⟨fun h=>Xv rfl rfl (Xa _) ?_,fun h=>⟨fun h2=>Xv rfl rfl (Xa _) ?_,fun h2=>Xv rfl rfl (Xa _) ?_⟩⟩
 ·rw [Int.sign_eq_neg_one_of_neg h]; rfl
 ·rw [e1.1 (by omega)]; rfl
 ·rw [Int.sign_eq_one_of_pos (by omega)]; rfl
theorem NM (d:List Int) (h:Ja d):Fn Tryz.prog 226 [X6 d] (.tup [I (if d.length≤2 then val d else 0),.bool (decide (d.length≤2))]):=by
 have k2:¬ d.length≤2→I 0=I (if d.length≤2 then val d else 0)∧AV.bool false=.bool (decide (d.length≤2)):=fun h=>by simp [h]
 have k1:d.length≤2→∀ x,x=val d→I x=I (if d.length≤2 then val d else 0)∧AV.bool true=.bool (decide (d.length≤2)):=fun h x hx=>by simp [h,hx]
 refine Fq Tryz.call226 Tryz.func226 4 [5] [] [] (by simp [JN]) (X0 1000 ?_); simp (config:={ maxSteps:=2000000 }) only [AS.start,↓X2,wA,↓reduceIte,reduceIte,reduceCtorEq,Y1,Y2,Y3,Y4,Y5,Y6,Y7,Y8,Y9,YA,zA,wN]
 have fin:∀ {s:AS} {x:Int},s.get 2=I x→s.get 3=.bool true→d.length≤2→x=val d→RetOk (J4 Tryz.prog Tryz.f226 [] [] (.tup [I (if d.length≤2 then val d else 0),.bool (decide (d.length≤2))])) s:=fun h1 h2 hl hx =>
  PK rfl h1 h2 (Xa _) (X3 _) (k1 hl _ hx).1 (k1 hl _ hx).2
 refine ⟨fun a=>fin rfl rfl (by omega) ?_,fun a0=>⟨fun a=>⟨by omega,by omega,fin rfl rfl (by omega) ?_⟩,fun a1=>⟨fun a=>⟨⟨by omega,by omega⟩,by omega,by omega,by omega,fin rfl rfl (by omega) ?_⟩,fun a2=>PK rfl rfl rfl (Xa _) (X3 _) (k2 (by omega)).1 (k2 (by omega)).2⟩⟩⟩
 ·obtain rfl:d=[]:=List.length_eq_zero_iff.1 (by omega)
  rfl
 ·obtain ⟨x,rfl⟩:=List.length_eq_one_iff.1 (show d.length=1 by omega)
  simp [val]
 ·obtain ⟨x,y,rfl⟩:∃ x y,d=[x,y]:=by
   match d,a with
   | [x,y],_=>exact ⟨x,y,rfl⟩
   | [],h=>exact absurd h (by simp)
   | [_],h=>exact absurd h (by simp)
   | _ :: _ :: _ :: _,h=>exact absurd h (by simp; omega)
  have h1:=h x (by simp)
  have h2:=h y (by simp)
  unfold XR at h1 h2
  simp only [List.getD_cons_zero,List.getD_cons_succ,val,IntKind.wrap_i64]
  omega
theorem P7 (a:Int):Fn Tryz.prog 267 [I a] (.bool false):=by
 refine Fq Tryz.call267 Tryz.func267 3 [] [] [] (by simp [JN]) (X0 1000 ?_); simp (config:={ maxSteps:=2000000 }) only [AS.start,↓X2,wA,↓reduceIte,reduceIte,reduceCtorEq,Y1,Y2,Y3,Y4,Y5,Y6,Y7,Y8,Y9,YA,zA,wN]
 exact Xv rfl rfl (X3 _) rfl
theorem TP (a b:Int):Fn Tryz.prog 249 [I a,I b] (I (a - b).sign):=by
 refine Fq Tryz.call249 Tryz.func249 7 [] [] [] (by simp [JN]) (X0 1000 ?_); simp (config:={ maxSteps:=2000000 }) only [AS.start,↓X2,wA,↓reduceIte,reduceIte,reduceCtorEq,Y1,Y2,Y3,Y4,Y5,Y6,Y7,Y8,Y9,YA,zA,wN]
 refine X1 (P7 a) rfl ?_
 simp only [↓X2,wA,↓reduceIte,reduceIte,reduceCtorEq,Y1,Y2,Y3,Y4,Y5,Y6,Y7,Y8,Y9,YA,zA,wN]
 refine X1 (P7 b) rfl ?_
 simp only [↓X2,wA,↓reduceIte,reduceIte,reduceCtorEq,Y1,Y2,Y3,Y4,Y5,Y6,Y7,Y8,Y9,YA,zA,wN]
 refine ⟨fun h=>Xv rfl rfl (Xa _) ?_,fun h=>⟨fun h2=>Xv rfl rfl (Xa _) ?_,fun h2=>Xv rfl rfl (Xa _) ?_⟩⟩
 ·rw [Int.sign_eq_neg_one_of_neg (by omega)]; rfl
 ·rw [Int.sign_eq_one_of_pos (by omega)]; rfl
 ·rw [show a - b=0 by omega]; rfl
theorem bH {a b:List Int} (ha:Ja a) (hb:Ja b) (hl:a.length=b.length) {i:Nat} (hi:i<a.length) (he:a.drop (i+1)=b.drop (i+1)) (hne:a.getD i 0≠b.getD i 0) :
  (val a - val b).sign=(a.getD i 0 - b.getD i 0).sign:=by
 rw [Jg a i (by omega),Jg b i (by omega),JW a i hi,JW b i (by omega),he]
 have h1:=XO (Qw ha i)
 have h2:=XO (Qw hb i)
 have h3:=KL (Qw ha i)
 have h4:=KL (Qw hb i)
 have e1:(a.take i).length=i:=by rw [List.length_take]; omega
 have e2:(b.take i).length=i:=by rw [List.length_take]; omega
 rw [e1] at h3
 rw [e2] at h4
 generalize val (a.take i)=p at *
 generalize val (b.take i)=q at *
 generalize val (b.drop (i+1))=r at *
 generalize a.getD i 0=x at *
 generalize b.getD i 0=y at *
 have hp:=Jx i
 generalize pw i=P at *
 have e:p+P*(x+1000000000*r) - (q+P*(y+1000000000*r))=(p - q)+P*(x - y):=by grind
 rw [e]
 rcases Int.lt_or_gt_of_ne hne with h | h
 ·rw [Int.sign_eq_neg_one_of_neg (show x - y<0 by omega)]
  have:P*(x - y)≤P*(-1):=Int.mul_le_mul_of_nonneg_left (by omega) (by omega)
  exact Int.sign_eq_neg_one_of_neg (by omega)
 ·rw [Int.sign_eq_one_of_pos (show 0<x - y by omega)]
  have:P*1≤P*(x - y):=Int.mul_le_mul_of_nonneg_left (by omega) (by omega)
  exact Int.sign_eq_one_of_pos (by omega)
theorem Cx {a b:List Int} (ha:Zd a) (hb:Zd b) (h:a.length<b.length):val a<val b:=by
 have h1:=KL ha.1
 have hne:b≠[]:=fun e=>by rw [e] at h; simp at h
 have h2:=Bq hb hne
 have h3:=C0 (show a.length≤b.length - 1 by omega)
 omega
theorem EP {a b:List Int} (hl:a.length=b.length) {i:Nat} (hi:i<a.length) (he:a.drop (i+1)=b.drop (i+1)) (h:a.getD i 0=b.getD i 0):a.drop i=b.drop i:=by
 have hi2:i<b.length:=by omega
 rw [List.drop_eq_getElem_cons hi,List.drop_eq_getElem_cons hi2,he]
 rw [List.getD_eq_getElem?_getD,List.getElem?_eq_getElem hi,List.getD_eq_getElem?_getD,List.getElem?_eq_getElem hi2] at h
 simp only [Option.getD_some] at h
 rw [h]
theorem BL (a b:List Int) (ha:Zd a) (hb:Zd b) (la:a.length<4611686018427387904):Fn Tryz.prog 215 [X6 a,X6 b] (I (val a - val b).sign):=by
 have hc:a.length≠b.length→Fn Tryz.prog 249 [I a.length,I b.length] (I (val a - val b).sign):=fun h=>by
  have e:((a.length:Int) - b.length).sign=(val a - val b).sign:=by
   rcases Nat.lt_or_gt_of_ne h with h' | h'
   ·have:=Cx ha hb h'
    rw [Int.sign_eq_neg_one_of_neg (by omega),Int.sign_eq_neg_one_of_neg (by omega)]
   ·have:=Cx hb ha h'
    rw [Int.sign_eq_one_of_pos (by omega),Int.sign_eq_one_of_pos (by omega)]
  rw [← e]; exact TP _ _
 refine Fq Tryz.call215 Tryz.func215 6 [] [] [] (by simp [JN]) (X0 1000 ?_); simp (config:={ maxSteps:=2000000 }) only [AS.start,↓X2,wA,seval,zA,wN]
 refine ⟨fun h=>X1 (hc h) rfl ?_,fun hl=>?_⟩
 ·simp only [↓X2,wA,seval,zA,wN]
  exact Xv rfl rfl (Xa _) rfl
 refine Xf (fun k:Nat=>⟨6,[],[X6 a,X6 b,.any,.any,I 0,I ((k:Int) - 1)],[],[]⟩) (fun k=>k≤a.length∧a.drop k=b.drop k) (fun k=>k) a.length ⟨by omega,by rw [List.drop_length,hl,List.drop_length]⟩
  ?_ ?_
 ·have w0:IntKind.i64.wrap ((a.length:Int) - 1)=(a.length:Int) - 1:=by rw [IntKind.wrap_i64]; omega
  rw [w0]
  exact (Xb rfl (by simp [zA,wN,Xh,X6,Bw,KN,Qb,I]) (by simp [Xi]) rfl)
 rintro k ⟨hk,he⟩ next
 cases k with
 | zero =>
  refine X0 1000 ?_
  have e0:(0≤((0:Nat):Int) - 1)=False:=eq_false (by omega)
  have e1:((0:Int)≤0 - 1)=False:=eq_false (by omega)
  simp only [e0,e1,↓X2,wA,seval,zA,wN]
  refine Xv rfl rfl (Xa _) ?_
  rw [List.drop_zero,List.drop_zero] at he
  rw [he,Int.sub_self]; rfl
 | succ k =>
  have e1:((k+1:Nat):Int) - 1=(k:Int):=by omega
  have w1:IntKind.i64.wrap ((k:Int) - 1)=(k:Int) - 1:=by rw [IntKind.wrap_i64]; omega
  have e2:((k:Int)<a.length)=True:=eq_true (by omega)
  have e3:(k<a.length)=True:=eq_true (by omega)
  have e4:(k<b.length)=True:=eq_true (by omega)
  have hcm:a.getD k 0≠b.getD k 0→Fn Tryz.prog 249 [I (a.getD k 0),I (b.getD k 0)] (I (val a - val b).sign):=fun h=>by
   rw [bH ha.1 hb.1 hl (by omega) he h]; exact TP _ _
  refine X0 1000 ?_
  simp only [e1,w1,e3,e4,↓X2,wA,seval,zA,wN]
  refine ⟨fun h=>X1 (hcm h) rfl ?_,fun h=>next k _ ⟨by omega,EP hl (by omega) he h⟩ (by omega) (Xb rfl (by simp [zA,wN,Xh,X6,Bw,KN,Qb,I]) (by simp [Xi]) rfl)⟩
  simp only [↓X2,wA,seval,zA,wN]
  exact Xv rfl rfl (Xa _) rfl
theorem Ei (n:Int) (h:Z8 n):Fn Tryz.prog 148 [I n] (zA n):=by
 obtain ⟨R,hR⟩:∃ R,R=zA n:=⟨_,rfl⟩
 have sR:Settled R:=hR▸Xy _
 unfold Z8 at h
 have c1:n<0→Fn Tryz.prog 207 [.bool (decide (n<0)),.int .u64 (IntKind.u64.wrap (0 - IntKind.u64.wrap n))] R:=fun h1=>by
  have e:IntKind.u64.wrap (0 - IntKind.u64.wrap n) = -n:=by rw [IntKind.wrap_u64,IntKind.wrap_u64]; omega
  have e2:Kb (decide (n<0)) (-n)=n:=by unfold Kb; rw [if_pos (decide_eq_true h1)]; omega
  have:=Kz (decide (n<0)) (-n) (by omega) (by omega)
  rw [e2] at this
  rw [e,hR]; exact this
 have c2:¬ n<0→Fn Tryz.prog 207 [.bool (decide (n<0)),.int .u64 (IntKind.u64.wrap n)] R:=fun h1=>by
  have e:IntKind.u64.wrap n=n:=by rw [IntKind.wrap_u64]; omega
  have e2:Kb (decide (n<0)) n=n:=by unfold Kb; rw [if_neg (by simp; omega)]
  have:=Kz (decide (n<0)) n (by omega) (by omega)
  rw [e2] at this
  rw [e,hR]; exact this
 rw [← hR]
 refine Fq Tryz.call148 Tryz.func148 4 [] [] [] (by simp [JN]) (X0 1000 ?_); simp (config:={ maxSteps:=2000000 }) only [AS.start,↓X2,wA,seval,zA,wN]
 refine ⟨fun h1=>X1 (c1 h1) rfl ?_,fun h1=>X1 (c2 h1) rfl ?_⟩
 ·simp only [hR,↓X2,wA,seval,zA,wN]
  exact Q0 rfl XL rfl rfl rfl hR sR ⟨Weak.rfl' _,Weak.rfl' _,trivial⟩
 ·simp only [hR,↓X2,wA,seval,zA,wN]
  exact Q0 rfl XL rfl rfl rfl hR sR ⟨Weak.rfl' _,Weak.rfl' _,trivial⟩
end
end Go.Ab.N
